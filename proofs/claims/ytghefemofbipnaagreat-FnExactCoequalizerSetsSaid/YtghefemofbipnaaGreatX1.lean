/- A part of the proof. -/
import Derived.Test.YtghefemofbipnaaGreatX0
import Derived.Conc.WgGenN3
set_option maxRecDepth 100000
set_option maxHeartbeats 4000000
set_option linter.unusedSimpArgs false
set_option linter.unusedVariables false
set_option linter.unusedSectionVars false
set_option linter.unnecessarySimpa false

open Option renaming getD_some→qB
namespace Go.Vc.Wg
open Go Go.Conc Go.ConcN
open Go.ConcR (KK wgBlock WgAt stA smA rd wr mk Payload DC0)
class PS extends Payload where
 z:Nat
variable [Payload]
def RL (ty:TypeId) (Wg:Nat) (w w₁:World):Prop:=WgLive ty Wg w→WgLive ty Wg w₁
theorem Q2 {ty:TypeId} {Wg:Nat} {w w₁:World} (h:WgLive ty Wg w) (r:RL ty Wg w w₁):WgLive ty Wg w₁:=r h
theorem RL.refl {ty:TypeId} {Wg:Nat} (w:World):RL ty Wg w w:=id
theorem RL.trans {ty:TypeId} {Wg:Nat} (a b c:World) (h:RL ty Wg a b) (k:RL ty Wg b c):RL ty Wg a c:=k ∘ h
section
variable (P:Program) (ty:TypeId) (Wg:Nat)
abbrev GP:=Goes P true (RL ty Wg) DC0
def AtMk (e:Event) (Next:Goroutine→World→Prop) (g:Goroutine) (w:World):Prop :=
 g.status = .running∧∃ g',stepG P true g w = .go g' w #[e]∧∃ m,GP P ty Wg Next m g' w
def Q8i (Wg:Nat):Event:=mk (.read ⟨Wg,1,none⟩)
def Q8j (Wg:Nat):Event:=mk (.write ⟨Wg,1,none⟩)
def AtAdd (Next:Goroutine→World→Prop) (g:Goroutine) (w:World):Prop :=
 g.status = .running∧∀ v:Nat,v<2147483647→WgAt ty Wg w (v * KK) 0 →
  ∃ g',stepG P true g w = .go g' (w.setCell (stA Wg) (.int .u64 ((v+1) * KK))) #[rd (stA Wg),Go.ConcR.wr (stA Wg)] ∧
   (v=0→∃ m,GP P ty Wg (AtMk P ty Wg (Q8i Wg) (AtMk P ty Wg (mk .enable) Next)) m g' (w.setCell (stA Wg) (.int .u64 ((v+1) * KK)))) ∧
   (v ≠ 0→∃ m,GP P ty Wg (AtMk P ty Wg (mk .enable) Next) m g' (w.setCell (stA Wg) (.int .u64 ((v+1) * KK))))
def AtW4 (Next:Goroutine→World→Prop) (g:Goroutine) (w:World):Prop :=
 g.status = .running∧(WgAt ty Wg w 0 0→∃ g',stepG P true g w = .go g' w #[rd (stA Wg)]∧∃ m,GP P ty Wg (AtMk P ty Wg (mk .enable) (AtMk P ty Wg (mk (.acquire (stA Wg))) Next)) m g' w)
def AtW3 (Next:Goroutine→World→Prop) (g:Goroutine) (w:World):Prop :=
 g.status = .running∧g.offers=none ∧
  ((∃ st,WgAt ty Wg w st 0)→stepG P true g w = .go { g with status:=.blocked } w #[]) ∧
  (WgAt ty Wg w 0 1→∃ g',stepG P true g w = .go g' (w.setCell (smA Wg) (.int .u32 0)) (semEvents (smA Wg))∧∃ m,GP P ty Wg (AtW4 P ty Wg Next) m g' (w.setCell (smA Wg) (.int .u32 0)))
def AtW2 (Anch Next:Goroutine→World→Prop) (vs:Nat) (g:Goroutine) (w:World):Prop :=
 g.status = .running∧∀ v:Nat,v<2147483648→WgAt ty Wg w (v * KK) 0 →
  (v=vs→∃ g',stepG P true g w = .go g' (w.setCell (stA Wg) (.int .u64 (v * KK+1))) #[rd (stA Wg),Go.ConcR.wr (stA Wg)]∧∃ m,GP P ty Wg (AtMk P ty Wg (Q8j Wg) (AtW3 P ty Wg Next)) m g' (w.setCell (stA Wg) (.int .u64 (v * KK+1)))) ∧
  (v ≠ vs→∃ g',stepG P true g w = .go g' w #[rd (stA Wg)]∧∃ m,GP P ty Wg Anch m g' w)
def AtW1 (Anch Next:Goroutine→World→Prop) (g:Goroutine) (w:World):Prop :=
 g.status = .running∧∀ v:Nat,v<2147483648→WgAt ty Wg w (v * KK) 0→∃ g',stepG P true g w = .go g' w #[rd (stA Wg)] ∧
  (v=0→∃ m,GP P ty Wg (AtMk P ty Wg (mk .enable) (AtMk P ty Wg (mk (.acquire (stA Wg))) Next)) m g' w)∧(v ≠ 0→∃ m,GP P ty Wg (AtW2 P ty Wg Anch Next v) m g' w)
end
end Go.Vc.Wg
namespace Go.Vc.Wg
open Go Go.Conc Go.ConcN Go.RowKit Go.Conc.Lib Go.ConcR.Gen Go.ConcN.Gen
open Go.ConcR (KK wgBlock WgAt stA smA rd wr mk Payload DC0)
variable [Payload] {L:WgLink}
def AtWord (P:Program) (ty:TypeId) (Wg:Nat) (g:Goroutine) (w:World):Prop :=
 g.status = .running∧∃ g',stepG P false g w = .go g' w #[mk (.releaseMerge (stA Wg))]∧∃ m,Goes P false (RL ty Wg) DC0 (fun g w=>g.status = .running∧∃ g'',stepG P false g w = .go g'' w #[mk .disable]) m g' w
set_option maxRecDepth 100000 in
set_option maxHeartbeats 8000000 in
theorem doneQuiet {P:Program} (H:WgLib P L) {Wg:Nat} {c:Frame} {cs:List Frame} (w:World) (hK:WgLive L.tWg Wg w) :
  Goes P false (RL L.tWg Wg) DC0 (AtWord P L.tWg Wg) 23 (G ((baseD L.done).at ⟨#[.pointer (some ⟨Wg,0,none⟩),undef,undef,undef],[]⟩ [.code (body_done L)]) (c :: cs)) w:=by
 lib_facts
 simp only [body_done,doneFn,qB]
 u_reg Q2 hK
 u_op Q2 hK
 u_in Q2 hK
 refine goes_call rfl rfl (by k_ne) rfl H.f_add (nm_add L) rfl ⟨by u_nil,?_⟩
 walk_nrmf addFn
 u_c stepG_seq Q2 hK
 u_cond true Q2 hK
 u_c stepG_seq Q2 hK
 u_c stepG_seq Q2 hK
 u_reg Q2 hK
 u_op Q2 hK
 u_op Q2 hK
 u_c stepG_region_end Q2 hK
 u_cond true Q2 hK
 u_reg Q2 hK
 u_op Q2 hK
 u_conv H.underlying_tWgP H.room_tWg (WgLive.cell0 hK).choose_spec Q2 hK
 refine Goes.stop (fun w₁ h₁=>?_);replace hK:=Q2 hK h₁;clear h₁;refine ⟨rfl,_,stepG_markAt .releaseMerge (by simp) rfl rfl (by k_ne) rfl H.f_relMerge (x_relMerge_n L) (x_relMerge_b L) (x_relMerge_x L) (x_relMerge_f L) (by simp [Act.eval,stA]),10,?_⟩
 walk_nrm
 u_c stepG_region_end Q2 hK
 u_c stepG_seq Q2 hK
 u_reg Q2 hK
 refine Goes.stop (fun w₂ h₂=>?_);exact ⟨rfl,_,stepG_mark0 .disable (by simp) rfl rfl (by k_ne) rfl H.f_disable (x_disable_n L) (x_disable_b L) (x_disable_x L) (x_disable_f L)⟩
theorem one_way {P:Program} {ty:TypeId} {Wg C n Low k:Nat} {Own Rd:Nat→Loc→Prop} {val:Value}:∀ (m m':Nat) (g:Goroutine) (w:World),WgLive ty Wg w→Goes P false (RL ty Wg) DC0 (AtWord P ty Wg) m g w →
  Goes P false (RW ty Wg C n Low (k - 1)) (DWs Wg Own Rd C n k) (AtR0 P ty Wg C n Low k val) m' g w→Goes P false (RW ty Wg C n Low (k - 1)) DC0 (AtR0 P ty Wg C n Low k val) m g w:=by
 have no:∀ (m m':Nat) (g:Goroutine) (w:World),WgLive ty Wg w→Goes P false (RL ty Wg) DC0 (fun g w=>g.status = .running∧∃ g'',stepG P false g w = .go g'' w #[mk .disable]) m g w →
   Goes P false (RW ty Wg C n Low (k - 1)) (DWs Wg Own Rd C n k) (AtR0 P ty Wg C n Low k val) m' g w→False:=by
  intro m
  induction m with
  | zero =>
   intro m' g w hl h h';obtain ⟨_,g1,e1⟩:=h w (RL.refl w);rcases Goes.cases h' with hh|⟨m'',rfl,hh⟩
   ·obtain ⟨_,_,g2,e2,_⟩:=hh w (RW.refl w);rw [e1] at e2;simp [mk] at e2
   obtain ⟨g2,w2,es,e2,hD,_⟩:=hh w (RW.refl w);rw [e1] at e2;cases e2;exact (hD.2 _ (by simp:mk .disable∈#[mk .disable])).2.1 rfl
  | succ m ih =>
   intro m' g w hl h h';rcases h with h|⟨_,h⟩
   ·obtain ⟨_,g1,e1⟩:=h w (RL.refl w);rcases Goes.cases h' with hh|⟨m'',rfl,hh⟩
    ·obtain ⟨_,_,g2,e2,_⟩:=hh w (RW.refl w);rw [e1] at e2;simp [mk] at e2
    obtain ⟨g2,w2,es,e2,hD,_⟩:=hh w (RW.refl w);rw [e1] at e2;cases e2;exact (hD.2 _ (by simp:mk .disable∈#[mk .disable])).2.1 rfl
   have h1:=h w (RL.refl w);cases hs:stepG P false g w with
   | go g1 w1 es =>
    rw [hs,goes_go] at h1;obtain ⟨⟨rfl,rfl⟩,h1⟩:=h1;rcases Goes.cases h' with hh|⟨m'',rfl,hh⟩
    ·obtain ⟨_,_,g2,e2,_⟩:=hh w1 (RW.refl w1);rw [hs] at e2;simp at e2
    obtain ⟨g2,w2,es,e2,hD,h2⟩:=hh w1 (RW.refl w1);rw [hs] at e2;cases e2;exact ih _ g1 w1 hl h1 h2
   | _=>rw [hs] at h1;exact h1.elim
 have stop:∀ (m':Nat) (g:Goroutine) (w:World),WgLive ty Wg w→AtWord P ty Wg g w→Goes P false (RW ty Wg C n Low (k - 1)) (DWs Wg Own Rd C n k) (AtR0 P ty Wg C n Low k val) m' g w→AtR0 P ty Wg C n Low k val g w:=by
  intro m' g w hl h h';obtain ⟨_,g1,e1,m,h1⟩:=h;rcases Goes.cases h' with hh|⟨m'',rfl,hh⟩
  ·exact hh w (RW.refl w)
  obtain ⟨g2,w2,es,e2,hD,h2⟩:=hh w (RW.refl w);rw [e1] at e2;cases e2;exact (no m m'' g1 w hl h1 h2).elim
 have tr:∀ a b c,RW ty Wg C n Low (k - 1) a b→RW ty Wg C n Low (k - 1) b c→RW ty Wg C n Low (k - 1) a c:=fun _ _ _ h1 h2=>h1.trans h2;intro m
 induction m with
 | zero=>exact fun m' g w hl h h'=>fun w₁ r=>stop m' g w₁ (r.live hl) (h w₁ r.live) (Goes.rely tr h' r)
 | succ m ih =>
  intro m' g w hl h h';rcases h with h|⟨hr,h⟩
  ·exact .inl fun w₁ r=>stop m' g w₁ (r.live hl) (h w₁ r.live) (Goes.rely tr h' r)
  refine .inr ⟨hr,fun w₁ r=>?_⟩;have h1:=h w₁ r.live;cases hs:stepG P false g w₁ with
  | go g1 w1 es =>
   rw [hs,goes_go] at h1;obtain ⟨⟨rfl,rfl⟩,h1⟩:=h1;rcases Goes.cases (Goes.rely tr h' r) with hh|⟨m'',rfl,hh⟩
   ·obtain ⟨_,_,g2,e2,_⟩:=hh w1 (RW.refl w1);rw [hs] at e2;simp at e2
   obtain ⟨g2,w2,es,e2,hD,h2⟩:=hh w1 (RW.refl w1);rw [hs] at e2;cases e2;exact ⟨⟨rfl,rfl⟩,ih _ g1 w1 (r.live hl) h1 h2⟩
  | _=>rw [hs] at h1;exact h1.elim
theorem done {P:Program} (H:WgLib P L) {Wg C n k:Nat} {val:Value} {c:Frame} {cs:List Frame} {qt:Nat} (hcm:c.mode = .returning) (hT:QuitsD P qt 0 (G c cs)) (w:World) (hl:WgLive L.tWg Wg w) (hh:Has C k val w) :
  Goes P false (RW L.tWg Wg C n 0 k) DC0 (AtR0 P L.tWg Wg C n 0 (k+1) val) 23 (G ((baseD L.done).at ⟨#[.pointer (some ⟨Wg,0,none⟩),undef,undef,undef],[]⟩ [.code (body_done L)]) (c :: cs)) w :=
 one_way (k:=k+1) (Own:=fun _ _=>False) (Rd:=fun _ _=>False) _ _ _ _ hl (doneQuiet H w hl) (doneN H hcm hT w ⟨hl,hh⟩)
end Go.Vc.Wg
namespace Go.Vc.Wg
open Go Go.Conc Go.ConcN Go.RowKit Go.Conc.Lib Go.ConcR.Gen Go.ConcN.Gen
open Go.ConcR (KK wgBlock WgAt stA smA rd wr mk Payload DC0)
variable [Payload]
variable {L:WgLink}
set_option maxRecDepth 100000 in
set_option maxHeartbeats 16000000 in
theorem addPos {P:Program} (H:WgLib P L) {Wg:Nat} {Next:Goroutine→World→Prop} {b₀:Frame} {a₀:Act} {ops₀:Array Oper} {i₀:Nat} {rest₀:List Nat} {k₀:List Item} {cs:List Frame} {mT:Nat}
  (hT:∀ w,WgLive L.tWg Wg w→GP P L.tWg Wg Next mT (G (b₀.at (a₀.put ((ops₀[i₀]?).bind (·.dst)) (.tuple #[])) (.inRegion ops₀ rest₀ :: k₀)) cs) w)
  (w:World) (hK:WgLive L.tWg Wg w) :
  GP P L.tWg Wg (AtMk P L.tWg Wg (mk .disable) (AtAdd P L.tWg Wg Next)) 20
   (G ((Go.Conc.base L.add).at ⟨#[.pointer (some ⟨Wg,0,none⟩),.int .i64 1,undef,undef,undef,undef,undef,undef,undef,undef,undef,undef,undef,undef,undef,undef,undef,undef,undef,undef,undef,undef,undef,undef,undef,undef,undef,undef,undef,undef,undef,undef,undef,undef,undef,undef,undef,undef,undef,undef,undef,undef,undef,undef,undef,undef,undef,undef,undef,undef,undef,undef,undef,undef,undef,undef,undef,undef,undef,undef,undef,undef,undef,undef,undef,undef,undef,undef,undef,undef,undef,undef,undef,undef,undef,undef,undef,undef,undef,undef,undef,undef,undef,undef,undef,undef,undef,undef,undef,undef,undef,undef,undef,undef,undef,undef,undef,undef,undef,undef,undef,undef,undef,undef,undef,undef,undef,undef,undef,undef,undef,undef,undef,undef,undef,undef,undef],[]⟩ [.code (body_add L)]) (b₀.at a₀ (.inRegion ops₀ (i₀ :: rest₀) :: k₀) :: cs)) w:=by
 lib_facts
 simp only [body_add,addFn,qB]
 u_c stepG_seq Q2 hK
 u_cond true Q2 hK
 u_c stepG_seq Q2 hK
 u_c stepG_seq Q2 hK
 u_reg Q2 hK
 u_op Q2 hK
 u_op Q2 hK
 u_c stepG_region_end Q2 hK
 u_cond false Q2 hK
 u_c stepG_skip Q2 hK
 u_c stepG_seq Q2 hK
 u_reg Q2 hK
 refine Goes.stop (fun w₁ h₁=>?_);replace hK:=Q2 hK h₁;clear h₁;refine ⟨rfl,_,stepG_mark0 .disable (by simp) rfl rfl (by k_ne) rfl H.f_disable (x_disable_n L) (x_disable_b L) (x_disable_x L) (x_disable_f L),40,?_⟩
 walk_nrm
 u_c stepG_region_end Q2 hK
 u_reg Q2 hK
 u_defer Q2 hK
 u_c stepG_region_end Q2 hK
 u_c stepG_seq Q2 hK
 u_reg Q2 hK
 u_op Q2 hK
 u_c stepG_region_end Q2 hK
 u_c stepG_seq Q2 hK
 u_c stepG_seq Q2 hK
 u_reg Q2 hK
 u_bub Q2 hK
 u_c stepG_region_end Q2 hK
 u_cond false Q2 hK
 u_c stepG_skip Q2 hK
 u_c stepG_seq Q2 hK
 u_reg Q2 hK
 u_op Q2 hK
 u_op Q2 hK
 u_op Q2 hK
 u_op Q2 hK
 u_op Q2 hK
 u_op Q2 hK
 u_call H.f_uAdd (nm_uAdd L) uAddFn Q2 hK
 u_c stepG_seq Q2 hK
 u_reg Q2 hK
 u_op Q2 hK
 u_c stepG_region_end Q2 hK
 u_c stepG_seq Q2 hK
 u_reg Q2 hK
 u_op Q2 hK
 u_op Q2 hK
 u_op Q2 hK
 u_op Q2 hK
 refine Goes.stop (fun w₂ h₂=>?_);clear h₂ hK;refine ⟨rfl,fun v hv hw=>?_⟩;rcases Nat.eq_zero_or_pos v with rfl|hvp
 ·replace hw:WgAt L.tWg Wg w₂ 0 0:=by simpa using hw
  have z:(((0:Nat):Int)+1) * KK=KK:=by simp
  rw [z];have e0:IntKind.u64.wrap (0+4294967296)=KK:=by decide
  refine ⟨_,(stepG_add_atomic rfl rfl (by k_ne) rfl H.f_addU64 (x_addU64_n L) (x_addU64_b L) (x_addU64_x L) .u64 (x_addU64_f L) rfl rfl hw.cellSt (hw.thaw 0)).trans (by rw [e0];rfl),fun _=>⟨80,?_⟩,fun h=>absurd rfl h⟩;have hK:WgLive L.tWg Wg (w₂.setCell (stA Wg) (.int .u64 KK)):=⟨_,_,hw.setSt _⟩;clear hw;simp only [KK] at hK ⊢
  walk_nrm
  u_op Q2 hK
  u_c stepG_region_end Q2 hK
  u_c stepG_ret' Q2 hK
  u_leave1 H.f_uAdd Q2 hK
  u_op Q2 hK
  u_c stepG_region_end Q2 hK
  u_c stepG_seq Q2 hK
  u_c stepG_seq Q2 hK
  u_reg Q2 hK
  u_op Q2 hK
  u_op Q2 hK
  u_op Q2 hK
  u_op Q2 hK
  u_skip Q2 hK
  u_skip Q2 hK
  u_op Q2 hK
  u_c stepG_region_end Q2 hK
  u_cond false Q2 hK
  u_c stepG_skip Q2 hK
  u_c stepG_seq Q2 hK
  u_reg Q2 hK
  u_op Q2 hK
  u_op Q2 hK
  u_op Q2 hK
  u_op Q2 hK
  u_c stepG_region_end Q2 hK
  u_c stepG_seq Q2 hK
  u_reg Q2 hK
  u_op Q2 hK
  u_op Q2 hK
  u_op Q2 hK
  u_op Q2 hK
  u_c stepG_region_end Q2 hK
  u_c stepG_seq Q2 hK
  u_c stepG_seq Q2 hK
  u_reg Q2 hK
  u_op Q2 hK
  u_op Q2 hK
  u_op Q2 hK
  u_op Q2 hK
  u_op Q2 hK
  u_op Q2 hK
  u_op Q2 hK
  u_op Q2 hK
  u_op Q2 hK
  u_op Q2 hK
  u_c stepG_region_end Q2 hK
  u_cond true Q2 hK
  u_reg Q2 hK
  u_op Q2 hK
  u_op Q2 hK
  u_op Q2 hK
  u_conv H.underlying_tPU32 H.room_tU32 (WgLive.cell1 hK).choose_spec Q2 hK
  refine Goes.stop (fun w₃ h₃=>?_);replace hK:=Q2 hK h₃;clear h₃;refine ⟨rfl,_,stepG_markAt .read (by simp) rfl rfl (by k_ne) rfl H.f_raceRead (x_raceRead_n L) (x_raceRead_b L) (x_raceRead_x L) (x_raceRead_f L) (ad:=⟨Wg,1,none⟩) (by simp [Act.eval]),60,?_⟩
  walk_nrm
  u_c stepG_region_end Q2 hK
  u_c stepG_seq Q2 hK
  u_c stepG_seq Q2 hK
  u_reg Q2 hK
  u_op Q2 hK
  u_op Q2 hK
  u_c stepG_region_end Q2 hK
  u_cond false Q2 hK
  u_c stepG_skip Q2 hK
  u_c stepG_seq Q2 hK
  u_c stepG_seq Q2 hK
  u_reg Q2 hK
  u_op Q2 hK
  u_op Q2 hK
  u_op Q2 hK
  u_skip Q2 hK
  u_skip Q2 hK
  u_op Q2 hK
  u_op Q2 hK
  u_skip Q2 hK
  u_skip Q2 hK
  u_skip Q2 hK
  u_skip Q2 hK
  u_op Q2 hK
  u_c stepG_region_end Q2 hK
  u_cond false Q2 hK
  u_c stepG_skip Q2 hK
  u_c stepG_seq Q2 hK
  u_c stepG_seq Q2 hK
  u_reg Q2 hK
  u_op Q2 hK
  u_op Q2 hK
  u_op Q2 hK
  u_skip Q2 hK
  u_skip Q2 hK
  u_op Q2 hK
  u_c stepG_region_end Q2 hK
  u_cond true Q2 hK
  u_c stepG_ret' Q2 hK
  refine Goes.stop (fun w₄ h₄=>?_);replace hK:=Q2 hK h₄;clear h₄;exact ⟨rfl,_,stepG_unwind_entry (v:=.tuple #[]) (evs:=#[mk .enable]) rfl H.f_enable (x_enable_n L) (x_enable_b L) (x_enable_x L) (x_enable_f L) (by simp [Extern.Race.none_]) (by simp [mk]) (by simp [mk]),mT+1,by
   u_leave0 H.f_add Q2 hK
   exact hT _ hK⟩
 obtain ⟨V,hV⟩:∃ V:Int,V=(v:Int)+1:=⟨_,rfl⟩;obtain ⟨S,hS⟩:∃ S:Int,S=V * KK:=⟨_,rfl⟩;have eS:IntKind.u64.wrap ((v:Int) * KK+4294967296)=S:=by rw [IntKind.wrap_u64,hS,hV];simp only [KK];omega
 rw [← hV,← hS];have a1:S / 4294967296=V:=by rw [hS];simp only [KK];omega
 have b1:bits .and .u64 S 2147483648=0:=by rw [hS,hV];have:=st_flag (v+1) 0 (by omega) (by omega);simpa [KK] using this
 have b2:bits .and .u64 S 2147483647=0:=by rw [hS,hV];have:=st_waiters (v+1) 0 (by omega) (by omega);simpa [KK] using this
 have c1:IntKind.i32.wrap V=V:=by rw [IntKind.wrap_i32];omega
 have hV1:1<V:=by omega
 have hV2:V<2147483648:=by omega
 have q1:(V == 1)=false:=by simp;omega
 have q2:decide (V=1)=false:=decide_eq_false (by omega);have q3:decide (V<0)=false:=decide_eq_false (by omega);have q4:decide (0<V)=true:=decide_eq_true (by omega);have q5:(V == 0)=false:=by simp;omega
 have q6:decide (V=0)=false:=decide_eq_false (by omega);refine ⟨_,(stepG_add_atomic rfl rfl (by k_ne) rfl H.f_addU64 (x_addU64_n L) (x_addU64_b L) (x_addU64_x L) .u64 (x_addU64_f L) rfl rfl hw.cellSt (hw.thaw 0)).trans (by rw [eS];rfl),fun h=>absurd h (by omega),fun _=>⟨110,?_⟩⟩;have hK:WgLive L.tWg Wg (w₂.setCell (stA Wg) (.int .u64 S)):=⟨_,_,hw.setSt _⟩;clear hw hS hV eS
 walk_nrm
 u_op Q2 hK
 u_c stepG_region_end Q2 hK
 u_c stepG_ret' Q2 hK
 u_leave1 H.f_uAdd Q2 hK
 u_op Q2 hK
 u_c stepG_region_end Q2 hK
 u_c stepG_seq Q2 hK
 u_c stepG_seq Q2 hK
 u_reg Q2 hK
 u_op Q2 hK
 u_op Q2 hK
 u_op Q2 hK
 u_op Q2 hK
 u_skip Q2 hK
 u_skip Q2 hK
 u_op Q2 hK
 u_c stepG_region_end Q2 hK
 u_cond false Q2 hK
 u_c stepG_skip Q2 hK
 u_c stepG_seq Q2 hK
 u_reg Q2 hK
 u_op Q2 hK
 u_op Q2 hK
 u_op Q2 hK
 u_op Q2 hK
 u_c stepG_region_end Q2 hK
 u_c stepG_seq Q2 hK
 u_reg Q2 hK
 u_op Q2 hK
 u_op Q2 hK
 u_op Q2 hK
 u_op Q2 hK
 u_c stepG_region_end Q2 hK
 u_c stepG_seq Q2 hK
 u_c stepG_seq Q2 hK
 u_reg Q2 hK
 u_op Q2 hK
 u_op Q2 hK
 u_op Q2 hK
 u_op Q2 hK
 u_op Q2 hK
 u_op Q2 hK
 u_op Q2 hK
 u_op Q2 hK
 u_op Q2 hK
 u_op Q2 hK
 u_c stepG_region_end Q2 hK
 u_cond false Q2 hK
 u_c stepG_skip Q2 hK
 u_c stepG_seq Q2 hK
 u_c stepG_seq Q2 hK
 u_reg Q2 hK
 u_op Q2 hK
 u_op Q2 hK
 u_c stepG_region_end Q2 hK
 u_cond false Q2 hK
 u_c stepG_skip Q2 hK
 u_c stepG_seq Q2 hK
 u_c stepG_seq Q2 hK
 u_reg Q2 hK
 u_op Q2 hK
 u_op Q2 hK
 u_op Q2 hK
 u_skip Q2 hK
 u_skip Q2 hK
 u_op Q2 hK
 u_op Q2 hK
 u_skip Q2 hK
 u_skip Q2 hK
 u_skip Q2 hK
 u_skip Q2 hK
 u_op Q2 hK
 u_c stepG_region_end Q2 hK
 u_cond false Q2 hK
 u_c stepG_skip Q2 hK
 u_c stepG_seq Q2 hK
 u_c stepG_seq Q2 hK
 u_reg Q2 hK
 u_op Q2 hK
 u_op Q2 hK
 u_op Q2 hK
 u_skip Q2 hK
 u_skip Q2 hK
 u_op Q2 hK
 u_c stepG_region_end Q2 hK
 u_cond true Q2 hK
 u_c stepG_ret' Q2 hK
 refine Goes.stop (fun w₄ h₄=>?_);replace hK:=Q2 hK h₄;clear h₄;exact ⟨rfl,_,stepG_unwind_entry (v:=.tuple #[]) (evs:=#[mk .enable]) rfl H.f_enable (x_enable_n L) (x_enable_b L) (x_enable_x L) (x_enable_f L) (by simp [Extern.Race.none_]) (by simp [mk]) (by simp [mk]),mT+1,by
  u_leave0 H.f_add Q2 hK
  exact hT _ hK⟩
end Go.Vc.Wg
namespace Go.Vc.Wg
open Go Go.Conc Go.ConcN Go.RowKit Go.Conc.Lib Go.ConcR.Gen Go.ConcN.Gen
open Go.ConcR (KK wgBlock WgAt stA smA rd wr mk Payload DC0)
variable [Payload] {L:WgLink}
def AnchW (L:WgLink) (Wg:Nat) (c:Frame) (cs:List Frame) (g:Goroutine) (w:World):Prop :=
 ∃ T:Array Value,g=G ((Go.Conc.base L.wait).at ⟨T,[]⟩ [.code (L7 L),.inLoop (L7 L),.inBlock 0]) (c :: cs)∧T.size=84∧T[0]? = some (.pointer (some ⟨Wg,0,none⟩))
section
variable {Wg:Nat} {b₀:Frame} {a₀:Act} {ops₀:Array Oper} {i₀:Nat} {rest₀:List Nat} {k₀:List Item} {cs:List Frame} {mT:Nat} {Next:Goroutine→World→Prop}
set_option maxRecDepth 100000 in
set_option maxHeartbeats 16000000 in
theorem waitStart {P:Program} {Anch:Goroutine→World→Prop} (hAn:∀ g w,AnchW L Wg (b₀.at a₀ (.inRegion ops₀ (i₀ :: rest₀) :: k₀)) cs g w→Anch g w) (H:WgLib P L) (w:World) (hK:WgLive L.tWg Wg w) :
  GP P L.tWg Wg (AtMk P L.tWg Wg (mk .disable) Anch) 6
   (G ((Go.Conc.base L.wait).at ⟨#[.pointer (some ⟨Wg,0,none⟩),undef,undef,undef,undef,undef,undef,undef,undef,undef,undef,undef,undef,undef,undef,undef,undef,undef,undef,undef,undef,undef,undef,undef,undef,undef,undef,undef,undef,undef,undef,undef,undef,undef,undef,undef,undef,undef,undef,undef,undef,undef,undef,undef,undef,undef,undef,undef,undef,undef,undef,undef,undef,undef,undef,undef,undef,undef,undef,undef,undef,undef,undef,undef,undef,undef,undef,undef,undef,undef,undef,undef,undef,undef,undef,undef,undef,undef,undef,undef,undef,undef,undef,undef],[]⟩ [.code (body_wait L)]) (b₀.at a₀ (.inRegion ops₀ (i₀ :: rest₀) :: k₀) :: cs)) w:=by
 lib_facts
 simp only [body_wait,waitFn,qB]
 u_c stepG_seq Q2 hK
 u_cond true Q2 hK
 u_reg Q2 hK
 refine Goes.stop (fun w₁ h₁=>?_);replace hK:=Q2 hK h₁;clear h₁;refine ⟨rfl,_,stepG_mark0 .disable (by simp) rfl rfl (by k_ne) rfl H.f_disable (x_disable_n L) (x_disable_b L) (x_disable_x L) (x_disable_f L),8,?_⟩
 walk_nrm
 u_c stepG_region_end Q2 hK
 u_c stepG_block Q2 hK
 u_c stepG_loop Q2 hK
 exact Goes.stop (fun w₂ h₂=>hAn _ _ ⟨_,rfl,by simp,by simp⟩)
set_option maxRecDepth 100000 in
set_option maxHeartbeats 16000000 in
theorem waitRound {P:Program} {Anch:Goroutine→World→Prop} (hAn:∀ g w,AnchW L Wg (b₀.at a₀ (.inRegion ops₀ (i₀ :: rest₀) :: k₀)) cs g w→Anch g w) (H:WgLib P L)
  (hT:∀ w,WgLive L.tWg Wg w→GP P L.tWg Wg Next mT (G (b₀.at (a₀.put ((ops₀[i₀]?).bind (·.dst)) (.tuple #[])) (.inRegion ops₀ rest₀ :: k₀)) cs) w)
  (g:Goroutine) (w:World) (hK:WgLive L.tWg Wg w) (h:AnchW L Wg (b₀.at a₀ (.inRegion ops₀ (i₀ :: rest₀) :: k₀)) cs g w) :
  ∃ m,GP P L.tWg Wg (AtW1 P L.tWg Wg Anch Next) m g w:=by
 lib_facts
 obtain ⟨T,rfl,hT84,t0⟩:=h;obtain ⟨v0,v1,v2,v3,v4,v5,v6,v7,v8,v9,v10,v11,v12,v13,v14,v15,v16,v17,v18,v19,v20,v21,v22,v23,v24,v25,v26,v27,v28,v29,v30,v31,v32,v33,v34,v35,v36,v37,v38,v39,v40,v41,v42,v43,v44,v45,v46,v47,v48,v49,v50,v51,v52,v53,v54,v55,v56,v57,v58,v59,v60,v61,v62,v63,v64,v65,v66,v67,v68,v69,v70,v71,v72,v73,v74,v75,v76,v77,v78,v79,v80,v81,v82,v83,rfl⟩:=array84 T hT84;simp only [List.getElem?_toArray,List.getElem?_cons_zero,Option.some.injEq] at t0;subst t0;refine ⟨30,?_⟩;simp only [L7,body_wait,waitFn,qB]
 u_c stepG_block Q2 hK
 u_c stepG_seq Q2 hK
 u_reg Q2 hK
 u_op Q2 hK
 u_op Q2 hK
 u_op Q2 hK
 u_call H.f_uLoad (nm_uLoad L) uLoadFn Q2 hK
 u_c stepG_seq Q2 hK
 u_reg Q2 hK
 u_op Q2 hK
 u_c stepG_region_end Q2 hK
 u_c stepG_seq Q2 hK
 u_reg Q2 hK
 u_op Q2 hK
 u_op Q2 hK
 u_op Q2 hK
 refine Goes.stop (fun w₁ h₁=>?_);replace hK:=Q2 hK h₁;clear h₁;refine ⟨rfl,fun v hv hw=>?_⟩;rcases Nat.eq_zero_or_pos v with rfl|hvp
 ·replace hw:WgAt L.tWg Wg w₁ 0 0:=by simpa using hw
  refine ⟨_,stepG_load_atomic (v:=0) rfl rfl (by k_ne) rfl H.f_loadU64 (x_loadU64_n L) (x_loadU64_b L) (x_loadU64_x L) .u64 (x_loadU64_f L) rfl hw.cellSt,fun _=>⟨50,?_⟩,fun h=>absurd rfl h⟩;clear hw
  walk_nrm
  u_op Q2 hK
  u_c stepG_region_end Q2 hK
  u_c stepG_ret' Q2 hK
  u_leave1 H.f_uLoad Q2 hK
  u_op Q2 hK
  u_c stepG_region_end Q2 hK
  u_c stepG_seq Q2 hK
  u_reg Q2 hK
  u_op Q2 hK
  u_op Q2 hK
  u_op Q2 hK
  u_op Q2 hK
  u_c stepG_region_end Q2 hK
  u_c stepG_seq Q2 hK
  u_reg Q2 hK
  u_op Q2 hK
  u_op Q2 hK
  u_op Q2 hK
  u_op Q2 hK
  u_c stepG_region_end Q2 hK
  u_c stepG_seq Q2 hK
  u_c stepG_seq Q2 hK
  u_reg Q2 hK
  u_op Q2 hK
  u_op Q2 hK
  u_c stepG_region_end Q2 hK
  u_cond true Q2 hK
  u_c stepG_seq Q2 hK
  u_cond true Q2 hK
  u_c stepG_seq Q2 hK
  u_reg Q2 hK
  refine Goes.stop (fun w₅ h₅=>?_);replace hK:=Q2 hK h₅;clear h₅;refine ⟨rfl,_,stepG_mark0 .enable (by simp) rfl rfl (by k_ne) rfl H.f_enable (x_enable_n L) (x_enable_b L) (x_enable_x L) (x_enable_f L),12,?_⟩
  walk_nrm
  u_c stepG_region_end Q2 hK
  u_reg Q2 hK
  u_op Q2 hK
  u_conv H.underlying_tWgP H.room_tWg (WgLive.cell0 hK).choose_spec Q2 hK
  refine Goes.stop (fun w₆ h₆=>?_);replace hK:=Q2 hK h₆;clear h₆;refine ⟨rfl,_,stepG_markAt .acquire (by simp) rfl rfl (by k_ne) rfl H.f_acquire (x_acquire_n L) (x_acquire_b L) (x_acquire_x L) (x_acquire_f L) (by simp [Act.eval,stA]),⟨mT+20,?_⟩⟩
  walk_nrm
  u_c stepG_region_end Q2 hK
  u_c stepG_seq Q2 hK
  u_c stepG_seq Q2 hK
  u_reg Q2 hK
  u_op Q2 hK
  u_op Q2 hK
  u_op Q2 hK
  u_op Q2 hK
  u_op Q2 hK
  u_op Q2 hK
  u_op Q2 hK
  u_op Q2 hK
  u_skip Q2 hK
  u_skip Q2 hK
  u_op Q2 hK
  u_c stepG_region_end Q2 hK
  u_cond false Q2 hK
  u_c stepG_skip Q2 hK
  u_c stepG_ret' Q2 hK
  u_leave0 H.f_wait Q2 hK
  exact hT _ hK
 obtain ⟨S,hS⟩:∃ S:Int,(v:Int) * KK=S:=⟨_,rfl⟩;have a1:S / 4294967296=(v:Int):=by rw [← hS];simp only [KK];omega
 have b1:bits .and .u64 S 2147483648=0:=by rw [← hS];have:=st_flag v 0 (by omega) (by omega);simpa [KK] using this
 have b2:bits .and .u64 S 2147483647=0:=by rw [← hS];have:=st_waiters v 0 (by omega) (by omega);simpa [KK] using this
 have c1:IntKind.i32.wrap (v:Int)=(v:Int):=by rw [IntKind.wrap_i32];omega
 have w1:IntKind.u64.wrap (S+1)=S+1:=by rw [IntKind.wrap_u64,← hS];simp only [KK];omega
 have q3:decide ((v:Int)<0)=false:=decide_eq_false (by omega);have q4:decide (0<(v:Int))=true:=decide_eq_true (by omega);have q5:((v:Int) == 0)=false:=by simp;omega
 have q6:decide ((v:Int)=0)=false:=decide_eq_false (by omega);rw [hS] at hw;refine ⟨_,stepG_load_atomic (v:=S) rfl rfl (by k_ne) rfl H.f_loadU64 (x_loadU64_n L) (x_loadU64_b L) (x_loadU64_x L) .u64 (x_loadU64_f L) rfl hw.cellSt,fun h0=>absurd h0 (by omega),fun _=>⟨60,?_⟩⟩;clear hw
 walk_nrm
 u_op Q2 hK
 u_c stepG_region_end Q2 hK
 u_c stepG_ret' Q2 hK
 u_leave1 H.f_uLoad Q2 hK
 u_op Q2 hK
 u_c stepG_region_end Q2 hK
 u_c stepG_seq Q2 hK
 u_reg Q2 hK
 u_op Q2 hK
 u_op Q2 hK
 u_op Q2 hK
 u_op Q2 hK
 u_c stepG_region_end Q2 hK
 u_c stepG_seq Q2 hK
 u_reg Q2 hK
 u_op Q2 hK
 u_op Q2 hK
 u_op Q2 hK
 u_op Q2 hK
 u_c stepG_region_end Q2 hK
 u_c stepG_seq Q2 hK
 u_c stepG_seq Q2 hK
 u_reg Q2 hK
 u_op Q2 hK
 u_op Q2 hK
 u_c stepG_region_end Q2 hK
 u_cnd false Q2 hK
 u_c stepG_skip Q2 hK
 u_c stepG_seq Q2 hK
 u_reg Q2 hK
 u_op Q2 hK
 u_op Q2 hK
 u_op Q2 hK
 u_op Q2 hK
 u_op Q2 hK
 u_op Q2 hK
 u_call H.f_uCas (nm_uCas L) uCasFn Q2 hK
 u_c stepG_seq Q2 hK
 u_reg Q2 hK
 u_op Q2 hK
 u_c stepG_region_end Q2 hK
 u_c stepG_seq Q2 hK
 u_reg Q2 hK
 u_op Q2 hK
 u_op Q2 hK
 u_op Q2 hK
 u_op Q2 hK
 u_op Q2 hK
 refine Goes.stop (fun w₂ h₂=>?_);replace hK:=Q2 hK h₂;clear h₂;refine ⟨rfl,fun v' hv' hw=>⟨fun e=>?_,fun e=>?_⟩⟩
 ·subst e;rw [hS] at hw ⊢;refine ⟨_,(stepG_cas_hit (v:=S) (n:=S+1) rfl rfl (by k_ne) rfl H.f_casU64 (x_casU64_n L) (x_casU64_b L) (x_casU64_x L) .u64 (x_casU64_f L) rfl rfl rfl hw.cellSt (hw.thaw 0)).trans (by rfl),70,?_⟩;replace hK:WgLive L.tWg Wg (w₂.setCell (stA Wg) (.int .u64 (S+1))):=⟨_,_,hw.setSt _⟩;clear hw
  walk_nrm
  u_op Q2 hK
  u_c stepG_region_end Q2 hK
  u_c stepG_ret' Q2 hK
  u_leave1 H.f_uCas Q2 hK
  u_c stepG_region_end Q2 hK
  u_cond true Q2 hK
  u_c stepG_seq Q2 hK
  u_c stepG_seq Q2 hK
  u_reg Q2 hK
  u_op Q2 hK
  u_op Q2 hK
  u_op Q2 hK
  u_op Q2 hK
  u_c stepG_region_end Q2 hK
  u_cond true Q2 hK
  u_reg Q2 hK
  u_op Q2 hK
  u_op Q2 hK
  u_op Q2 hK
  u_conv H.underlying_tPU32 H.room_tU32 (WgLive.cell1 hK).choose_spec Q2 hK
  refine Goes.stop (fun w₃ h₃=>?_);replace hK:=Q2 hK h₃;clear h₃;refine ⟨rfl,_,stepG_markAt .write (by simp) rfl rfl (by k_ne) rfl H.f_raceWrite (x_raceWrite_n L) (x_raceWrite_b L) (x_raceWrite_x L) (x_raceWrite_f L) (ad:=⟨Wg,1,none⟩) (by simp [Act.eval]),60,?_⟩
  walk_nrm
  u_c stepG_region_end Q2 hK
  u_c stepG_seq Q2 hK
  u_reg Q2 hK
  u_op Q2 hK
  u_c stepG_region_end Q2 hK
  u_c stepG_seq Q2 hK
  u_c stepG_seq Q2 hK
  u_reg Q2 hK
  u_op Q2 hK
  u_op Q2 hK
  u_op Q2 hK
  u_op Q2 hK
  u_skip Q2 hK
  u_op Q2 hK
  u_c stepG_region_end Q2 hK
  u_cond false Q2 hK
  u_c stepG_skip Q2 hK
  u_c stepG_seq Q2 hK
  u_reg Q2 hK
  u_op Q2 hK
  u_op Q2 hK
  u_op Q2 hK
  u_op Q2 hK
  refine Goes.stop (fun w₄ h₄=>?_);replace hK:=Q2 hK h₄;clear h₄;refine ⟨rfl,rfl,fun ⟨st,hw⟩=>stepG_semacquire_wait rfl rfl rfl H.f_semacquire (x_semacquire_n L) (x_semacquire_b L) (x_semacquire_x L) (x_semacquire_f L) (by simp [Act.eval,smA]) hw.cellSm,fun hf=>?_⟩;refine ⟨_,(stepG_semacquire (n:=1) rfl rfl (by k_ne) rfl H.f_semacquire (x_semacquire_n L) (x_semacquire_b L) (x_semacquire_x L) (x_semacquire_f L) (by simp [Act.eval,smA]) hf.cellSm (by k_ne) (hf.thaw 1)).trans (by rfl),30,?_⟩;replace hK:WgLive L.tWg Wg (w₄.setCell (smA Wg) (.int .u32 0)):=⟨_,_,hf.setSm 0⟩;clear hf
  walk_nrm
  u_c stepG_region_end Q2 hK
  u_c stepG_seq Q2 hK
  u_reg Q2 hK
  u_op Q2 hK
  u_op Q2 hK
  u_op Q2 hK
  u_call H.f_uLoad (nm_uLoad L) uLoadFn Q2 hK
  u_c stepG_seq Q2 hK
  u_reg Q2 hK
  u_op Q2 hK
  u_c stepG_region_end Q2 hK
  u_c stepG_seq Q2 hK
  u_reg Q2 hK
  u_op Q2 hK
  u_op Q2 hK
  u_op Q2 hK
  refine Goes.stop (fun w₅ h₅=>?_);replace hK:=Q2 hK h₅;clear h₅;refine ⟨rfl,fun hw=>⟨_,stepG_load_atomic (v:=0) rfl rfl (by k_ne) rfl H.f_loadU64 (x_loadU64_n L) (x_loadU64_b L) (x_loadU64_x L) .u64 (x_loadU64_f L) rfl hw.cellSt,30,?_⟩⟩;clear hw
  walk_nrm
  u_op Q2 hK
  u_c stepG_region_end Q2 hK
  u_c stepG_ret' Q2 hK
  u_leave1 H.f_uLoad Q2 hK
  u_op Q2 hK
  u_op Q2 hK
  u_c stepG_region_end Q2 hK
  u_c stepG_seq Q2 hK
  u_cond true Q2 hK
  u_c stepG_seq Q2 hK
  u_reg Q2 hK
  refine Goes.stop (fun w₆ h₆=>?_);replace hK:=Q2 hK h₆;clear h₆;refine ⟨rfl,_,stepG_mark0 .enable (by simp) rfl rfl (by k_ne) rfl H.f_enable (x_enable_n L) (x_enable_b L) (x_enable_x L) (x_enable_f L),12,?_⟩
  walk_nrm
  u_c stepG_region_end Q2 hK
  u_reg Q2 hK
  u_op Q2 hK
  u_conv H.underlying_tWgP H.room_tWg (WgLive.cell0 hK).choose_spec Q2 hK
  refine Goes.stop (fun w₇ h₇=>?_);replace hK:=Q2 hK h₇;clear h₇;refine ⟨rfl,_,stepG_markAt .acquire (by simp) rfl rfl (by k_ne) rfl H.f_acquire (x_acquire_n L) (x_acquire_b L) (x_acquire_x L) (x_acquire_f L) (by simp [Act.eval,stA]),⟨mT+10,?_⟩⟩
  walk_nrm
  u_c stepG_region_end Q2 hK
  u_c stepG_seq Q2 hK
  u_c stepG_seq Q2 hK
  u_reg Q2 hK
  u_op Q2 hK
  u_c stepG_region_end Q2 hK
  u_cond false Q2 hK
  u_c stepG_skip Q2 hK
  u_c stepG_ret' Q2 hK
  u_leave0 H.f_wait Q2 hK
  exact hT _ hK
 refine ⟨_,stepG_cas_miss (v:=(v':Int) * KK) (old:=S) (n:=S+1) rfl rfl (by k_ne) rfl H.f_casU64 (x_casU64_n L) (x_casU64_b L) (x_casU64_x L) .u64 (x_casU64_f L) rfl rfl rfl hw.cellSt (hw.thaw 0) (by rw [← hS];simp only [KK];omega),20,?_⟩;clear hw
 walk_nrm
 u_op Q2 hK
 u_c stepG_region_end Q2 hK
 u_c stepG_ret' Q2 hK
 u_leave1 H.f_uCas Q2 hK
 u_c stepG_region_end Q2 hK
 u_cond false Q2 hK
 u_c stepG_skip Q2 hK
 u_c stepG_inBlock Q2 hK
 u_c stepG_inLoop Q2 hK
 refine Goes.stop (fun w₃ h₃=>?_);exact hAn _ _ ⟨_,rfl,by simp,by simp⟩
end
end Go.Vc.Wg
