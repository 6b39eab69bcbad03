/- A part of the proof: a verified generator of conditions, and what each function of the program does. -/
import Derived.Test.YtbpjpnccoeedoaaC6
import Derived.Scope
set_option maxRecDepth 100000
set_option maxHeartbeats 4000000
set_option linter.unusedSimpArgs false
set_option linter.unusedVariables false

namespace Go.Vc
open Go
theorem stoX_row {P:Program} {mt:Bool} {fz:List Nat} {all:Array Oper} {t:TypeId} {ty:Tyi} {xv b:AV} {id i k sz:Nat} {es es2:List (List AV)} {ds:List Nat} {dst:Option Nat} {os:List Oper} {st:St} {K:St→Prop} (dels:List Nat) (h1:tyi P t=some ty) (h2:ty.sz=1)
  (he:look id st.h=some (.row sz es)) (hl:layC st.hp xv=some (b,ds)) (hi:i<es.length) (hk:k<sz) (hn:(id :: ds).Nodup) (hlt:∀ y∈ds++dels,y<st.n) (ha:∀ p∈st.h,Q5d p.2=true→p.1∈dels)
  (h2':es.set i ((es.getD i []).set k b)=es2)
  (h:runX P mt fz all os (st.app dst { v:=.bot,set:=[(id,.row sz es2)],del:=ds++dels }) K):stoA P mt all t (.adr id i k) xv dst os st K:=by
 subst h2';exact Q87 dels h1 h2 ⟨he,hl,hi,hk,hn,hlt,fun id' _ _ _ _ _ h3=>.inl (ha (id',_) (Qt h3) rfl)⟩ h
def scopeA (AQ:Exit→St→Prop):Exit→St→Prop
 | .goto _,_=>False
 | e,st=>AQ e st
theorem w_scope {P:Program} {F:Fx} {AQ:Exit→St→Prop} {st:St} {c:Code} (h:Wp P F c (scopeA AQ) st):Wp P F (.scope c) AQ st:=by
 intro a w hr;refine wp_scope_straight (wp_mono (h a w hr) fun e a w he=>?_);obtain ⟨st',h1,h2⟩:=he;cases e with
 | goto l=>exact h2.elim
 | _=>exact ⟨st',h1,h2⟩
theorem w_label {P:Program} {F:Fx} {AQ:Exit→St→Prop} {st:St} {l:Nat} (h:AQ .normal st):Wp P F (.label l) AQ st:=fun _ _ hr=>wp_label ⟨st,hr,h⟩
theorem pcn {AQ:Exit→St→Prop} {st:St} (h:AQ .normal st):scopeA AQ .normal st:=h
theorem pcr {AQ:Exit→St→Prop} {st:St} (h:AQ .ret st):scopeA AQ .ret st:=h
end Go.Vc
