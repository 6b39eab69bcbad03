/- A part of the proof: a verified generator of conditions, and what each function of the program does. -/
import Derived.Test.YtbpjpnccoeedoaaB6
import Derived.Scope
set_option maxRecDepth 100000
set_option maxHeartbeats 4000000
set_option linter.unusedSimpArgs false
set_option linter.unusedVariables false

namespace Go.Vc
open Go
theorem stoX_row {P:Program} {mt:Bool} {fz:List Nat} {all:Array Oper} {t:TypeId} {ty:Tyi} {xv b:AV} {id i k sz:Nat} {es es2:List (List AV)} {ds:List Nat} {dst:Option Nat} {os:List Oper} {st:St} {K:St→Prop} (dels:List Nat) (h1:tyi P t=some ty) (h2:ty.sz=1)
  (he:look id st.h=some (.row sz es)) (hl:layC st.hp xv=some (b,ds)) (hi:i<es.length) (hk:k<sz) (hn:(id :: ds).Nodup) (hlt:∀ y∈ds++dels,y<st.n) (ha:∀ p∈st.h,Q5A p.2=true→p.1∈dels)
  (h2':es.set i ((es.getD i []).set k b)=es2)
  (h:runX P mt fz all os (st.app dst { v:=.bot,set:=[(id,.row sz es2)],del:=ds++dels }) K):stoA P mt all t (.adr id i k) xv dst os st K:=by
 subst h2';exact Q8m dels h1 h2 ⟨he,hl,hi,hk,hn,hlt,fun id' _ _ _ _ _ h3=>.inl (ha (id',_) (Qv h3) rfl)⟩ h
end Go.Vc
