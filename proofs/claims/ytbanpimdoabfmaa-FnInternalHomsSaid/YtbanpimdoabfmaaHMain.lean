/- FnInternalHoms: for all inputs that can be read, the law returns true: of the monoidal category and objects that are drawn, the program's InternalHom, IsClosed, TensorBehind and RightAdjointOf answer as the reference's do, internal homs being what the right adjoint of the functor that multiplies from behind says, and the input reads as it did. Conditions: none beyond the given row's own. -/
import Derived.Test.YtbanpimdoabfmaaH15
import Derived.Test.YtbanpimdoabfmaaRows
import Derived.ProofKit
import Derived.OpenShut
import Derived.Carry
set_option maxRecDepth 100000
set_option maxHeartbeats 4000000
set_option linter.unusedSimpArgs false
set_option linter.unusedVariables false
set_option linter.unusedSectionVars false
set_option linter.unnecessarySimpa false

namespace Go.Vc.T
open Go Go.Vc Go.Proofs
section
attribute [local simp] Qi QP Qv Q1l QN
section
variable {H:Type}{enc:TypeId × Value→H}{w:World}
theorem uE:Try.prog.underlying 5=some (.int .u8):=by kernel_rfl
theorem uS:Try.prog.underlying 22=some (.slice 5):=by kernel_rfl
theorem ccE:Try.prog.cellsOf 5=1:=by kernel_rfl
theorem readsE:Reads enc Try.prog w 5 (λn:{n:Int // 0≤n∧n≤255}=>[.val (.int .u8 n.1)]):=by
 intro fuel cs x h;obtain⟨n,rfl,_,hw⟩:=DataW.trod_int uE h;have hn:IntKind.min .u8≤n∧n≤IntKind.max .u8:=by
  rw[Lit.wf,Bool.and_eq_true]at hw;exact⟨of_decide_eq_true hw.1,of_decide_eq_true hw.2⟩
 refine⟨⟨n,hn⟩,rfl,λk hk=>?_⟩;have:k=0:=by simpa using hk
 subst this;exact⟨rfl,.val hn⟩
theorem readsS:Reads enc Try.prog w 22 (λxs:List {n:Int // 0≤n∧n≤255}=>[.lst true 1 (xs.map λn=>[.val (.int .u8 n.1)])]):=Q8v true uS ccE (by decide) (λ_=>rfl) readsE
end
theorem frame_law{xs:List {n:Int // 0≤n∧n≤255}}:Contract Try.prog 4 [.lst true 1 (xs.map λn=>[.val (.int .u8 n.1)])] (.val (.bool true)):=by
 have e:(xs.map λn=>[AV.val (.int .u8 n.1)])=Us (xs.map Subtype.val):=by simp[Us,Function.comp_def]
 rw[e];exact Q4U _ _ (Q5s λn hn=>by
  obtain⟨a,_,rfl⟩:=List.mem_map.1 hn;exact a.2)
end
end Go.Vc.T
namespace Go.Proofs.Ytbanpimdoabfmaa
open Go.ChangeShapes Go.WideShapes Go.ChangeAt Go.RowKit Go.Vc
theorem own:ownKnob Try.prog.godebug=none:=by kernel_rfl
theorem laidOut:laidOutB Try.prog=true:=by kernel_rfl
theorem true_of{w':World}{o:Nat→Option (List Nat)}{v:Value}(h:Res w' o v (.val (.bool true))):v= .bool true:=by
 have h1:Vc.one v:=h.sh;have h2:=h.cell 0 (by decide);have e:(Q2O v).getD 0 undef=v:=by
  have:Q2O v=[v]:=by
   revert h1
   unfold Vc.one Value.oneCell';cases v<;>simp[Q2O,Value.cells]
  rw[this];rfl
 rw[e]at h2;cases h2 with
 |val=>rfl
end Go.Proofs.Ytbanpimdoabfmaa
namespace Go.Proofs.Ytbanpimdoabfmaa
open Go.ChangeShapes Go.WideShapes Go.ChangeAt Go.RowKit Go.Vc
set_option maxRecDepth 100000 in
theorem Q4o(os:Os)(started:os.Started)(H:Type)(enc:TypeId×Value→H):
  ReturnsInHanded {} Try.checked os 4 .any (Rows.fnInternalHomsSpec.pre6 enc Try.prog Try.f4 Rows.fnInternalHomsRow.domain false) (Rows.fnInternalHomsSpec.post enc Try.prog Try.f4 false true false false):=by
 refine returnsInHanded_of_change (C:=Try.checked) own started (by kernel_rfl) Try.func4
  (ChangeSpec.witness6 (enc:=enc) (C:=Try.checked) false ⟨#[],#[.slice none 0 0],[]⟩ 8 (by kernel_rfl) (by kernel_rfl) (by kernel_rfl) (by kernel_rfl)) ?_
 intro W base args ds gs before hval0 hW hcnd _;have hval:∀(j:Nat) t v,Try.f4.params[j]? =some t→args[j]? =some v→Value.okWide Try.prog W .any base t v:=hval0;have hW':=hW;obtain⟨p,q,hA0,hV,rfl,hfz,hnd⟩:=hW;have hA:DataW.TrodAll enc Try.prog W 0 (λ_=>true) true Try.f4.params.toList args.toList ds p:=hA0;rw[Try.params4]at hA hval;obtain⟨v0,vs0,d0,ds0,p0,q0,hargs,rfl,rfl,h0,r0⟩:=trodAll_cons hA;obtain⟨rfl,rfl,rfl⟩:=trodAll_nil r0;obtain rfl:args=#[v0]:=by cases args;simp_all
 obtain⟨rfl,rfl⟩:=trodVars_none hV;clear hA0 hval0;simp only[List.append_nil]at hW';obtain⟨b0,ln0,cp0,rfl⟩:=okWide_slice T.uS (hval 0 22 v0 rfl rfl);have h0k:=h0;obtain⟨fuel0,hfuel0⟩:=h0;obtain⟨f0,hl0,hf0⟩:=T.readsS fuel0 [.slice b0 ln0 cp0] _ hfuel0;have hx0:XRel W (λb=>b<W.heap.size) noρ (.slice b0 ln0 cp0) (.lst true 1 (f0.map λn=>[.val (.int .u8 n.1)])):=.r (hf0 0 (by simp)).2;refine((T.frame_law (xs:=f0)).calls W (λb=>b<W.heap.size) #[.slice b0 ln0 cp0] (λ_ hb=>hb) rfl λk hk=>?_).mono λe W' ⟨v,o,he,hb,_,hres⟩=>?_
 ·match k,hk with
  |0,_=>exact hx0
 subst he;obtain rfl:=true_of hres;have hlt:∀x∈p0,x.block<W.heap.size:=λx hx=>by simpa using hW'.lt x (by simpa using hx)
 exact⟨_,rfl,_,_,_,[],_,[],hW',trodAll_cons_mk (shut_bool Try.underlying4 _) trodAll_mk0,trodAll_cons_mk (Below.trod laidOut (by kernel_rfl) (of_decide_eq_true (by kernel_rfl)) h0k hb.below (λx hx=>hlt x (by simp[hx]))) trodAll_mk0,rfl,
  hb.below.frame _,λh=>by cases h⟩
theorem Q23{a b:Bool}(h1:a=true)(h2:b=true):(a&&b)=true:=by rw[h1,h2];rfl
set_option maxRecDepth 100000 in
set_option maxHeartbeats 20000000 in
theorem Q4n:joinedFacts Try.checked.prog 4 Try.f4 Rows.fnInternalHomsSpec Rows.fnInternalHomsRow=true:=by
 unfold joinedFacts;refine(Q23 (Q23 (Q23 (Q23 (Q23 (Q23 (Q23 (Q23 (Q23 (Q23 (Q23 (Q23 (Q23 (Q23 (Q23 (Q23 (Q23 (Q23 (Q23 (Q23 (Q23 (Q23 (Q23 (Q23 (Q23 (Q23 (Q23 (Q23 (Q23 (Q23 (Q23 ?_ ?_) ?_) ?_) ?_) ?_) ?_) ?_) ?_) ?_) ?_) ?_) ?_) ?_) ?_) ?_) ?_) ?_) ?_) ?_) ?_) ?_) ?_) ?_) ?_) ?_) ?_) ?_) ?_) ?_) ?_) ?_);all_goals decide+kernel
theorem Q4H:Rows.fnInternalHomsRow.holds Try.pinned (OpenSpec.ofChange Rows.fnInternalHomsSpec):=
 OpenClaim.holds_of_wide 4 Try.f4 rfl rfl rfl rfl rfl rfl rfl ⟨rfl,rfl,rfl,rfl,rfl⟩ rfl rfl rfl rfl rfl (by kernel_rfl) Try.func4 Q4n
  (of_decide_eq_true (by kernel_rfl)) (by unfold Func.isWrapper;first|(rw[if_pos (by decide+kernel)];kernel_rfl)|(rw[if_neg (by decide+kernel)];exact⟨rfl,rfl⟩))
  (λos started H enc _=>Q4o os started H enc)
theorem internal_homs_holds:Rows.FnInternalHomsSaid:=Q4H
#print axioms internal_homs_holds
end Go.Proofs.Ytbanpimdoabfmaa
