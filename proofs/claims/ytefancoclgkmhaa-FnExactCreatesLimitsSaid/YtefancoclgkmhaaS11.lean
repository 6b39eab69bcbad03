/- A part of the proof: a verified generator of conditions, and what each function of the program does. -/
import Derived.Test.YtefancoclgkmhaaS10
set_option maxRecDepth 100000
set_option maxHeartbeats 4000000
set_option linter.unusedSimpArgs false
set_option linter.unusedVariables false

namespace Go.Vc.T
open Go Go.Vc Go.Proofs
attribute [local simp] unk unA unE unT unC flat eL eI Qo Q2f Q1l Cone.cells Fn.cells
noncomputable def Q1x (d_:Fn) (e_:Fn) (f_:Fn):Option (Bool × Int) :=
 (Q2F d_ e_).bind fun v1 =>
 if ¬ (v1.2.2=0) then
  some (false,v1.2.2)
 else
  (Qw (σ:=Int) (ε:=Unit ⊕ (Bool × Int)) (fun s53 =>
   if s53<(v1.2.1.length:Int) then
    (
     ass (0≤s53∧s53<(v1.2.1.length:Int)) <|
     (QB e_ v1.2.1 (gx v1.2.1 s53)).bind fun v57 =>
     if ¬ (v57=true) then
      some (Sum.inl ())
     else
      (Qw (σ:=Int × Int × Int) (ε:=Int × Int) (fun s84 =>
       if s84.2.2<(v1.1.length:Int) then
        (
         ass (0≤s84.2.2∧s84.2.2<(v1.1.length:Int)) <|
         (Q1p (gx v1.1 s84.2.2) f_).bind fun v88 =>
         (
          ass (0≤s53∧s53<(v1.2.1.length:Int)) <|
          if v88.a=((gx v1.2.1 s53).a) then
           ass (0≤s53∧s53<(v1.2.1.length:Int)) <|
           (Q1E v88.l ((gx v1.2.1 s53).l)).bind fun v93 =>
           some v93
          else
           some false:Option (Bool)).bind fun b89 =>
         if b89=true then
          ass (B64 (s84.1+1)) <|
          some (s84.1+1,s84.2.2)
         else
          some (s84.1,s84.2.1):Option (Int × Int)).bind fun b86 =>
        ass (B64 (s84.2.2+1)) <|
        some (Ctl.next (b86.1,b86.2,s84.2.2+1))
       else
        some (Ctl.ret (s84.1,s84.2.1))) fuel (0,0,0)).bind fun b59 =>
      (
       if ¬ (b59.1=1) then
        some true
       else
        ass (0≤b59.2∧b59.2<(v1.1.length:Int)) <|
        (QB d_ v1.1 (gx v1.1 b59.2)).bind fun v100 =>
        some (!v100):Option (Bool)).bind fun b97 =>
      if b97=true then
       some (Sum.inr (false,0))
      else
       some (Sum.inl ()):Option (Unit ⊕ (Bool × Int))).bind fun e55 =>
    match e55 with
    | .inl b55 =>
     ass (B64 (s53+1)) <|
     some (Ctl.next (s53+1))
    | .inr p55 =>
     some (Ctl.ret (Sum.inr p55))
   else
    some (Ctl.ret (Sum.inl ()))) fuel 0).bind fun e3 =>
  match e3 with
  | .inl b3 =>
   some (true,0)
  | .inr p3 =>
   some p3
theorem Q2d {F : Fx} {st st' : St} (m : List (Nat × Nat)) (h : (m.map Prod.fst).Nodup ∧ (m.map Prod.snd).Nodup ∧ (∀ id, id < F.pins → look id m = some id) ∧ (∀ p ∈ m, p.2 < st'.n) ∧ (∀ p ∈ st'.h, p.1 < st'.n) ∧ (∀ p ∈ st'.s, p.2 = rl m (st.get p.1) ∨ p.2 = .bot) ∧ ∀ p ∈ st'.h, hhOk m st.h p.1 p.2 := by simp [hP, hhOk, back, idQ, Cone.cells, Fn.cells, UA, U1, IA, I1, LA, L1, BA, B1, EA, E1, E2, eB, eI, eL, Qa _ (Cone.cells true) _ (fun _=>rfl), Cat.cells, XMoved.cells, Qa _ QS _ (fun _=>rfl)]) : Wk F st st' := Wk.r1 m h
theorem Q34 {F : Fx} {st st' : St} (m : Nat) (h : ((idQ m).map Prod.fst).Nodup ∧ ((idQ m).map Prod.snd).Nodup ∧ (∀ id, id < F.pins → look id (idQ m) = some id) ∧ (∀ p ∈ (idQ m), p.2 < st'.n) ∧ (∀ p ∈ st'.h, p.1 < st'.n) ∧ (∀ p ∈ st'.s, p.2 = rl (idQ m) (st.get p.1) ∨ p.2 = .bot) ∧ ∀ p ∈ st'.h, hhOk (idQ m) st.h p.1 p.2 := by simp [hP, hhOk, back, idQ, Cone.cells, Fn.cells, UA, U1, IA, I1, LA, L1, BA, B1, EA, E1, E2, eB, eI, eL, Qa _ (Cone.cells true) _ (fun _=>rfl), Cat.cells, XMoved.cells, Qa _ QS _ (fun _=>rfl)]) : Wk F st st' := Wk.r1 (idQ m) h
@[simp] abbrev Y7 (a:List Cone × List Cone × Int) (b:List (Nat × AV)):List (Nat × AV):=(3,.adr 0 0 0)::(4,.adr 1 0 0)::(5,.adr 2 0 0)::(8,.lst true 2 (Es (Cone.cells true) a.1))::(9,.lst true 2 (Es (Cone.cells true) a.2.1))::b
@[simp] abbrev YK (a:Fn) (b:List (Nat × Ent)):List (Nat × Ent):=(2,.mix 12 [(Fn.cells true a)])::b
theorem Q5C (d_:Fn) (e_:Fn) (f_:Fn) (r:Bool × Int) (h:Q1x d_ e_ f_=some r):Contract Try.prog 15 (Y0u d_ e_ [.agg (f_.cells true)]) (.tup [.val (.bool r.1),iV r.2]):=by
 refine Q8 (rvs:=[.tmp 6,.tmp 7]) (rs:=[.val (.bool r.1),iV r.2]) Try.func15 rfl rfl rfl rfl (by simp [Try.f15]) fun F hN hP=>?_;unfold Q1x at h;refine Q0 (runQ hN fun K hK=>?_);simp;repeat refine sdQ ?_
 refine hK _ ?_;clear hK K;refine tn (Q3 (st':=⟨[(3,.adr 0 0 0),(4,.adr 1 0 0),(5,.adr 2 0 0)],Y4 d_ e_ (YK f_ []),3⟩) (Q34 3) (Q0 (Qk [] mo (by rw [hN];decide) fun K hK=>?_)));simp;repeat with_reducible refine sdQ ?_
 replace ⟨v1,hv1,h⟩:=bind_some h;refine Q2O (fz:=[]) true (Q84 _ _ v1 hv1) (PurK.ofN (.cons (.aggL (.cons .val (.cons .lst (.cons .lst (.cons .lst (.cons .lst (.cons .val (.cons .lst (.cons .lst (.cons .lst (.cons .lst (.cons .lst (.cons .lst .nil))))))))))))) (.cons (.aggL (.cons .val (.cons .lst (.cons .lst (.cons .lst (.cons .lst (.cons .val (.cons .lst (.cons .lst (.cons .lst (.cons .lst (.cons .lst (.cons .lst .nil))))))))))))) .nil))) ?_;simp;repeat refine sdQ ?_
 refine hK _ ?_;clear hK K;refine tn (Q3 (st':=⟨Y7 v1 [(10,iV v1.2.2)],Y4 d_ e_ (YK f_ []),3⟩) (Q34 3) (Q0 (Q0 (runQ hN fun K hK=>?_))));simp;repeat refine sdQ ?_
 refine hK _ ?_;clear hK K;refine tn (Q6 rfl (fun g=>?_) fun g=>?_)
 ·have g2:¬ (v1.2.2=0):=gQ;clear g;replace h:=if_l g2 h;refine Q0 (runQ hN fun K hK=>?_);simp;repeat refine sdQ ?_
  refine hK _ (tn (Q3 (st':=⟨[(6,.val (.bool false)),(7,iV v1.2.2)],[],0⟩) (Q2d []) (Qe (tr ?_))));clear hK K;have hr:=Option.some.inj h;rw [← hr];refine ⟨_,(.tmp (.tmp .nil)),?_⟩;refine ⟨(.one rfl rfl (.one rfl rfl .nil)),[.val (.bool false),iV v1.2.2],[],by simp [Cone.cells,Fn.cells,UA,U1,IA,I1,LA,L1,BA,B1,EA,E1,E2,eB,eI,eL,Qa _ (Cone.cells true) _ (fun _=>rfl)],by simp,(UpL.refl _)⟩
 have g2:¬ (¬ (v1.2.2=0)):=gQ;clear g;replace h:=if_r g2 h;refine Q7 (tn (Q0 (Q0 (runQ hN fun K hK=>?_))));simp;repeat refine sdQ ?_
 refine hK _ (tn (Q3 (st':=⟨Y7 v1 [(11,iV 0)],Y4 d_ e_ (YK f_ []),3⟩) (Q34 3) ?_));clear hK K;replace ⟨e3,h,h3⟩:=bind_some h;refine Qd (fun b3:Unit=>⟨[],[],0⟩) (fun b3=>Sum.inl b3=e3) ?_ ?_
 ·refine Q5 (Qt h (fun s53:Int=>⟨Y7 v1 [(11,iV s53)],Y4 d_ e_ (YK f_ []),3⟩) (Q34 3) ?_);clear h;intro k53 s53 c53 h hk53;refine Q0 (Q0 (runQ hN fun K hK=>?_));simp;repeat refine sdQ ?_
  refine hK _ ?_;clear hK K;refine tn (Q6 rfl (fun g=>?_) fun g=>?_)
  ·have g54:s53<(v1.2.1.length:Int):=gQ;clear g;replace h:=if_l g54 h;refine Q7 (tn (Q0 ?_));replace ⟨e55,h,h55⟩:=bind_some h;refine Qd (fun b55:Unit=>⟨Y7 v1 [(11,iV s53)],Y4 d_ e_ (YK f_ []),3⟩) (fun b55=>Sum.inl b55=e55) ?_ ?_
   ·refine Q5 (Q0 (Q0 (runQ hN fun K hK=>?_)));replace ⟨a56,h⟩:=Q2 h;simp [at_E (c:=(Cone.cells true)) a56];(repeat with_reducible refine sdQ ?_);replace ⟨v57,hv57,h⟩:=bind_some h;refine Q1 (Q3k _ _ _ v57 hv57) (.cons (.aggL (.cons .val (.cons .lst (.cons .lst (.cons .lst (.cons .lst (.cons .val (.cons .lst (.cons .lst (.cons .lst (.cons .lst (.cons .lst (.cons .lst .nil))))))))))))) (.cons .lst (.cons (.aggL (.cons .val (.cons .lst .nil))) .nil))) ?_;simp [at_E (c:=(Cone.cells true)) a56];(repeat refine sdQ ?_);refine hK _ ?_;clear hK K;refine tn (Q3 (st':=⟨Y7 v1 [(11,iV s53),(39,.val (.bool (!v57)))],Y4 d_ e_ (YK f_ []),3⟩) (Q34 3) (Q6 rfl (fun g=>?_) fun g=>?_))
    ·have g58:¬ (v57=true):=gQ;clear g;replace h:=if_l g58 h;refine Qj (tx (bh ?_));exact jn (b:=()) (Option.some.inj h) (Q34 3)
    have g58:¬ (¬ (v57=true)):=gQ;clear g;replace h:=if_r g58 h;refine Q7 (tn (Q0 (runQ hN fun K hK=>?_)));simp;(repeat refine sdQ ?_);refine hK _ ?_;clear hK K;refine tn (Q3 (st':=⟨Y7 v1 [(11,iV s53),(12,iV 0),(13,iV 0)],Y4 d_ e_ (YK f_ []),3⟩) (Q34 3) (Q0 (Q0 (runQ hN fun K hK=>?_))));simp;(repeat refine sdQ ?_);refine hK _ (tn (Q3 (st':=⟨Y7 v1 [(11,iV s53),(12,iV 0),(13,iV 0),(14,iV 0)],Y4 d_ e_ (YK f_ []),3⟩) (Q34 3) ?_));clear hK K;replace ⟨e59,h,h59⟩:=bind_some h;refine Qd (fun b59:Int × Int=>⟨Y7 v1 [(11,iV s53),(12,iV b59.1),(13,iV b59.2)],Y4 d_ e_ (YK f_ []),3⟩) (fun b59=>b59=e59) ?_ ?_
    ·refine Q5 (Qt h (fun s84:Int × Int × Int=>⟨Y7 v1 [(11,iV s53),(12,iV s84.1),(13,iV s84.2.1),(14,iV s84.2.2)],Y4 d_ e_ (YK f_ []),3⟩) (Q34 3) ?_);clear h;intro k84 s84 c84 h hk84;refine Q0 (Q0 (runQ hN fun K hK=>?_));simp;(repeat refine sdQ ?_);refine hK _ ?_;clear hK K;refine tn (Q6 rfl (fun g=>?_) fun g=>?_)
     ·have g85:s84.2.2<(v1.1.length:Int):=gQ;clear g;replace h:=if_l g85 h;refine Q7 (tn (Q0 ?_));replace ⟨e86,h,h86⟩:=bind_some h;refine Qd (fun b86:Int × Int=>⟨Y7 v1 [(11,iV s53),(12,iV b86.1),(13,iV b86.2),(14,iV s84.2.2)],Y4 d_ e_ (YK f_ []),3⟩) (fun b86=>b86=e86) ?_ ?_
      ·refine Q5 (Q0 (runQ hN fun K hK=>?_));replace ⟨a87,h⟩:=Q2 h;simp [at_E (c:=(Cone.cells true)) a87];(repeat with_reducible refine sdQ ?_);replace ⟨v88,hv88,h⟩:=bind_some h;refine Q1 (Q7m _ _ v88 hv88) (.cons (.aggL (.cons .val (.cons .lst .nil))) (.cons (.aggL (.cons .val (.cons .lst (.cons .lst (.cons .lst (.cons .lst (.cons .val (.cons .lst (.cons .lst (.cons .lst (.cons .lst (.cons .lst (.cons .lst .nil))))))))))))) .nil)) ?_;simp [at_E (c:=(Cone.cells true)) a87];(repeat refine sdQ ?_);refine hK _ (tn (Q3 (st':=⟨Y7 v1 [(11,iV s53),(12,iV s84.1),(13,iV s84.2.1),(14,iV s84.2.2),(15,.adr 3 0 0)],Y4 d_ e_ (YK f_ [(3,.mix 2 [[iV v88.a,.own 4 0 v88.l.length]]),(4,rI v88.l)]),5⟩) (Q2d [(0,0),(1,1),(2,2),(5,3),(4,4)]) (Q0 ?_)));clear hK K;replace ⟨e89,h,h89⟩:=bind_some h;refine Qd (fun b89:Bool=>⟨Y7 v1 [(11,iV s53),(12,iV s84.1),(13,iV s84.2.1),(14,iV s84.2.2),(69,.val (.bool b89))],Y4 d_ e_ (YK f_ []),3⟩) (fun b89=>b89=e89) ?_ ?_
       ·refine runQ hN fun K hK=>?_;replace ⟨a90,h⟩:=Q2 h;simp [at_E (c:=(Cone.cells true)) a90];(repeat with_reducible refine sdQ ?_);refine Qh (fun g=>?_) (fun g=>?_)
        ·have g91:v88.a=((gx v1.2.1 s53).a):=gQ;clear g;replace h:=if_l g91 h;replace ⟨a92,h⟩:=Q2 h;simp [at_E (c:=(Cone.cells true)) a90,at_E (c:=(Cone.cells true)) a92];(repeat with_reducible refine sdQ ?_);replace ⟨v93,hv93,h⟩:=bind_some h;refine Q1 (Q7Y _ _ v93 hv93) (.cons .w (.cons .lst .nil)) ?_;simp [at_E (c:=(Cone.cells true)) a90,at_E (c:=(Cone.cells true)) a92];(repeat refine sdQ ?_);refine hK _ ?_;exact jn (b:=v93) (Option.some.inj h) (Q34 3)
        have g91:¬ (v88.a=((gx v1.2.1 s53).a)):=gQ;clear g;replace h:=if_r g91 h;simp [at_E (c:=(Cone.cells true)) a90];(repeat refine sdQ ?_);refine hK _ ?_;exact jn (b:=false) (Option.some.inj h) (Q34 3)
       intro b89 hb89;have h:=h89;(try rw [← hb89] at h);clear h89;(try dsimp only at h);refine Q6 rfl (fun g=>?_) fun g=>?_
       ·have g94:b89=true:=gQ;clear g;replace h:=if_l g94 h;refine Q0 (runQ hN fun K hK=>?_);replace ⟨a95,h⟩:=Q2 h;simp [Qp a95];(repeat refine sdQ ?_);refine hK _ ?_;clear hK K;refine tn (Q3 (st':=⟨Y7 v1 [(11,iV s53),(12,iV (s84.1+1)),(14,iV s84.2.2)],Y4 d_ e_ (YK f_ []),3⟩) (Q34 3) (runQ hN fun K hK=>?_));simp;(repeat refine sdQ ?_);refine hK _ (bn ?_);clear hK K;exact jn (b:=(s84.1+1,s84.2.2)) (Option.some.inj h) (Q34 3)
       have g94:¬ (b89=true):=gQ;clear g;replace h:=if_r g94 h;refine Q7 (bn ?_);exact jn (b:=(s84.1,s84.2.1)) (Option.some.inj h) (Q34 3)
      intro b86 hb86;have h:=h86;(try rw [← hb86] at h);clear h86;(try dsimp only at h);refine runQ hN fun K hK=>?_;replace ⟨a96,h⟩:=Q2 h;simp [Qp a96];(repeat refine sdQ ?_);refine hK _ ?_;clear hK K;cases h;exact rn (s':=(b86.1,b86.2,s84.2.2+1)) hk84 (Q34 3)
     have g85:¬ (s84.2.2<(v1.1.length:Int)):=gQ;clear g;replace h:=if_r g85 h;refine Qj (tx (lx (bh ?_)));cases h;exact jn (b:=(s84.1,s84.2.1)) hk84 (Q34 3)
    intro b59 hb59;have h:=h59;(try rw [← hb59] at h);clear h59;(try dsimp only at h);refine Q0 ?_;replace ⟨e97,h,h97⟩:=bind_some h;refine Qd (fun b97:Bool=>⟨Y7 v1 [(11,iV s53),(84,.val (.bool b97))],Y4 d_ e_ (YK f_ []),3⟩) (fun b97=>b97=e97) ?_ ?_
    ·refine runQ hN fun K hK=>?_;simp;(repeat with_reducible refine sdQ ?_);refine Qh (fun g=>?_) (fun g=>?_)
     ·have g98:¬ (¬ (b59.1=1)):=gQ;clear g;replace h:=if_r g98 h;replace ⟨a99,h⟩:=Q2 h;simp [at_E (c:=(Cone.cells true)) a99];(repeat with_reducible refine sdQ ?_);replace ⟨v100,hv100,h⟩:=bind_some h;refine Q1 (Q3k _ _ _ v100 hv100) (.cons (.aggL (.cons .val (.cons .lst (.cons .lst (.cons .lst (.cons .lst (.cons .val (.cons .lst (.cons .lst (.cons .lst (.cons .lst (.cons .lst (.cons .lst .nil))))))))))))) (.cons .lst (.cons (.aggL (.cons .val (.cons .lst .nil))) .nil))) ?_;simp [at_E (c:=(Cone.cells true)) a99];(repeat refine sdQ ?_);refine hK _ ?_;exact jn (b:=!v100) (Option.some.inj h) (Q34 3)
     have g98:¬ (b59.1=1):=gQ;clear g;replace h:=if_l g98 h;simp;(repeat refine sdQ ?_);refine hK _ ?_;exact jn (b:=true) (Option.some.inj h) (Q34 3)
    intro b97 hb97;have h:=h97;(try rw [← hb97] at h);clear h97;(try dsimp only at h);refine Q6 rfl (fun g=>?_) fun g=>?_
    ·have g101:b97=true:=gQ;clear g;replace h:=if_l g101 h;refine Q0 (runQ hN fun K hK=>?_);simp;(repeat refine sdQ ?_);refine hK _ (tn (Q3 (st':=⟨[(6,.val (.bool false)),(7,iV 0)],[],0⟩) (Q2d []) (Qe (br (tr (lr (br (tr ?_))))))));clear hK K;cases h;have h:=h55;(try dsimp only at h);cases h;have q:_=e3:=hk53;have h:=h3;rw [← q] at h;clear q;(try dsimp only at h);have hr:=Option.some.inj h;rw [← hr];refine ⟨_,(.tmp (.tmp .nil)),?_⟩;refine ⟨(.one rfl rfl (.one rfl rfl .nil)),[.val (.bool false),iV 0],[],by simp [Cone.cells,Fn.cells,UA,U1,IA,I1,LA,L1,BA,B1,EA,E1,E2,eB,eI,eL,Qa _ (Cone.cells true) _ (fun _=>rfl)],by simp,(UpL.refl _)⟩
    have g101:¬ (b97=true):=gQ;clear g;replace h:=if_r g101 h;refine Q7 (bn ?_);exact jn (b:=()) (Option.some.inj h) (Q34 3)
   intro b55 hb55;have h:=h55;(try rw [← hb55] at h);clear h55;(try dsimp only at h);refine runQ hN fun K hK=>?_;replace ⟨a102,h⟩:=Q2 h;simp [Qp a102];(repeat refine sdQ ?_);refine hK _ ?_;clear hK K;cases h;exact rn (s':=s53+1) hk53 (Q34 3)
  have g54:¬ (s53<(v1.2.1.length:Int)):=gQ;clear g;replace h:=if_r g54 h;refine Qj (tx (lx (bh ?_)));cases h;exact jn (b:=()) hk53 (Q2d [])
 intro b3 hb3;have h:=h3;try rw [← hb3] at h
 clear h3;try dsimp only at h
 refine Q0 (runQ hN fun K hK=>?_);simp;repeat refine sdQ ?_
 refine hK _ (tn (Q3 (st':=⟨[(6,.val (.bool true)),(7,iV 0)],[],0⟩) (Q2d []) (Qe ?_)));clear hK K;have hr:=Option.some.inj h;rw [← hr];refine ⟨_,(.tmp (.tmp .nil)),?_⟩;refine ⟨(.one rfl rfl (.one rfl rfl .nil)),[.val (.bool true),iV 0],[],by simp [Cone.cells,Fn.cells,UA,U1,IA,I1,LA,L1,BA,B1,EA,E1,E2,eB,eI,eL,Qa _ (Cone.cells true) _ (fun _=>rfl)],by simp,(UpL.refl _)⟩
section
attribute [local simp] Qf QG Qu Q16 QE
def Q3r (p:Cone):ByteArray:=Q1L (IntKind.u8.wrap p.a :: 255 :: (p.l.map IntKind.u8.wrap++[255]))
theorem e_kin {β:Type} {K:List Int→Option β} {r:Option β} (x pre:List Int) (hp:pre.length≤1000) (h:x.length≤1000) (hk:K (pre++x.map IntKind.u8.wrap)=r) :
  (Qw (σ:=List Int × Int) (ε:=List Int) (fun s24 =>
    if s24.2<(x.length:Int) then
     ass (0≤s24.2∧s24.2<(x.length:Int)) <|
     ass ((s24.1++[IntKind.u8.wrap (ix x s24.2)]).length≤1073741824) <|
     ass (B64 (s24.2+1)) <|
     some (Ctl.next (s24.1++[IntKind.u8.wrap (ix x s24.2)],s24.2+1))
    else
     some (Ctl.ret s24.1)) fuel (pre,0)).bind K=r:=by
 refine Q22 x.length (fun k=>pre++(x.take k).map IntKind.u8.wrap) (e:=pre++x.map IntKind.u8.wrap) (by simp) (by omega) (fun k hk=>?_) (by simp) hk;have hs:x.take (k+1)=x.take k++[ix x k]:=by rw [List.take_succ_eq_append_getElem hk,Q11 _ _ hk]
 simp (disch:=omega) [Q4,B64,hs];try omega
theorem e_ckey {p:Cone} (h:p.l.length≤900):Q1V p=some (Q3r p):=by
 have hk:Q5i [[p.a],p.l]=some (Q3r p):=by
  unfold Q5i Q3r;refine Q22 2 (fun i=>if i=0 then [] else if i=1 then [IntKind.u8.wrap p.a,255] else IntKind.u8.wrap p.a :: 255 :: (p.l.map IntKind.u8.wrap++[255])) (e:=IntKind.u8.wrap p.a :: 255 :: (p.l.map IntKind.u8.wrap++[255])) (by simp) (by omega) (fun i hi=>?_) (by simp) rfl;rcases (by omega:i=0∨i=1) with rfl|rfl
  ·have hx:rx [[p.a],p.l] ((0:Nat):Int)=[p.a]:=(by simp [rx]);simp only [hx];rw [if_pos (by simp),Q4 (by simp)];refine e_kin [p.a] [] (by simp) (by simp) ?_;simp (disch:=omega) [Q4,B64]
  have hx:rx [[p.a],p.l] ((1:Nat):Int)=p.l:=by simp [rx]
  simp only [hx];rw [if_pos (by simp),Q4 (by simp)];refine e_kin p.l [IntKind.u8.wrap p.a,255] (by simp) (by omega) ?_;rw [Q4 (by simp;omega),Q4 (by unfold B64;omega)];simp
 unfold Q1V;rw [hk];rfl
theorem keyC2_inj {p q:Cone} (ha:0≤p.a∧p.a<256) (hb:0≤q.a∧q.a<256) (hx:∀ a∈p.l,0≤a∧a<256) (hy:∀ a∈q.l,0≤a∧a<256) (h:Q3r p=Q3r q):p=q:=by
 have hw:∀ p:Cone,∀ a∈IntKind.u8.wrap p.a :: 255 :: (p.l.map IntKind.u8.wrap++[255]),0≤a∧a<256:=by
  intro p a ha;rcases List.mem_cons.1 ha with rfl|ha
  ·exact wrap8_b _
  rcases List.mem_cons.1 ha with rfl|ha
  ·omega
  rcases List.mem_append.1 ha with ha|ha
  ·obtain ⟨b,_,rfl⟩:=List.mem_map.1 ha;exact wrap8_b b
  rw [List.mem_singleton.1 ha];omega
 have h1:=Q8E (hw p) (hw q) h;simp only [List.cons.injEq,true_and] at h1;obtain ⟨h2,h3⟩:=h1;rw [wrap8 ha.1 ha.2,wrap8 hb.1 hb.2] at h2;have h4:=(List.append_inj' h3 rfl).1;have h5:p.l=q.l:=Q6Z (fun a ha b hb e=>by rwa [wrap8 (hx a ha).1 (hx a ha).2,wrap8 (hy b hb).1 (hy b hb).2] at e) h4;cases p;cases q;simp only at h2 h5;subst h2 h5;rfl
theorem Cone.G.sm {d:Fn} (hd:d.Is) {p:Cone} (h:p.G d):(0≤p.a∧p.a<256)∧p.l.length≤900∧∀ a∈p.l,0≤a∧a<256:=by
 obtain ⟨l1,l2,l3,l4,l5,l6,l7,l8⟩:=hd.fact;obtain ⟨p1,p2,p3⟩:=h;have n8:=hd.t.1.n8;refine ⟨⟨p1.1,by omega⟩,by omega,fun a ha=>?_⟩;obtain ⟨i,hi,rfl⟩:=List.getElem_of_mem ha;have q:=(p3 i hi).1;rw [← Q11 _ _ hi] at q;exact ⟨q.1,by omega⟩
theorem key_eq {d:Fn} (hd:d.Is) {p q:Cone} (hp:p.G d) (hq:q.G d):Q3r p=Q3r q↔p=q:=by
 obtain ⟨a1,_,a3⟩:=hp.sm hd;obtain ⟨b1,_,b3⟩:=hq.sm hd;exact ⟨keyC2_inj a1 b1 a3 b3,fun h=>by rw [h]⟩
noncomputable def grpL (f:Fn) (L:List Cone):Nat→List (ByteArray × List Cone)
 | 0=>[]
 | i+1=>tset (Q3r (img (gx L i) f)) (((Q1A (Q3r (img (gx L i) f)) (grpL f L i)).getD [])++[gx L i]) (grpL f L i)
theorem tset_len2 {α β:Type} [DecidableEq α] (k:α) (v:β) (m:List (α × β)):(tset k v m).length≤m.length+1:=by
 induction m with
 | nil=>simp [tset]
 | cons p r ih =>
  obtain ⟨a,x⟩:=p;simp only [tset];split<;>simp<;>omega
theorem grp_len (f:Fn) (L:List Cone):∀ i,(grpL f L i).length≤i:=by
 intro i
 induction i with
 | zero=>simp [grpL]
 | succ i ih =>
  simp only [grpL];have:=tset_len2 (Q3r (img (gx L i) f)) (((Q1A (Q3r (img (gx L i) f)) (grpL f L i)).getD [])++[gx L i]) (grpL f L i);omega
theorem Q8B {L:List Cone} {i:Nat} (h:i<L.length):L.take (i+1)=L.take i++[gx L i]:=by rw [List.take_succ_eq_append_getElem h,Q48 _ h]
theorem Q8l (f:Fn) (L:List Cone) (k:ByteArray):∀ i,i≤L.length→(Q1A k (grpL f L i)).getD []=(L.take i).filter fun p=>bo (Q3r (img p f)=k):=by
 intro i
 induction i with
 | zero=>intro _;simp [grpL,Q1A]
 | succ i ih =>
  intro hi;have h1:=ih (by omega);rw [Q8B (by omega),List.filter_append];simp only [grpL,Q9d]
  by_cases hk:Q3r (img (gx L i) f)=k
  ·rw [if_pos hk,hk,Option.getD_some,h1];simp [QC hk]
  rw [if_neg hk,h1];simp [Qv hk]
theorem Q6I {α:Type} (q:α→Bool) (L:List α) (i:Nat):((L.take i).filter q).length≤L.length:=Nat.le_trans (List.length_filter_le _ _) (by simp;omega)
def crQ (d e f:Fn) (L M:List Cone) (q:Cone):Prop:=unv e M q→∃ p,(L.filter fun p=>bo (img p f=q))=[p]∧unv d L p
def Crea (d e f:Fn) (L M:List Cone):Prop:=∀ i:Nat,i<M.length→crQ d e f L M (gx M i)
theorem Q8J {d f:Fn} (hd:d.Is) (hf:f.Is) (h:d.t=f.s) {L:List Cone} (hL:GL d L) {q:Cone} (hq:q.G (QH d f)):(L.filter fun p=>bo (Q3r (img p f)=Q3r q))=L.filter fun p=>bo (img p f=q):=by
 refine List.filter_congr fun p hp=>?_;obtain ⟨i,hi,rfl⟩:=List.getElem_of_mem hp;have h1:=(Q7u hd hf h (hL.2 i hi)).2.2;rw [Q48 _ hi] at h1;have:=key_eq (Q5m hd hf h) h1 hq
 by_cases hk:img L[i] f=q
 ·rw [QC hk,QC (this.2 hk)]
 rw [Qv hk,Qv fun h=>hk (this.1 h)]
theorem mem_gl {d:Fn} {L:List Cone} (hL:GL d L) {p:Cone} (h:p∈L):p.G d:=by
 obtain ⟨i,hi,rfl⟩:=List.getElem_of_mem h;have:=hL.2 i hi
 rwa [Q48 _ hi] at this
theorem bo_and {p q:Prop}:bo (p∧q)=(bo p && bo q):=by
 by_cases hp:p<;>by_cases hq:q<;>simp [bo,hp,hq]
theorem e_crea {d f:Fn} (hd:d.Is) (hf:f.Is) (h:d.t=f.s) {L M:List Cone} (hL:GL d L) (hM:GL (QH d f) M):QQ ⟨d,QH d f,f,L,M⟩=some (bo (Crea d (QH d f) f L M)):=by
 have h4:=hL.1;have h5:=hM.1;have he:=Q5m hd hf h;unfold QQ;refine Q22 L.length (fun i=>grpL f L i) (e:=grpL f L L.length) rfl (by omega) (fun i hi=>?_) (by simp) ?_
 ·have hi2:(i:Int)<(L.length:Int):=by omega
  obtain ⟨i1,i2,i3⟩:=Q7u hd hf h (hL.2 i hi);simp only;rw [if_pos hi2,Q4 ⟨by omega,hi2⟩,i2];simp only [Option.bind_some];rw [e_ckey (i3.sm he).2.1];simp only [Option.bind_some];have h6:=grp_len f L i;rw [Q4 (by
   rw [Q8l f L _ i (by omega)];have:=Q6I (fun p=>bo (Q3r (img p f)=Q3r (img (gx L i) f))) L i;simp;omega),Q4 (by omega),Q4 (by unfold B64;omega)]
  rfl
 refine Q22 M.length (fun i=>bo (∀ j:Nat,j<i→crQ d (QH d f) f L M (gx M j))) (e:=bo (Crea d (QH d f) f L M)) (by rw [QC];intro j hj;omega) (by omega) (fun i hi=>?_) (by
  rw [if_neg (by simp)];rfl) rfl
 have hi2:(i:Int)<(M.length:Int):=by omega
 have hq:=hM.2 i hi;have hsucc:bo (∀ j:Nat,j<i+1→crQ d (QH d f) f L M (gx M j))=(bo (∀ j:Nat,j<i→crQ d (QH d f) f L M (gx M j)) && bo (crQ d (QH d f) f L M (gx M i))):=by
  rw [← bo_and]
  congr 1
  apply propext;refine ⟨fun q=>⟨fun j hj=>q j (by omega),q i (by omega)⟩,fun q j hj=>?_⟩
  by_cases hji:j=i
  ·subst hji;exact q.2
  exact q.1 j (by omega)
 simp only;rw [if_pos hi2,Q4 ⟨by omega,hi2⟩,(Q8e he hM hq).2];simp only [Option.bind_some];rw [hsucc]
 by_cases hu:unv (QH d f) M (gx M i)
 case neg =>
  have hc:crQ d (QH d f) f L M (gx M i):=fun q=>absurd q hu;rw [Qv hu,QC hc,if_pos (by simp)];simp only [Option.bind_some,Bool.and_true];rw [Q4 (by unfold B64;omega)]
 rw [QC hu,if_neg (by simp),e_ckey (hq.sm he).2.1];simp only [Option.bind_some];rw [Q8l f L _ L.length (Nat.le_refl _),List.take_length,Q8J hd hf h hL hq];generalize bo (∀ j:Nat,j<i→crQ d (QH d f) f L M (gx M j))=g;cases g with
 | false =>
  rw [if_neg (by simp)];simp only [Option.bind_some,Bool.false_and];rw [Q4 (by unfold B64;omega)]
 | true =>
  rw [if_pos rfl];simp only [Bool.true_and];cases hF:(L.filter fun p=>bo (img p f=gx M i)) with
  | nil =>
   have hc:¬ crQ d (QH d f) f L M (gx M i):=fun q=>by
    obtain ⟨p,q1,_⟩:=q hu;rw [hF] at q1;cases q1
   rw [if_neg (by simp),Qv hc];simp only [Option.bind_some];rw [Q4 (by unfold B64;omega)]
  | cons p ps =>
   cases ps with
   | cons p2 ps =>
    have hc:¬ crQ d (QH d f) f L M (gx M i):=fun q=>by
     obtain ⟨p,q1,_⟩:=q hu;rw [hF] at q1;cases q1
    rw [if_neg (by simp;omega),Qv hc];simp only [Option.bind_some];rw [Q4 (by unfold B64;omega)]
   | nil =>
    have hp:p.G d:=mem_gl hL (List.mem_filter.1 (by rw [hF];simp:p∈L.filter fun p=>bo (img p f=gx M i))).1;have hg:gx [p] 0=p:=rfl;rw [if_pos (by simp),Q4 (by simp),hg,(Q8e hd hL hp).2];simp only [Option.bind_some];have hc:bo (crQ d (QH d f) f L M (gx M i))=bo (unv d L p):=by
     congr 1
     apply propext;refine ⟨fun q=>?_,fun q _=>⟨p,hF,q⟩⟩;obtain ⟨p',q1,q2⟩:=q hu;rw [hF] at q1;cases q1;exact q2
    rw [hc,Q4 (by unfold B64;omega)]
theorem e_sCrea {d f:Fn} (hd:d.Is) (hf:f.Is) (h:d.t=f.s):Q1x d (QH d f) f=some (if (QP d).length≤400∧(QP (QH d f)).length≤400 then (bo (Crea d (QH d f) f (QP d) (QP (QH d f))),0) else (false,3)):=by
 have he:=Q5m hd hf h;unfold Q1x;rw [e_both hd he]
 by_cases h1:(QP d).length≤400∧(QP (QH d f)).length≤400
 case neg=>simp [h1]
 have hL:=Q62 hd h1.1;have hM:=Q62 he h1.2;rw [if_pos h1,if_pos h1];simp only [Option.bind_some,not_true_eq_false,if_false];generalize QP d=L at *;generalize QP (QH d f)=M at *;have h4:=hL.1;have h5:=hM.1;have cnt:∀ i:Nat,i<M.length→∀ {β:Type} {K:Int × Int→Option β} {r:Option β},
   (∀ c a:Int,c=((L.filter fun p=>bo (img p f=gx M i)).length:Int)→(∀ p,(L.filter fun p=>bo (img p f=gx M i))=[p]→0≤a∧a<(L.length:Int)∧gx L a=p)→K (c,a)=r) →
   (Qw (σ:=Int × Int × Int) (ε:=Int × Int) (fun s84 =>
       if s84.2.2<(L.length:Int) then
        (
         ass (0≤s84.2.2∧s84.2.2<(L.length:Int)) <|
         (Q1p (gx L s84.2.2) f).bind fun v88 =>
         (
          ass (0≤(i:Int)∧(i:Int)<(M.length:Int)) <|
          if v88.a=((gx M i).a) then
           ass (0≤(i:Int)∧(i:Int)<(M.length:Int)) <|
           (Q1E v88.l ((gx M i).l)).bind fun v93 =>
           some v93
          else
           some false:Option (Bool)).bind fun b89 =>
         if b89=true then
          ass (B64 (s84.1+1)) <|
          some (s84.1+1,s84.2.2)
         else
          some (s84.1,s84.2.1):Option (Int × Int)).bind fun b86 =>
        ass (B64 (s84.2.2+1)) <|
        some (Ctl.next (b86.1,b86.2,s84.2.2+1))
       else
        some (Ctl.ret (s84.1,s84.2.1))) fuel (0,0,0)).bind K=r:=by
  intro i hi β K r hK;have hi2:(i:Int)<(M.length:Int):=by omega
  refine QZ (σ:=Int × Int × Int) (Q:=fun z=>z=r) L.length
   (fun j s=>s.2.2=(j:Int)∧s.1=(((L.take j).filter fun p=>bo (img p f=gx M i)).length:Int)∧∀ p,((L.take j).filter fun p=>bo (img p f=gx M i))=[p]→0≤s.2.1∧s.2.1<(L.length:Int)∧gx L s.2.1=p)
   (fun e:Int × Int=>e.1=((L.filter fun p=>bo (img p f=gx M i)).length:Int)∧∀ p,(L.filter fun p=>bo (img p f=gx M i))=[p]→0≤e.2∧e.2<(L.length:Int)∧gx L e.2=p) (by omega) ⟨rfl,by simp,fun p hp=>by simp at hp⟩ ?_ ?_ ?_
  ·intro j s hj ⟨s1,s2,s3⟩;obtain ⟨sc,sa,sj⟩:=s;simp only at s1 s2 s3;subst s1;left;have hj2:(j:Int)<(L.length:Int):=(by omega);obtain ⟨i1,i2,i3⟩:=Q7u hd hf h (hL.2 j hj);have hlen:=Q6I (fun p=>bo (img p f=gx M i)) L j;have hx:=Q48 L hj;have same:((ass (0≤(i:Int)∧(i:Int)<(M.length:Int)) <|
          if (img (gx L j) f).a=((gx M i).a) then
           ass (0≤(i:Int)∧(i:Int)<(M.length:Int)) <|
           (Q1E (img (gx L j) f).l ((gx M i).l)).bind fun v93 =>
           some v93
          else
           some false:Option (Bool)))=some (bo (img (gx L j) f=gx M i)):=by
    rw [Q4 ⟨by omega,hi2⟩]
    by_cases e1:(img (gx L j) f).a=(gx M i).a
    ·rw [if_pos e1,Q4 ⟨by omega,hi2⟩];unfold Q1E;simp only [Option.bind_some,Option.some.injEq]
     by_cases e2:(img (gx L j) f).l=(gx M i).l
     ·have:img (gx L j) f=gx M i:=by
       revert e1 e2
       generalize img (gx L j) f=p;generalize gx M i=q;intro e1 e2;cases p;cases q;simp only at e1 e2;subst e1 e2;rfl
      rw [QC this];simp [e2]
     rw [Qv fun q=>e2 (by rw [q])];simp [e2]
    rw [if_neg e1,Qv fun q=>e1 (by rw [q])]
   simp only;rw [if_pos hj2,Q4 ⟨by omega,hj2⟩,i1];simp only [Option.bind_some];rw [same];simp only [Option.bind_some];rw [Q8B hj,List.filter_append]
   by_cases hb:img (gx L j) f=gx M i
   ·have hf1:([gx L j].filter fun p=>bo (img p f=gx M i))=[gx L j]:=(by simp [QC hb]);rw [QC hb,if_pos rfl,Q4 (by unfold B64;omega)];simp only [Option.bind_some];rw [Q4 (by unfold B64;omega),hf1];refine ⟨_,rfl,by simp,by simp;omega,fun p hp=>?_⟩;have h0:((L.take j).filter fun p=>bo (img p f=gx M i))=[]:=by
     have:=congrArg List.length hp;simp at this;simpa using this
    rw [h0] at hp;simp only [List.nil_append,List.cons.injEq,and_true] at hp;exact ⟨by simp only;omega,hj2,hp⟩
   have hf1:([gx L j].filter fun p=>bo (img p f=gx M i))=[]:=(by simp [Qv hb]);rw [Qv hb,if_neg (by simp)];simp only [Option.bind_some];rw [Q4 (by unfold B64;omega),hf1,List.append_nil];exact ⟨_,rfl,by simp,s2,s3⟩
  ·intro s ⟨s1,s2,s3⟩;obtain ⟨sc,sa,sj⟩:=s;simp only at s1 s2 s3;subst s1;rw [List.take_length] at s2 s3;rw [if_neg (by simp)];exact ⟨_,rfl,s2,s3⟩
  intro e ⟨e1,e2⟩;obtain ⟨c,a⟩:=e;exact hK c a e1 e2
 have step:∀ i:Nat,i<M.length→∀ {β:Type} {K:Unit ⊕ (Bool × Int)→Option β},(((ass (0≤(i:Int)∧(i:Int)<(M.length:Int)) <|
     (QB (QH d f) M (gx M i)).bind fun v57 =>
     if ¬ (v57=true) then
      some (Sum.inl ())
     else
      (Qw (σ:=Int × Int × Int) (ε:=Int × Int) (fun s84 =>
       if s84.2.2<(L.length:Int) then
        (
         ass (0≤s84.2.2∧s84.2.2<(L.length:Int)) <|
         (Q1p (gx L s84.2.2) f).bind fun v88 =>
         (
          ass (0≤(i:Int)∧(i:Int)<(M.length:Int)) <|
          if v88.a=((gx M i).a) then
           ass (0≤(i:Int)∧(i:Int)<(M.length:Int)) <|
           (Q1E v88.l ((gx M i).l)).bind fun v93 =>
           some v93
          else
           some false:Option (Bool)).bind fun b89 =>
         if b89=true then
          ass (B64 (s84.1+1)) <|
          some (s84.1+1,s84.2.2)
         else
          some (s84.1,s84.2.1):Option (Int × Int)).bind fun b86 =>
        ass (B64 (s84.2.2+1)) <|
        some (Ctl.next (b86.1,b86.2,s84.2.2+1))
       else
        some (Ctl.ret (s84.1,s84.2.1))) fuel (0,0,0)).bind fun b59 =>
      (
       if ¬ (b59.1=1) then
        some true
       else
        ass (0≤b59.2∧b59.2<(L.length:Int)) <|
        (QB d L (gx L b59.2)).bind fun v100 =>
        some (!v100):Option (Bool)).bind fun b97 =>
      if b97=true then
       some (Sum.inr (false,0))
      else
       some (Sum.inl ()):Option (Unit ⊕ (Bool × Int))).bind K)=K (if bo (crQ d (QH d f) f L M (gx M i))=true then Sum.inl () else Sum.inr (false,0))):=by
  intro i hi β K;have hi2:(i:Int)<(M.length:Int):=by omega
  rw [Q4 ⟨by omega,hi2⟩,(Q8e he hM (hM.2 i hi)).1];simp only [Option.bind_some]
  by_cases hu:unv (QH d f) M (gx M i)
  case neg =>
   have hc:crQ d (QH d f) f L M (gx M i):=fun q=>absurd q hu;rw [Qv hu,QC hc,if_pos (by simp),if_pos rfl];rfl
  rw [QC hu,if_neg (by simp)];have:=cnt i hi (K:=fun b59:Int × Int=>(
       (if ¬ (b59.1=1) then
        some true
       else
        ass (0≤b59.2∧b59.2<(L.length:Int)) <|
        (QB d L (gx L b59.2)).bind fun v100 =>
        some (!v100):Option (Bool)).bind fun b97 =>
      if b97=true then
       some (Sum.inr (false,0))
      else
       some (Sum.inl ()):Option (Unit ⊕ (Bool × Int)))) (r:=some (if bo (crQ d (QH d f) f L M (gx M i))=true then Sum.inl () else Sum.inr (false,0))) (fun c a hc ha=>?_)
  ·rw [this];rfl
  simp only;cases hF:(L.filter fun p=>bo (img p f=gx M i)) with
  | nil =>
   have hn:¬ crQ d (QH d f) f L M (gx M i):=fun q=>by
    obtain ⟨p,q1,_⟩:=q hu;rw [hF] at q1;cases q1
   rw [hF] at hc;rw [if_pos (by rw [hc];simp),Qv hn];simp
  | cons p ps =>
   cases ps with
   | cons p2 ps =>
    have hn:¬ crQ d (QH d f) f L M (gx M i):=fun q=>by
     obtain ⟨p,q1,_⟩:=q hu;rw [hF] at q1;cases q1
    rw [hF] at hc;rw [if_pos (by rw [hc];simp;omega),Qv hn];simp
   | nil =>
    obtain ⟨a1,a2,a3⟩:=ha p hF;have hp:p.G d:=mem_gl hL (List.mem_filter.1 (by rw [hF];simp:p∈L.filter fun p=>bo (img p f=gx M i))).1;have hcc:bo (crQ d (QH d f) f L M (gx M i))=bo (unv d L p):=by
     congr 1
     apply propext;refine ⟨fun q=>?_,fun q _=>⟨p,hF,q⟩⟩;obtain ⟨p',q1,q2⟩:=q hu;rw [hF] at q1;cases q1;exact q2
    rw [hF] at hc;rw [if_neg (by rw [hc];simp),Q4 ⟨a1,a2⟩,a3,(Q8e hd hL hp).1,hcc];cases bo (unv d L p)<;>simp
 refine Q19 M.length (fun i=>crQ d (QH d f) f L M (gx M i)) (eb:=Sum.inr (false,0)) (eg:=Sum.inl ()) (by omega) (fun i hi hs=>?_) (fun i hi hs=>?_) (by simp) (fun q=>by rw [Qv (p:=Crea d (QH d f) f L M) q]) fun q=>by rw [QC (p:=Crea d (QH d f) f L M) q]
 ·have hi2:(i:Int)<(M.length:Int):=by omega
  rw [if_pos hi2,step i hi,QC hs];simp only [if_true];rw [Q4 (by unfold B64;omega)]
 have hi2:(i:Int)<(M.length:Int):=by omega
 rw [if_pos hi2,step i hi,Qv hs];simp
end
attribute [local simp] unk unA unE unT unC flat eL eI Qo QR Q1l QS Cat.cells Fn.cells XMoved.cells
noncomputable def Q1q (d_:Fn) (f_:Fn):Option (Bool × Int) :=
 (
  (
   (QT [d_,f_]).bind fun v3 =>
   if ¬ (v3=true) then
    some (Sum.inl 1)
   else
    (QL d_.t f_.s).bind fun v5 =>
    if ¬ (v5=true) then
     some (Sum.inl 5)
    else
     (
      some ():Option (Unit)).bind fun b7 =>
     (Q2z d_ f_).bind fun v8 =>
     if ¬ (v8.2=true) then
      some (Sum.inl 3)
     else
      some (Sum.inr (v8.1.d_.s.n,v8.1.d_.s.fr,v8.1.d_.s.to,v8.1.d_.s.id,v8.1.d_.s.cs,v8.1.d_.t.n,v8.1.d_.t.fr,v8.1.d_.t.to,v8.1.d_.t.id,v8.1.d_.t.cs,v8.1.d_.ob,v8.1.d_.ar,v8.1.image_.s.n,v8.1.image_.s.fr,v8.1.image_.s.to,v8.1.image_.s.id,v8.1.image_.s.cs,v8.1.image_.t.n,v8.1.image_.t.fr,v8.1.image_.t.to,v8.1.image_.t.id,v8.1.image_.t.cs,v8.1.image_.ob,v8.1.image_.ar,v8.1.f_.s.n,v8.1.f_.s.fr,v8.1.f_.s.to,v8.1.f_.s.id,v8.1.f_.s.cs,v8.1.f_.t.n,v8.1.f_.t.fr,v8.1.f_.t.to,v8.1.f_.t.id,v8.1.f_.t.cs,v8.1.f_.ob,v8.1.f_.ar,v8.1.all_,v8.1.more_)):Option (Int ⊕ (Int × List Int × List Int × List Int × List (List Int) × Int × List Int × List Int × List Int × List (List Int) × List Int × List Int × Int × List Int × List Int × List Int × List (List Int) × Int × List Int × List Int × List Int × List (List Int) × List Int × List Int × Int × List Int × List Int × List Int × List (List Int) × Int × List Int × List Int × List Int × List (List Int) × List Int × List Int × List Cone × List Cone))).bind fun v10 =>
  match v10 with
  | .inl v10 =>
   if ¬ (v10=0) then
    some (false,v10)
   else
    ass (False) <|
    none
  | .inr v10 =>
   (QQ (⟨(⟨(⟨v10.1,v10.2.1,v10.2.2.1,v10.2.2.2.1,v10.2.2.2.2.1⟩:Cat),(⟨v10.2.2.2.2.2.1,v10.2.2.2.2.2.2.1,v10.2.2.2.2.2.2.2.1,v10.2.2.2.2.2.2.2.2.1,v10.2.2.2.2.2.2.2.2.2.1⟩:Cat),v10.2.2.2.2.2.2.2.2.2.2.1,v10.2.2.2.2.2.2.2.2.2.2.2.1⟩:Fn),(⟨(⟨v10.2.2.2.2.2.2.2.2.2.2.2.2.1,v10.2.2.2.2.2.2.2.2.2.2.2.2.2.1,v10.2.2.2.2.2.2.2.2.2.2.2.2.2.2.1,v10.2.2.2.2.2.2.2.2.2.2.2.2.2.2.2.1,v10.2.2.2.2.2.2.2.2.2.2.2.2.2.2.2.2.1⟩:Cat),(⟨v10.2.2.2.2.2.2.2.2.2.2.2.2.2.2.2.2.2.1,v10.2.2.2.2.2.2.2.2.2.2.2.2.2.2.2.2.2.2.1,v10.2.2.2.2.2.2.2.2.2.2.2.2.2.2.2.2.2.2.2.1,v10.2.2.2.2.2.2.2.2.2.2.2.2.2.2.2.2.2.2.2.2.1,v10.2.2.2.2.2.2.2.2.2.2.2.2.2.2.2.2.2.2.2.2.2.1⟩:Cat),v10.2.2.2.2.2.2.2.2.2.2.2.2.2.2.2.2.2.2.2.2.2.2.1,v10.2.2.2.2.2.2.2.2.2.2.2.2.2.2.2.2.2.2.2.2.2.2.2.1⟩:Fn),(⟨(⟨v10.2.2.2.2.2.2.2.2.2.2.2.2.2.2.2.2.2.2.2.2.2.2.2.2.1,v10.2.2.2.2.2.2.2.2.2.2.2.2.2.2.2.2.2.2.2.2.2.2.2.2.2.1,v10.2.2.2.2.2.2.2.2.2.2.2.2.2.2.2.2.2.2.2.2.2.2.2.2.2.2.1,v10.2.2.2.2.2.2.2.2.2.2.2.2.2.2.2.2.2.2.2.2.2.2.2.2.2.2.2.1,v10.2.2.2.2.2.2.2.2.2.2.2.2.2.2.2.2.2.2.2.2.2.2.2.2.2.2.2.2.1⟩:Cat),(⟨v10.2.2.2.2.2.2.2.2.2.2.2.2.2.2.2.2.2.2.2.2.2.2.2.2.2.2.2.2.2.1,v10.2.2.2.2.2.2.2.2.2.2.2.2.2.2.2.2.2.2.2.2.2.2.2.2.2.2.2.2.2.2.1,v10.2.2.2.2.2.2.2.2.2.2.2.2.2.2.2.2.2.2.2.2.2.2.2.2.2.2.2.2.2.2.2.1,v10.2.2.2.2.2.2.2.2.2.2.2.2.2.2.2.2.2.2.2.2.2.2.2.2.2.2.2.2.2.2.2.2.1,v10.2.2.2.2.2.2.2.2.2.2.2.2.2.2.2.2.2.2.2.2.2.2.2.2.2.2.2.2.2.2.2.2.2.1⟩:Cat),v10.2.2.2.2.2.2.2.2.2.2.2.2.2.2.2.2.2.2.2.2.2.2.2.2.2.2.2.2.2.2.2.2.2.2.1,v10.2.2.2.2.2.2.2.2.2.2.2.2.2.2.2.2.2.2.2.2.2.2.2.2.2.2.2.2.2.2.2.2.2.2.2.1⟩:Fn),v10.2.2.2.2.2.2.2.2.2.2.2.2.2.2.2.2.2.2.2.2.2.2.2.2.2.2.2.2.2.2.2.2.2.2.2.2.1,v10.2.2.2.2.2.2.2.2.2.2.2.2.2.2.2.2.2.2.2.2.2.2.2.2.2.2.2.2.2.2.2.2.2.2.2.2.2⟩:XMoved)).bind fun v12 =>
   some (v12,0):Option (Bool × Int)).bind fun v13 =>
 some (v13.1,v13.2)
@[simp] abbrev Y0q (a:XMoved × Bool) (b:List (AV)):List (AV):=iV a.1.d_.s.n::lI a.1.d_.s.fr::lI a.1.d_.s.to::lI a.1.d_.s.id::.lst true 1 (Ls a.1.d_.s.cs)::iV a.1.d_.t.n::lI a.1.d_.t.fr::lI a.1.d_.t.to::lI a.1.d_.t.id::.lst true 1 (Ls a.1.d_.t.cs)::lI a.1.d_.ob::lI a.1.d_.ar::iV a.1.image_.s.n::lI a.1.image_.s.fr::lI a.1.image_.s.to::lI a.1.image_.s.id::.lst true 1 (Ls a.1.image_.s.cs)::iV a.1.image_.t.n::lI a.1.image_.t.fr::lI a.1.image_.t.to::lI a.1.image_.t.id::.lst true 1 (Ls a.1.image_.t.cs)::lI a.1.image_.ob::lI a.1.image_.ar::.rptr (Fn.cells true a.1.f_)::.lst true 2 (Es (Cone.cells true) a.1.all_)::.lst true 2 (Es (Cone.cells true) a.1.more_)::b
@[simp] abbrev Yf (a:XMoved × Bool) (b:List (Nat × AV)):List (Nat × AV):=(6,.rptr (Y0q a []))::(7,iV 0)::b
@[simp] abbrev Y09 (a:List (Nat × AV)):List (Nat × AV):=(6,.val (.pointer none))::a
theorem Q4r (d_:Fn) (f_:Fn) (r:Bool × Int) (h:Q1q d_ f_=some r):Contract Try.prog 8 (Y0u d_ f_ []) (.tup [.val (.bool r.1),iV r.2]):=by
 refine Q8 (rvs:=[.tmp 4,.tmp 5]) (rs:=[.val (.bool r.1),iV r.2]) Try.func8 rfl rfl rfl rfl (by simp [Try.f8]) fun F hN hP=>?_;unfold Q1q at h;refine Q0 (Qk [2,3] mo (by rw [hN];decide) fun K hK=>?_);simp;repeat refine sdQ ?_
 refine hK _ ?_;clear hK K;refine tn (Q3 (st':=⟨(2,.rptr (Fn.cells true d_))::YS f_ [],[],0⟩) (Q2d []) (Q0 (Q2h [] mo (by rw [hN];decide) fun K hK=>?_)));simp;repeat with_reducible refine sdQ ?_
 replace ⟨v13,hv13,h⟩:=bind_some h;refine Q2j (fz:=[]) (Q1U (ts:=[8,9]) (e:={ v:=.tup [.val (.bool v13.1),iV v13.2],set:=[],del:=[],new:=[],cnt:=0 }) Try.func18 rfl rfl rfl (by simp [Try.f18]) (by simp) (Q50 (by simp)) (newI (by rfl)) fun F hN hP=>?_) ?_
 ·clear h;have h:=hv13;clear hv13;refine Q0 (Qk [] mo (by rw [hN];decide) fun K hK=>?_);simp;repeat refine sdQ ?_
  refine hK _ ?_;clear hK K;refine tn (Q3 (st':=⟨Yo d_ (YJ f_ (YU [(3,.fn 19 [])])),[],0⟩) (Q2d []) (Q0 (Q2h [] mo (by rw [hN];decide) fun K hK=>?_)));simp;repeat with_reducible refine sdQ ?_
  replace ⟨v10,hv10,h⟩:=bind_some h;refine Q2j (fz:=[]) (Q1U (ts:=[6,7]) (e:=(match (generalizing:=false) v10 with|.inl v10=>{ v:=.tup [.val (.pointer none),iV v10],set:=[],del:=[],new:=[],cnt:=0 }|.inr v10=>{ v:=.tup [.rptr [iV v10.1,lI v10.2.1,lI v10.2.2.1,lI v10.2.2.2.1,.lst true 1 (Ls v10.2.2.2.2.1),iV v10.2.2.2.2.2.1,lI v10.2.2.2.2.2.2.1,lI v10.2.2.2.2.2.2.2.1,lI v10.2.2.2.2.2.2.2.2.1,.lst true 1 (Ls v10.2.2.2.2.2.2.2.2.2.1),lI v10.2.2.2.2.2.2.2.2.2.2.1,lI v10.2.2.2.2.2.2.2.2.2.2.2.1,iV v10.2.2.2.2.2.2.2.2.2.2.2.2.1,lI v10.2.2.2.2.2.2.2.2.2.2.2.2.2.1,lI v10.2.2.2.2.2.2.2.2.2.2.2.2.2.2.1,lI v10.2.2.2.2.2.2.2.2.2.2.2.2.2.2.2.1,.lst true 1 (Ls v10.2.2.2.2.2.2.2.2.2.2.2.2.2.2.2.2.1),iV v10.2.2.2.2.2.2.2.2.2.2.2.2.2.2.2.2.2.1,lI v10.2.2.2.2.2.2.2.2.2.2.2.2.2.2.2.2.2.2.1,lI v10.2.2.2.2.2.2.2.2.2.2.2.2.2.2.2.2.2.2.2.1,lI v10.2.2.2.2.2.2.2.2.2.2.2.2.2.2.2.2.2.2.2.2.1,.lst true 1 (Ls v10.2.2.2.2.2.2.2.2.2.2.2.2.2.2.2.2.2.2.2.2.2.1),lI v10.2.2.2.2.2.2.2.2.2.2.2.2.2.2.2.2.2.2.2.2.2.2.1,lI v10.2.2.2.2.2.2.2.2.2.2.2.2.2.2.2.2.2.2.2.2.2.2.2.1,.rptr [iV v10.2.2.2.2.2.2.2.2.2.2.2.2.2.2.2.2.2.2.2.2.2.2.2.2.1,lI v10.2.2.2.2.2.2.2.2.2.2.2.2.2.2.2.2.2.2.2.2.2.2.2.2.2.1,lI v10.2.2.2.2.2.2.2.2.2.2.2.2.2.2.2.2.2.2.2.2.2.2.2.2.2.2.1,lI v10.2.2.2.2.2.2.2.2.2.2.2.2.2.2.2.2.2.2.2.2.2.2.2.2.2.2.2.1,.lst true 1 (Ls v10.2.2.2.2.2.2.2.2.2.2.2.2.2.2.2.2.2.2.2.2.2.2.2.2.2.2.2.2.1),iV v10.2.2.2.2.2.2.2.2.2.2.2.2.2.2.2.2.2.2.2.2.2.2.2.2.2.2.2.2.2.1,lI v10.2.2.2.2.2.2.2.2.2.2.2.2.2.2.2.2.2.2.2.2.2.2.2.2.2.2.2.2.2.2.1,lI v10.2.2.2.2.2.2.2.2.2.2.2.2.2.2.2.2.2.2.2.2.2.2.2.2.2.2.2.2.2.2.2.1,lI v10.2.2.2.2.2.2.2.2.2.2.2.2.2.2.2.2.2.2.2.2.2.2.2.2.2.2.2.2.2.2.2.2.1,.lst true 1 (Ls v10.2.2.2.2.2.2.2.2.2.2.2.2.2.2.2.2.2.2.2.2.2.2.2.2.2.2.2.2.2.2.2.2.2.1),lI v10.2.2.2.2.2.2.2.2.2.2.2.2.2.2.2.2.2.2.2.2.2.2.2.2.2.2.2.2.2.2.2.2.2.2.1,lI v10.2.2.2.2.2.2.2.2.2.2.2.2.2.2.2.2.2.2.2.2.2.2.2.2.2.2.2.2.2.2.2.2.2.2.2.1],.lst true 2 (Es (Cone.cells true) v10.2.2.2.2.2.2.2.2.2.2.2.2.2.2.2.2.2.2.2.2.2.2.2.2.2.2.2.2.2.2.2.2.2.2.2.2.1),.lst true 2 (Es (Cone.cells true) v10.2.2.2.2.2.2.2.2.2.2.2.2.2.2.2.2.2.2.2.2.2.2.2.2.2.2.2.2.2.2.2.2.2.2.2.2.2)],iV 0],set:=[],del:=[],new:=[],cnt:=0 })) Try.func32 rfl rfl rfl (by simp [Try.f32]) (by simp) (Q50 (by rcases v10 with v10|v10<;>simp)) (newI (by rcases v10 with v10|v10<;>rfl)) fun F hN hP=>?_) ?_
  ·clear h;have h:=hv10;clear hv10;refine Q0 (Qk [] mo (by rw [hN];decide) fun K hK=>?_);simp;(repeat refine sdQ ?_);refine hK _ ?_;clear hK K;refine tn (Q3 (st':=⟨Yo d_ (YJ f_ (YU [])),[],0⟩) (Q2d []) (Q0 (Q0 (Qk [] mo (by rw [hN];decide) fun K hK=>?_))));simp;(repeat with_reducible refine sdQ ?_);replace ⟨v3,hv3,h⟩:=bind_some h;refine QD (fz:=[]) (Q5n _ v3 hv3) (.cons (.lits (es:=_) rfl (.cons rfl (.cons (.preT (by simp [Fn.cells])) .nil) (.cons rfl (.cons (.preT (by simp [Fn.cells])) .nil) .nil)) rfl) .nil) ?_;simp;(repeat refine sdQ ?_);refine hK _ ?_;clear hK K;refine tn (Q3 (st':=⟨Yo d_ (YJ f_ (YU [(16,.val (.bool (!v3)))])),[],0⟩) (Q2d []) (Q6 rfl (fun g=>?_) fun g=>?_))
   ·have g4:¬ (v3=true):=gQ;clear g;replace h:=if_l g4 h;refine Q0 (Qk [] mo (by rw [hN];decide) fun K hK=>?_);simp;(repeat refine sdQ ?_);refine hK _ (tn (Q3 (st':=⟨Y09 [(7,iV 1)],[],0⟩) (Q2d []) (Qe (tr ?_))));clear hK K;cases h;(try dsimp only);first|refine iw_r (st':=⟨Y09 [(7,iV 1)],[],0⟩) ?_ ?_|refine iw_n (st':=⟨Y09 [(7,iV 1)],[],0⟩) ?_ ?_
    ·exact Wk.r1 [] (by simp [hP,hhOk,back,Cat.cells,Fn.cells,XMoved.cells,UA,U1,IA,I1,LA,L1,BA,B1,EA,E1,E2,eB,eI,eL,Qa _ QS _ (fun _=>rfl),Qa _ (Cone.cells true) _ (fun _=>rfl)])
    exact ⟨by simp [Qs],by simp,by simp [Cat.cells,Fn.cells,XMoved.cells]⟩
   have g4:¬ (¬ (v3=true)):=gQ;clear g;replace h:=if_r g4 h;refine Q7 (tn (Q0 (Q0 (Qk [] mo (by rw [hN];decide) fun K hK=>?_))));simp;(repeat with_reducible refine sdQ ?_);replace ⟨v5,hv5,h⟩:=bind_some h;refine QD (fz:=[]) (Q4N _ _ v5 hv5) (.cons (.preT (by simp [Cat.cells,Fn.cells])) (.cons (.preT (by simp [Cat.cells,Fn.cells])) .nil)) ?_;simp;(repeat refine sdQ ?_);refine hK _ ?_;clear hK K;refine tn (Q3 (st':=⟨Yo d_ (YJ f_ (YU [(24,.val (.bool (!v5)))])),[],0⟩) (Q2d []) (Q6 rfl (fun g=>?_) fun g=>?_))
   ·have g6:¬ (v5=true):=gQ;clear g;replace h:=if_l g6 h;refine Q0 (Qk [] mo (by rw [hN];decide) fun K hK=>?_);simp;(repeat refine sdQ ?_);refine hK _ (tn (Q3 (st':=⟨Y09 [(7,iV 5)],[],0⟩) (Q2d []) (Qe (tr ?_))));clear hK K;cases h;(try dsimp only);first|refine iw_r (st':=⟨Y09 [(7,iV 5)],[],0⟩) ?_ ?_|refine iw_n (st':=⟨Y09 [(7,iV 5)],[],0⟩) ?_ ?_
    ·exact Wk.r1 [] (by simp [hP,hhOk,back,Cat.cells,Fn.cells,XMoved.cells,UA,U1,IA,I1,LA,L1,BA,B1,EA,E1,E2,eB,eI,eL,Qa _ QS _ (fun _=>rfl),Qa _ (Cone.cells true) _ (fun _=>rfl)])
    exact ⟨by simp [Qs],by simp,by simp [Cat.cells,Fn.cells,XMoved.cells]⟩
   have g6:¬ (¬ (v5=true)):=gQ;clear g;replace h:=if_r g6 h;refine Q7 (tn (Q0 (Q0 (Qk [] mo (by rw [hN];decide) fun K hK=>?_))));simp;(repeat refine sdQ ?_);refine hK _ (tn ?_);clear hK K;replace ⟨e7,h,h7⟩:=bind_some h;refine Qd (fun b7:Unit=>⟨Yo d_ (YJ f_ []),[],0⟩) (fun b7=>b7=e7) ?_ ?_
   ·refine Q6 rfl (fun g=>by simp at g) fun _=>?_;refine Q7 ?_;exact jn (b:=()) (Option.some.inj h) (Q2d [])
   intro b7 hb7;have h:=h7;(try rw [← hb7] at h);clear h7;(try dsimp only at h);refine Q0 (Qk [] mo (by rw [hN];decide) fun K hK=>?_);simp;(repeat with_reducible refine sdQ ?_);replace ⟨v8,hv8,h⟩:=bind_some h;refine Q2O (fz:=[]) true (Q7W _ _ v8 hv8) (PurK.ofN (.cons (.preT (by simp [Cat.cells,Fn.cells])) (.cons (.preT (by simp [Cat.cells,Fn.cells])) .nil))) ?_;simp;(repeat refine sdQ ?_);refine hK _ ?_;clear hK K;refine tn (Q3 (st':=⟨[(10,.rptr (Y0q v8 [])),(11,.val (.bool v8.2))],[],0⟩) (Q2d []) (Q0 (Q0 (Qk [] mo (by rw [hN];decide) fun K hK=>?_))));simp;(repeat refine sdQ ?_);refine hK _ ?_;clear hK K;refine tn (Q6 rfl (fun g=>?_) fun g=>?_)
   ·have g9:¬ (v8.2=true):=gQ;clear g;replace h:=if_l g9 h;refine Q0 (Qk [] mo (by rw [hN];decide) fun K hK=>?_);simp;(repeat refine sdQ ?_);refine hK _ (tn (Q3 (st':=⟨Y09 [(7,iV 3)],[],0⟩) (Q2d []) (Qe (tr ?_))));clear hK K;cases h;(try dsimp only);first|refine iw_r (st':=⟨Y09 [(7,iV 3)],[],0⟩) ?_ ?_|refine iw_n (st':=⟨Y09 [(7,iV 3)],[],0⟩) ?_ ?_
    ·exact Wk.r1 [] (by simp [hP,hhOk,back,Cat.cells,Fn.cells,XMoved.cells,UA,U1,IA,I1,LA,L1,BA,B1,EA,E1,E2,eB,eI,eL,Qa _ QS _ (fun _=>rfl),Qa _ (Cone.cells true) _ (fun _=>rfl)])
    exact ⟨by simp [Qs],by simp,by simp [Cat.cells,Fn.cells,XMoved.cells]⟩
   have g9:¬ (¬ (v8.2=true)):=gQ;clear g;replace h:=if_r g9 h;refine Q7 (tn (Q0 (Qk [] mo (by rw [hN];decide) fun K hK=>?_)));simp;(repeat refine sdQ ?_);refine hK _ (tn (Q3 (st':=⟨Yf v8 [],[],0⟩) (Q2d []) (Qe ?_)));clear hK K;cases h;(try dsimp only);first|refine iw_r (st':=⟨Yf v8 [],[],0⟩) ?_ ?_|refine iw_n (st':=⟨Yf v8 [],[],0⟩) ?_ ?_
   ·exact Wk.r1 [] (by simp [hP,hhOk,back,Cat.cells,Fn.cells,XMoved.cells,UA,U1,IA,I1,LA,L1,BA,B1,EA,E1,E2,eB,eI,eL,Qa _ QS _ (fun _=>rfl),Qa _ (Cone.cells true) _ (fun _=>rfl)])
   exact ⟨by simp [Qs,Cat.cells,Fn.cells,XMoved.cells],by simp,by simp [Cat.cells,Fn.cells,XMoved.cells]⟩
  clear hv10;rcases v10 with v10|v10
  ·(try dsimp only at h);(try dsimp only);simp;(repeat refine sdQ ?_);refine hK _ ?_;clear hK K;refine tn (Q3 (st':=⟨[(3,.fn 19 []),(10,.val (.pointer none)),(11,iV v10)],[],0⟩) (Q2d []) (Q0 (Q0 (Qk [] mo (by rw [hN];decide) fun K hK=>?_))));simp;(repeat refine sdQ ?_);refine hK _ ?_;clear hK K;refine tn (Q6 rfl (fun g=>?_) fun g=>?_)
   ·have g11:¬ (v10=0):=gQ;clear g;replace h:=if_l g11 h;refine Q0 (Qk [] mo (by rw [hN];decide) fun K hK=>?_);simp;(repeat refine sdQ ?_);refine hK _ (tn (Q3 (st':=⟨[(8,.val (.bool false)),(9,iV v10)],[],0⟩) (Q2d []) (Qe (tr ?_))));clear hK K;cases h;first|refine iw_r (st':=⟨[(8,.val (.bool false)),(9,iV v10)],[],0⟩) ?_ ?_|refine iw_n (st':=⟨[(8,.val (.bool false)),(9,iV v10)],[],0⟩) ?_ ?_
    ·exact Wk.r1 [] (by simp [hP,hhOk,back,Cat.cells,Fn.cells,XMoved.cells,UA,U1,IA,I1,LA,L1,BA,B1,EA,E1,E2,eB,eI,eL,Qa _ QS _ (fun _=>rfl),Qa _ (Cone.cells true) _ (fun _=>rfl)])
    exact ⟨by simp [Qs],by simp,by simp [Cat.cells,Fn.cells,XMoved.cells]⟩
   have g11:¬ (¬ (v10=0)):=gQ;clear g;replace h:=if_r g11 h;refine Q7 (tn (Q0 (Qk [] mo (by rw [hN];decide) fun K hK=>?_)));exact (Q2 h).1.elim
  try dsimp only at h
  try dsimp only
  simp;repeat refine sdQ ?_
  refine hK _ ?_;clear hK K;refine tn (Q3 (st':=⟨[(3,.fn 19 []),(10,.rptr [iV v10.1,lI v10.2.1,lI v10.2.2.1,lI v10.2.2.2.1,.lst true 1 (Ls v10.2.2.2.2.1),iV v10.2.2.2.2.2.1,lI v10.2.2.2.2.2.2.1,lI v10.2.2.2.2.2.2.2.1,lI v10.2.2.2.2.2.2.2.2.1,.lst true 1 (Ls v10.2.2.2.2.2.2.2.2.2.1),lI v10.2.2.2.2.2.2.2.2.2.2.1,lI v10.2.2.2.2.2.2.2.2.2.2.2.1,iV v10.2.2.2.2.2.2.2.2.2.2.2.2.1,lI v10.2.2.2.2.2.2.2.2.2.2.2.2.2.1,lI v10.2.2.2.2.2.2.2.2.2.2.2.2.2.2.1,lI v10.2.2.2.2.2.2.2.2.2.2.2.2.2.2.2.1,.lst true 1 (Ls v10.2.2.2.2.2.2.2.2.2.2.2.2.2.2.2.2.1),iV v10.2.2.2.2.2.2.2.2.2.2.2.2.2.2.2.2.2.1,lI v10.2.2.2.2.2.2.2.2.2.2.2.2.2.2.2.2.2.2.1,lI v10.2.2.2.2.2.2.2.2.2.2.2.2.2.2.2.2.2.2.2.1,lI v10.2.2.2.2.2.2.2.2.2.2.2.2.2.2.2.2.2.2.2.2.1,.lst true 1 (Ls v10.2.2.2.2.2.2.2.2.2.2.2.2.2.2.2.2.2.2.2.2.2.1),lI v10.2.2.2.2.2.2.2.2.2.2.2.2.2.2.2.2.2.2.2.2.2.2.1,lI v10.2.2.2.2.2.2.2.2.2.2.2.2.2.2.2.2.2.2.2.2.2.2.2.1,.rptr [iV v10.2.2.2.2.2.2.2.2.2.2.2.2.2.2.2.2.2.2.2.2.2.2.2.2.1,lI v10.2.2.2.2.2.2.2.2.2.2.2.2.2.2.2.2.2.2.2.2.2.2.2.2.2.1,lI v10.2.2.2.2.2.2.2.2.2.2.2.2.2.2.2.2.2.2.2.2.2.2.2.2.2.2.1,lI v10.2.2.2.2.2.2.2.2.2.2.2.2.2.2.2.2.2.2.2.2.2.2.2.2.2.2.2.1,.lst true 1 (Ls v10.2.2.2.2.2.2.2.2.2.2.2.2.2.2.2.2.2.2.2.2.2.2.2.2.2.2.2.2.1),iV v10.2.2.2.2.2.2.2.2.2.2.2.2.2.2.2.2.2.2.2.2.2.2.2.2.2.2.2.2.2.1,lI v10.2.2.2.2.2.2.2.2.2.2.2.2.2.2.2.2.2.2.2.2.2.2.2.2.2.2.2.2.2.2.1,lI v10.2.2.2.2.2.2.2.2.2.2.2.2.2.2.2.2.2.2.2.2.2.2.2.2.2.2.2.2.2.2.2.1,lI v10.2.2.2.2.2.2.2.2.2.2.2.2.2.2.2.2.2.2.2.2.2.2.2.2.2.2.2.2.2.2.2.2.1,.lst true 1 (Ls v10.2.2.2.2.2.2.2.2.2.2.2.2.2.2.2.2.2.2.2.2.2.2.2.2.2.2.2.2.2.2.2.2.2.1),lI v10.2.2.2.2.2.2.2.2.2.2.2.2.2.2.2.2.2.2.2.2.2.2.2.2.2.2.2.2.2.2.2.2.2.2.1,lI v10.2.2.2.2.2.2.2.2.2.2.2.2.2.2.2.2.2.2.2.2.2.2.2.2.2.2.2.2.2.2.2.2.2.2.2.1],.lst true 2 (Es (Cone.cells true) v10.2.2.2.2.2.2.2.2.2.2.2.2.2.2.2.2.2.2.2.2.2.2.2.2.2.2.2.2.2.2.2.2.2.2.2.2.1),.lst true 2 (Es (Cone.cells true) v10.2.2.2.2.2.2.2.2.2.2.2.2.2.2.2.2.2.2.2.2.2.2.2.2.2.2.2.2.2.2.2.2.2.2.2.2.2)]),(11,iV 0)],[],0⟩) (Q2d []) (Q0 (Q0 (Qk [] mo (by rw [hN];decide) fun K hK=>?_))));simp;repeat refine sdQ ?_
  refine hK _ (tn (Q6 rfl (fun g=>by simp at g) fun _=>?_));clear hK K;refine Q7 (tn (Q0 (Qk [] mo (by rw [hN];decide) fun K hK=>?_)));simp;repeat with_reducible refine sdQ ?_
  replace ⟨v12,hv12,h⟩:=bind_some h;refine QD (fz:=[]) (Q4t _ v12 hv12) (.cons (.preT (by simp [Cat.cells,Fn.cells,XMoved.cells])) .nil) ?_;simp;repeat refine sdQ ?_
  refine hK _ (tn (Q3 (st':=⟨[(8,.val (.bool v12)),(9,iV 0)],[],0⟩) (Q2d []) (Qe ?_)));clear hK K;cases h;first|refine iw_r (st':=⟨[(8,.val (.bool v12)),(9,iV 0)],[],0⟩) ?_ ?_|refine iw_n (st':=⟨[(8,.val (.bool v12)),(9,iV 0)],[],0⟩) ?_ ?_
  ·exact Wk.r1 [] (by simp [hP,hhOk,back,Cat.cells,Fn.cells,XMoved.cells,UA,U1,IA,I1,LA,L1,BA,B1,EA,E1,E2,eB,eI,eL,Qa _ QS _ (fun _=>rfl),Qa _ (Cone.cells true) _ (fun _=>rfl)])
  exact ⟨by simp [Qs],by simp,by simp [Cat.cells,Fn.cells,XMoved.cells]⟩
 simp;repeat refine sdQ ?_
 refine hK _ (tn (Q3 (st':=⟨[(4,.val (.bool v13.1)),(5,iV v13.2)],[],0⟩) (Q2d []) (Qe ?_)));clear hK K;have hr:=Option.some.inj h;rw [← hr];refine ⟨_,(.tmp (.tmp .nil)),?_⟩;refine ⟨(.one rfl rfl (.one rfl rfl .nil)),[.val (.bool v13.1),iV v13.2],[],by simp [Cat.cells,Fn.cells,XMoved.cells,UA,U1,IA,I1,LA,L1,BA,B1,EA,E1,E2,eB,eI,eL,Qa _ QS _ (fun _=>rfl),Qa _ (Cone.cells true) _ (fun _=>rfl)],by simp,(UpL.refl _)⟩
attribute [local simp] unk unA unE unT unC flat eL eI Qo Q1l Fn.cells
noncomputable def Q1r (d_:Fn) (f_:Fn):Option (Bool × Int) :=
 (Q1G d_ f_).bind fun v1 =>
 if ¬ (v1.2=0) then
  some (false,v1.2)
 else
  (Q1x d_ v1.1 f_).bind fun v3 =>
  some (v3.1,v3.2)
theorem Q4u (d_:Fn) (f_:Fn) (r:Bool × Int) (h:Q1r d_ f_=some r):Contract Try.prog 6 (Y0u d_ f_ []) (.tup [.val (.bool r.1),iV r.2]):=by
 refine Q8 (rvs:=[.tmp 4,.tmp 5]) (rs:=[.val (.bool r.1),iV r.2]) Try.func6 rfl rfl rfl rfl (by simp [Try.f6]) fun F hN hP=>?_;unfold Q1r at h;refine Q0 (runQ hN fun K hK=>?_);simp;repeat refine sdQ ?_
 refine hK _ ?_;clear hK K;refine tn (Q3 (st':=⟨YN [],Y4 d_ f_ [],2⟩) (Q2d [(0,0),(1,1)]) (Q0 (runQ hN fun K hK=>?_)));simp;repeat with_reducible refine sdQ ?_
 replace ⟨v1,hv1,h⟩:=bind_some h;refine Q1 (Q85 _ _ v1 hv1) (.cons (.aggL (.cons .val (.cons .lst (.cons .lst (.cons .lst (.cons .lst (.cons .val (.cons .lst (.cons .lst (.cons .lst (.cons .lst (.cons .lst (.cons .lst .nil))))))))))))) (.cons (.aggL (.cons .val (.cons .lst (.cons .lst (.cons .lst (.cons .lst (.cons .val (.cons .lst (.cons .lst (.cons .lst (.cons .lst (.cons .lst (.cons .lst .nil))))))))))))) .nil)) ?_;simp;repeat refine sdQ ?_
 refine hK _ ?_;clear hK K;refine tn (Q3 (st':=⟨YN [(6,.adr 2 0 0),(7,iV v1.2)],Y4 d_ f_ [(2,.mix 12 [[iV v1.1.s.n,.own 3 0 v1.1.s.fr.length,.own 4 0 v1.1.s.to.length,.own 5 0 v1.1.s.id.length,.own 6 0 v1.1.s.cs.length,iV v1.1.t.n,.own 7 0 v1.1.t.fr.length,.own 8 0 v1.1.t.to.length,.own 9 0 v1.1.t.id.length,.own 10 0 v1.1.t.cs.length,.own 11 0 v1.1.ob.length,.own 12 0 v1.1.ar.length]]),(3,rI v1.1.s.fr),(4,rI v1.1.s.to),(5,rI v1.1.s.id),(6,.row 1 (Ls v1.1.s.cs)),(7,rI v1.1.t.fr),(8,rI v1.1.t.to),(9,rI v1.1.t.id),(10,.row 1 (Ls v1.1.t.cs)),(11,rI v1.1.ob),(12,rI v1.1.ar)],13⟩) (Q2d [(0,0),(1,1),(15,2),(3,3),(4,4),(5,5),(6,6),(8,7),(9,8),(10,9),(11,10),(12,11),(13,12)]) (Q0 (Q0 (runQ hN fun K hK=>?_))));simp;repeat refine sdQ ?_
 refine hK _ ?_;clear hK K;refine tn (Q6 rfl (fun g=>?_) fun g=>?_)
 ·have g2:¬ (v1.2=0):=gQ;clear g;replace h:=if_l g2 h;refine Q0 (runQ hN fun K hK=>?_);simp;repeat refine sdQ ?_
  refine hK _ (tn (Q3 (st':=⟨[(4,.val (.bool false)),(5,iV v1.2)],[],0⟩) (Q2d []) (Qe (tr ?_))));clear hK K;have hr:=Option.some.inj h;rw [← hr];refine ⟨_,(.tmp (.tmp .nil)),?_⟩;refine ⟨(.one rfl rfl (.one rfl rfl .nil)),[.val (.bool false),iV v1.2],[],by simp [Fn.cells,UA,U1,IA,I1,LA,L1,BA,B1,EA,E1,E2,eB,eI,eL],by simp,(UpL.refl _)⟩
 have g2:¬ (¬ (v1.2=0)):=gQ;clear g;replace h:=if_r g2 h;refine Q7 (tn (Q0 (runQ hN fun K hK=>?_)));simp;repeat with_reducible refine sdQ ?_
 replace ⟨v3,hv3,h⟩:=bind_some h;refine Q1 (Q5C _ _ _ v3 hv3) (.cons (.aggL (.cons .val (.cons .lst (.cons .lst (.cons .lst (.cons .lst (.cons .val (.cons .lst (.cons .lst (.cons .lst (.cons .lst (.cons .lst (.cons .lst .nil))))))))))))) (.cons (.aggL (.cons .val (.cons .w (.cons .w (.cons .w (.cons .w (.cons .val (.cons .w (.cons .w (.cons .w (.cons .w (.cons .w (.cons .w .nil))))))))))))) (.cons (.aggL (.cons .val (.cons .lst (.cons .lst (.cons .lst (.cons .lst (.cons .val (.cons .lst (.cons .lst (.cons .lst (.cons .lst (.cons .lst (.cons .lst .nil))))))))))))) .nil))) ?_;simp;repeat refine sdQ ?_
 refine hK _ ?_;clear hK K;refine tn (Q3 (st':=⟨[(8,.val (.bool v3.1)),(9,iV v3.2)],[],0⟩) (Q2d []) (Q0 (runQ hN fun K hK=>?_)));simp;repeat refine sdQ ?_
 refine hK _ (tn (Q3 (st':=⟨[(4,.val (.bool v3.1)),(5,iV v3.2)],[],0⟩) (Q2d []) (Qe ?_)));clear hK K;have hr:=Option.some.inj h;rw [← hr];refine ⟨_,(.tmp (.tmp .nil)),?_⟩;refine ⟨(.one rfl rfl (.one rfl rfl .nil)),[.val (.bool v3.1),iV v3.2],[],by simp [Fn.cells,UA,U1,IA,I1,LA,L1,BA,B1,EA,E1,E2,eB,eI,eL],by simp,(UpL.refl _)⟩
section
attribute [local simp] Qf QG Qu Q16 QE
set_option maxHeartbeats 2000000 in
theorem Q57 (d f:Fn):∃ r,Q1r d f=some r∧Q1q d f=some r:=by
 obtain ⟨c1,c2⟩:=e_code14 d f;unfold Q1r Q1q
 by_cases h:d.Is∧f.Is
 case neg=>exact ⟨(false,1),by rw [(c1 h).1];simp,by rw [(c1 h).2];simp⟩
 obtain ⟨d1,d2,d3⟩:=c2 h
 by_cases h3:d.t=f.s
 case neg=>exact ⟨(false,5),by rw [(d2 h3).1];simp,by rw [d1,(d2 h3).2];simp⟩
 rw [(d3 h3).1,d1,(d3 h3).2];obtain ⟨hd,hf⟩:=h;simp only [Option.bind_some,not_true_eq_false,if_false];rw [e_sCrea hd hf h3,e_mby hd hf h3]
 by_cases hc:(QP d).length≤400∧(QP (QH d f)).length≤400
 case neg =>
  rw [if_neg hc,if_neg hc];exact ⟨(false,3),by simp,by simp⟩
 rw [if_pos hc,if_pos hc];refine ⟨_,rfl,?_⟩;simp only [Option.bind_some,not_true_eq_false,if_false];show ((QQ ⟨d,QH d f,f,QP d,QP (QH d f)⟩).bind _).bind _=_;rw [e_crea hd hf h3 (Q62 hd hc.1) (Q62 (Q5m hd hf h3) hc.2)];simp
end
end Go.Vc.T
