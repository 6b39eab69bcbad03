/- A part of the proof: a verified generator of conditions, and what each function of the program does. -/
import Derived.Test.YtfinipknacaojaaGreatR12
set_option maxRecDepth 100000
set_option maxHeartbeats 4000000
set_option linter.unusedSimpArgs false
set_option linter.unusedVariables false

namespace Go.Vc.T
open Go Go.Vc Go.Proofs
@[simp] theorem tf_29_l4:tyi Tryz.prog 29=some ⟨true,14,304,[.int .i64 0,.slice none 0 0,.slice none 0 0,.slice none 0 0,.slice none 0 0,.int .i64 0,.slice none 0 0,.slice none 0 0,.slice none 0 0,.slice none 0 0,.slice none 0 0,.slice none 0 0,.slice none 0 0,.slice none 0 0]⟩:=by kernel_rfl
set_option maxHeartbeats 8000000 in
theorem law4 (u:Bool) (m:Mnd):Contract Tryz.prog 4 [.agg (m.cells u)] (.val (.bool true)):=by
 refine Qm (rs:=[.val (.bool true)]) Tryz.func4 rfl rfl rfl rfl (by simp [Tryz.f4]) fun F hN hP=>?_
 obtain ⟨⟨r1,z2⟩,hs,hi,⟨ok_r1,sz_r1⟩⟩:=Q59 m
 have h5:Bool→Contract Tryz.prog 18 [.agg (m.cells true)] (.tup [.lst true 1 (Ls r1),.val (.int .i64 z2)]):=fun _=>Q4x m _ hs
 have h7:Bool→Contract Tryz.prog 19 [.agg (m.cells true)] (.tup [.lst true 1 (Ls r1),.val (.int .i64 z2)]):=fun _=>Q4t m _ hi
 clear hs hi
 simp only at ok_r1 sz_r1
 refine srQ hN fun K hK=>?_
 simp [Mnd.cells]
 refine hK _ ?_;clear hK K
 refine srQ hN fun K hK=>?_
 simp
 refine hK _ ?_;clear hK K
 refine srQ hN fun K hK=>?_
 simp
 refine Q5 (cszMnd u m (1048576) (by omega) (by omega)) (.cons (.aggL Mnd.pur) (.cons .val .nil)) ?_
 simp [unk,unA,unE,flat]
 refine hK _ ?_;clear hK K
 refine Q8 ?_
 refine Qd (st':=⟨[(1,.adr 0 0 0),(3,.val (.int .i64 (Q6k (1048576) m)))],[(0,.mix 14 [[.val (.int .i64 m.f.s.n),.lst u 1 (Is m.f.s.fr),.lst u 1 (Is m.f.s.to),.lst u 1 (Is m.f.s.id),.lst u 1 (Ls m.f.s.cs),.val (.int .i64 m.f.t.n),.lst u 1 (Is m.f.t.fr),.lst u 1 (Is m.f.t.to),.lst u 1 (Is m.f.t.id),.lst u 1 (Ls m.f.t.cs),.lst u 1 (Is m.f.ob),.lst u 1 (Is m.f.ar),.lst u 1 (Is m.u),.lst u 1 (Is m.j)]])],1⟩) (Wk.rel [(0,0)] (by simp) (by simp) (by rw [hP];simp) (by simp) (by simp) (by simp) (by simp [hhOk,back])) ?_
 refine srQ hN fun K hK=>?_
 simp
 refine hK _ ?_;clear hK K
 refine Qi rfl (fun g0=>?_) fun g0=>?_
 ·refine srQ hN fun K hK=>?_
  simp
  refine hK _ ?_;clear hK K
  refine Qn (Qo rfl rfl)
 have ok_m:m.ok:=szMnd_ok (l:=1048576) (by omega) (by simpa using g0)
 have sz_m:=Mnd.ok_size ok_m
 refine Qj ?_
 refine srQ hN fun K hK=>?_
 simp
 refine Q5 (toMnd u m ok_m) (.cons (.aggL Mnd.pur) .nil) ?_
 simp [unk,unA,unE,unC,flat,Mnd.cells]
 refine Q5 (h5 true) (.cons (.aggL (.cons .val (.cons (.whole rfl rfl (by simp)) (.cons (.whole rfl rfl (by simp)) (.cons (.whole rfl rfl (by simp)) (.cons (.whole rfl rfl (by simp)) (.cons .val (.cons (.whole rfl rfl (by simp)) (.cons (.whole rfl rfl (by simp)) (.cons (.whole rfl rfl (by simp)) (.cons (.whole rfl rfl (by simp)) (.cons (.whole rfl rfl (by simp)) (.cons (.whole rfl rfl (by simp)) (.cons (.whole rfl rfl (by simp)) (.cons (.whole rfl rfl (by simp)) .nil))))))))))))))) .nil) ?_
 simp [unk,unA,unE,unT,unC,flat]
 refine hK _ ?_;clear hK K
 refine Qd (st':=⟨[(1,.adr 0 0 0),(4,.own 1 0 r1.length),(5,.val (.int .i64 z2))],[(0,.mix 14 [[.val (.int .i64 m.f.s.n),.lst u 1 (Is m.f.s.fr),.lst u 1 (Is m.f.s.to),.lst u 1 (Is m.f.s.id),.lst u 1 (Ls m.f.s.cs),.val (.int .i64 m.f.t.n),.lst u 1 (Is m.f.t.fr),.lst u 1 (Is m.f.t.to),.lst u 1 (Is m.f.t.id),.lst u 1 (Ls m.f.t.cs),.lst u 1 (Is m.f.ob),.lst u 1 (Is m.f.ar),.lst u 1 (Is m.u),.lst u 1 (Is m.j)]]),(1,.row 1 (Ls r1))],2⟩) (Wk.rel [(0,0),(15,1)] (by simp) (by simp) (by rw [hP];simp) (by simp) (by simp) (by simp) (by simp [hhOk,back])) ?_
 refine srQ hN fun K hK=>?_
 simp
 refine Q5 (toMnd u m ok_m) (.cons (.aggL Mnd.pur) .nil) ?_
 simp [unk,unA,unE,unC,flat,Mnd.cells]
 refine hK _ ?_;clear hK K
 refine Qd (st':=⟨[(1,.adr 0 0 0),(4,.own 1 0 r1.length),(5,.val (.int .i64 z2)),(6,.adr 14 0 0)],[(0,.mix 14 [[.val (.int .i64 m.f.s.n),.lst u 1 (Is m.f.s.fr),.lst u 1 (Is m.f.s.to),.lst u 1 (Is m.f.s.id),.lst u 1 (Ls m.f.s.cs),.val (.int .i64 m.f.t.n),.lst u 1 (Is m.f.t.fr),.lst u 1 (Is m.f.t.to),.lst u 1 (Is m.f.t.id),.lst u 1 (Ls m.f.t.cs),.lst u 1 (Is m.f.ob),.lst u 1 (Is m.f.ar),.lst u 1 (Is m.u),.lst u 1 (Is m.j)]]),(1,.row 1 (Ls r1)),(2,.row 1 (Is m.f.s.fr)),(3,.row 1 (Is m.f.s.to)),(4,.row 1 (Is m.f.s.id)),(5,.row 1 (Ls m.f.s.cs)),(6,.row 1 (Is m.f.t.fr)),(7,.row 1 (Is m.f.t.to)),(8,.row 1 (Is m.f.t.id)),(9,.row 1 (Ls m.f.t.cs)),(10,.row 1 (Is m.f.ob)),(11,.row 1 (Is m.f.ar)),(12,.row 1 (Is m.u)),(13,.row 1 (Is m.j)),(14,.mix 14 [[.val (.int .i64 m.f.s.n),.own 2 0 m.f.s.fr.length,.own 3 0 m.f.s.to.length,.own 4 0 m.f.s.id.length,.own 5 0 m.f.s.cs.length,.val (.int .i64 m.f.t.n),.own 6 0 m.f.t.fr.length,.own 7 0 m.f.t.to.length,.own 8 0 m.f.t.id.length,.own 9 0 m.f.t.cs.length,.own 10 0 m.f.ob.length,.own 11 0 m.f.ar.length,.own 12 0 m.u.length,.own 13 0 m.j.length]])],15⟩) (Wk.rel [(0,0),(1,1),(3,2),(4,3),(5,4),(6,5),(8,6),(9,7),(10,8),(11,9),(12,10),(13,11),(14,12),(15,13),(16,14)] (by simp) (by simp) (by rw [hP];simp) (by simp) (by simp) (by simp) (by simp [hhOk,back])) ?_
 refine srQ hN fun K hK=>?_
 simp
 refine Q5 (h7 true) (.cons (.aggL (.cons .val (.cons (.whole rfl rfl (by simp)) (.cons (.whole rfl rfl (by simp)) (.cons (.whole rfl rfl (by simp)) (.cons (.whole rfl rfl (by simp)) (.cons .val (.cons (.whole rfl rfl (by simp)) (.cons (.whole rfl rfl (by simp)) (.cons (.whole rfl rfl (by simp)) (.cons (.whole rfl rfl (by simp)) (.cons (.whole rfl rfl (by simp)) (.cons (.whole rfl rfl (by simp)) (.cons (.whole rfl rfl (by simp)) (.cons (.whole rfl rfl (by simp)) .nil))))))))))))))) .nil) ?_
 simp [unk,unA,unE,unT,unC,flat]
 refine hK _ ?_;clear hK K
 refine Q8 ?_
 refine Qd (st':=⟨[(1,.adr 0 0 0),(4,.own 1 0 r1.length),(5,.val (.int .i64 z2)),(6,.adr 14 0 0),(7,.own 15 0 r1.length),(8,.val (.int .i64 z2))],[(0,.mix 14 [[.val (.int .i64 m.f.s.n),.lst u 1 (Is m.f.s.fr),.lst u 1 (Is m.f.s.to),.lst u 1 (Is m.f.s.id),.lst u 1 (Ls m.f.s.cs),.val (.int .i64 m.f.t.n),.lst u 1 (Is m.f.t.fr),.lst u 1 (Is m.f.t.to),.lst u 1 (Is m.f.t.id),.lst u 1 (Ls m.f.t.cs),.lst u 1 (Is m.f.ob),.lst u 1 (Is m.f.ar),.lst u 1 (Is m.u),.lst u 1 (Is m.j)]]),(1,.row 1 (Ls r1)),(2,.row 1 (Is m.f.s.fr)),(3,.row 1 (Is m.f.s.to)),(4,.row 1 (Is m.f.s.id)),(5,.row 1 (Ls m.f.s.cs)),(6,.row 1 (Is m.f.t.fr)),(7,.row 1 (Is m.f.t.to)),(8,.row 1 (Is m.f.t.id)),(9,.row 1 (Ls m.f.t.cs)),(10,.row 1 (Is m.f.ob)),(11,.row 1 (Is m.f.ar)),(12,.row 1 (Is m.u)),(13,.row 1 (Is m.j)),(14,.mix 14 [[.val (.int .i64 m.f.s.n),.own 2 0 m.f.s.fr.length,.own 3 0 m.f.s.to.length,.own 4 0 m.f.s.id.length,.own 5 0 m.f.s.cs.length,.val (.int .i64 m.f.t.n),.own 6 0 m.f.t.fr.length,.own 7 0 m.f.t.to.length,.own 8 0 m.f.t.id.length,.own 9 0 m.f.t.cs.length,.own 10 0 m.f.ob.length,.own 11 0 m.f.ar.length,.own 12 0 m.u.length,.own 13 0 m.j.length]]),(15,.row 1 (Ls r1))],16⟩) (Wk.rel [(0,0),(1,1),(2,2),(3,3),(4,4),(5,5),(6,6),(7,7),(8,8),(9,9),(10,10),(11,11),(12,12),(13,13),(14,14),(15,15)] (by simp) (by simp) (by rw [hP];simp) (by simp) (by simp) (by simp) (by simp [hhOk,back])) ?_
 refine srQ hN fun K hK=>?_
 simp
 refine Q5 (c30 true true r1) (.cons (.whole rfl rfl (by simp)) (.cons (.whole rfl rfl (by simp)) .nil)) ?_
 simp [unk,unA,unE,flat]
 refine hK _ ?_;clear hK K
 refine Qi rfl (fun h=>by simp at h) fun _=>?_
 refine Qj ?_
 refine Q8 ?_
 refine Qd (st':=⟨[(1,.adr 0 0 0),(4,.own 1 0 r1.length),(5,.val (.int .i64 z2)),(6,.adr 14 0 0),(7,.own 15 0 r1.length),(8,.val (.int .i64 z2))],[(0,.mix 14 [[.val (.int .i64 m.f.s.n),.lst u 1 (Is m.f.s.fr),.lst u 1 (Is m.f.s.to),.lst u 1 (Is m.f.s.id),.lst u 1 (Ls m.f.s.cs),.val (.int .i64 m.f.t.n),.lst u 1 (Is m.f.t.fr),.lst u 1 (Is m.f.t.to),.lst u 1 (Is m.f.t.id),.lst u 1 (Ls m.f.t.cs),.lst u 1 (Is m.f.ob),.lst u 1 (Is m.f.ar),.lst u 1 (Is m.u),.lst u 1 (Is m.j)]]),(1,.row 1 (Ls r1)),(2,.row 1 (Is m.f.s.fr)),(3,.row 1 (Is m.f.s.to)),(4,.row 1 (Is m.f.s.id)),(5,.row 1 (Ls m.f.s.cs)),(6,.row 1 (Is m.f.t.fr)),(7,.row 1 (Is m.f.t.to)),(8,.row 1 (Is m.f.t.id)),(9,.row 1 (Ls m.f.t.cs)),(10,.row 1 (Is m.f.ob)),(11,.row 1 (Is m.f.ar)),(12,.row 1 (Is m.u)),(13,.row 1 (Is m.j)),(14,.mix 14 [[.val (.int .i64 m.f.s.n),.own 2 0 m.f.s.fr.length,.own 3 0 m.f.s.to.length,.own 4 0 m.f.s.id.length,.own 5 0 m.f.s.cs.length,.val (.int .i64 m.f.t.n),.own 6 0 m.f.t.fr.length,.own 7 0 m.f.t.to.length,.own 8 0 m.f.t.id.length,.own 9 0 m.f.t.cs.length,.own 10 0 m.f.ob.length,.own 11 0 m.f.ar.length,.own 12 0 m.u.length,.own 13 0 m.j.length]]),(15,.row 1 (Ls r1))],16⟩) (Wk.rel [(0,0),(1,1),(2,2),(3,3),(4,4),(5,5),(6,6),(7,7),(8,8),(9,9),(10,10),(11,11),(12,12),(13,13),(14,14),(15,15)] (by simp) (by simp) (by rw [hP];simp) (by simp) (by simp) (by simp) (by simp [hhOk,back])) ?_
 refine srQ hN fun K hK=>?_
 simp
 refine Q5 (toMnd u m ok_m) (.cons (.aggL Mnd.pur) .nil) ?_
 simp [unk,unA,unE,unC,flat,Mnd.cells]
 refine Q5 (eqMnd true true m) (.cons (.aggL (.cons .val (.cons (.whole rfl rfl (by simp)) (.cons (.whole rfl rfl (by simp)) (.cons (.whole rfl rfl (by simp)) (.cons (.whole rfl rfl (by simp)) (.cons .val (.cons (.whole rfl rfl (by simp)) (.cons (.whole rfl rfl (by simp)) (.cons (.whole rfl rfl (by simp)) (.cons (.whole rfl rfl (by simp)) (.cons (.whole rfl rfl (by simp)) (.cons (.whole rfl rfl (by simp)) (.cons (.whole rfl rfl (by simp)) (.cons (.whole rfl rfl (by simp)) .nil))))))))))))))) (.cons (.aggL (.cons .val (.cons (.whole rfl rfl (by simp)) (.cons (.whole rfl rfl (by simp)) (.cons (.whole rfl rfl (by simp)) (.cons (.whole rfl rfl (by simp)) (.cons .val (.cons (.whole rfl rfl (by simp)) (.cons (.whole rfl rfl (by simp)) (.cons (.whole rfl rfl (by simp)) (.cons (.whole rfl rfl (by simp)) (.cons (.whole rfl rfl (by simp)) (.cons (.whole rfl rfl (by simp)) (.cons (.whole rfl rfl (by simp)) (.cons (.whole rfl rfl (by simp)) .nil))))))))))))))) .nil)) ?_
 simp [unk,unA,unE,flat]
 refine hK _ ?_;clear hK K
 refine Qi rfl (fun h=>by simp at h) fun _=>?_
 refine Qj ?_
 refine Qd (st':=⟨[(1,.adr 0 0 0),(4,.own 1 0 r1.length),(5,.val (.int .i64 z2)),(6,.adr 14 0 0),(7,.own 15 0 r1.length),(8,.val (.int .i64 z2))],[(0,.mix 14 [[.val (.int .i64 m.f.s.n),.lst u 1 (Is m.f.s.fr),.lst u 1 (Is m.f.s.to),.lst u 1 (Is m.f.s.id),.lst u 1 (Ls m.f.s.cs),.val (.int .i64 m.f.t.n),.lst u 1 (Is m.f.t.fr),.lst u 1 (Is m.f.t.to),.lst u 1 (Is m.f.t.id),.lst u 1 (Ls m.f.t.cs),.lst u 1 (Is m.f.ob),.lst u 1 (Is m.f.ar),.lst u 1 (Is m.u),.lst u 1 (Is m.j)]]),(1,.row 1 (Ls r1)),(2,.row 1 (Is m.f.s.fr)),(3,.row 1 (Is m.f.s.to)),(4,.row 1 (Is m.f.s.id)),(5,.row 1 (Ls m.f.s.cs)),(6,.row 1 (Is m.f.t.fr)),(7,.row 1 (Is m.f.t.to)),(8,.row 1 (Is m.f.t.id)),(9,.row 1 (Ls m.f.t.cs)),(10,.row 1 (Is m.f.ob)),(11,.row 1 (Is m.f.ar)),(12,.row 1 (Is m.u)),(13,.row 1 (Is m.j)),(14,.mix 14 [[.val (.int .i64 m.f.s.n),.own 2 0 m.f.s.fr.length,.own 3 0 m.f.s.to.length,.own 4 0 m.f.s.id.length,.own 5 0 m.f.s.cs.length,.val (.int .i64 m.f.t.n),.own 6 0 m.f.t.fr.length,.own 7 0 m.f.t.to.length,.own 8 0 m.f.t.id.length,.own 9 0 m.f.t.cs.length,.own 10 0 m.f.ob.length,.own 11 0 m.f.ar.length,.own 12 0 m.u.length,.own 13 0 m.j.length]]),(15,.row 1 (Ls r1))],16⟩) (Wk.rel [(0,0),(1,1),(2,2),(3,3),(4,4),(5,5),(6,6),(7,7),(8,8),(9,9),(10,10),(11,11),(12,12),(13,13),(14,14),(15,15)] (by simp) (by simp) (by rw [hP];simp) (by simp) (by simp) (by simp) (by simp [hhOk,back])) ?_
 refine srQ hN fun K hK=>?_
 simp
 refine hK _ ?_;clear hK K
 refine Q4z mo (by rw [hN];decide) fun K hK=>?_
 simp
 refine Q31 (m:=[2,3,4,5,6,7,8,9,10,11,12,13]) (markMnd m (1) ok_m (by omega) (by omega)) (by decide) (.cons rfl (.cons rfl (.cons rfl (.cons rfl (.cons rfl (.cons rfl (.cons rfl (.cons rfl (.cons rfl (.cons rfl (.cons rfl (.cons rfl .nil)))))))))))) (.cons (.aggL (.cons .val (.cons (.own (j:=0) (by decide)) (.cons (.own (j:=1) (by decide)) (.cons (.own (j:=2) (by decide)) (.cons (.own (j:=3) (by decide)) (.cons .val (.cons (.own (j:=4) (by decide)) (.cons (.own (j:=5) (by decide)) (.cons (.own (j:=6) (by decide)) (.cons (.own (j:=7) (by decide)) (.cons (.own (j:=8) (by decide)) (.cons (.own (j:=9) (by decide)) (.cons (.own (j:=10) (by decide)) (.cons (.own (j:=11) (by decide)) .nil))))))))))))))) (.cons .val .nil)) rfl (by simp) ?_
 simp [Q4p,Mnd.mu]
 refine hK _ ?_;clear hK K
 refine Q8 ?_
 refine Qd (st':=⟨[(1,.adr 0 0 0),(4,.own 1 0 r1.length),(5,.val (.int .i64 z2)),(7,.own 2 0 r1.length),(8,.val (.int .i64 z2)),(9,.val (.int .i64 (1+m.size)))],[(0,.mix 14 [[.val (.int .i64 m.f.s.n),.lst u 1 (Is m.f.s.fr),.lst u 1 (Is m.f.s.to),.lst u 1 (Is m.f.s.id),.lst u 1 (Ls m.f.s.cs),.val (.int .i64 m.f.t.n),.lst u 1 (Is m.f.t.fr),.lst u 1 (Is m.f.t.to),.lst u 1 (Is m.f.t.id),.lst u 1 (Ls m.f.t.cs),.lst u 1 (Is m.f.ob),.lst u 1 (Is m.f.ar),.lst u 1 (Is m.u),.lst u 1 (Is m.j)]]),(1,.row 1 (Ls r1)),(2,.row 1 (Ls r1))],3⟩) (Wk.rel [(0,0),(1,1),(15,2)] (by simp) (by simp) (by rw [hP];simp) (by simp) (by simp) (by simp) (by simp [hhOk,back,Mnd.mark,Fn.mark,Cat.mark])) ?_
 refine srQ hN fun K hK=>?_
 simp [show ¬ (((1:Int)+m.size)<0) by omega]
 refine Q5 (c30 true true r1) (.cons (.whole rfl rfl (by simp)) (.cons (.whole rfl rfl (by simp)) .nil)) ?_
 simp [unk,unA,unE,flat]
 refine hK _ ?_;clear hK K
 refine Qi rfl (fun h=>by simp at h) fun _=>?_
 refine Qj ?_
 refine Qd (st':=⟨[(1,.adr 0 0 0),(4,.own 1 0 r1.length),(5,.val (.int .i64 z2)),(7,.own 2 0 r1.length)],[(0,.mix 14 [[.val (.int .i64 m.f.s.n),.lst u 1 (Is m.f.s.fr),.lst u 1 (Is m.f.s.to),.lst u 1 (Is m.f.s.id),.lst u 1 (Ls m.f.s.cs),.val (.int .i64 m.f.t.n),.lst u 1 (Is m.f.t.fr),.lst u 1 (Is m.f.t.to),.lst u 1 (Is m.f.t.id),.lst u 1 (Ls m.f.t.cs),.lst u 1 (Is m.f.ob),.lst u 1 (Is m.f.ar),.lst u 1 (Is m.u),.lst u 1 (Is m.j)]]),(1,.row 1 (Ls r1)),(2,.row 1 (Ls r1))],3⟩) (Wk.rel [(0,0),(1,1),(2,2)] (by simp) (by simp) (by rw [hP];simp) (by simp) (by simp) (by simp) (by simp [hhOk,back])) ?_
 refine srQ hN fun K hK=>?_
 simp
 refine hK _ ?_;clear hK K
 refine Q4z mo (by rw [hN];decide) fun K hK=>?_
 simp
 refine Q1A (m33 r1 (1) ok_r1.1 ok_r1.2 (by omega) (by omega)) rfl (by simp) ?_
 simp
 refine hK _ ?_;clear hK K
 refine Qd (st':=⟨[(1,.adr 0 0 0),(4,.own 1 0 r1.length),(5,.val (.int .i64 z2)),(7,.own 2 0 r1.length),(10,.val (.int .i64 (1+sumL r1)))],[(0,.mix 14 [[.val (.int .i64 m.f.s.n),.lst u 1 (Is m.f.s.fr),.lst u 1 (Is m.f.s.to),.lst u 1 (Is m.f.s.id),.lst u 1 (Ls m.f.s.cs),.val (.int .i64 m.f.t.n),.lst u 1 (Is m.f.t.fr),.lst u 1 (Is m.f.t.to),.lst u 1 (Is m.f.t.id),.lst u 1 (Ls m.f.t.cs),.lst u 1 (Is m.f.ob),.lst u 1 (Is m.f.ar),.lst u 1 (Is m.u),.lst u 1 (Is m.j)]]),(1,.row 1 (Ls r1)),(2,.row 1 (Ls (runs (1) r1)))],3⟩) (Wk.rel [(0,0),(1,1),(2,2)] (by simp) (by simp) (by rw [hP];simp) (by simp) (by simp) (by simp) (by simp [hhOk,back])) ?_
 refine srQ hN fun K hK=>?_
 simp
 refine hK _ ?_;clear hK K
 refine srQ hN fun K hK=>?_
 simp
 refine Q5 (c54 true r1 (1) ok_r1.1 ok_r1.2 (by omega) (by omega)) (.cons (.whole rfl rfl (by simp)) (.cons .val .nil)) ?_
 simp [unk,unA,unE,flat]
 refine hK _ ?_;clear hK K
 refine Q8 ?_
 refine Qd (st':=⟨[(1,.adr 0 0 0),(4,.own 1 0 r1.length),(5,.val (.int .i64 z2)),(7,.own 2 0 r1.length),(10,.val (.int .i64 (1+sumL r1))),(11,.val (.int .i64 (1+sumL r1)))],[(0,.mix 14 [[.val (.int .i64 m.f.s.n),.lst u 1 (Is m.f.s.fr),.lst u 1 (Is m.f.s.to),.lst u 1 (Is m.f.s.id),.lst u 1 (Ls m.f.s.cs),.val (.int .i64 m.f.t.n),.lst u 1 (Is m.f.t.fr),.lst u 1 (Is m.f.t.to),.lst u 1 (Is m.f.t.id),.lst u 1 (Ls m.f.t.cs),.lst u 1 (Is m.f.ob),.lst u 1 (Is m.f.ar),.lst u 1 (Is m.u),.lst u 1 (Is m.j)]]),(1,.row 1 (Ls r1)),(2,.row 1 (Ls (runs (1) r1)))],3⟩) (Wk.rel [(0,0),(1,1),(2,2)] (by simp) (by simp) (by rw [hP];simp) (by simp) (by simp) (by simp) (by simp [hhOk,back])) ?_
 refine srQ hN fun K hK=>?_
 simp
 refine hK _ ?_;clear hK K
 refine Qi rfl (fun g=>?_) fun g=>?_
 ·simp at g
  omega
 refine Qj ?_
 refine Q8 ?_
 refine srQ hN fun K hK=>?_
 simp
 refine hK _ ?_;clear hK K
 refine Qi rfl (fun h=>by simp at h) fun _=>?_
 refine Qj ?_
 refine srQ hN fun K hK=>?_
 simp
 refine Q5 (toMnd u m ok_m) (.cons (.aggL Mnd.pur) .nil) ?_
 simp [unk,unA,unE,unC,flat,Mnd.cells]
 refine Q5 (h7 true) (.cons (.aggL (.cons .val (.cons (.whole rfl rfl (by simp)) (.cons (.whole rfl rfl (by simp)) (.cons (.whole rfl rfl (by simp)) (.cons (.whole rfl rfl (by simp)) (.cons .val (.cons (.whole rfl rfl (by simp)) (.cons (.whole rfl rfl (by simp)) (.cons (.whole rfl rfl (by simp)) (.cons (.whole rfl rfl (by simp)) (.cons (.whole rfl rfl (by simp)) (.cons (.whole rfl rfl (by simp)) (.cons (.whole rfl rfl (by simp)) (.cons (.whole rfl rfl (by simp)) .nil))))))))))))))) .nil) ?_
 simp [unk,unA,unE,unT,unC,flat]
 refine hK _ ?_;clear hK K
 refine Q8 ?_
 refine Qd (st':=⟨[(4,.own 0 0 r1.length),(5,.val (.int .i64 z2)),(7,.own 1 0 r1.length),(10,.val (.int .i64 (1+sumL r1))),(11,.val (.int .i64 (1+sumL r1))),(12,.own 2 0 r1.length),(13,.val (.int .i64 z2))],[(0,.row 1 (Ls r1)),(1,.row 1 (Ls (runs (1) r1))),(2,.row 1 (Ls r1))],3⟩) (Wk.rel [(1,0),(2,1),(17,2)] (by simp) (by simp) (by rw [hP];simp) (by simp) (by simp) (by simp) (by simp [hhOk,back])) ?_
 refine srQ hN fun K hK=>?_
 simp
 refine Q5 (c30 true true r1) (.cons (.whole rfl rfl (by simp)) (.cons (.whole rfl rfl (by simp)) .nil)) ?_
 simp [unk,unA,unE,flat]
 refine hK _ ?_;clear hK K
 refine Qi rfl (fun h=>by simp at h) fun _=>?_
 refine Qj ?_
 refine Qd (st':=⟨[(7,.own 0 0 r1.length),(10,.val (.int .i64 (1+sumL r1))),(11,.val (.int .i64 (1+sumL r1)))],[(0,.row 1 (Ls (runs (1) r1)))],1⟩) (Wk.rel [(1,0)] (by simp) (by simp) (by rw [hP];simp) (by simp) (by simp) (by simp) (by simp [hhOk,back])) ?_
 refine srQ hN fun K hK=>?_
 simp
 refine hK _ ?_;clear hK K
 refine srQ hN fun K hK=>?_
 simp
 refine Q5 (c54 true r1 (1) ok_r1.1 ok_r1.2 (by omega) (by omega)) (.cons (.whole rfl rfl (by simp)) (.cons .val .nil)) ?_
 simp [unk,unA,unE,flat]
 refine hK _ ?_;clear hK K
 refine Q8 ?_
 refine Qd (st':=⟨[(10,.val (.int .i64 (1+sumL r1))),(11,.val (.int .i64 (1+sumL r1)))],[],0⟩) (Wk.rel [] (by simp) (by simp) (by rw [hP];simp) (by simp) (by simp) (by simp) (by simp [hhOk,back])) ?_
 refine srQ hN fun K hK=>?_
 simp
 refine hK _ ?_;clear hK K
 refine Qi rfl (fun g=>?_) fun g=>?_
 ·simp at g
  omega
 refine Qj ?_
 refine Q8 ?_
 refine srQ hN fun K hK=>?_
 simp
 refine hK _ ?_;clear hK K
 refine Qi rfl (fun h=>by simp at h) fun _=>?_
 refine Qj ?_
 refine srQ hN fun K hK=>?_
 simp
 refine hK _ ?_;clear hK K
 refine Qn (Qo rfl rfl)
end Go.Vc.T
