/- A part of the proof: a verified generator of conditions, and what each function of the program does. -/
import Derived.Test.YtfinipknacaojaaGreatR12
set_option maxRecDepth 100000
set_option maxHeartbeats 4000000
set_option linter.unusedSimpArgs false
set_option linter.unusedVariables false

namespace Go.Vc.T
open Go Go.Vc Go.Proofs
@[simp] theorem tf_29_l5:tyi Tryz.prog 29=some ⟨true,14,304,[.int .i64 0,.slice none 0 0,.slice none 0 0,.slice none 0 0,.slice none 0 0,.int .i64 0,.slice none 0 0,.slice none 0 0,.slice none 0 0,.slice none 0 0,.slice none 0 0,.slice none 0 0,.slice none 0 0,.slice none 0 0]⟩:=by kernel_rfl
set_option maxHeartbeats 8000000 in
theorem law5 (u:Bool) (m:Mnd):Contract Tryz.prog 5 [.agg (m.cells u)] (.val (.bool true)):=by
 refine Qm (rs:=[.val (.bool true)]) Tryz.func5 rfl rfl rfl rfl (by simp [Tryz.f5]) fun F hN hP=>?_
 obtain ⟨⟨r1,z2⟩,hs,hi,⟨ok_r1,sz_r1⟩⟩:=Q4r m
 have h5:Bool→Contract Tryz.prog 23 [.agg (m.cells true)] (.tup [.agg (r1.cells true),.val (.int .i64 z2)]):=fun _=>Q44 m _ hs
 have h7:Bool→Contract Tryz.prog 24 [.agg (m.cells true)] (.tup [.agg (r1.cells true),.val (.int .i64 z2)]):=fun _=>Q42 m _ hi
 clear hs hi
 simp only at ok_r1 sz_r1
 refine srQ hN fun K hK=>?_
 simp [Mnd.cells]
 refine hK _ ?_;clear hK K
 refine srQ hN fun K hK=>?_
 simp
 refine hK _ ?_;clear hK K
 refine srQ hN fun K hK=>?_
 simp
 refine Q5 (cszMnd u m (1048576) (by omega) (by omega)) (.cons (.aggL Mnd.pur) (.cons .val .nil)) ?_
 simp [unk,unA,unE,flat]
 refine hK _ ?_;clear hK K
 refine Q8 ?_
 refine Qd (st':=⟨[(1,.adr 0 0 0),(3,.val (.int .i64 (Q6k (1048576) m)))],[(0,.mix 14 [[.val (.int .i64 m.f.s.n),.lst u 1 (Is m.f.s.fr),.lst u 1 (Is m.f.s.to),.lst u 1 (Is m.f.s.id),.lst u 1 (Ls m.f.s.cs),.val (.int .i64 m.f.t.n),.lst u 1 (Is m.f.t.fr),.lst u 1 (Is m.f.t.to),.lst u 1 (Is m.f.t.id),.lst u 1 (Ls m.f.t.cs),.lst u 1 (Is m.f.ob),.lst u 1 (Is m.f.ar),.lst u 1 (Is m.u),.lst u 1 (Is m.j)]])],1⟩) (Wk.rel [(0,0)] (by simp) (by simp) (by rw [hP];simp) (by simp) (by simp) (by simp) (by simp [hhOk,back])) ?_
 refine srQ hN fun K hK=>?_
 simp
 refine hK _ ?_;clear hK K
 refine Qi rfl (fun g0=>?_) fun g0=>?_
 ·refine srQ hN fun K hK=>?_
  simp
  refine hK _ ?_;clear hK K
  refine Qn (Qo rfl rfl)
 have ok_m:m.ok:=szMnd_ok (l:=1048576) (by omega) (by simpa using g0)
 have sz_m:=Mnd.ok_size ok_m
 refine Qj ?_
 refine srQ hN fun K hK=>?_
 simp
 refine Q5 (toMnd u m ok_m) (.cons (.aggL Mnd.pur) .nil) ?_
 simp [unk,unA,unE,unC,flat,Mnd.cells]
 refine Q5 (h5 true) (.cons (.aggL (.cons .val (.cons (.whole rfl rfl (by simp)) (.cons (.whole rfl rfl (by simp)) (.cons (.whole rfl rfl (by simp)) (.cons (.whole rfl rfl (by simp)) (.cons .val (.cons (.whole rfl rfl (by simp)) (.cons (.whole rfl rfl (by simp)) (.cons (.whole rfl rfl (by simp)) (.cons (.whole rfl rfl (by simp)) (.cons (.whole rfl rfl (by simp)) (.cons (.whole rfl rfl (by simp)) (.cons (.whole rfl rfl (by simp)) (.cons (.whole rfl rfl (by simp)) .nil))))))))))))))) .nil) ?_
 simp [unk,unA,unE,unT,unC,flat,Cat.cells]
 refine hK _ ?_;clear hK K
 refine Qd (st':=⟨[(1,.adr 0 0 0),(4,.adr 5 0 0),(5,.val (.int .i64 z2))],[(0,.mix 14 [[.val (.int .i64 m.f.s.n),.lst u 1 (Is m.f.s.fr),.lst u 1 (Is m.f.s.to),.lst u 1 (Is m.f.s.id),.lst u 1 (Ls m.f.s.cs),.val (.int .i64 m.f.t.n),.lst u 1 (Is m.f.t.fr),.lst u 1 (Is m.f.t.to),.lst u 1 (Is m.f.t.id),.lst u 1 (Ls m.f.t.cs),.lst u 1 (Is m.f.ob),.lst u 1 (Is m.f.ar),.lst u 1 (Is m.u),.lst u 1 (Is m.j)]]),(1,.row 1 (Is r1.fr)),(2,.row 1 (Is r1.to)),(3,.row 1 (Is r1.id)),(4,.row 1 (Ls r1.cs)),(5,.mix 5 [[.val (.int .i64 r1.n),.own 1 0 r1.fr.length,.own 2 0 r1.to.length,.own 3 0 r1.id.length,.own 4 0 r1.cs.length]])],6⟩) (Wk.rel [(0,0),(16,1),(17,2),(18,3),(19,4),(21,5)] (by simp) (by simp) (by rw [hP];simp) (by simp) (by simp) (by simp) (by simp [hhOk,back])) ?_
 refine srQ hN fun K hK=>?_
 simp
 refine Q5 (toMnd u m ok_m) (.cons (.aggL Mnd.pur) .nil) ?_
 simp [unk,unA,unE,unC,flat,Mnd.cells]
 refine hK _ ?_;clear hK K
 refine Qd (st':=⟨[(1,.adr 0 0 0),(4,.adr 5 0 0),(5,.val (.int .i64 z2)),(6,.adr 18 0 0)],[(0,.mix 14 [[.val (.int .i64 m.f.s.n),.lst u 1 (Is m.f.s.fr),.lst u 1 (Is m.f.s.to),.lst u 1 (Is m.f.s.id),.lst u 1 (Ls m.f.s.cs),.val (.int .i64 m.f.t.n),.lst u 1 (Is m.f.t.fr),.lst u 1 (Is m.f.t.to),.lst u 1 (Is m.f.t.id),.lst u 1 (Ls m.f.t.cs),.lst u 1 (Is m.f.ob),.lst u 1 (Is m.f.ar),.lst u 1 (Is m.u),.lst u 1 (Is m.j)]]),(1,.row 1 (Is r1.fr)),(2,.row 1 (Is r1.to)),(3,.row 1 (Is r1.id)),(4,.row 1 (Ls r1.cs)),(5,.mix 5 [[.val (.int .i64 r1.n),.own 1 0 r1.fr.length,.own 2 0 r1.to.length,.own 3 0 r1.id.length,.own 4 0 r1.cs.length]]),(6,.row 1 (Is m.f.s.fr)),(7,.row 1 (Is m.f.s.to)),(8,.row 1 (Is m.f.s.id)),(9,.row 1 (Ls m.f.s.cs)),(10,.row 1 (Is m.f.t.fr)),(11,.row 1 (Is m.f.t.to)),(12,.row 1 (Is m.f.t.id)),(13,.row 1 (Ls m.f.t.cs)),(14,.row 1 (Is m.f.ob)),(15,.row 1 (Is m.f.ar)),(16,.row 1 (Is m.u)),(17,.row 1 (Is m.j)),(18,.mix 14 [[.val (.int .i64 m.f.s.n),.own 6 0 m.f.s.fr.length,.own 7 0 m.f.s.to.length,.own 8 0 m.f.s.id.length,.own 9 0 m.f.s.cs.length,.val (.int .i64 m.f.t.n),.own 10 0 m.f.t.fr.length,.own 11 0 m.f.t.to.length,.own 12 0 m.f.t.id.length,.own 13 0 m.f.t.cs.length,.own 14 0 m.f.ob.length,.own 15 0 m.f.ar.length,.own 16 0 m.u.length,.own 17 0 m.j.length]])],19⟩) (Wk.rel [(0,0),(1,1),(2,2),(3,3),(4,4),(5,5),(7,6),(8,7),(9,8),(10,9),(12,10),(13,11),(14,12),(15,13),(16,14),(17,15),(18,16),(19,17),(20,18)] (by simp) (by simp) (by rw [hP];simp) (by simp) (by simp) (by simp) (by simp [hhOk,back])) ?_
 refine srQ hN fun K hK=>?_
 simp
 refine Q5 (h7 true) (.cons (.aggL (.cons .val (.cons (.whole rfl rfl (by simp)) (.cons (.whole rfl rfl (by simp)) (.cons (.whole rfl rfl (by simp)) (.cons (.whole rfl rfl (by simp)) (.cons .val (.cons (.whole rfl rfl (by simp)) (.cons (.whole rfl rfl (by simp)) (.cons (.whole rfl rfl (by simp)) (.cons (.whole rfl rfl (by simp)) (.cons (.whole rfl rfl (by simp)) (.cons (.whole rfl rfl (by simp)) (.cons (.whole rfl rfl (by simp)) (.cons (.whole rfl rfl (by simp)) .nil))))))))))))))) .nil) ?_
 simp [unk,unA,unE,unT,unC,flat,Cat.cells]
 refine hK _ ?_;clear hK K
 refine Q8 ?_
 refine Qd (st':=⟨[(1,.adr 0 0 0),(4,.adr 5 0 0),(5,.val (.int .i64 z2)),(6,.adr 18 0 0),(7,.adr 23 0 0),(8,.val (.int .i64 z2))],[(0,.mix 14 [[.val (.int .i64 m.f.s.n),.lst u 1 (Is m.f.s.fr),.lst u 1 (Is m.f.s.to),.lst u 1 (Is m.f.s.id),.lst u 1 (Ls m.f.s.cs),.val (.int .i64 m.f.t.n),.lst u 1 (Is m.f.t.fr),.lst u 1 (Is m.f.t.to),.lst u 1 (Is m.f.t.id),.lst u 1 (Ls m.f.t.cs),.lst u 1 (Is m.f.ob),.lst u 1 (Is m.f.ar),.lst u 1 (Is m.u),.lst u 1 (Is m.j)]]),(1,.row 1 (Is r1.fr)),(2,.row 1 (Is r1.to)),(3,.row 1 (Is r1.id)),(4,.row 1 (Ls r1.cs)),(5,.mix 5 [[.val (.int .i64 r1.n),.own 1 0 r1.fr.length,.own 2 0 r1.to.length,.own 3 0 r1.id.length,.own 4 0 r1.cs.length]]),(6,.row 1 (Is m.f.s.fr)),(7,.row 1 (Is m.f.s.to)),(8,.row 1 (Is m.f.s.id)),(9,.row 1 (Ls m.f.s.cs)),(10,.row 1 (Is m.f.t.fr)),(11,.row 1 (Is m.f.t.to)),(12,.row 1 (Is m.f.t.id)),(13,.row 1 (Ls m.f.t.cs)),(14,.row 1 (Is m.f.ob)),(15,.row 1 (Is m.f.ar)),(16,.row 1 (Is m.u)),(17,.row 1 (Is m.j)),(18,.mix 14 [[.val (.int .i64 m.f.s.n),.own 6 0 m.f.s.fr.length,.own 7 0 m.f.s.to.length,.own 8 0 m.f.s.id.length,.own 9 0 m.f.s.cs.length,.val (.int .i64 m.f.t.n),.own 10 0 m.f.t.fr.length,.own 11 0 m.f.t.to.length,.own 12 0 m.f.t.id.length,.own 13 0 m.f.t.cs.length,.own 14 0 m.f.ob.length,.own 15 0 m.f.ar.length,.own 16 0 m.u.length,.own 17 0 m.j.length]]),(19,.row 1 (Is r1.fr)),(20,.row 1 (Is r1.to)),(21,.row 1 (Is r1.id)),(22,.row 1 (Ls r1.cs)),(23,.mix 5 [[.val (.int .i64 r1.n),.own 19 0 r1.fr.length,.own 20 0 r1.to.length,.own 21 0 r1.id.length,.own 22 0 r1.cs.length]])],24⟩) (Wk.rel [(0,0),(1,1),(2,2),(3,3),(4,4),(5,5),(6,6),(7,7),(8,8),(9,9),(10,10),(11,11),(12,12),(13,13),(14,14),(15,15),(16,16),(17,17),(18,18),(20,19),(21,20),(22,21),(23,22),(25,23)] (by simp) (by simp) (by rw [hP];simp) (by simp) (by simp) (by simp) (by simp [hhOk,back])) ?_
 refine srQ hN fun K hK=>?_
 simp
 refine Q5 (c26 true true r1) (.cons (.aggL (.cons .val (.cons (.whole rfl rfl (by simp)) (.cons (.whole rfl rfl (by simp)) (.cons (.whole rfl rfl (by simp)) (.cons (.whole rfl rfl (by simp)) .nil)))))) (.cons (.aggL (.cons .val (.cons (.whole rfl rfl (by simp)) (.cons (.whole rfl rfl (by simp)) (.cons (.whole rfl rfl (by simp)) (.cons (.whole rfl rfl (by simp)) .nil)))))) .nil)) ?_
 simp [unk,unA,unE,flat]
 refine hK _ ?_;clear hK K
 refine Qi rfl (fun h=>by simp at h) fun _=>?_
 refine Qj ?_
 refine Q8 ?_
 refine Qd (st':=⟨[(1,.adr 0 0 0),(4,.adr 5 0 0),(5,.val (.int .i64 z2)),(6,.adr 18 0 0),(7,.adr 23 0 0),(8,.val (.int .i64 z2))],[(0,.mix 14 [[.val (.int .i64 m.f.s.n),.lst u 1 (Is m.f.s.fr),.lst u 1 (Is m.f.s.to),.lst u 1 (Is m.f.s.id),.lst u 1 (Ls m.f.s.cs),.val (.int .i64 m.f.t.n),.lst u 1 (Is m.f.t.fr),.lst u 1 (Is m.f.t.to),.lst u 1 (Is m.f.t.id),.lst u 1 (Ls m.f.t.cs),.lst u 1 (Is m.f.ob),.lst u 1 (Is m.f.ar),.lst u 1 (Is m.u),.lst u 1 (Is m.j)]]),(1,.row 1 (Is r1.fr)),(2,.row 1 (Is r1.to)),(3,.row 1 (Is r1.id)),(4,.row 1 (Ls r1.cs)),(5,.mix 5 [[.val (.int .i64 r1.n),.own 1 0 r1.fr.length,.own 2 0 r1.to.length,.own 3 0 r1.id.length,.own 4 0 r1.cs.length]]),(6,.row 1 (Is m.f.s.fr)),(7,.row 1 (Is m.f.s.to)),(8,.row 1 (Is m.f.s.id)),(9,.row 1 (Ls m.f.s.cs)),(10,.row 1 (Is m.f.t.fr)),(11,.row 1 (Is m.f.t.to)),(12,.row 1 (Is m.f.t.id)),(13,.row 1 (Ls m.f.t.cs)),(14,.row 1 (Is m.f.ob)),(15,.row 1 (Is m.f.ar)),(16,.row 1 (Is m.u)),(17,.row 1 (Is m.j)),(18,.mix 14 [[.val (.int .i64 m.f.s.n),.own 6 0 m.f.s.fr.length,.own 7 0 m.f.s.to.length,.own 8 0 m.f.s.id.length,.own 9 0 m.f.s.cs.length,.val (.int .i64 m.f.t.n),.own 10 0 m.f.t.fr.length,.own 11 0 m.f.t.to.length,.own 12 0 m.f.t.id.length,.own 13 0 m.f.t.cs.length,.own 14 0 m.f.ob.length,.own 15 0 m.f.ar.length,.own 16 0 m.u.length,.own 17 0 m.j.length]]),(19,.row 1 (Is r1.fr)),(20,.row 1 (Is r1.to)),(21,.row 1 (Is r1.id)),(22,.row 1 (Ls r1.cs)),(23,.mix 5 [[.val (.int .i64 r1.n),.own 19 0 r1.fr.length,.own 20 0 r1.to.length,.own 21 0 r1.id.length,.own 22 0 r1.cs.length]])],24⟩) (Wk.rel [(0,0),(1,1),(2,2),(3,3),(4,4),(5,5),(6,6),(7,7),(8,8),(9,9),(10,10),(11,11),(12,12),(13,13),(14,14),(15,15),(16,16),(17,17),(18,18),(19,19),(20,20),(21,21),(22,22),(23,23)] (by simp) (by simp) (by rw [hP];simp) (by simp) (by simp) (by simp) (by simp [hhOk,back])) ?_
 refine srQ hN fun K hK=>?_
 simp
 refine Q5 (toMnd u m ok_m) (.cons (.aggL Mnd.pur) .nil) ?_
 simp [unk,unA,unE,unC,flat,Mnd.cells]
 refine Q5 (eqMnd true true m) (.cons (.aggL (.cons .val (.cons (.whole rfl rfl (by simp)) (.cons (.whole rfl rfl (by simp)) (.cons (.whole rfl rfl (by simp)) (.cons (.whole rfl rfl (by simp)) (.cons .val (.cons (.whole rfl rfl (by simp)) (.cons (.whole rfl rfl (by simp)) (.cons (.whole rfl rfl (by simp)) (.cons (.whole rfl rfl (by simp)) (.cons (.whole rfl rfl (by simp)) (.cons (.whole rfl rfl (by simp)) (.cons (.whole rfl rfl (by simp)) (.cons (.whole rfl rfl (by simp)) .nil))))))))))))))) (.cons (.aggL (.cons .val (.cons (.whole rfl rfl (by simp)) (.cons (.whole rfl rfl (by simp)) (.cons (.whole rfl rfl (by simp)) (.cons (.whole rfl rfl (by simp)) (.cons .val (.cons (.whole rfl rfl (by simp)) (.cons (.whole rfl rfl (by simp)) (.cons (.whole rfl rfl (by simp)) (.cons (.whole rfl rfl (by simp)) (.cons (.whole rfl rfl (by simp)) (.cons (.whole rfl rfl (by simp)) (.cons (.whole rfl rfl (by simp)) (.cons (.whole rfl rfl (by simp)) .nil))))))))))))))) .nil)) ?_
 simp [unk,unA,unE,flat]
 refine hK _ ?_;clear hK K
 refine Qi rfl (fun h=>by simp at h) fun _=>?_
 refine Qj ?_
 refine Qd (st':=⟨[(1,.adr 0 0 0),(4,.adr 5 0 0),(5,.val (.int .i64 z2)),(6,.adr 18 0 0),(7,.adr 23 0 0),(8,.val (.int .i64 z2))],[(0,.mix 14 [[.val (.int .i64 m.f.s.n),.lst u 1 (Is m.f.s.fr),.lst u 1 (Is m.f.s.to),.lst u 1 (Is m.f.s.id),.lst u 1 (Ls m.f.s.cs),.val (.int .i64 m.f.t.n),.lst u 1 (Is m.f.t.fr),.lst u 1 (Is m.f.t.to),.lst u 1 (Is m.f.t.id),.lst u 1 (Ls m.f.t.cs),.lst u 1 (Is m.f.ob),.lst u 1 (Is m.f.ar),.lst u 1 (Is m.u),.lst u 1 (Is m.j)]]),(1,.row 1 (Is r1.fr)),(2,.row 1 (Is r1.to)),(3,.row 1 (Is r1.id)),(4,.row 1 (Ls r1.cs)),(5,.mix 5 [[.val (.int .i64 r1.n),.own 1 0 r1.fr.length,.own 2 0 r1.to.length,.own 3 0 r1.id.length,.own 4 0 r1.cs.length]]),(6,.row 1 (Is m.f.s.fr)),(7,.row 1 (Is m.f.s.to)),(8,.row 1 (Is m.f.s.id)),(9,.row 1 (Ls m.f.s.cs)),(10,.row 1 (Is m.f.t.fr)),(11,.row 1 (Is m.f.t.to)),(12,.row 1 (Is m.f.t.id)),(13,.row 1 (Ls m.f.t.cs)),(14,.row 1 (Is m.f.ob)),(15,.row 1 (Is m.f.ar)),(16,.row 1 (Is m.u)),(17,.row 1 (Is m.j)),(18,.mix 14 [[.val (.int .i64 m.f.s.n),.own 6 0 m.f.s.fr.length,.own 7 0 m.f.s.to.length,.own 8 0 m.f.s.id.length,.own 9 0 m.f.s.cs.length,.val (.int .i64 m.f.t.n),.own 10 0 m.f.t.fr.length,.own 11 0 m.f.t.to.length,.own 12 0 m.f.t.id.length,.own 13 0 m.f.t.cs.length,.own 14 0 m.f.ob.length,.own 15 0 m.f.ar.length,.own 16 0 m.u.length,.own 17 0 m.j.length]]),(19,.row 1 (Is r1.fr)),(20,.row 1 (Is r1.to)),(21,.row 1 (Is r1.id)),(22,.row 1 (Ls r1.cs)),(23,.mix 5 [[.val (.int .i64 r1.n),.own 19 0 r1.fr.length,.own 20 0 r1.to.length,.own 21 0 r1.id.length,.own 22 0 r1.cs.length]])],24⟩) (Wk.rel [(0,0),(1,1),(2,2),(3,3),(4,4),(5,5),(6,6),(7,7),(8,8),(9,9),(10,10),(11,11),(12,12),(13,13),(14,14),(15,15),(16,16),(17,17),(18,18),(19,19),(20,20),(21,21),(22,22),(23,23)] (by simp) (by simp) (by rw [hP];simp) (by simp) (by simp) (by simp) (by simp [hhOk,back])) ?_
 refine srQ hN fun K hK=>?_
 simp
 refine hK _ ?_;clear hK K
 refine Q4A mo (by rw [hN];decide) fun K hK=>?_
 simp
 refine Q2x (m:=[6,7,8,9,10,11,12,13,14,15,16,17]) (markMnd m (1) ok_m (by omega) (by omega)) (by decide) (.cons rfl (.cons rfl (.cons rfl (.cons rfl (.cons rfl (.cons rfl (.cons rfl (.cons rfl (.cons rfl (.cons rfl (.cons rfl (.cons rfl .nil)))))))))))) (.cons (.aggL (.cons .val (.cons (.own (j:=0) (by decide)) (.cons (.own (j:=1) (by decide)) (.cons (.own (j:=2) (by decide)) (.cons (.own (j:=3) (by decide)) (.cons .val (.cons (.own (j:=4) (by decide)) (.cons (.own (j:=5) (by decide)) (.cons (.own (j:=6) (by decide)) (.cons (.own (j:=7) (by decide)) (.cons (.own (j:=8) (by decide)) (.cons (.own (j:=9) (by decide)) (.cons (.own (j:=10) (by decide)) (.cons (.own (j:=11) (by decide)) .nil))))))))))))))) (.cons .val .nil)) rfl (by simp) ?_
 simp [Q4f,Mnd.mu]
 refine hK _ ?_;clear hK K
 refine Q8 ?_
 refine Qd (st':=⟨[(1,.adr 0 0 0),(4,.adr 5 0 0),(5,.val (.int .i64 z2)),(7,.adr 10 0 0),(8,.val (.int .i64 z2)),(9,.val (.int .i64 (1+m.size)))],[(0,.mix 14 [[.val (.int .i64 m.f.s.n),.lst u 1 (Is m.f.s.fr),.lst u 1 (Is m.f.s.to),.lst u 1 (Is m.f.s.id),.lst u 1 (Ls m.f.s.cs),.val (.int .i64 m.f.t.n),.lst u 1 (Is m.f.t.fr),.lst u 1 (Is m.f.t.to),.lst u 1 (Is m.f.t.id),.lst u 1 (Ls m.f.t.cs),.lst u 1 (Is m.f.ob),.lst u 1 (Is m.f.ar),.lst u 1 (Is m.u),.lst u 1 (Is m.j)]]),(1,.row 1 (Is r1.fr)),(2,.row 1 (Is r1.to)),(3,.row 1 (Is r1.id)),(4,.row 1 (Ls r1.cs)),(5,.mix 5 [[.val (.int .i64 r1.n),.own 1 0 r1.fr.length,.own 2 0 r1.to.length,.own 3 0 r1.id.length,.own 4 0 r1.cs.length]]),(6,.row 1 (Is r1.fr)),(7,.row 1 (Is r1.to)),(8,.row 1 (Is r1.id)),(9,.row 1 (Ls r1.cs)),(10,.mix 5 [[.val (.int .i64 r1.n),.own 6 0 r1.fr.length,.own 7 0 r1.to.length,.own 8 0 r1.id.length,.own 9 0 r1.cs.length]])],11⟩) (Wk.rel [(0,0),(1,1),(2,2),(3,3),(4,4),(5,5),(19,6),(20,7),(21,8),(22,9),(23,10)] (by simp) (by simp) (by rw [hP];simp) (by simp) (by simp) (by simp) (by simp [hhOk,back,Mnd.mark,Fn.mark,Cat.mark])) ?_
 refine srQ hN fun K hK=>?_
 simp [show ¬ (((1:Int)+m.size)<0) by omega]
 refine Q5 (c26 true true r1) (.cons (.aggL (.cons .val (.cons (.whole rfl rfl (by simp)) (.cons (.whole rfl rfl (by simp)) (.cons (.whole rfl rfl (by simp)) (.cons (.whole rfl rfl (by simp)) .nil)))))) (.cons (.aggL (.cons .val (.cons (.whole rfl rfl (by simp)) (.cons (.whole rfl rfl (by simp)) (.cons (.whole rfl rfl (by simp)) (.cons (.whole rfl rfl (by simp)) .nil)))))) .nil)) ?_
 simp [unk,unA,unE,flat]
 refine hK _ ?_;clear hK K
 refine Qi rfl (fun h=>by simp at h) fun _=>?_
 refine Qj ?_
 refine Qd (st':=⟨[(1,.adr 0 0 0),(4,.adr 5 0 0),(5,.val (.int .i64 z2)),(7,.adr 10 0 0)],[(0,.mix 14 [[.val (.int .i64 m.f.s.n),.lst u 1 (Is m.f.s.fr),.lst u 1 (Is m.f.s.to),.lst u 1 (Is m.f.s.id),.lst u 1 (Ls m.f.s.cs),.val (.int .i64 m.f.t.n),.lst u 1 (Is m.f.t.fr),.lst u 1 (Is m.f.t.to),.lst u 1 (Is m.f.t.id),.lst u 1 (Ls m.f.t.cs),.lst u 1 (Is m.f.ob),.lst u 1 (Is m.f.ar),.lst u 1 (Is m.u),.lst u 1 (Is m.j)]]),(1,.row 1 (Is r1.fr)),(2,.row 1 (Is r1.to)),(3,.row 1 (Is r1.id)),(4,.row 1 (Ls r1.cs)),(5,.mix 5 [[.val (.int .i64 r1.n),.own 1 0 r1.fr.length,.own 2 0 r1.to.length,.own 3 0 r1.id.length,.own 4 0 r1.cs.length]]),(6,.row 1 (Is r1.fr)),(7,.row 1 (Is r1.to)),(8,.row 1 (Is r1.id)),(9,.row 1 (Ls r1.cs)),(10,.mix 5 [[.val (.int .i64 r1.n),.own 6 0 r1.fr.length,.own 7 0 r1.to.length,.own 8 0 r1.id.length,.own 9 0 r1.cs.length]])],11⟩) (Wk.rel [(0,0),(1,1),(2,2),(3,3),(4,4),(5,5),(6,6),(7,7),(8,8),(9,9),(10,10)] (by simp) (by simp) (by rw [hP];simp) (by simp) (by simp) (by simp) (by simp [hhOk,back])) ?_
 refine srQ hN fun K hK=>?_
 simp
 refine hK _ ?_;clear hK K
 refine Q4A mo (by rw [hN];decide) fun K hK=>?_
 simp
 refine Q2x (m:=[6,7,8,9]) (Q7D r1 (1) ok_r1 (by omega) (by omega)) (by decide) (.cons rfl (.cons rfl (.cons rfl (.cons rfl .nil)))) (.cons (.aggL (.cons .val (.cons (.own (j:=0) (by decide)) (.cons (.own (j:=1) (by decide)) (.cons (.own (j:=2) (by decide)) (.cons (.own (j:=3) (by decide)) .nil)))))) (.cons .val .nil)) rfl (by simp) ?_
 simp [Q4f,Cat.mu]
 refine hK _ ?_;clear hK K
 refine Qd (st':=⟨[(1,.adr 0 0 0),(4,.adr 5 0 0),(5,.val (.int .i64 z2)),(7,.adr 10 0 0),(10,.val (.int .i64 (1+r1.size)))],[(0,.mix 14 [[.val (.int .i64 m.f.s.n),.lst u 1 (Is m.f.s.fr),.lst u 1 (Is m.f.s.to),.lst u 1 (Is m.f.s.id),.lst u 1 (Ls m.f.s.cs),.val (.int .i64 m.f.t.n),.lst u 1 (Is m.f.t.fr),.lst u 1 (Is m.f.t.to),.lst u 1 (Is m.f.t.id),.lst u 1 (Ls m.f.t.cs),.lst u 1 (Is m.f.ob),.lst u 1 (Is m.f.ar),.lst u 1 (Is m.u),.lst u 1 (Is m.j)]]),(1,.row 1 (Is r1.fr)),(2,.row 1 (Is r1.to)),(3,.row 1 (Is r1.id)),(4,.row 1 (Ls r1.cs)),(5,.mix 5 [[.val (.int .i64 r1.n),.own 1 0 r1.fr.length,.own 2 0 r1.to.length,.own 3 0 r1.id.length,.own 4 0 r1.cs.length]]),(6,.row 1 (Is (r1.mark 1).fr)),(7,.row 1 (Is (r1.mark 1).to)),(8,.row 1 (Is (r1.mark 1).id)),(9,.row 1 (Ls (r1.mark 1).cs)),(10,.mix 5 [[.val (.int .i64 r1.n),.own 6 0 r1.fr.length,.own 7 0 r1.to.length,.own 8 0 r1.id.length,.own 9 0 r1.cs.length]])],11⟩) (Wk.rel [(0,0),(1,1),(2,2),(3,3),(4,4),(5,5),(6,6),(7,7),(8,8),(9,9),(10,10)] (by simp) (by simp) (by rw [hP];simp) (by simp) (by simp) (by simp) (by simp [hhOk,back,Cat.mark])) ?_
 refine srQ hN fun K hK=>?_
 simp
 refine hK _ ?_;clear hK K
 refine srQ hN fun K hK=>?_
 simp
 refine Q5 (c36 true r1 (1) ok_r1 (by omega) (by omega)) (.cons (.aggL (.cons .val (.cons (.whole rfl rfl (by simp [Cat.mark])) (.cons (.whole rfl rfl (by simp [Cat.mark])) (.cons (.whole rfl rfl (by simp [Cat.mark])) (.cons (.whole rfl rfl (by simp [Cat.mark])) .nil)))))) (.cons .val .nil)) ?_
 simp [unk,unA,unE,flat]
 refine hK _ ?_;clear hK K
 refine Q8 ?_
 refine Qd (st':=⟨[(1,.adr 0 0 0),(4,.adr 5 0 0),(5,.val (.int .i64 z2)),(7,.adr 10 0 0),(10,.val (.int .i64 (1+r1.size))),(11,.val (.int .i64 (1+r1.size)))],[(0,.mix 14 [[.val (.int .i64 m.f.s.n),.lst u 1 (Is m.f.s.fr),.lst u 1 (Is m.f.s.to),.lst u 1 (Is m.f.s.id),.lst u 1 (Ls m.f.s.cs),.val (.int .i64 m.f.t.n),.lst u 1 (Is m.f.t.fr),.lst u 1 (Is m.f.t.to),.lst u 1 (Is m.f.t.id),.lst u 1 (Ls m.f.t.cs),.lst u 1 (Is m.f.ob),.lst u 1 (Is m.f.ar),.lst u 1 (Is m.u),.lst u 1 (Is m.j)]]),(1,.row 1 (Is r1.fr)),(2,.row 1 (Is r1.to)),(3,.row 1 (Is r1.id)),(4,.row 1 (Ls r1.cs)),(5,.mix 5 [[.val (.int .i64 r1.n),.own 1 0 r1.fr.length,.own 2 0 r1.to.length,.own 3 0 r1.id.length,.own 4 0 r1.cs.length]]),(6,.row 1 (Is (r1.mark 1).fr)),(7,.row 1 (Is (r1.mark 1).to)),(8,.row 1 (Is (r1.mark 1).id)),(9,.row 1 (Ls (r1.mark 1).cs)),(10,.mix 5 [[.val (.int .i64 r1.n),.own 6 0 r1.fr.length,.own 7 0 r1.to.length,.own 8 0 r1.id.length,.own 9 0 r1.cs.length]])],11⟩) (Wk.rel [(0,0),(1,1),(2,2),(3,3),(4,4),(5,5),(6,6),(7,7),(8,8),(9,9),(10,10)] (by simp) (by simp) (by rw [hP];simp) (by simp) (by simp) (by simp) (by simp [hhOk,back])) ?_
 refine srQ hN fun K hK=>?_
 simp
 refine hK _ ?_;clear hK K
 refine Qi rfl (fun g=>?_) fun g=>?_
 ·simp at g
  omega
 refine Qj ?_
 refine Q8 ?_
 refine srQ hN fun K hK=>?_
 simp
 refine hK _ ?_;clear hK K
 refine Qi rfl (fun h=>by simp at h) fun _=>?_
 refine Qj ?_
 refine srQ hN fun K hK=>?_
 simp
 refine Q5 (toMnd u m ok_m) (.cons (.aggL Mnd.pur) .nil) ?_
 simp [unk,unA,unE,unC,flat,Mnd.cells]
 refine Q5 (h7 true) (.cons (.aggL (.cons .val (.cons (.whole rfl rfl (by simp)) (.cons (.whole rfl rfl (by simp)) (.cons (.whole rfl rfl (by simp)) (.cons (.whole rfl rfl (by simp)) (.cons .val (.cons (.whole rfl rfl (by simp)) (.cons (.whole rfl rfl (by simp)) (.cons (.whole rfl rfl (by simp)) (.cons (.whole rfl rfl (by simp)) (.cons (.whole rfl rfl (by simp)) (.cons (.whole rfl rfl (by simp)) (.cons (.whole rfl rfl (by simp)) (.cons (.whole rfl rfl (by simp)) .nil))))))))))))))) .nil) ?_
 simp [unk,unA,unE,unT,unC,flat,Cat.cells]
 refine hK _ ?_;clear hK K
 refine Q8 ?_
 refine Qd (st':=⟨[(4,.adr 4 0 0),(5,.val (.int .i64 z2)),(7,.adr 9 0 0),(10,.val (.int .i64 (1+r1.size))),(11,.val (.int .i64 (1+r1.size))),(12,.adr 14 0 0),(13,.val (.int .i64 z2))],[(0,.row 1 (Is r1.fr)),(1,.row 1 (Is r1.to)),(2,.row 1 (Is r1.id)),(3,.row 1 (Ls r1.cs)),(4,.mix 5 [[.val (.int .i64 r1.n),.own 0 0 r1.fr.length,.own 1 0 r1.to.length,.own 2 0 r1.id.length,.own 3 0 r1.cs.length]]),(5,.row 1 (Is (r1.mark 1).fr)),(6,.row 1 (Is (r1.mark 1).to)),(7,.row 1 (Is (r1.mark 1).id)),(8,.row 1 (Ls (r1.mark 1).cs)),(9,.mix 5 [[.val (.int .i64 r1.n),.own 5 0 r1.fr.length,.own 6 0 r1.to.length,.own 7 0 r1.id.length,.own 8 0 r1.cs.length]]),(10,.row 1 (Is r1.fr)),(11,.row 1 (Is r1.to)),(12,.row 1 (Is r1.id)),(13,.row 1 (Ls r1.cs)),(14,.mix 5 [[.val (.int .i64 r1.n),.own 10 0 r1.fr.length,.own 11 0 r1.to.length,.own 12 0 r1.id.length,.own 13 0 r1.cs.length]])],15⟩) (Wk.rel [(1,0),(2,1),(3,2),(4,3),(5,4),(6,5),(7,6),(8,7),(9,8),(10,9),(26,10),(27,11),(28,12),(29,13),(31,14)] (by simp) (by simp) (by rw [hP];simp) (by simp) (by simp) (by simp) (by simp [hhOk,back])) ?_
 refine srQ hN fun K hK=>?_
 simp
 refine Q5 (c26 true true r1) (.cons (.aggL (.cons .val (.cons (.whole rfl rfl (by simp)) (.cons (.whole rfl rfl (by simp)) (.cons (.whole rfl rfl (by simp)) (.cons (.whole rfl rfl (by simp)) .nil)))))) (.cons (.aggL (.cons .val (.cons (.whole rfl rfl (by simp)) (.cons (.whole rfl rfl (by simp)) (.cons (.whole rfl rfl (by simp)) (.cons (.whole rfl rfl (by simp)) .nil)))))) .nil)) ?_
 simp [unk,unA,unE,flat]
 refine hK _ ?_;clear hK K
 refine Qi rfl (fun h=>by simp at h) fun _=>?_
 refine Qj ?_
 refine Qd (st':=⟨[(7,.adr 4 0 0),(10,.val (.int .i64 (1+r1.size))),(11,.val (.int .i64 (1+r1.size)))],[(0,.row 1 (Is (r1.mark 1).fr)),(1,.row 1 (Is (r1.mark 1).to)),(2,.row 1 (Is (r1.mark 1).id)),(3,.row 1 (Ls (r1.mark 1).cs)),(4,.mix 5 [[.val (.int .i64 r1.n),.own 0 0 r1.fr.length,.own 1 0 r1.to.length,.own 2 0 r1.id.length,.own 3 0 r1.cs.length]])],5⟩) (Wk.rel [(5,0),(6,1),(7,2),(8,3),(9,4)] (by simp) (by simp) (by rw [hP];simp) (by simp) (by simp) (by simp) (by simp [hhOk,back])) ?_
 refine srQ hN fun K hK=>?_
 simp
 refine hK _ ?_;clear hK K
 refine srQ hN fun K hK=>?_
 simp
 refine Q5 (c36 true r1 (1) ok_r1 (by omega) (by omega)) (.cons (.aggL (.cons .val (.cons (.whole rfl rfl (by simp [Cat.mark])) (.cons (.whole rfl rfl (by simp [Cat.mark])) (.cons (.whole rfl rfl (by simp [Cat.mark])) (.cons (.whole rfl rfl (by simp [Cat.mark])) .nil)))))) (.cons .val .nil)) ?_
 simp [unk,unA,unE,flat]
 refine hK _ ?_;clear hK K
 refine Q8 ?_
 refine Qd (st':=⟨[(10,.val (.int .i64 (1+r1.size))),(11,.val (.int .i64 (1+r1.size)))],[],0⟩) (Wk.rel [] (by simp) (by simp) (by rw [hP];simp) (by simp) (by simp) (by simp) (by simp [hhOk,back])) ?_
 refine srQ hN fun K hK=>?_
 simp
 refine hK _ ?_;clear hK K
 refine Qi rfl (fun g=>?_) fun g=>?_
 ·simp at g
  omega
 refine Qj ?_
 refine Q8 ?_
 refine srQ hN fun K hK=>?_
 simp
 refine hK _ ?_;clear hK K
 refine Qi rfl (fun h=>by simp at h) fun _=>?_
 refine Qj ?_
 refine srQ hN fun K hK=>?_
 simp
 refine hK _ ?_;clear hK K
 refine Qn (Qo rfl rfl)
end Go.Vc.T
