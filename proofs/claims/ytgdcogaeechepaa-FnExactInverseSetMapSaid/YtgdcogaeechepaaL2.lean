/- A part of the proof: a verified generator of conditions, and what each function of the program does. -/
import Derived.Test.YtgdcogaeechepaaL1
set_option maxRecDepth 100000
set_option linter.unusedSimpArgs false
set_option linter.unusedVariables false

/- append, as an operation. -/
namespace Go.Vc
open Go

/-- What is found in fewer blocks is found in more. -/
theorem cont_sub {h h' : HP} (hs : ∀ id e, h' id = some e → h id = some e) : ∀ (d id : Nat) (x : Nat × List (List AV)), cont h' d id = some x → cont h d id = some x ∧ ∃ r, root h' d id = some r ∧ root h d id = some r ∧ (h' r).isSome = true := by
  intro d
  induction d with
  | zero => intro id x hx; simp [cont] at hx
  | succ d ih =>
    intro id x hx
    unfold cont at hx ⊢
    cases he : h' id with
    | none => simp [he] at hx
    | some e =>
      have he2 := hs id e he
      cases e with
      | mix => exact ⟨by simpa [he, he2] using hx, id, by simp [root, he], by simp [root, he2], by simp [he]⟩
      | row => exact ⟨by simpa [he, he2] using hx, id, by simp [root, he], by simp [root, he2], by simp [he]⟩
      | ali c i k s =>
        simp only [he, he2] at hx ⊢
        split at hx
        · simp at hx
        · rename_i hm
          cases hc : cont h' d c with
          | none => simp [hc] at hx
          | some p =>
            obtain ⟨h1, r, h2, h3, h4⟩ := ih c p hc
            have hcs : (h' c).isSome = true := by
              cases hcc : h' c with
              | none =>
                cases d with
                | zero => simp [cont] at hc
                | succ d => simp [cont, hcc] at hc
              | some => rfl
            obtain ⟨ec, hec⟩ := Option.isSome_iff_exists.1 hcs
            have : isMixE (h c) = isMixE (h' c) := by rw [hec, hs c ec hec]
            rw [this, if_neg hm, h1]
            rw [hc] at hx
            exact ⟨hx, r, by simp [root, he, h2], by simp [root, he2, h3], h4⟩

section
variable {P : Program} {C : Ctx} {a : Act} {w : World} {g : Gh} {h : HP} {n : Nat} {e : Eff} {c : Prop} {ev : Operand → AV}

theorem RRel.isVal {R : Nat → Prop} {u : Value} {b : AV} (hx : RRel w R u b) (hv : isVal b = true) : ∃ v, b = .val v ∧ u = v ∧ sc v := by
  cases hx with
  | val h => exact ⟨_, rfl, rfl, h⟩
  | _ => simp [Vc.isVal] at hv

theorem TRel.isVal {R : Nat → Prop} {o : Nat → Option (List Nat)} {L : List Nat} {u : Value} {b : AV} (hx : TRel w R o L u b) (hv : isVal b = true) : ∃ v, b = .val v ∧ u = v ∧ sc v := by
  cases hx with
  | val h => exact ⟨_, rfl, rfl, h⟩
  | _ => simp [Vc.isVal] at hv

theorem cell_isVal {es : List (List AV)} (hall : ∀ e ∈ es, ∀ c ∈ e, isVal c = true) {j k : Nat} (hj : j < es.length) (hk : k < (es.getD j []).length) : isVal ((es.getD j []).getD k .bot) = true := by
  have h1 : es.getD j [] ∈ es := by simp [List.getD_eq_getElem?_getD, List.getElem?_eq_getElem hj]
  refine hall _ h1 _ ?_
  generalize es.getD j [] = q at hk
  simp [List.getD_eq_getElem?_getD, List.getElem?_eq_getElem hk]

theorem part_getD (es : List (List AV)) (off m j : Nat) (hj : j < m) : ((es.drop off).take m).getD j [] = es.getD (off + j) [] := by
  simp [List.getD_eq_getElem?_getD, List.getElem?_drop, hj]

theorem part_length (es : List (List AV)) (off m : Nat) (h : off + m ≤ es.length) : ((es.drop off).take m).length = m := by
  rw [List.length_take, List.length_drop]; omega

/-- The source of an append. -/
theorem src_rel (H : HRel w g h) {sz : Nat} {av : AV} {xv : Value} {cn : Prop} {es : List (List AV)} {d : List Nat} (hs : src h sz av = some (cn, es, d)) (hc : cn) (hx : XRel w g.R g.ρ xv av) (lab : Nat → Nat → List Nat) :
    ∃ ad cx, ∃ us : Nat → Nat → Value, xv = .slice ad es.length cx ∧ (∀ j, j < es.length → (es.getD j []).length = sz) ∧
      (∀ j k, j < es.length → k < sz → ∃ b x0, ad = some ⟨b, x0, none⟩ ∧ w.cell? ⟨b, x0 + (j * sz + k), none⟩ = some (us j k)) ∧ (∀ j k, j < es.length → k < sz → one (us j k)) ∧
      ∃ ky : List (Nat × List Nat), ky.map Prod.fst = d ∧ ∀ j k, j < es.length → k < sz → Lays w g ky (lab j k) (us j k) ((es.getD j []).getD k .bot) := by
  unfold src at hs
  split at hs
  · simp only [Option.some.injEq, Prod.mk.injEq] at hs
    obtain ⟨rfl, rfl, rfl⟩ := hs
    obtain ⟨rfl, _⟩ := hx.val_eq
    exact ⟨none, 0, fun _ _ => undef, rfl, fun j hj => by simp at hj, fun j k hj => by simp at hj, fun j k hj => by simp at hj, [], rfl, fun j k hj => by simp at hj⟩
  · rename_i u sz' es'
    split at hs
    · rename_i hsz
      subst hsz
      simp only [Option.some.injEq, Prod.mk.injEq] at hs
      obtain ⟨rfl, rfl, rfl⟩ := hs
      have hx := hx.lst_eq
      cases hx with
      | nil => exact ⟨_, _, fun _ _ => undef, rfl, fun j hj => by simp at hj, fun j k hj => by simp at hj, fun j k hj => by simp at hj, [], rfl, fun j k hj => by simp at hj⟩
      | @lst _ _ _ b x0 cap cur el fr us hR hh h5 h6 h7 h8 h9 h10 =>
        refine ⟨_, _, us, rfl, h7, fun j k hj hk => ⟨b, x0, rfl, ?_⟩, h9, [], rfl, fun j k hj hk => ?_⟩
        · rw [cell_heap hh, ← Nat.add_assoc]; exact h8 j k hj hk
        · obtain ⟨v, hv1, hv2, hv3⟩ := (h10 j k hj hk).isVal (cell_isVal hc hj (by rw [h7 j hj]; exact hk))
          rw [hv1, hv2]
          exact fun _ _ _ _ => .val hv3
    · simp at hs
  · rename_i id off m
    split at hs
    · rename_i sz' es' hent
      split at hs
      · rename_i hsz
        subst hsz
        split at hs
        · rename_i q d' hlay
          simp only [Option.some.injEq, Prod.mk.injEq] at hs
          obtain ⟨rfl, rfl, rfl⟩ := hs
          have hpl := part_length es' off m hc
          rcases hx.own_eq with ⟨s0, c0, hb, hv, _, rfl⟩ | ⟨b, bsz, cap, cc, x0, hb, hv, h5, h6, h7, h8, h9⟩
          · obtain ⟨b, cur, el, us, hbk, _⟩ := (H.mix id _ _ _ hent hb).ex
            simp at hbk
          · obtain ⟨b', cur, el, us, hbk, ho', hh, hszc, hml, hl, hcur, h1, hxr⟩ := (H.mix id _ _ _ hent hb).ex
            simp only [Bk.mk.injEq, Option.some.injEq] at hbk
            obtain ⟨rfl, rfl, _⟩ := hbk
            obtain ⟨r1, r2, r3, ky, r4, r5⟩ := layEs_rel H bsz (fun i k => us (off + i) k) lab ((es'.drop off).take m) q d' 0 hlay
              (fun j hj => by rw [hpl] at hj; rw [part_getD _ _ _ _ hj]; exact hl _ (by omega))
              (fun j k hj hk => by
                rw [hpl] at hj
                rw [part_getD _ _ _ _ hj, Nat.zero_add]
                exact hxr _ _ (by omega) hk)
            rw [hpl] at r1
            simp only [Nat.zero_add] at r3 r5
            refine ⟨some ⟨b, x0, none⟩, cc, fun j k => us (off + j) k, by rw [hv, r1], r2, fun j k hj hk => ⟨b, x0, rfl, ?_⟩, r3, ky, r4, r5⟩
            rw [h7 (by omega), cell_heap hh, ← Nat.add_assoc, ← Nat.add_mul]
            exact hcur (off + j) k (by omega) hk
        · simp at hs
      · simp at hs
    · rename_i ent hnm hent
      split at hs
      · rename_i sz' es' hcont
        split at hs
        · rename_i hsz
          subst hsz
          simp only [Option.some.injEq, Prod.mk.injEq] at hs
          obtain ⟨rfl, rfl, rfl⟩ := hs
          obtain ⟨hc1, hc2⟩ := hc
          have hpl := part_length es' off m hc1
          have hmix : isMixE (h id) = false := by
            rw [hent]; cases ent with
            | mix s es2 => exact absurd rfl (hnm s es2)
            | _ => rfl
          have triv : m = 0 → ∀ ad cx, xv = .slice ad m cx → _ := fun hm ad cx hv => (⟨ad, cx, fun _ _ => undef, by rw [hpl]; exact hv, fun j hj => by rw [hpl] at hj; omega, fun j k hj => by rw [hpl] at hj; omega, fun j k hj => by rw [hpl] at hj; omega, [], rfl, fun j k hj => by rw [hpl] at hj; omega⟩ :
            ∃ ad cx, ∃ us : Nat → Nat → Value, xv = .slice ad ((es'.drop off).take m).length cx ∧ (∀ j, j < ((es'.drop off).take m).length → (((es'.drop off).take m).getD j []).length = sz') ∧
              (∀ j k, j < ((es'.drop off).take m).length → k < sz' → ∃ b x0, ad = some ⟨b, x0, none⟩ ∧ w.cell? ⟨b, x0 + (j * sz' + k), none⟩ = some (us j k)) ∧ (∀ j k, j < ((es'.drop off).take m).length → k < sz' → one (us j k)) ∧
              ∃ ky : List (Nat × List Nat), ky.map Prod.fst = [] ∧ ∀ j k, j < ((es'.drop off).take m).length → k < sz' → Lays w g ky (lab j k) (us j k) ((((es'.drop off).take m).getD j []).getD k .bot))
          rcases hx.own_eq with ⟨s0, c0, hb, hv, _, rfl⟩ | ⟨b, bsz, cap, cc, x0, hb, hv, h5, h6, h7, h8, h9⟩
          · exact triv rfl _ _ hv
          · by_cases hm0 : m = 0
            · exact triv hm0 _ _ hv
            · obtain ⟨hbs, v0, r0, M0, _, _, ht, hhd⟩ := cont_rel H _ _ _ _ _ hcont hmix hb
              simp only at hbs
              subst hbs
              have hne : es' ≠ [] := by rintro rfl; simp at hc1; omega
              have hhd := hhd.resolve_right hne
              cases ht with
              | nil => exact absurd rfl hne
              | @own _ _ _ b2 cap2 cur el us hob hh g1 g2 g3 g4 g5 g6 g7 =>
                cases hhd
                refine ⟨some ⟨b, x0, none⟩, cc, fun j k => us (off + j) k, by rw [hv, hpl], fun j hj => ?_, fun j k hj hk => ⟨b, x0, rfl, ?_⟩, fun j k hj hk => ?_, [], rfl, fun j k hj hk => ?_⟩
                · rw [hpl] at hj; rw [part_getD _ _ _ _ hj]; exact g4 _ (by omega)
                · rw [hpl] at hj
                  rw [h7 (by omega), cell_heap hh, ← Nat.add_assoc, ← Nat.add_mul]
                  exact g5 (off + j) k (by omega) hk
                · rw [hpl] at hj; exact g6 _ _ (by omega) hk
                · rw [hpl] at hj
                  rw [part_getD _ _ _ _ hj]
                  have hlt : off + j < es'.length := by omega
                  obtain ⟨v, hv1, hv2, hv3⟩ := (g7 (off + j) k hlt hk).isVal (cell_isVal hc2 hlt (by rw [g4 _ hlt]; exact hk))
                  show Lays w g [] (lab j k) (us (off + j) k) _
                  rw [hv1, hv2]
                  exact fun _ _ _ _ => .val hv3
        · simp at hs
      · simp at hs
    · simp at hs
  · simp at hs


/-- A cell of what is appended to: it stays in its block, or is moved there. -/
def LaysB (w : World) (g : Gh) (id n : Nat) (ky : List (Nat × List Nat)) (L : List Nat) (u : Value) (b : AV) : Prop :=
  ∀ (w' : World) (o' : Nat → Option (List Nat)), (∀ b, g.R b → w'.heap[b]? = w.heap[b]?) → (∀ p ∈ ky, ∀ b M, g.o b = some (p.1 :: M) → o' b = some (p.2 ++ M) ∧ w'.heap[b]? = w.heap[b]?) →
    (∀ b i M, g.o b = some (id :: i :: M) → o' b = some (n :: i :: M) ∧ w'.heap[b]? = w.heap[b]?) → TRel w' g.R o' L u b

/-- The slice that is appended to. -/
theorem base_rel (H : HRel w g h) {sz n : Nat} {av : AV} {sv : Value} {cn : Prop} {es : List (List AV)} {i0 d : List Nat} (hs : base h sz av = some (cn, es, i0, d)) (hc : cn) (hx : XRel w g.R g.ρ sv av) :
    ∃ bo cap cur el, ∃ us : Nat → Nat → Value, sv = .slice (bo.map fun b => ⟨b, 0, none⟩) es.length cap ∧ (∀ b, bo = some b → w.heap[b]? = some (.cells cur el (0, 0)) ∧ cur.size = cap * sz ∧ ∃ id, i0 = [id] ∧ g.o b = some [id]) ∧
      (bo = none → es.length = 0 ∧ cap = 0) ∧ es.length ≤ cap ∧ cap ≤ maxLen ∧ (∀ j, j < es.length → (es.getD j []).length = sz) ∧
      (∀ j k, j < es.length → k < sz → cur[j * sz + k]? = some (us j k)) ∧ (∀ j k, j < es.length → k < sz → one (us j k)) ∧
      ∃ ky : List (Nat × List Nat), ky.map Prod.fst = d ∧ ∃ id, (es.length ≠ 0 → i0 = [id]) ∧ ∀ j k, j < es.length → k < sz → LaysB w g id n ky [n, j, k] (us j k) ((es.getD j []).getD k .bot) := by
  unfold base at hs
  split at hs
  · simp only [Option.some.injEq, Prod.mk.injEq] at hs
    obtain ⟨rfl, rfl, rfl, rfl⟩ := hs
    obtain ⟨rfl, _⟩ := hx.val_eq
    exact ⟨none, 0, #[], 0, fun _ _ => undef, rfl, by simp, by simp, by simp, by simp, by simp, by simp, by simp, [], rfl, 0, by simp, by simp⟩
  · rename_i id m
    have hzero : ∀ (q : List (List AV)) (d' : List Nat), es = q → d = d' → d' = [] → q = [] → sv = .slice none 0 0 → ∃ bo cap cur el, ∃ us : Nat → Nat → Value, sv = .slice (bo.map fun b => ⟨b, 0, none⟩) es.length cap ∧ (∀ b, bo = some b → w.heap[b]? = some (.cells cur el (0, 0)) ∧ cur.size = cap * sz ∧ ∃ id, i0 = [id] ∧ g.o b = some [id]) ∧
      (bo = none → es.length = 0 ∧ cap = 0) ∧ es.length ≤ cap ∧ cap ≤ maxLen ∧ (∀ j, j < es.length → (es.getD j []).length = sz) ∧
      (∀ j k, j < es.length → k < sz → cur[j * sz + k]? = some (us j k)) ∧ (∀ j k, j < es.length → k < sz → one (us j k)) ∧
      ∃ ky : List (Nat × List Nat), ky.map Prod.fst = d ∧ ∃ id, (es.length ≠ 0 → i0 = [id]) ∧ ∀ j k, j < es.length → k < sz → LaysB w g id n ky [n, j, k] (us j k) ((es.getD j []).getD k .bot) := by
      intro q d' h1 h2 h3 h4 h5
      subst h1; subst h2; subst h3; subst h4
      exact ⟨none, 0, #[], 0, fun _ _ => undef, h5, by simp, by simp, by simp, by simp, by simp, by simp, by simp, [], rfl, 0, by simp, by simp⟩
    split at hs
    · rename_i sz' es' hent
      split at hs
      · rename_i hsz
        subst hsz
        simp only [Option.some.injEq, Prod.mk.injEq] at hs
        obtain ⟨rfl, rfl, rfl, rfl⟩ := hs
        have hl : (es'.take m).length = m := by rw [List.length_take]; omega
        rcases hx.own_eq with ⟨s0, c0, hb, hv, _, rfl⟩ | ⟨b, bsz, cap, cc, x0, hb, hv, h5, h6, h7, h8, h9⟩
        · exact hzero _ _ rfl rfl rfl (by simp) hv
        · have hx0 := h8 rfl
          subst hx0
          have hcc : cc = cap := by omega
          subst hcc
          obtain ⟨v, hvt, hh⟩ := H.row id sz' es' _ hent hb
          cases hh
          cases hvt with
          | @own _ _ _ b2 cap2 cur el us hob hhp g1 g2 g3 g4 g5 g6 g7 =>
            have hg : ∀ j, j < m → (es'.take m).getD j [] = es'.getD j [] := by
              intro j hj; simp [List.getD_eq_getElem?_getD, List.getElem?_take, hj]
            refine ⟨some b, cc, cur, el, us, by rw [hv, hl]; rfl, fun b' hb' => ?_, by simp, by rw [hl]; exact h6, g3, fun j hj => ?_, fun j k hj hk => ?_, fun j k hj hk => ?_, [], rfl, id, fun _ => rfl, fun j k hj hk => ?_⟩
            · cases hb'; exact ⟨hhp, g1, id, rfl, hob⟩
            · rw [hl] at hj; rw [hg j hj]; exact g4 j (by omega)
            · rw [hl] at hj; exact g5 j k (by omega) hk
            · rw [hl] at hj; exact g6 j k (by omega) hk
            · rw [hl] at hj
              rw [hg j hj]
              intro w' o' hR _ ho
              refine (g7 j k (by omega) hk).mono _ fun b M hM => ?_
              have := ho b j (k :: M) (by simpa using hM)
              simpa using this
      · simp at hs
    · rename_i sz' es' hent
      split at hs
      · rename_i hsz
        subst hsz
        split at hs
        · rename_i q d' hlay
          simp only [Option.some.injEq, Prod.mk.injEq] at hs
          obtain ⟨rfl, rfl, rfl, rfl⟩ := hs
          have hl : (es'.take m).length = m := by rw [List.length_take]; omega
          have hg : ∀ j, j < m → (es'.take m).getD j [] = es'.getD j [] := by
            intro j hj; simp [List.getD_eq_getElem?_getD, List.getElem?_take, hj]
          rcases hx.own_eq with ⟨s0, c0, hb, hv, _, rfl⟩ | ⟨b, bsz, cap, cc, x0, hb, hv, h5, h6, h7, h8, h9⟩
          · obtain ⟨b, cur, el, us, hbk, _⟩ := (H.mix id _ _ _ hent hb).ex
            simp at hbk
          · have hx0 := h8 rfl
            subst hx0
            have hcc : cc = cap := by omega
            subst hcc
            obtain ⟨b', cur, el, us, hbk, ho', hh, hszc, hml, hll, hcur, h1, hxr⟩ := (H.mix id _ _ _ hent hb).ex
            simp only [Bk.mk.injEq, Option.some.injEq] at hbk
            obtain ⟨rfl, rfl, rfl⟩ := hbk
            obtain ⟨r1, r2, r3, ky, r4, r5⟩ := layEs_rel H bsz us (fun j k => [n, j, k]) (es'.take m) q d' 0 hlay
              (fun j hj => by rw [hl] at hj; rw [hg j hj]; exact hll _ (by omega))
              (fun j k hj hk => by
                rw [hl] at hj
                rw [hg j hj, Nat.zero_add]
                exact hxr _ _ (by omega) hk)
            rw [hl] at r1
            simp only [Nat.zero_add] at r3 r5
            refine ⟨some b, es'.length, cur, el, us, by rw [hv, r1]; rfl, fun b' hb' => ?_, by simp, by omega, hml, r2, fun j k hj hk => ?_, r3, ky, r4, id, fun _ => rfl, fun j k hj hk => ?_⟩
            · cases hb'; exact ⟨hh, hszc, id, rfl, ho'⟩
            · exact hcur j k (by omega) hk
            · exact fun w' o' hR hk' _ => r5 j k hj hk w' o' hR hk'
        · simp at hs
      · simp at hs
    · simp at hs
  · simp at hs

end
end Go.Vc

/- append, as an operation: the end. -/
namespace Go.Vc
open Go

section
variable {P : Program} {C : Ctx} {a : Act} {w : World} {g : Gh} {h : HP} {n : Nat} {e : Eff} {c : Prop} {ev : Operand → AV}

theorem mv_none {ky : List (Nat × List Nat)} {o : Nat → Option (List Nat)} {b : Nat} (h : o b = none) : mv ky o b = none := by simp [mv, h]

theorem mv_isSome {ky : List (Nat × List Nat)} {o : Nat → Option (List Nat)} {b : Nat} {L : List Nat} (h : mv ky o b = some L) : ∃ M, o b = some M := by
  cases ho : o b with
  | none => simp [mv, ho] at h
  | some M => exact ⟨M, rfl⟩

/-- Blocks move under a new name; one of them may have been written. -/
theorem move_fin (W : WF C w g) (H : HRel w g h) {ky : List (Nat × List Nat)} {sz : Nat} {es : List (List AV)} {bk : Bk} {v : Value} {w' : World} {o' : Nat → Option (List Nat)}
    (hn : h n = some (.row sz es)) (hρ : g.ρ n = none) (hnk : n ∉ ky.map Prod.fst)
    (hos : w'.os = w.os) (htape : w'.tape = w.tape) (hout : w'.output = w.output) (hsize : w.heap.size ≤ w'.heap.size)
    (hlab : ∀ b, b < w.heap.size → (∃ x, g.o b = some [x] ∧ x ∈ ky.map Prod.fst) ∨ w'.heap[b]? = w.heap[b]?)
    (ho : ∀ b, b < w.heap.size → o' b = mv ky g.o b) (ho2 : ∀ b L, o' b = some L → b < w'.heap.size)
    (hrow : TRel w' g.R o' [n] v (.lst true sz es)) (hh : Hdr v bk sz) :
    WF C w' ⟨g.R, o', upd g.ρ n bk⟩ ∧ HRel w' ⟨g.R, o', upd g.ρ n bk⟩ (fun id => if id ∈ ky.map Prod.fst then none else h id) ∧ (∀ b, g.R b → w'.heap[b]? = w.heap[b]?) := by
  have hR : ∀ b, g.R b → w'.heap[b]? = w.heap[b]? := by
    intro b hb
    obtain ⟨h1, h2⟩ := W.R b hb
    rcases hlab b h1 with ⟨x, hx, _⟩ | h'
    · rw [h2] at hx; cases hx
    · exact h'
  have hother : ∀ b x M, x ∉ ky.map Prod.fst → g.o b = some (x :: M) → o' b = some (x :: M) ∧ w'.heap[b]? = w.heap[b]? := by
    intro b x M hx hb
    have hlt := (W.o b _ hb).1
    refine ⟨by rw [ho b hlt]; exact mv_other (look_none hx) hb, ?_⟩
    rcases hlab b hlt with ⟨y, hy, hy2⟩ | h'
    · rw [hb] at hy; cases hy; exact absurd hy2 hx
    · exact h'
  have hρ' : ∀ id k, g.ρ id = some k → upd g.ρ n bk id = some k := by
    intro id k hk
    simp only [upd]; rw [if_neg (by rintro rfl; rw [hρ] at hk; cases hk)]; exact hk
  have hback : ∀ id k, id ≠ n → upd g.ρ n bk id = some k → g.ρ id = some k := by
    intro id k hne hk
    simp only [upd] at hk; rw [if_neg hne] at hk; exact hk
  have hsub : ∀ id e, (fun id => if id ∈ ky.map Prod.fst then none else h id) id = some e → h id = some e := by
    intro id e he
    simp only at he
    split at he
    · cases he
    · exact he
  refine ⟨⟨fun b hb => ⟨?_, ?_⟩, fun b L hb => ?_, hos.trans W.os, htape.trans W.tape, hout.trans W.output, Nat.le_trans W.size hsize, fun b hb hw => ?_⟩, ⟨fun id s es' bk' he hb => ?_, fun id s es' bk' he hb => ?_, fun id c i k s bk' he hb => ?_⟩, hR⟩
  · have := (W.R b hb).1; omega
  · show o' b = none
    rw [ho b (W.R b hb).1]; exact mv_none (W.R b hb).2
  · have hb' : o' b = some L := hb
    refine ⟨ho2 b L hb', ?_⟩
    by_cases hlt : b < w.heap.size
    · rw [ho b hlt] at hb'
      obtain ⟨M, hM⟩ := mv_isSome hb'
      exact (W.o b M hM).2
    · left; have := W.size; omega
  · have hlt : b < w.heap.size := by have := W.size; omega
    rcases hlab b hlt with ⟨x, hx, _⟩ | h'
    · rcases (W.o b _ hx).2 with h'' | h''
      · omega
      · exact absurd h'' hw
    · rw [h']; exact W.keep b hb hw
  · have he' := hsub _ _ he
    have hid : id ≠ n := by rintro rfl; rw [hn] at he'; cases he'
    have hnot : id ∉ ky.map Prod.fst := by intro hin; simp [hin] at he
    exact (H.mix id s es' bk' he' (hback _ _ hid hb)).mono hR hρ' fun b hb => hother b id [] hnot hb
  · have he' := hsub _ _ he
    by_cases hid : id = n
    · subst hid
      rw [hn] at he'
      simp only [Option.some.injEq, Ent.row.injEq] at he'
      obtain ⟨rfl, rfl⟩ := he'
      have hb' : upd g.ρ id bk id = some bk' := hb
      simp [upd] at hb'
      subst hb'
      exact ⟨v, hrow, hh⟩
    · have hnot : id ∉ ky.map Prod.fst := by intro hin; simp [hin] at he
      obtain ⟨v', hv', hh'⟩ := H.row id s es' bk' he' (hback _ _ hid hb)
      exact ⟨v', hv'.same fun b M hb => hother b id M hnot hb, hh'⟩
  · have he' := hsub _ _ he
    have hid : id ≠ n := by rintro rfl; rw [hn] at he'; cases he'
    obtain ⟨h1, bkc, h2, h3⟩ := H.ali id c i k s bk' he' (hback _ _ hid hb)
    refine ⟨h1, bkc, hρ' _ _ h2, fun d szc esc hcc hmc hi hk => ?_⟩
    obtain ⟨hco, r, hr1, hr2, hr3⟩ := cont_sub hsub d c _ hcc
    have hmc' : isMixE (h c) = false := by
      cases hcs : (fun id => if id ∈ ky.map Prod.fst then none else h id) c with
      | none =>
        cases d with
        | zero => simp [cont] at hcc
        | succ d => simp only at hcs; simp [cont, hcs] at hcc
      | some ec =>
        have := hsub c ec hcs
        rw [this]
        have hmc2 : isMixE ((fun id => if id ∈ ky.map Prod.fst then none else h id) c) = false := hmc
        rw [hcs] at hmc2
        exact hmc2
    obtain ⟨bc, cur, el, v', h4, h5, h6, h7⟩ := h3 d szc esc hco hmc' hi hk
    obtain ⟨_, v3, r3, M3, hroot, _, ht, hhd⟩ := cont_rel H d c szc esc bkc hco hmc' h2
    have hne : esc ≠ [] := by rintro rfl; simp at hi
    have hhd := hhd.resolve_right hne
    rw [hroot] at hr2
    cases hr2
    refine ⟨bc, cur, el, v', h4, ?_, h6, h7⟩
    have hrn : r ∉ ky.map Prod.fst := by intro hin; simp [hin] at hr3
    cases ht with
    | nil => exact absurd rfl hne
    | own us hob =>
      cases hhd
      cases h4
      exact (hother _ _ _ hrn hob).2.trans h5

variable (hev : ∀ x, XRel w g.R g.ρ (a.eval x) (ev x)) (W : WF C w g) (H : HRel w g h) (hnew : ∀ p ∈ e.new, h p.1 = some p.2) (hfr : ∀ id, n ≤ id → id < n + e.cnt → g.ρ id = none)
include hev W H hnew hfr

theorem step_append {o : Oper} {t et : TypeId} {s x : Operand} (ho : o.op = .call { callee := .builtin .append, args := #[s, x], argTypes := #[t, t] }) (ht : elm P t = some et)
    (he : appendv (tyi P et) (ev s) (ev x) h n = some (c, e)) (hc : c) : Step P C o a w g h n e := by
  have hu := elm_some ht
  unfold appendv at he
  split at he
  · rename_i ty hty
    obtain ⟨inf, d, z, h1, h2, h3, h4, hsc, h5, _⟩ := tyi_some hty
    subst h4
    split at he
    · rename_i c1 es i0 d1 c2 news d2 hbase hsrc
      simp only at hbase hsrc
      split at he
      · rename_i hnd
        simp only [Option.some.injEq, Prod.mk.injEq] at he
        obtain ⟨rfl, rfl⟩ := he
        obtain ⟨hc1, hc2, hby, hlen, hpos⟩ := hc
        have hby' : (es.length + news.length) * inf.bytes ≤ 140737488355328 := hby
        have hpos' : 0 < inf.size := hpos
        obtain ⟨bo, cap, cur, el, us, hsv, hb1, hb2, hb3, hb4, hb5, hb6, hb7, ky1, hk1, idb, hidb, hb8⟩ := base_rel (n := n) H hbase hc1 (hev s)
        obtain ⟨ad, cx, us2, hxv, hs1, hs2, hs3, ky2, hk2, hs4⟩ := src_rel H hsrc hc2 (hev x) (fun j k => [n, es.length + j, k])
        -- the source's cells, in a row
        let nl : List Value := (List.range (news.length * inf.size)).map fun q => us2 (q / inf.size) (q % inf.size)
        have hqd : ∀ q, q < news.length * inf.size → q / inf.size < news.length ∧ q % inf.size < inf.size ∧ q / inf.size * inf.size + q % inf.size = q := by
          intro q hq
          refine ⟨Nat.div_lt_of_lt_mul (by rw [Nat.mul_comm]; exact hq), Nat.mod_lt _ hpos', ?_⟩
          have := Nat.div_add_mod q inf.size
          rw [Nat.mul_comm] at this; exact this
        have hnlg : ∀ q, q < news.length * inf.size → nl[q]? = some (us2 (q / inf.size) (q % inf.size)) := by
          intro q hq; simp [nl, hq]
        have hnll : nl.length = news.length * inf.size := by simp [nl]
        obtain ⟨v, w', hrun, hres⟩ := run_append (P := P) (w := w) (ty := o.type) hu h1 h3 h5 bo es.length cap cur el (fun b hb => ⟨(hb1 b hb).1, (hb1 b hb).2.1⟩) hb2 hb3 ad news.length cx nl hnll
          (fun q u hq => by
            have hlt : q < news.length * inf.size := by
              rcases Nat.lt_or_ge q nl.length with h' | h'
              · omega
              · rw [List.getElem?_eq_none h'] at hq; cases hq
            obtain ⟨e1, e2, e3⟩ := hqd q hlt
            obtain ⟨b, x0, g1, g2⟩ := hs2 _ _ e1 e2
            rw [hnlg q hlt] at hq
            cases hq
            exact ⟨b, x0, g1, by rw [← e3]; simpa [e3] using g2⟩)
          (fun u hu => by
            obtain ⟨q, hq, rfl⟩ := List.mem_map.1 hu
            obtain ⟨e1, e2, _⟩ := hqd q (by simpa using hq)
            exact hs3 _ _ e1 e2) hpos' hby' hlen hb4
        have hexec : (execOp a.eval o).run P w = .ok (.value v) w' := by
          simp [execOp, ho, resolve, invoke, builtin, hsv, hxv, hrun]
        let ky : List (Nat × List Nat) := (i0.map fun id => (id, [n])) ++ (ky1 ++ ky2)
        have hkyf : ky.map Prod.fst = i0 ++ (d1 ++ d2) := by simp [ky, hk1, hk2, Function.comp_def]
        have hkn : (ky.map Prod.fst).Nodup := by rw [hkyf]; exact (List.nodup_cons.1 hnd).2
        have hnk : n ∉ ky.map Prod.fst := by rw [hkyf]; exact (List.nodup_cons.1 hnd).1
        have hn : h n = some (.row inf.size (es ++ news)) := hnew (n, _) (by simp)
        have hρ : g.ρ n = none := hfr n (Nat.le_refl _) (by simp)
        -- the cells of the new row, wherever it lies
        have hels : ∀ (w' : World) (o' : Nat → Option (List Nat)), (∀ b, g.R b → w'.heap[b]? = w.heap[b]?) → (∀ b, b < w.heap.size → (∃ x, g.o b = some [x] ∧ i0 = [x]) ∨ w'.heap[b]? = w.heap[b]?) → (∀ b, b < w.heap.size → o' b = mv ky g.o b) →
            ∀ j k, j < (es ++ news).length → k < inf.size → TRel w' g.R o' [n, j, k] (if j < es.length then us j k else us2 (j - es.length) k) (((es ++ news).getD j []).getD k .bot) := by
          intro w' o' hR hhp ho' j k hj hk
          have hpk : ∀ p ∈ ky1 ++ ky2, ∀ b M, g.o b = some (p.1 :: M) → o' b = some (p.2 ++ M) ∧ w'.heap[b]? = w.heap[b]? := by
            intro p hp b M hb
            have hlt := (W.o b _ hb).1
            refine ⟨by rw [ho' b hlt]; exact mv_key (look_mem hkn (by simp [ky]; simp at hp; exact .inr hp)) hb, ?_⟩
            rcases hhp b hlt with ⟨y, hy, hy2⟩ | h'
            · rw [hb] at hy
              cases hy
              have hmem : p.1 ∈ d1 ++ d2 := by rw [← hk1, ← hk2, ← List.map_append]; exact List.mem_map.2 ⟨p, hp, rfl⟩
              have := (List.nodup_cons.1 hnd).2
              rw [hy2] at this
              exact absurd hmem (List.nodup_cons.1 (by simpa using this)).1
            · exact h'
          by_cases hje : j < es.length
          · rw [if_pos hje]
            have hid := hidb (by omega)
            have hget : ((es ++ news).getD j []) = es.getD j [] := by simp [List.getD_eq_getElem?_getD, List.getElem?_append_left hje]
            rw [hget]
            refine hb8 j k hje hk w' o' hR (fun p hp => hpk p (by simp [hp])) fun b i M hb => ?_
            have hlt := (W.o b _ hb).1
            refine ⟨?_, ?_⟩
            · rw [ho' b hlt]
              exact mv_key (L := [n]) (by have := look_mem hkn (p := (idb, [n])) (by simp [ky, hid]); exact this) hb
            · rcases hhp b hlt with ⟨y, hy, _⟩ | h'
              · rw [hb] at hy; simp at hy
              · exact h'
          · rw [if_neg hje]
            have hlen2 : (es ++ news).length = es.length + news.length := by simp
            have hget : ((es ++ news).getD j []) = news.getD (j - es.length) [] := by simp [List.getD_eq_getElem?_getD, List.getElem?_append_right (show es.length ≤ j by omega)]
            rw [hget]
            have := hs4 (j - es.length) k (by omega) hk w' o' hR (fun p hp => hpk p (by simp [hp]))
            rwa [show es.length + (j - es.length) = j by omega] at this
        have hones : ∀ j k, j < (es ++ news).length → k < inf.size → one (if j < es.length then us j k else us2 (j - es.length) k) := by
          intro j k hj hk
          simp only [List.length_append] at hj
          split
          · rename_i hje; exact hb7 j k hje hk
          · exact hs3 _ _ (by omega) hk
        have hlens : ∀ j, j < (es ++ news).length → ((es ++ news).getD j []).length = inf.size := by
          intro j hj
          simp only [List.length_append] at hj
          by_cases hje : j < es.length
          · have := hb5 j hje
            simpa [List.getD_eq_getElem?_getD, List.getElem?_append_left hje] using this
          · have := hs1 (j - es.length) (by omega)
            simpa [List.getD_eq_getElem?_getD, List.getElem?_append_right (show es.length ≤ j by omega)] using this
        have hcells : ∀ (cur' : Array Value), (∀ q, q < es.length * inf.size → cur'[q]? = cur[q]?) → (∀ q, q < news.length * inf.size → cur'[es.length * inf.size + q]? = nl[q]?) →
            ∀ j k, j < (es ++ news).length → k < inf.size → cur'[j * inf.size + k]? = some (if j < es.length then us j k else us2 (j - es.length) k) := by
          intro cur' g1 g2 j k hj hk
          simp only [List.length_append] at hj
          by_cases hje : j < es.length
          · rw [if_pos hje, g1 _ (cell_lt hje hk)]; exact hb6 j k hje hk
          · rw [if_neg hje]
            have hlt : (j - es.length) * inf.size + k < news.length * inf.size := cell_lt (by omega) hk
            have e1 : j * inf.size + k = es.length * inf.size + ((j - es.length) * inf.size + k) := by
              rw [← Nat.add_assoc, ← Nat.add_mul, show es.length + (j - es.length) = j by omega]
            rw [e1, g2 _ hlt, hnlg _ hlt]
            have e2 : ((j - es.length) * inf.size + k) / inf.size = j - es.length := by
              rw [Nat.add_comm, Nat.add_mul_div_right _ _ hpos', Nat.div_eq_of_lt hk, Nat.zero_add]
            rw [e2, mod_cell hk]
        intro K Q kk
        -- what is the same on all three ways
        have fin : ∀ (bk : Bk) (o' : Nat → Option (List Nat)), w'.os = w.os → w'.tape = w.tape → w'.output = w.output → w.heap.size ≤ w'.heap.size → (∀ b, b < w.heap.size → (∃ x, g.o b = some [x] ∧ i0 = [x]) ∨ w'.heap[b]? = w.heap[b]?) →
            (∀ b, b < w.heap.size → o' b = mv ky g.o b) → (∀ b L, o' b = some L → b < w'.heap.size) → TRel w' g.R o' [n] v (.lst true inf.size (es ++ news)) → Hdr v bk inf.size → XRel w' g.R (upd g.ρ n bk) v (.own n 0 (es.length + news.length)) → K (a.put o.dst v) w' := by
          intro bk o' q1 q2 q3 q4 q5 q6 q7 q8 q9 q10
          obtain ⟨f1, f2, f3⟩ := move_fin W H hn hρ hnk q1 q2 q3 q4 (fun b hb => (q5 b hb).imp (fun ⟨x, hx, hx2⟩ => ⟨x, hx, by rw [hkyf, hx2]; simp⟩) id) q6 q7 q8 q9
          refine kk v w' o' (upd g.ρ n bk) f1 ?_ ?_ ?_ q10 f3
          · have : (fun id => if id ∈ ky.map Prod.fst then none else h id) = happ { v := AV.own n 0 (es.length + news.length), del := i0 ++ (d1 ++ d2), new := [(n, .row inf.size (es ++ news))], cnt := 1 } h := by
              funext id; simp only [happ, look, hkyf]
            rw [← this]; exact f2
          · intro id k hk
            simp only [upd]; rw [if_neg (by rintro rfl; rw [hρ] at hk; cases hk)]; exact hk
          · intro id k hk
            simp only [upd] at hk
            split at hk
            · rename_i hid; subst hid; exact .inr ⟨Nat.le_refl _, by simp⟩
            · exact .inl hk
        refine wp_of_value hexec ?_
        rcases hres with ⟨rfl, hz0, rfl, rfl⟩ | ⟨b, rfl, rfl, hroom, cur', hc's, rfl, g1, g2⟩ | ⟨cap', cur', rfl, hroom, hcm, hc's, rfl, g1, g2⟩
        · -- nothing at all
          obtain ⟨he0, hc0⟩ := hb2 rfl
          have hnil : es ++ news = [] := List.eq_nil_of_length_eq_zero (by rw [List.length_append]; omega)
          refine fin ⟨none, inf.size, 0⟩ (mv ky g.o) rfl rfl rfl (Nat.le_refl _) (fun _ _ => .inr rfl) (fun _ _ => rfl) (fun b L hb => ?_) (by rw [hnil]; exact .nil) .nil ?_
          · obtain ⟨M, hM⟩ := mv_isSome hb; exact (W.o b M hM).1
          · rw [he0, hz0]; exact .own0 (sz := inf.size) (cap := 0) (by simp [upd])
        · -- in its own block
          obtain ⟨hh, hcs, x, hx1, hx2⟩ := hb1 b rfl
          have hhb : ∀ b', b' < w.heap.size → (∃ x, g.o b' = some [x] ∧ i0 = [x]) ∨ (w.setRow b cur').heap[b']? = w.heap[b']? := by
            intro b' _
            by_cases hbb : b' = b
            · subst hbb; exact .inl ⟨x, hx2, hx1⟩
            · exact .inr (setRow_other w b b' cur' hbb)
          have hRb : ∀ b', g.R b' → (w.setRow b cur').heap[b']? = w.heap[b']? := fun b' hb' => setRow_other w b b' cur' (by rintro rfl; have := (W.R b' hb').2; rw [hx2] at this; cases this)
          refine fin ⟨some b, inf.size, cap⟩ (mv ky g.o) rfl rfl rfl (by simp) hhb (fun _ _ => rfl) (fun b L hb => ?_) ?_ .own ?_
          · obtain ⟨M, hM⟩ := mv_isSome hb
            have := (W.o _ M hM).1
            simpa using this
          · have := TRel.own (w := w.setRow b cur') (R := g.R) (o := mv ky g.o) (L := [n]) (sz := inf.size) (es := es ++ news) (b := b) (cap := cap) (cur := cur') (e := el) (fun j k => if j < es.length then us j k else us2 (j - es.length) k)
              (mv_key (M := []) (by have := look_mem hkn (p := (x, [n])) (by simp [ky, hx1]); exact this) hx2) (setRow_heap w b cur cur' el (0, 0) hh) (by rw [hc's, hcs]) (by simpa using hroom) hb4 hlens (hcells cur' g1 g2) hones
              (fun j k hj hk => hels _ _ hRb hhb (fun _ _ => rfl) j k hj hk)
            simpa using this
          · exact .own (sz := inf.size) (by simp [upd]) (Nat.zero_add _) hroom (by simp) (by simp) hb4
        · -- in a new block
          have hold : ∀ b, b < w.heap.size → (w.drew.alloc (.cells cur' et)).heap[b]? = w.heap[b]? := fun b hb => alloc_old w.drew _ hb
          have ho' : ∀ b, b < w.heap.size → upd (mv ky g.o) w.heap.size [n] b = mv ky g.o b := fun b hb => by simp only [upd]; rw [if_neg (by omega)]
          refine fin ⟨some w.heap.size, inf.size, cap'⟩ (upd (mv ky g.o) w.heap.size [n]) rfl rfl rfl (by simp) (fun b hb => .inr (hold b hb)) ho' (fun b L hb => ?_) ?_ .own ?_
          · simp only [upd] at hb
            split at hb
            · rename_i hbb; subst hbb; simp
            · obtain ⟨M, hM⟩ := mv_isSome hb
              have := (W.o _ M hM).1
              simp; omega
          · have := TRel.own (w := w.drew.alloc (.cells cur' et)) (R := g.R) (o := upd (mv ky g.o) w.heap.size [n]) (L := [n]) (sz := inf.size) (es := es ++ news) (b := w.heap.size) (cap := cap') (cur := cur') (e := et) (fun j k => if j < es.length then us j k else us2 (j - es.length) k)
              (by simp [upd]) (alloc_new w.drew _) hc's (by simpa using hroom) hcm hlens (hcells cur' g1 g2) hones
              (fun j k hj hk => hels _ _ (fun b hb => hold b (W.R b hb).1) (fun b hb => .inr (hold b hb)) ho' j k hj hk)
            simpa using this
          · exact .own (sz := inf.size) (by simp [upd]) (Nat.zero_add _) hroom (by simp) (by simp) hcm
      · simp at he
    · simp at he
  · simp at he

end
end Go.Vc

/- Stores. -/
namespace Go.Vc
open Go

/-- A variable of a type is written. -/
theorem run_storeAt {P : Program} {w : World} {t : TypeId} {ty : Tyi} (ht : tyi P t = some ty) {b x : Nat} {cur : Array Value} {el : TypeId} {v : Value} (hh : w.heap[b]? = some (.cells cur el (0, 0))) (hv : v.cells.size = ty.sz) (hfit : x + ty.sz ≤ cur.size)
    (h1 : ∀ k, k < ty.sz → one (v.cells.getD k undef)) :
    (Instr.storeAt t (.pointer (some ⟨b, x, none⟩)) v).run P w = .ok () (w.setRow b (cur.toList.take x ++ v.cells.toList ++ cur.toList.drop (x + ty.sz)).toArray) := by
  obtain ⟨inf, d, z, e1, e2, e3, e4, _⟩ := tyi_some ht
  subst e4
  simp only at hv hfit h1
  have hst := run_storeCells_at P b x el v.cells.toList 0 cur w hh (by simpa [hv] using hfit) (fun u hu => by
    obtain ⟨k, hk, rfl⟩ := List.mem_iff_getElem.1 hu
    have hk' : k < v.cells.size := by simpa using hk
    have := h1 k (by omega)
    simpa [hk', one] using this)
  simp only [Nat.add_zero, Array.length_toList, hv] at hst
  simp [Instr.storeAt, Instr.sureAddr, storeVar, hv, sizeOf, typeInfo, e1, hst]

theorem new_cells (cur : Array Value) (x : Nat) (vs : Array Value) (hfit : x + vs.size ≤ cur.size) (q : Nat) :
    (cur.toList.take x ++ vs.toList ++ cur.toList.drop (x + vs.size)).toArray[q]? = if x ≤ q ∧ q < x + vs.size then vs[q - x]? else cur[q]? := by
  have hl : (cur.toList.take x).length = x := by simp; omega
  simp only [List.getElem?_toArray, List.append_assoc]
  by_cases h1 : q < x
  · rw [List.getElem?_append_left (by omega), List.getElem?_take, if_pos h1, if_neg (by omega)]; simp
  · rw [List.getElem?_append_right (by omega), hl]
    by_cases h2 : q < x + vs.size
    · rw [List.getElem?_append_left (by simp; omega), if_pos (by omega)]; simp
    · rw [List.getElem?_append_right (by simp; omega), if_neg (by omega), List.getElem?_drop]
      simp only [Array.length_toList, Array.getElem?_toList]
      congr 1; omega

theorem new_size (cur : Array Value) (x : Nat) (vs : Array Value) (hfit : x + vs.size ≤ cur.size) : (cur.toList.take x ++ vs.toList ++ cur.toList.drop (x + vs.size)).toArray.size = cur.size := by
  simp; omega

/-- The same shape: where a list is owned now, a list was owned. -/
def Sim : Nat → List (List AV) → List (List AV) → Prop
  | 0, _, _ => True
  | n + 1, es, es' => es.length = es'.length ∧ ∀ i k s x', (es'.getD i []).getD k .bot = .lst true s x' → ∃ x, (es.getD i []).getD k .bot = .lst true s x ∧ Sim n x x'

theorem Sim.refl : ∀ (n : Nat) (es : List (List AV)), Sim n es es
  | 0, _ => trivial
  | n + 1, _ => ⟨rfl, fun _ _ _ x' h => ⟨x', h, Sim.refl n x'⟩⟩

theorem set_cell (es : List (List AV)) (i k : Nat) (b : AV) (j l : Nat) (hi : i < es.length) (hk : k < (es.getD i []).length) :
    ((es.set i ((es.getD i []).set k b)).getD j []).getD l .bot = if j = i ∧ l = k then b else (es.getD j []).getD l .bot := by
  by_cases hj : j = i
  · subst hj
    have : (es.set j ((es.getD j []).set k b)).getD j [] = (es.getD j []).set k b := by simp [List.getD_eq_getElem?_getD, hi]
    rw [this]
    generalize es.getD j [] = q at hk ⊢
    by_cases hl : l = k
    · subst hl; simp [List.getD_eq_getElem?_getD, hk]
    · simp [List.getD_eq_getElem?_getD, Ne.symm hl, hl]
  · have : (es.set i ((es.getD i []).set k b)).getD j [] = es.getD j [] := by simp [List.getD_eq_getElem?_getD, Ne.symm hj]
    rw [this, if_neg (by simp [hj])]

theorem set_row (es : List (List AV)) (i k : Nat) (b : AV) (j : Nat) : ((es.set i ((es.getD i []).set k b)).getD j []).length = (es.getD j []).length := by
  by_cases hj : j = i
  · subst hj
    by_cases hi : j < es.length
    · simp [List.getD_eq_getElem?_getD, hi]
    · rw [getD_out (l := es.set j _) (by simp; omega), getD_out (by omega)]
  · simp [List.getD_eq_getElem?_getD, Ne.symm hj]

theorem Sim.set {n : Nat} {es : List (List AV)} {i k : Nat} {b : AV} (hi : i < es.length) (hk : k < (es.getD i []).length)
    (hb : ∀ s x', b = .lst true s x' → ∃ x, (es.getD i []).getD k .bot = .lst true s x ∧ Sim n x x') : Sim (n + 1) es (es.set i ((es.getD i []).set k b)) := by
  refine ⟨by simp, fun j l s x' h => ?_⟩
  rw [set_cell es i k b j l hi hk] at h
  split at h
  · rename_i hjl
    obtain ⟨rfl, rfl⟩ := hjl
    exact hb s x' h
  · exact ⟨x', h, Sim.refl n x'⟩

section
variable {P : Program} {C : Ctx} {a : Act} {w : World} {g : Gh} {h : HP} {n : Nat} {e : Eff} {c : Prop} {ev : Operand → AV}

/-- What is found when one root's row has turned, its shape kept. -/
theorem cont_sim {h h' : HP} {r sz : Nat} {es es' : List (List AV)} (h1 : h r = some (.row sz es)) (h2 : h' r = some (.row sz es')) (hs : ∀ n, Sim n es es') (ho : ∀ x, x ≠ r → h' x = h x) :
    ∀ (d id s : Nat) (x' : List (List AV)), cont h' d id = some (s, x') → ∃ x, cont h d id = some (s, x) ∧ ∀ n, Sim n x x' := by
  intro d
  induction d with
  | zero => intro id s x' hx; simp [cont] at hx
  | succ d ih =>
    intro id s x' hx
    have hm : ∀ c, isMixE (h c) = isMixE (h' c) := by
      intro c
      by_cases hc : c = r
      · subst hc; rw [h1, h2]; rfl
      · rw [ho c hc]
    unfold cont at hx ⊢
    by_cases hid : id = r
    · subst hid
      simp only [h2, Option.some.injEq, Prod.mk.injEq] at hx
      obtain ⟨rfl, rfl⟩ := hx
      exact ⟨es, by simp [h1], hs⟩
    · rw [ho id hid] at hx
      cases he : h id with
      | none => simp [he] at hx
      | some e =>
        cases e with
        | mix => exact ⟨x', by simpa [he] using hx, fun n => Sim.refl n _⟩
        | row => exact ⟨x', by simpa [he] using hx, fun n => Sim.refl n _⟩
        | ali c i k s2 =>
          simp only [he] at hx ⊢
          split at hx
          · simp at hx
          · rename_i hmc
            rw [hm c, if_neg hmc]
            cases hc : cont h' d c with
            | none => simp [hc] at hx
            | some p =>
              obtain ⟨sc', esc'⟩ := p
              obtain ⟨esc, q1, q2⟩ := ih c sc' esc' hc
              simp only [hc] at hx
              simp only [q1]
              split at hx
              · rename_i s3 x3 hcell
                split at hx
                · rename_i hs3
                  simp only [Option.some.injEq, Prod.mk.injEq] at hx
                  obtain ⟨rfl, rfl⟩ := hx
                  obtain ⟨x, hx1, _⟩ := (q2 1).2 i k s3 x3 hcell
                  refine ⟨x, by simp only [hx1, hs3, if_true], fun n => ?_⟩
                  obtain ⟨y, hy1, hy2⟩ := (q2 (n + 1)).2 i k s3 x3 hcell
                  rw [hx1] at hy1
                  cases hy1
                  exact hy2
                · simp at hx
              · simp at hx

/-- One cell of one owned row turns: what stands at the root. -/
theorem wr_rel (H : HRel w g h) : ∀ (d id sz : Nat) (es : List (List AV)) (bk : Bk), cont h d id = some (sz, es) → isMixE (h id) = false → g.ρ id = some bk → es ≠ [] →
    ∃ v r M, TRel w g.R g.o (r :: M) v (.lst true sz es) ∧ Hdr v bk sz ∧ (∃ s e, h r = some (.row s e)) ∧
      ∀ (w' : World) (es' : List (List AV)) (st : List (Nat × Ent)), (∀ n, Sim n es es') → (∀ b, g.R b → w'.heap[b]? = w.heap[b]?) → (∃ S, ∀ b, g.o b ≠ some (r :: M ++ S) → w'.heap[b]? = w.heap[b]?) → TRel w' g.R g.o (r :: M) v (.lst true sz es') →
        wr h d id es' = some st → ∃ szr esr esr' vr, h r = some (.row szr esr) ∧ st = [(r, .row szr esr')] ∧ (∀ n, Sim n esr esr') ∧ TRel w' g.R g.o [r] vr (.lst true szr esr') ∧ ∀ bkr, g.ρ r = some bkr → Hdr vr bkr szr := by
  intro d
  induction d with
  | zero => intro id sz es bk hc; simp [cont] at hc
  | succ d ih =>
    intro id sz es bk hc hm hb hne
    unfold cont at hc
    cases he : h id with
    | none => simp [he] at hc
    | some e =>
      cases e with
      | mix s e => simp [he, isMixE] at hm
      | row s e =>
        simp only [he, Option.some.injEq, Prod.mk.injEq] at hc
        obtain ⟨rfl, rfl⟩ := hc
        obtain ⟨v, hv, hh⟩ := H.row id s e bk he hb
        refine ⟨v, id, [], hv, hh, ⟨_, _, he⟩, fun w' es' st hsim _ _ ht hw => ?_⟩
        simp only [wr, he, Option.some.injEq] at hw
        exact ⟨s, e, es', v, he, hw.symm, hsim, ht, fun bkr hbr => by rw [hb] at hbr; cases hbr; exact hh⟩
      | ali c i k s =>
        simp only [he] at hc
        obtain ⟨hsz, bkc, hρc, hrest⟩ := H.ali id c i k s bk he hb
        split at hc
        · simp at hc
        · rename_i hmc
          cases hcc : cont h d c with
          | none => simp [hcc] at hc
          | some p =>
            obtain ⟨sc', esc⟩ := p
            simp only [hcc] at hc
            split at hc
            · rename_i s2 es2 hcell
              split at hc
              · rename_i hs2
                simp only [Option.some.injEq, Prod.mk.injEq] at hc
                obtain ⟨rfl, rfl⟩ := hc
                have hin := getD_cell hcell (by simp)
                have hnec : esc ≠ [] := by rintro rfl; simp at hin
                obtain ⟨v3, r, M, ht, hhd, hrow, hup⟩ := ih c sc' esc _ hcc (by simpa using hmc) hρc hnec
                cases ht with
                | nil => exact absurd rfl hnec
                | @own _ _ _ b2 cap2 cur2 el2 us hob hheap2 h1 h2 h3 h4 h5 h6 h7 =>
                  have hk : k < sc' := by rw [← h4 i hin.1]; exact hin.2
                  obtain ⟨bc, cur, e', v, hbc, hheap, hcur, hv⟩ := hrest d sc' esc hcc (by simpa using hmc) hin.1 hk
                  cases hhd with
                  | own =>
                    simp only [Option.some.injEq] at hbc
                    subst hbc
                    rw [hheap] at hheap2
                    obtain ⟨rfl, rfl⟩ := by simpa using hheap2
                    have hu : us i k = v := by have := h5 i k hin.1 hk; rw [hcur] at this; simpa using this.symm
                    have htt := h7 i k hin.1 hk
                    rw [hu, hcell] at htt
                    subst hs2
                    refine ⟨v, r, M ++ [i, k], by simpa using htt, hv.resolve_right fun hs => htt.scn_lst hs, hrow, fun w' es' st hsim hR hh ht' hw => ?_⟩
                    simp only [wr, he, hcc] at hw
                    obtain ⟨S, hh⟩ := hh
                    refine hup w' _ st (fun n => ?_) hR ⟨[i, k] ++ S, fun b hb => hh b (by simpa using hb)⟩ ?_ hw
                    · cases n with
                      | zero => trivial
                      | succ n => exact Sim.set hin.1 hin.2 fun s x' hx => by cases hx; exact ⟨_, hcell, hsim n⟩
                    · have hset : ∀ j l, ((esc.set i ((esc.getD i []).set k (.lst true s2 es'))).getD j []).getD l .bot = if j = i ∧ l = k then .lst true s2 es' else (esc.getD j []).getD l .bot :=
                        fun j l => set_cell esc i k _ j l hin.1 hin.2
                      have hlen : (esc.set i ((esc.getD i []).set k (.lst true s2 es'))).length = esc.length := by simp
                      rw [← hlen]
                      refine .own (e := e') us hob ?_ h1 (by rw [hlen]; exact h2) h3 (fun j hj => by rw [hlen] at hj; rw [set_row]; exact h4 j hj) (fun j l hj hl => by rw [hlen] at hj; exact h5 j l hj hl)
                        (fun j l hj hl => by rw [hlen] at hj; exact h6 j l hj hl) (fun j l hj hl => ?_)
                      · rw [hh b2 (by rw [hob]; intro he; have := congrArg (fun z => (z.getD []).length) he; simp at this)]; exact hheap
                      · rw [hlen] at hj
                        rw [hset]
                        by_cases hjl : j = i ∧ l = k
                        · obtain ⟨rfl, rfl⟩ := hjl
                          rw [if_pos ⟨rfl, rfl⟩, hu]
                          simpa using ht'
                        · rw [if_neg hjl]
                          refine (h7 j l hj hl).same fun b M' hb => ⟨hb, hh b ?_⟩
                          rw [hb]
                          intro he
                          simp at he
                          exact hjl ⟨he.1, he.2.1⟩
              · simp at hc
            · simp at hc


/-- One owned block is written, its root's row keeping its shape: the rest stands. -/
theorem HRel.write (W : WF C w g) (H : HRel w g h) {b0 : Nat} {r : Nat} {M : List Nat} {cur cur' : Array Value} {el : TypeId} (hl0 : g.o b0 = some (r :: M)) (hb0 : w.heap[b0]? = some (.cells cur el (0, 0)))
    {h' : HP} (hr' : (∃ sz es es', h r = some (.row sz es) ∧ h' r = some (.row sz es') ∧ (∀ n, Sim n es es') ∧ ∀ bk, g.ρ r = some bk → ∃ v, TRel (w.setRow b0 cur') g.R g.o [r] v (.lst true sz es') ∧ Hdr v bk sz) ∨
      (∃ sz es es', h r = some (.mix sz es) ∧ h' r = some (.mix sz es') ∧ ∀ bk, g.ρ r = some bk → MixRel (w.setRow b0 cur') g r bk sz es'))
    (ho : ∀ x, x ≠ r → h' x = h x) (hcell : ∀ (q : Nat) (v : Value), cur[q]? = some v → ∃ v', cur'[q]? = some v' ∧ (v' = v ∨ scn v' ∨ M = [] ∧ ∃ sz es, h r = some (.mix sz es))) :
    WF C (w.setRow b0 cur') g ∧ HRel (w.setRow b0 cur') g h' ∧ (∀ b, g.R b → (w.setRow b0 cur').heap[b]? = w.heap[b]?) := by
  have hoth : ∀ b, b ≠ b0 → (w.setRow b0 cur').heap[b]? = w.heap[b]? := fun b hb => setRow_other w b0 b cur' hb
  have hR : ∀ b, g.R b → (w.setRow b0 cur').heap[b]? = w.heap[b]? := fun b hb => hoth b (by rintro rfl; have := (W.R b hb).2; rw [hl0] at this; cases this)
  have hlab : ∀ b x N, x ≠ r → g.o b = some (x :: N) → (w.setRow b0 cur').heap[b]? = w.heap[b]? := fun b x N hx hb => hoth b (by rintro rfl; rw [hl0] at hb; cases hb; exact hx rfl)
  have hm : ∀ c, isMixE (h' c) = isMixE (h c) := by
    intro c
    by_cases hc : c = r
    · subst hc
      rcases hr' with ⟨_, _, _, h1, h2, _⟩ | ⟨_, _, _, h1, h2, _⟩ <;> rw [h1, h2] <;> rfl
    · rw [ho c hc]
  refine ⟨⟨fun b hb => ⟨by simpa using (W.R b hb).1, (W.R b hb).2⟩, fun b L hb => ⟨by simpa using (W.o b L hb).1, (W.o b L hb).2⟩, W.os, W.tape, W.output, by simpa using W.size, fun b hb hw => ?_⟩, ⟨fun id sz es bk he hb => ?_, fun id sz es bk he hb => ?_, fun id c i k s bk he hb => ?_⟩, hR⟩
  · rw [hoth b (by
      rintro rfl
      rcases (W.o b _ hl0).2 with h1 | h1
      · omega
      · exact hw h1)]
    exact W.keep b hb hw
  · by_cases hid : id = r
    · subst hid
      rcases hr' with ⟨_, _, _, _, h2, _⟩ | ⟨_, _, _, _, h2, h3⟩
      · rw [h2] at he; cases he
      · rw [h2] at he; cases he; exact h3 bk hb
    · rw [ho id hid] at he
      exact (H.mix id sz es bk he hb).mono hR (fun _ _ h => h) fun b hb => ⟨hb, hlab b id [] hid hb⟩
  · by_cases hid : id = r
    · subst hid
      rcases hr' with ⟨_, _, _, _, h2, _, h3⟩ | ⟨_, _, _, _, h2, _⟩
      · rw [h2] at he; cases he; exact h3 bk hb
      · rw [h2] at he; cases he
    · rw [ho id hid] at he
      obtain ⟨v, hv, hh⟩ := H.row id sz es bk he hb
      exact ⟨v, hv.same fun b N hb => ⟨hb, hlab b id N hid hb⟩, hh⟩
  · have he' : h id = some (.ali c i k s) := by
      by_cases hid : id = r
      · subst hid
        rcases hr' with ⟨_, _, _, _, h2, _⟩ | ⟨_, _, _, _, h2, _⟩ <;> rw [h2] at he <;> cases he
      · rwa [ho id hid] at he
    obtain ⟨h1, bkc, h2, h3⟩ := H.ali id c i k s bk he' hb
    refine ⟨h1, bkc, h2, fun d szc esc hcc hmc hi hk => ?_⟩
    have hcont : ∃ x, cont h d c = some (szc, x) ∧ x.length = esc.length := by
      rcases hr' with ⟨sz, es, es', q1, q2, q3, _⟩ | ⟨sz, es, es', q1, q2, _⟩
      · obtain ⟨x, hx1, hx2⟩ := cont_sim q1 q2 q3 ho d c szc esc hcc
        exact ⟨x, hx1, (hx2 1).1⟩
      · -- a variable is no list's parent
        have : ∀ (d id : Nat) (x : Nat × List (List AV)), isMixE (h' id) = false → cont h' d id = some x → cont h d id = some x := by
          intro d
          induction d with
          | zero => intro id x _ hx; simp [cont] at hx
          | succ d ih =>
            intro id x hmx hx
            have hid : id ≠ r := by rintro rfl; rw [q2] at hmx; simp [isMixE] at hmx
            unfold cont at hx ⊢
            rw [ho id hid] at hx
            cases hee : h id with
            | none => simp [hee] at hx
            | some e =>
              cases e with
              | mix => simpa [hee] using hx
              | row => simpa [hee] using hx
              | ali c2 i2 k2 s2 =>
                simp only [hee] at hx ⊢
                split at hx
                · simp at hx
                · rename_i hmc2
                  rw [← hm c2, if_neg hmc2]
                  cases hc2 : cont h' d c2 with
                  | none => simp [hc2] at hx
                  | some p => rw [ih c2 p (by simpa using hmc2) hc2]; rw [hc2] at hx; exact hx
        exact ⟨esc, this d c _ hmc hcc, rfl⟩
    obtain ⟨x, hx1, hx2⟩ := hcont
    have hmc' : isMixE (h c) = false := by rw [← hm c]; exact hmc
    obtain ⟨bc, cur2, el2, v, h4, h5, h6, h7⟩ := h3 d szc x hx1 hmc' (by omega) hk
    by_cases hbb : bc = b0
    · subst hbb
      rw [hb0] at h5
      simp only [Option.some.injEq, Obj.cells.injEq] at h5
      obtain ⟨rfl, rfl, _⟩ := h5
      obtain ⟨v', hv1, hv2⟩ := hcell _ v h6
      refine ⟨bc, cur', el, v', h4, setRow_heap w bc cur cur' el (0, 0) hb0, hv1, ?_⟩
      rcases hv2 with rfl | hv2 | ⟨rfl, sz, es, hmix⟩
      · exact h7
      · exact .inr hv2
      · -- the written block is a variable's, the parent's a row's
        obtain ⟨_, v3, r3, M3, hroot, ⟨s3, e3, hr3⟩, ht, hhd⟩ := cont_rel H d c szc x bkc hx1 hmc' h2
        have hne : x ≠ [] := by rintro rfl; simp at hx2; omega
        have hhd := hhd.resolve_right hne
        cases ht with
        | nil => exact absurd rfl hne
        | own us hob =>
          cases hhd
          cases h4
          rw [hl0] at hob
          cases hob
          rw [hmix] at hr3
          cases hr3
    · exact ⟨bc, cur2, el2, v, h4, (hoth bc hbb).trans h5, h6, h7⟩


theorem cell_apart {j i l k m sz : Nat} (hl : l < sz) (hk : k + m ≤ sz) (hji : j ≠ i) : ¬ (i * sz + k ≤ j * sz + l ∧ j * sz + l < i * sz + k + m) := by
  intro ⟨h1, h2⟩
  rcases Nat.lt_or_ge j i with hlt | hge
  · have := Nat.mul_le_mul_right sz (show j + 1 ≤ i by omega)
    rw [Nat.add_mul] at this
    omega
  · have := Nat.mul_le_mul_right sz (show i + 1 ≤ j by omega)
    rw [Nat.add_mul] at this
    omega

variable (hev : ∀ x, XRel w g.R g.ρ (a.eval x) (ev x)) (W : WF C w g) (H : HRel w g h)
include hev W H

theorem step_store {o : Oper} {t : TypeId} {x y : Operand} (ho : o.op = .store t x y) (he : storev (tyi P t) (ev x) (ev y) h = some (c, e)) (hc : c) : Step P C o a w g h n e := by
  have hx := hev x
  have hy := hev y
  unfold storev at he
  split at he
  · rename_i ty id i k hty heq
    rw [heq] at hx
    obtain ⟨b, bsz, cap, hb, hv⟩ := hx.adr_eq
    have hexec : ∀ w', (Instr.storeAt t (.pointer (some ⟨b, i * bsz + k, none⟩)) (a.eval y)).run P w = .ok () w' → (execOp a.eval o).run P w = .ok .skip w' := by
      intro w' hr; simp [execOp, ho, hv, hr]
    split at he
    · rename_i sz es hent
      split at he
      · rename_i hcond
        simp only [Bool.and_eq_true, decide_eq_true_eq] at hcond
        simp only [Option.some.injEq, Prod.mk.injEq] at he
        obtain ⟨rfl, rfl⟩ := he
        obtain ⟨hi, hk⟩ := hc
        obtain ⟨b', cur, el, us, hbk, ho', hh, hsz, hml, hl, hcur, h1, hxr⟩ := (H.mix id sz es _ hent hb).ex
        simp only [Bk.mk.injEq, Option.some.injEq] at hbk
        obtain ⟨rfl, rfl, hcap⟩ := hbk
        obtain ⟨c1, c2, c3⟩ := cells_rel hy hcond.2
        rw [hcond.1] at c1 c2 c3
        have hfit : i * bsz + k + ty.sz ≤ cur.size := by
          have := Nat.mul_le_mul_right bsz (show i + 1 ≤ es.length by omega)
          rw [Nat.add_mul] at this
          omega
        have hrun := run_storeAt (P := P) hty hh c1 hfit c2
        rw [← c1] at hrun
        have hfit' : i * bsz + k + (a.eval y).cells.size ≤ cur.size := by omega
        have hnew := new_cells cur (i * bsz + k) (a.eval y).cells hfit'
        have hnsz := new_size cur (i * bsz + k) (a.eval y).cells hfit'
        generalize (cur.toList.take (i * bsz + k) ++ (a.eval y).cells.toList ++ cur.toList.drop (i * bsz + k + (a.eval y).cells.size)).toArray = cur' at hrun hnew hnsz
        have hsp := fun l => splice_getD (ev y).cells (es.getD i []) k l (by rw [hl i hi, hcond.1]; exact hk)
        have hget : ∀ j, j < es.length → (es.set i (splice (es.getD i []) k (ev y).cells)).getD j [] = if j = i then splice (es.getD i []) k (ev y).cells else es.getD j [] := by
          intro j hj
          by_cases hji : j = i
          · subst hji; simp [List.getD_eq_getElem?_getD, hj]
          · rw [if_neg hji]; simp [List.getD_eq_getElem?_getD, Ne.symm hji]
        intro K Q kk
        have hRr : ∀ b', g.R b' → (w.setRow b cur').heap[b']? = w.heap[b']? := fun b' hb' => setRow_other w b b' cur' (by rintro rfl; have := (W.R b' hb').2; rw [ho'] at this; cases this)
        have hmn : ∀ bk, g.ρ id = some bk → MixRel (w.setRow b cur') g id bk bsz (es.set i (splice (es.getD i []) k (ev y).cells)) := by
          intro bk hbk
          rw [hb] at hbk
          cases hbk
          refine ⟨b, cur', el, fun j l => if j = i ∧ k ≤ l ∧ l < k + ty.sz then (a.eval y).cells.getD (l - k) undef else us j l, by simp [hcap], ho', setRow_heap w b cur cur' el (0, 0) hh, by rw [hnsz, hsz]; simp, by simpa using hml, ?_, ?_, ?_, ?_⟩
          · intro j hj
            simp only [List.length_set] at hj
            rw [hget j hj]
            split
            · rename_i hji; subst hji; rw [splice_length]; exact hl j hj
            · exact hl j hj
          · intro j l hj hl'
            simp only [List.length_set] at hj
            dsimp only
            rw [hnew]
            by_cases hji : j = i
            · subst hji
              by_cases hin : k ≤ l ∧ l < k + ty.sz
              · rw [if_pos (by omega), if_pos ⟨rfl, hin⟩, show j * bsz + l - (j * bsz + k) = l - k by omega]
                have : l - k < (a.eval y).cells.size := by omega
                simp [this]
              · rw [if_neg (by omega), if_neg (by simpa using hin)]; exact hcur j l hj hl'
            · rw [if_neg (by rw [c1]; exact cell_apart hl' hk hji), if_neg (by simp [hji])]; exact hcur j l hj hl'
          · intro j l hj hl'
            simp only [List.length_set] at hj
            dsimp only
            split
            · exact c2 _ (by omega)
            · exact h1 j l hj hl'
          · intro j l hj hl'
            simp only [List.length_set] at hj
            dsimp only
            rw [hget j hj]
            have lift : ∀ v av, XRel w g.R g.ρ v av → XRel (w.setRow b cur') g.R g.ρ v av := fun v av hv => hv.mono (fun b hb => ⟨hb, hRr b hb⟩) (fun _ _ h => h)
            by_cases hji : j = i
            · subst hji
              rw [if_pos rfl, hsp, hcond.1]
              by_cases hin : k ≤ l ∧ l < k + ty.sz
              · rw [if_pos ⟨rfl, hin⟩, if_pos hin]; exact lift _ _ (c3 _ (by omega))
              · rw [if_neg (by simpa using hin), if_neg hin]; exact lift _ _ (hxr j l hj hl')
            · rw [if_neg (by simp [hji]), if_neg hji]; exact lift _ _ (hxr j l hj hl')
        have hcl : ∀ (q : Nat) (v : Value), cur[q]? = some v → ∃ v', cur'[q]? = some v' ∧ (v' = v ∨ scn v' ∨ ([] : List Nat) = [] ∧ ∃ sz es, h id = some (.mix sz es)) := by
          intro q v hq
          have hq' : q < cur.size := by
            rcases Nat.lt_or_ge q cur.size with h' | h'
            · exact h'
            · simp [Array.getElem?_eq_none h'] at hq
          exact ⟨cur'[q]'(by omega), by simp [hnsz, hq'], .inr (.inr ⟨rfl, bsz, es, hent⟩)⟩
        obtain ⟨f1, f2, f3⟩ := H.write W (b0 := b) (r := id) (M := []) (cur := cur) (cur' := cur') (el := el) ho' hh
          (h' := happ { v := AV.bot, set := [(id, .mix bsz (es.set i (splice (es.getD i []) k (ev y).cells)))] } h)
          (.inr ⟨bsz, es, es.set i (splice (es.getD i []) k (ev y).cells), hent, by simp [happ, look], hmn⟩) (fun z hz => by simp [happ, look, Ne.symm hz]) hcl
        exact wp_of_skip (hexec _ hrun) (kk undef _ g.o g.ρ f1 f2 (fun _ _ h => h) (fun _ _ h => .inl h) .bot f3)
      · simp at he
    · rename_i ent hnm hent
      have hmix : isMixE (h id) = false := by
        rw [hent]; cases ent with
        | mix s es2 => exact absurd rfl (hnm s es2)
        | _ => rfl
      split at he
      · rename_i sz es hcont
        split at he
        · rename_i val hval
          split at he
          · rename_i hts
            split at he
            · rename_i st hst
              simp only [Option.some.injEq, Prod.mk.injEq] at he
              obtain ⟨rfl, rfl⟩ := he
              obtain ⟨hi, hk⟩ := hc
              rw [hval] at hy
              obtain ⟨hts, hnn⟩ := hts
              obtain ⟨hyv, hysc⟩ := hy.val_eq
              have hne : es ≠ [] := by rintro rfl; simp at hi
              have hbs := cont_sz H hcont hb
              simp only at hbs
              subst hbs
              obtain ⟨v0, r, M, ht, hhd, ⟨szr0, esr0, hrow⟩, hup⟩ := wr_rel H _ _ _ _ _ hcont hmix hb hne
              cases ht with
              | nil => exact absurd rfl hne
              | @own _ _ _ b2 cap2 cur el us hob hh h1 h2 h3 h4 h5 h6 h7 =>
                cases hhd
                have hcs : (a.eval y).cells = #[val] := by
                  rw [hyv]
                  have := sc_one hysc
                  revert this
                  unfold one Value.oneCell'
                  cases val <;> simp [Value.cells]
                have hli := h4 i hi
                have hlt := cell_lt hi hk
                have hmul := Nat.mul_le_mul_right bsz h2
                have hfit : i * bsz + k + ty.sz ≤ cur.size := by rw [hts, h1]; omega
                have hrun := run_storeAt (P := P) hty hh (v := a.eval y) (by rw [hcs, hts]; rfl) hfit (fun j hj => by
                  rw [hts] at hj
                  have : j = 0 := by omega
                  subst this
                  rw [hcs]; exact sc_one hysc)
                rw [hts, hcs] at hrun
                have hfit' : i * bsz + k + (#[val] : Array Value).size ≤ cur.size := by simp; omega
                have hnew := new_cells cur (i * bsz + k) #[val] hfit'
                have hnsz : (cur.toList.take (i * bsz + k) ++ [val] ++ cur.toList.drop (i * bsz + k + 1)).toArray.size = cur.size := new_size cur (i * bsz + k) #[val] hfit'
                simp only [List.size_toArray, List.length_singleton] at hnew hrun
                generalize (cur.toList.take (i * bsz + k) ++ [val] ++ cur.toList.drop (i * bsz + k + 1)).toArray = cur' at hrun hnew hnsz
                have hRr : ∀ b', g.R b' → (w.setRow b cur').heap[b']? = w.heap[b']? := fun b' hb' => setRow_other w b b' cur' (by rintro rfl; have := (W.R b' hb').2; rw [hob] at this; cases this)
                have hset := fun j l => set_cell es i k (.val val) j l hi (by rw [hli]; exact hk)
                have hlen : (es.set i ((es.getD i []).set k (.val val))).length = es.length := by simp
                have ht' : TRel (w.setRow b cur') g.R g.o (r :: M) (.slice (some ⟨b, 0, none⟩) es.length cap) (.lst true bsz (es.set i ((es.getD i []).set k (.val val)))) := by
                  have := TRel.own (w := w.setRow b cur') (R := g.R) (o := g.o) (L := r :: M) (sz := bsz) (es := es.set i ((es.getD i []).set k (.val val))) (b := b) (cap := cap) (cur := cur') (e := el)
                    (fun j l => if j = i ∧ l = k then val else us j l) hob (setRow_heap w b cur cur' el (0, 0) hh) (by rw [hnsz, h1]) (by rw [hlen]; exact h2) h3
                    (fun j hj => by rw [hlen] at hj; rw [set_row]; exact h4 j hj)
                    (fun j l hj hl => by
                      rw [hlen] at hj
                      rw [hnew]
                      by_cases hjl : j = i ∧ l = k
                      · obtain ⟨rfl, rfl⟩ := hjl
                        rw [if_pos (by omega), if_pos ⟨rfl, rfl⟩]; simp
                      · rw [if_neg hjl, if_neg, h5 j l hj hl]
                        by_cases hji : j = i
                        · subst hji
                          have : l ≠ k := fun hlk => hjl ⟨rfl, hlk⟩
                          omega
                        · exact cell_apart hl (show k + 1 ≤ bsz by omega) hji)
                    (fun j l hj hl => by
                      rw [hlen] at hj
                      split
                      · exact sc_one hysc
                      · exact h6 j l hj hl)
                    (fun j l hj hl => by
                      rw [hlen] at hj
                      rw [hset]
                      split
                      · exact .val hysc
                      · refine (h7 j l hj hl).same fun b' M' hb' => ⟨hb', setRow_other w b b' cur' ?_⟩
                        rintro rfl
                        rw [hob] at hb'
                        simp at hb')
                  rwa [hlen] at this
                obtain ⟨szr, esr, esr', vr, q1, q2, q3, q4, q5⟩ := hup (w.setRow b cur') _ st (fun n => by
                    cases n with
                    | zero => trivial
                    | succ n => exact Sim.set hi (by rw [hli]; exact hk) fun s x' hx => by cases hx) hRr ⟨[], fun b' hb' => setRow_other w b b' cur' (by rintro rfl; exact hb' (by simpa using hob))⟩ ht' hst
                subst q2
                intro K Q kk
                obtain ⟨f1, f2, f3⟩ := H.write W (b0 := b) (r := r) (M := M) (cur := cur) (cur' := cur') (el := el) hob hh
                  (h' := happ { v := AV.bot, set := [(r, .row szr esr')] } h)
                  (.inl ⟨szr, esr, esr', q1, by simp [happ, look], q3, fun bk hbk => ⟨vr, q4, q5 bk hbk⟩⟩) (fun z hz => by simp [happ, look, Ne.symm hz])
                  (fun q v hq => by
                    rw [hnew]
                    split
                    · rename_i hq2
                      refine ⟨val, ?_, .inr (.inl hnn)⟩
                      rw [show q - (i * bsz + k) = 0 by omega]; rfl
                    · exact ⟨v, hq, .inl rfl⟩)
                exact wp_of_skip (hexec _ hrun) (kk undef _ g.o g.ρ f1 f2 (fun _ _ h => h) (fun _ _ h => .inl h) .bot f3)
            · simp at he
          · simp at he
        · simp at he
      · simp at he
    · simp at he
  · simp at he

end
end Go.Vc

/- Comparisons; min and max; all operations. -/
namespace Go.Vc
open Go

theorem allInts_get : ∀ {as : List AV} {is : List Int}, allInts as = some is → is.length = as.length ∧ ∀ k, k < as.length → as.getD k .bot = .val (.int .i64 (is.getD k 0))
  | [], is, h => by simp [allInts] at h; subst h; simp
  | a :: r, is, h => by
    unfold allInts at h
    split at h
    · rename_i h0; cases h0
    · rename_i x r' h0
      cases h0
      cases hr : allInts r with
      | none => simp [hr] at h
      | some js =>
        simp [hr] at h
        subst h
        obtain ⟨h1, h2⟩ := allInts_get hr
        refine ⟨by simp [h1], fun k hk => ?_⟩
        cases k with
        | zero => rfl
        | succ k => simpa using h2 k (by simpa using hk)
    · cases h

section
variable {P : Program} {C : Ctx} {a : Act} {w : World} {g : Gh} {h : HP} {n : Nat} {e : Eff} {c : Prop} {ev : Operand → AV}

theorem run_eqFields {P : Program} {w : World} (d : Nat) (xs ys : Array Value) (as bs : List Int) (hxs : ∀ k, k < as.length → xs[k]? = some (.int .i64 (as.getD k 0))) (hys : ∀ k, k < bs.length → ys[k]? = some (.int .i64 (bs.getD k 0))) :
    ∀ (fs : List Field) (k : Nat), (∀ f ∈ fs.zipIdx k, f.1.name ≠ "_" ∧ f.1.offset = f.2 ∧ P.underlying f.1.type = some (.int .i64)) → k + fs.length = as.length → k + fs.length = bs.length →
      (Op.eqFields (d + 1) xs ys fs).run P w = .ok (as.drop k == bs.drop k) w := by
  intro fs
  induction fs with
  | nil =>
    intro k _ h1 h2
    have e1 : as.drop k = [] := List.drop_eq_nil_of_le (by simp at h1; omega)
    have e2 : bs.drop k = [] := List.drop_eq_nil_of_le (by simp at h2; omega)
    simp [Op.eqFields, e1, e2]
  | cons f fs ih =>
    intro k hf h1 h2
    simp only [List.length_cons] at h1 h2
    obtain ⟨q1, q2, q3⟩ := hf (f, k) (by simp)
    simp only at q1 q2 q3
    have e1 : as.drop k = as.getD k 0 :: as.drop (k + 1) := by
      rw [List.drop_eq_getElem_cons (show k < as.length by omega)]
      simp [List.getD_eq_getElem?_getD, List.getElem?_eq_getElem (show k < as.length by omega)]
    have e2 : bs.drop k = bs.getD k 0 :: bs.drop (k + 1) := by
      rw [List.drop_eq_getElem_cons (show k < bs.length by omega)]
      simp [List.getD_eq_getElem?_getD, List.getElem?_eq_getElem (show k < bs.length by omega)]
    have hi := ih (k + 1) (fun p hp => hf p (by simp [List.zipIdx_cons, hp])) (by omega) (by omega)
    have hag : (isAgg f.type).run P w = .ok false w := run_isAgg q3
    simp only [Op.eqFields, q1, ne_eq, not_false_eq_true, if_true, Sem.run_bind, part, hag, Result.andThen_ok, Bool.false_eq_true, if_false, q2, hxs k (by omega), hys k (by omega), Sem.run_pure, run_equalIn_int (P := P) w d f.type .i64 .i64 _ _ q3]
    rw [e1, e2]
    by_cases heq : as.getD k 0 = bs.getD k 0
    · rw [heq]; simp [hi]
    · have : (as.getD k 0 == bs.getD k 0) = false := by simpa using heq
      simp only [this, Bool.not_false, if_true, Sem.run_pure]
      simp only [List.getD_eq_getElem?_getD] at heq
      simp [heq]

theorem eqT_struct {t : TypeId} {m : Nat} (h : eqT P t = m + 2) : ∃ fs, P.underlying t = some (.struct fs) ∧ fs.size = m ∧ P.stoodInHeld t = false ∧ P.eqGuardType P.depth t = false ∧
    ∀ f ∈ fs.toList.zipIdx, f.1.name ≠ "_" ∧ f.1.offset = f.2 ∧ P.underlying f.1.type = some (.int .i64) := by
  unfold eqT at h
  split at h
  · omega
  · rename_i fs hfs
    split at h
    · rename_i hc
      simp only [Bool.and_eq_true, Bool.not_eq_true', List.all_eq_true] at hc
      refine ⟨fs, hfs, by omega, hc.1.1, hc.1.2, fun f hf => ?_⟩
      have := hc.2 f hf
      simp only [Bool.and_eq_true, bne_iff_ne, beq_iff_eq] at this
      refine ⟨this.1.1, this.1.2, ?_⟩
      have h3 := this.2
      split at h3
      · assumption
      · cases h3
    · omega
  · omega

variable (hev : ∀ x, XRel w g.R g.ρ (a.eval x) (ev x)) (W : WF C w g) (H : HRel w g h)
include hev W H

theorem step_binopT {o : Oper} {op : BinOp} {xt yt : TypeId} {x y : Operand} (ho : o.op = .binOp op xt x y yt) (he : binopT (eqT P xt) op (ev x) (ev y) = some (c, e)) (hc : c) : Step P C o a w g h n e := by
  have hx := hev x
  have hy := hev y
  unfold binopT at he
  split at he
  · rename_i p q hi hj
    rw [hi] at hx
    rw [hj] at hy
    have hx1 := hx.val_eq.1
    have hy1 := hy.val_eq.1
    split at he
    · rename_i hq
      have hb : P.underlying xt = some .bool := by
        unfold eqT at hq
        split at hq
        · assumption
        · split at hq <;> omega
        · omega
      split at he <;> simp only [Option.some.injEq, Prod.mk.injEq, reduceCtorEq] at he <;> obtain ⟨rfl, rfl⟩ := he
      · refine step_pure W H rfl rfl ?_ XRel.bool
        simp [execOp, ho, hx1, hy1, eqGuard, run_eql_bool w xt p q hb]
      · refine step_pure W H rfl rfl ?_ XRel.bool
        simp [execOp, ho, hx1, hy1, eqGuard, run_neq_bool w xt p q hb]
    · simp at he
  · rename_i xs ys hi hj
    rw [hi] at hx
    rw [hj] at hy
    obtain ⟨vx, hvx, hlx, _, hrx⟩ := hx.agg_eq
    obtain ⟨vy, hvy, hly, _, hry⟩ := hy.agg_eq
    split at he
    · rename_i as bs has hbs
      split at he
      · rename_i hq
        obtain ⟨la, ga⟩ := allInts_get has
        obtain ⟨lb, gb⟩ := allInts_get hbs
        obtain ⟨fs, f1, f2, f3, f4, f5⟩ := eqT_struct hq.1
        have hrun : (Op.equalIn 10000 xt (.agg vx) (.agg vy)).run P w = .ok (as == bs) w := by
          have hfo : P.fieldsOf xt = fs := by unfold Program.fieldsOf; rw [f1]
          rw [run_equalIn_struct (P := P) w 9999 xt vx vy (by rw [hfo]; exact f1) f3, hfo]
          have := run_eqFields (P := P) (w := w) 9998 vx vy as bs (fun k hk => by
              have h1 := hrx k (by omega)
              rw [ga k (by omega)] at h1
              have h2 := h1.val_eq.1
              have : k < vx.size := by omega
              simpa [this] using h2) (fun k hk => by
              have h1 := hry k (by omega)
              rw [gb k (by omega)] at h1
              have h2 := h1.val_eq.1
              have : k < vy.size := by omega
              simpa [this] using h2) fs.toList 0 f5 (by simp; omega) (by simp; omega)
          simpa using this
        split at he <;> simp only [Option.some.injEq, Prod.mk.injEq, reduceCtorEq] at he <;> obtain ⟨rfl, rfl⟩ := he
        · refine step_pure W H rfl rfl ?_ XRel.bool
          simp [execOp, ho, hvx, hvy, run_eqGuard_agg (P := P) w .eql xt x y vx vy f4, run_eql_struct, hrun]
        · refine step_pure W H rfl rfl ?_ XRel.bool
          simp [execOp, ho, hvx, hvy, run_eqGuard_agg (P := P) w .neq xt x y vx vy f4, run_neq_struct, hrun]
      · simp at he
    · simp at he
  · exact step_binop hev W H ho he hc

theorem step_minmax {o : Oper} {xs : Array Operand} {ts : Array TypeId} (mx : Bool) (ho : o.op = .call { callee := .builtin (bif mx then .max else .min), args := xs, argTypes := ts })
    (he : minmax (fun a b => if (bif mx then decide (b > a) else decide (b < a)) then b else a) (xs.toList.map ev) = some (c, e)) : Step P C o a w g h n e := by
  have hfold : ∀ (l : List Operand) (k : IntKind) (m r : Int), fold2 (fun a b => if (bif mx then decide (b > a) else decide (b < a)) then b else a) k m (l.map ev) = some r → (k.min ≤ m ∧ m ≤ k.max) →
      ((l.map a.eval).foldlM (if mx then Builtin.max2 else Builtin.min2) (.int k m)).run P w = .ok (.int k r) w ∧ (k.min ≤ r ∧ r ≤ k.max) := by
    intro l
    induction l with
    | nil => intro k m r h hm; simp [fold2] at h; subst h; exact ⟨by simp, hm⟩
    | cons y l ih =>
      intro k m r h hm
      simp only [List.map_cons] at h
      unfold fold2 at h
      split at h
      · rename_i heq; cases heq
      · rename_i m l0 m1 k' b r' heq
        simp only [List.cons.injEq] at heq
        obtain ⟨hy, rfl⟩ := heq
        have hyx := hev y
        rw [hy] at hyx
        obtain ⟨hyv, hys⟩ := hyx.val_eq
        split at h
        · rename_i hk
          subst hk
          have hnext : k.min ≤ (if (bif mx then decide (b > m) else decide (b < m)) then b else m) ∧ (if (bif mx then decide (b > m) else decide (b < m)) then b else m) ≤ k.max := by
            split
            · exact hys
            · exact hm
          obtain ⟨h1, h2⟩ := ih k _ r h hnext
          refine ⟨?_, h2⟩
          cases mx with
          | true =>
            simp only [cond_true, decide_eq_true_eq] at h1
            simp [hyv, Builtin.max2]; simpa using h1
          | false =>
            simp only [cond_false, decide_eq_true_eq] at h1
            simp [hyv, Builtin.min2]; simpa using h1
        · cases h
      · cases h
  unfold minmax at he
  split at he
  · rename_i k m r heq
    split at he
    · rename_i z hz
      simp only [Option.some.injEq, Prod.mk.injEq] at he
      obtain ⟨_, rfl⟩ := he
      cases hxs : xs.toList with
      | nil => rw [hxs] at heq; cases heq
      | cons y l =>
        rw [hxs] at heq
        simp only [List.map_cons, List.cons.injEq] at heq
        obtain ⟨hy, rfl⟩ := heq
        have hyx := hev y
        rw [hy] at hyx
        obtain ⟨hyv, hys⟩ := hyx.val_eq
        obtain ⟨h1, h2⟩ := hfold l k m z hz hys
        refine step_pure W H rfl rfl (v := .int k z) ?_ (XRel.int h2)
        have hm : (xs.map a.eval).toList = a.eval y :: l.map a.eval := by simp [hxs]
        cases mx with
        | true =>
          simp only [if_true] at h1
          simp [execOp, ho, resolve, invoke, builtin, Builtin.max_, hxs, hyv, h1]
        | false =>
          simp only [Bool.false_eq_true, if_false] at h1
          simp [execOp, ho, resolve, invoke, builtin, Builtin.min_, hxs, hyv, h1]
    · simp at he
  · simp at he

end
end Go.Vc

/- All operations that are no calls of Go functions. -/
namespace Go.Vc
open Go

/-- Does an operation look at, or make, blocks of this call's own? -/
def touch : Op → Bool
  | .move _ | .assign _ | .pick .. | .build .. | .nilCheck _ | .binOp .. | .unOp .. | .convert .. | .fieldAddr .. | .field .. | .extract .. => false
  | .call cl => match cl.callee with
    | .builtin .len | .builtin .min | .builtin .max => false
    | _ => true
  | _ => true

/-- Does it turn them? -/
def writes : Op → Bool
  | .store .. => true
  | .call cl => match cl.callee with
    | .builtin .append => true
    | _ => false
  | _ => false

section
variable {P : Program} {C : Ctx} {a : Act} {w : World} {g : Gh} {h : HP} {n : Nat} {e : Eff} {c : Prop} {ev : Operand → AV}

theorem opF_step (hev : ∀ x, XRel w g.R g.ρ (a.eval x) (ev x)) (W : WF C w g) (H : HRel w g h) (hnew : ∀ p ∈ e.new, h p.1 = some p.2) (hfr : ∀ id, n ≤ id → id < n + e.cnt → g.ρ id = none)
    {o : Oper} (he : opF P o.op ev h n = some (c, e)) (hc : c) : Step P C o a w g h n e := by
  unfold opF at he
  split at he
  · rename_i x ho; exact step_move hev W H (.inl ho) he.symm
  · rename_i x ho; exact step_move hev W H (.inr ho) he.symm
  · rename_i x y z ho; exact step_pick hev W H ho he
  · rename_i t ho; exact step_alloc W H hnew hfr ho he
  · rename_i t x ho; exact step_box hev W H hnew hfr ho he
  · rename_i t parts ho; exact step_build hev W H ho he
  · rename_i t len parts ho
    split at he
    · rename_i et ht; exact step_buildSlice hev W H hnew hfr ho ht he
    · cases he
  · rename_i t x ho; exact step_load hev W H hnew hfr ho he hc
  · rename_i t x y ho; exact step_store hev W H ho he hc
  · rename_i x ho; exact step_nilCheck hev W H ho he
  · rename_i op xt x y yt ho; exact step_binopT hev W H ho he hc
  · rename_i op xt x ho; exact step_unop hev W H ho he
  · rename_i src dst x ho; exact step_conv hev W H ho he
  · rename_i t l cc ho
    split at he
    · rename_i et ht; exact step_makeSl hev W H hnew hfr ho ht he hc
    · cases he
  · rename_i t x k ho; exact step_fieldAddr hev W H ho he
  · rename_i t x k ho; exact step_field hev W H ho he hc
  · rename_i t x i ho
    split at he
    · rename_i et ht; exact step_idx hev W H ho ht he hc
    · cases he
  · rename_i t x lo hi ho
    split at he
    · rename_i et ht; exact step_slice hev W H ho ht he hc
    · cases he
  · rename_i x k ho; exact step_extract hev W H ho he hc
  · rename_i cl ho
    obtain ⟨ce, ⟨args⟩, ⟨ts⟩⟩ := cl
    simp only at he
    unfold bltF at he
    split at he
    · split at he
      · rename_i et ht; exact step_len hev W H ho ht he
      · cases he
    · split at he
      · rename_i et ht
        split at he
        · rename_i htu; subst htu; exact step_append hev W H hnew hfr ho ht he hc
        · cases he
      · cases he
    · exact step_minmax hev W H false ho (by simpa using he)
    · exact step_minmax hev W H true ho (by simpa using he)
    · cases he
  · cases he

theorem list_congr {ev ev' : Operand → AV} (parts : List (Nat × Operand)) (hh : ∀ x ∈ parts.map Prod.snd, ev x = ev' x) : parts.map (fun p => (p.1, ev p.2)) = parts.map (fun p => (p.1, ev' p.2)) :=
  List.map_congr_left fun p hp => by rw [hh p.2 (List.mem_map.2 ⟨p, hp, rfl⟩)]

theorem opF_congr {ev ev' : Operand → AV} {op : Op} (hh : ∀ x ∈ op.operands, ev x = ev' x) : opF P op ev h n = opF P op ev' h n := by
  cases op with
  | build t parts =>
    simp only [opF]
    rw [list_congr parts.toList fun x hx => hh x (by simpa [Op.operands] using hx)]
  | buildSlice t len parts =>
    simp only [opF]
    rw [list_congr parts.toList fun x hx => hh x (by simpa [Op.operands] using hx)]
  | call cl =>
    obtain ⟨ce, ⟨args⟩, ⟨ts⟩⟩ := cl
    have ha : ∀ x ∈ args, ev x = ev' x := fun x hx => hh x (by simp [Op.operands, Call.operands]; exact .inr hx)
    have hm : args.map ev = args.map ev' := List.map_congr_left ha
    simp only [opF, bltF]
    split <;> first | (simp only [hm]; done) | rfl | skip
    · rw [ha _ (by simp)]
    · rw [ha _ (by simp), ha _ (by simp)]
  | slice t x lo hi mx =>
    cases mx with
    | some m => rfl
    | none =>
      have h1 : lo.map ev = lo.map ev' := by cases lo with | none => rfl | some y => simp [hh y (by simp [Op.operands])]
      have h2 : hi.map ev = hi.map ev' := by cases hi with | none => rfl | some y => simp [hh y (by simp [Op.operands])]
      simp only [opF, h1, h2, hh x (by simp [Op.operands])]
  | _ => first
    | rfl
    | (simp only [Op.operands] at hh
       simp [opF, hh]; done)


/-- An effect on no block. -/
def Eff.calm (e : Eff) : Prop := e.del = [] ∧ e.set = [] ∧ e.new = [] ∧ e.cnt = 0

theorem opF_pure {op : Op} (ht : touch op = false) (he : opF P op ev h n = some (c, e)) : e.calm ∧ ∀ h' n', opF P op ev h' n' = some (c, e) := by
  have conv : ∀ {o : Option (Prop × Eff)}, (∀ c e, o = some (c, e) → e.calm) → o = some (c, e) → e.calm := fun h1 h2 => h1 _ _ h2
  cases op with
  | call cl =>
    obtain ⟨ce, args, ts⟩ := cl
    cases ce with
    | value => simp [touch] at ht
    | invoke => simp [touch] at ht
    | builtin b =>
      cases b <;> simp only [touch, Bool.true_eq_false, reduceCtorEq] at ht
      · simp only [opF, bltF] at he ⊢
        split at he
        · rename_i x t h1 h2 h3
          refine ⟨?_, fun h' n' => by simpa only [h2, h3] using he⟩
          split at he
          · unfold lenv at he
            split at he <;> simp only [Option.some.injEq, Prod.mk.injEq, reduceCtorEq] at he <;> (obtain ⟨_, rfl⟩ := he; exact ⟨rfl, rfl, rfl, rfl⟩)
          · cases he
        all_goals first | (rename_i h1 _ _; cases h1; done) | (rename_i h1; cases h1; done) | (cases he; done) | skip
      all_goals
        simp only [opF, bltF] at he ⊢
        refine ⟨?_, fun _ _ => he⟩
        unfold minmax at he
        split at he
        · split at he
          · simp only [Option.some.injEq, Prod.mk.injEq] at he
            obtain ⟨_, rfl⟩ := he; exact ⟨rfl, rfl, rfl, rfl⟩
          · cases he
        · cases he
  | move x => simp only [opF, Option.some.injEq, Prod.mk.injEq] at he; obtain ⟨rfl, rfl⟩ := he; exact ⟨⟨rfl, rfl, rfl, rfl⟩, fun _ _ => rfl⟩
  | assign x => simp only [opF, Option.some.injEq, Prod.mk.injEq] at he; obtain ⟨rfl, rfl⟩ := he; exact ⟨⟨rfl, rfl, rfl, rfl⟩, fun _ _ => rfl⟩
  | pick x y z =>
    refine ⟨?_, fun _ _ => he⟩
    simp only [opF] at he; unfold pick at he
    split at he <;> simp only [Option.some.injEq, Prod.mk.injEq, reduceCtorEq] at he
    obtain ⟨_, rfl⟩ := he; exact ⟨rfl, rfl, rfl, rfl⟩
  | build t parts =>
    refine ⟨?_, fun _ _ => he⟩
    simp only [opF] at he; unfold build at he
    split at he
    · split at he
      · split at he
        · simp only [Option.some.injEq, Prod.mk.injEq] at he; obtain ⟨_, rfl⟩ := he; exact ⟨rfl, rfl, rfl, rfl⟩
        · cases he
      · cases he
    · cases he
  | nilCheck x =>
    refine ⟨?_, fun _ _ => he⟩
    simp only [opF] at he; unfold nilCheck at he
    split at he <;> simp only [Option.some.injEq, Prod.mk.injEq, reduceCtorEq] at he <;> (obtain ⟨_, rfl⟩ := he; exact ⟨rfl, rfl, rfl, rfl⟩)
  | binOp op xt x y yt =>
    refine ⟨?_, fun _ _ => he⟩
    simp only [opF] at he; unfold binopT at he
    split at he
    · split at he
      · split at he <;> simp only [Option.some.injEq, Prod.mk.injEq, reduceCtorEq] at he <;> (obtain ⟨_, rfl⟩ := he; exact ⟨rfl, rfl, rfl, rfl⟩)
      · cases he
    · split at he
      · split at he
        · split at he <;> simp only [Option.some.injEq, Prod.mk.injEq, reduceCtorEq] at he <;> (obtain ⟨_, rfl⟩ := he; exact ⟨rfl, rfl, rfl, rfl⟩)
        · cases he
      · cases he
    · unfold binop at he
      split at he
      · split at he
        · cases he
        · split at he <;> simp only [Option.some.injEq, Prod.mk.injEq, reduceCtorEq] at he <;> (obtain ⟨_, rfl⟩ := he; exact ⟨rfl, rfl, rfl, rfl⟩)
      · cases he
  | unOp op xt x =>
    refine ⟨?_, fun _ _ => he⟩
    simp only [opF] at he; unfold unop at he
    split at he <;> simp only [Option.some.injEq, Prod.mk.injEq, reduceCtorEq] at he <;> (obtain ⟨_, rfl⟩ := he; exact ⟨rfl, rfl, rfl, rfl⟩)
  | convert s d x =>
    refine ⟨?_, fun _ _ => he⟩
    simp only [opF] at he; unfold convI at he
    split at he <;> simp only [Option.some.injEq, Prod.mk.injEq, reduceCtorEq] at he
    obtain ⟨_, rfl⟩ := he; exact ⟨rfl, rfl, rfl, rfl⟩
  | fieldAddr t x k =>
    refine ⟨?_, fun _ _ => he⟩
    simp only [opF] at he; unfold fieldAddr at he
    split at he <;> simp only [Option.some.injEq, Prod.mk.injEq, reduceCtorEq] at he <;> (obtain ⟨_, rfl⟩ := he; exact ⟨rfl, rfl, rfl, rfl⟩)
  | field t x k =>
    refine ⟨?_, fun _ _ => he⟩
    simp only [opF] at he; unfold fieldv at he
    split at he <;> simp only [Option.some.injEq, Prod.mk.injEq, reduceCtorEq] at he
    obtain ⟨_, rfl⟩ := he; exact ⟨rfl, rfl, rfl, rfl⟩
  | extract x k =>
    refine ⟨?_, fun _ _ => he⟩
    simp only [opF] at he; unfold extractv at he
    split at he <;> simp only [Option.some.injEq, Prod.mk.injEq, reduceCtorEq] at he
    obtain ⟨_, rfl⟩ := he; exact ⟨rfl, rfl, rfl, rfl⟩
  | _ => simp [touch] at ht

end
end Go.Vc

/- What is found in fewer blocks is done in more; the names that an operation takes. -/
namespace Go.Vc
open Go

section
variable {h h' : HP} (hs : ∀ id x, h id = some x → h' id = some x)
include hs

theorem cont_up {d id : Nat} {x : Nat × List (List AV)} (hx : cont h d id = some x) : cont h' d id = some x := (cont_sub hs d id x hx).1

theorem wr_up : ∀ (d id : Nat) (es : List (List AV)) (s : List (Nat × Ent)), wr h d id es = some s → wr h' d id es = some s := by
  intro d
  induction d with
  | zero => intro id es s hw; simp [wr] at hw
  | succ d ih =>
    intro id es s hw
    unfold wr at hw ⊢
    cases he : h id with
    | none => simp [he] at hw
    | some e =>
      rw [hs id e he]
      cases e with
      | mix => simpa [he] using hw
      | row => simpa [he] using hw
      | ali c i k sz =>
        simp only [he] at hw ⊢
        cases hc : cont h d c with
        | none => simp [hc] at hw
        | some p =>
          rw [cont_up hs hc]
          rw [hc] at hw
          exact ih _ _ _ hw

omit hs in
theorem layCsF_up {f f' : AV → Option (AV × List Nat)} (hf : ∀ a r, f a = some r → f' a = some r) : ∀ (as : List AV) (r : List AV × List Nat), layCsF f as = some r → layCsF f' as = some r := by
  intro as
  induction as with
  | nil => intro r hl; exact hl
  | cons a as ih =>
    intro r hl
    simp only [layCsF] at hl ⊢
    split at hl
    · rename_i b d q ds h1 h2
      rw [hf _ _ h1, ih _ h2]; exact hl
    · cases hl

omit hs in
theorem layEsF_up {f f' : AV → Option (AV × List Nat)} (hf : ∀ a r, f a = some r → f' a = some r) : ∀ (es : List (List AV)) (r : List (List AV) × List Nat), layEsF f es = some r → layEsF f' es = some r := by
  intro es
  induction es with
  | nil => intro r hl; exact hl
  | cons a as ih =>
    intro r hl
    simp only [layEsF] at hl ⊢
    split at hl
    · rename_i b d q ds h1 h2
      rw [layCsF_up hf _ _ h1, ih _ h2]; exact hl
    · cases hl

theorem layD_up : ∀ (dp : Nat) (a : AV) (r : AV × List Nat), layD h dp a = some r → layD h' dp a = some r := by
  intro dp
  induction dp with
  | zero => intro a r hl; exact hl
  | succ dp ih =>
    intro a r hl
    unfold layD at hl ⊢
    split at hl
    · exact hl
    · rename_i id m
      split at hl
      · rename_i sz es he
        simp only [hs _ _ he]; exact hl
      · rename_i sz es he
        simp only [hs _ _ he]
        split at hl
        · rename_i hlen
          rw [if_pos hlen]
          split at hl
          · rename_i q ds hq
            rw [layEsF_up ih _ _ hq]; exact hl
          · cases hl
        · cases hl
      · cases hl
    · cases hl

theorem layC_up {a : AV} {r : AV × List Nat} (hl : layC h a = some r) : layC h' a = some r := layD_up hs _ _ _ hl

theorem layEs_up (es : List (List AV)) (r : List (List AV) × List Nat) (hl : layEs h es = some r) : layEs h' es = some r := layEsF_up (fun _ _ h => layC_up hs h) _ _ hl

theorem src_up {sz : Nat} {x : AV} {r : Prop × List (List AV) × List Nat} (hl : src h sz x = some r) : src h' sz x = some r := by
  unfold src at hl ⊢
  split at hl
  · exact hl
  · exact hl
  · rename_i id off m
    split at hl
    · rename_i sz' es he
      simp only [hs _ _ he]
      split at hl
      · rename_i hsz
        rw [if_pos hsz]
        split at hl
        · rename_i q d h1
          rw [layEs_up hs _ _ h1]; exact hl
        · cases hl
      · cases hl
    · rename_i ent hnm he
      split at hl
      · rename_i sz' es hc
        have hx := hs _ _ he
        cases ent with
        | mix s e => exact absurd rfl (hnm s e)
        | row => simp only [hx, cont_up hs hc]; exact hl
        | ali => simp only [hx, cont_up hs hc]; exact hl
      · cases hl
    · cases hl
  · cases hl

theorem base_up {sz : Nat} {x : AV} {r : Prop × List (List AV) × List Nat × List Nat} (hl : base h sz x = some r) : base h' sz x = some r := by
  unfold base at hl ⊢
  split at hl
  · exact hl
  · rename_i id m
    split at hl
    · rename_i sz' es he
      simp only [hs _ _ he]; exact hl
    · rename_i sz' es he
      simp only [hs _ _ he]
      split at hl
      · rename_i hsz
        rw [if_pos hsz]
        split at hl
        · rename_i q d h1
          rw [layEs_up hs _ _ h1]; exact hl
        · cases hl
      · cases hl
    · cases hl
  · cases hl

theorem opF_up {P : Program} {op : Op} {ev : Operand → AV} {n : Nat} {r : Prop × Eff} (hl : opF P op ev h n = some r) : opF P op ev h' n = some r := by
  cases op with
  | load t x =>
    simp only [opF] at hl ⊢
    unfold loadv at hl ⊢
    split at hl
    · rename_i ty id i k h1 h2
      split at hl
      · rename_i sz es he
        simp only [hs _ _ he]; exact hl
      · rename_i ent hnm he
        split at hl
        · rename_i sz es hc
          have hx := hs _ _ he
          cases ent with
          | mix s e => exact absurd rfl (hnm s e)
          | row => simp only [hx, cont_up hs hc]; exact hl
          | ali => simp only [hx, cont_up hs hc]; exact hl
        · cases hl
      · cases hl
    · exact hl
    · cases hl
  | store t x y =>
    simp only [opF] at hl ⊢
    unfold storev at hl ⊢
    split at hl
    · rename_i ty id i k h1 h2
      split at hl
      · rename_i sz es he
        simp only [hs _ _ he]; exact hl
      · rename_i ent hnm he
        split at hl
        · rename_i sz es hc
          have hx := hs _ _ he
          split at hl
          · rename_i v hv
            split at hl
            · rename_i hts
              split at hl
              · rename_i s hw
                cases ent with
                | mix s e => exact absurd rfl (hnm s e)
                | row => simp only [hx, cont_up hs hc, wr_up hs _ _ _ _ hw, if_pos hts]; exact hl
                | ali => simp only [hx, cont_up hs hc, wr_up hs _ _ _ _ hw, if_pos hts]; exact hl
              · cases hl
            · cases hl
          · cases hl
        · cases hl
      · cases hl
    · cases hl
  | indexAddr t x i =>
    simp only [opF] at hl ⊢
    split at hl
    · rename_i e he
      unfold idxAddr at hl ⊢
      split at hl
      · split at hl
        · rename_i hc; simp only [cont_up hs hc]; exact hl
        · cases hl
      · exact hl
      · cases hl
    · cases hl
  | slice t x lo hi mx =>
    cases mx with
    | some m => exact hl
    | none =>
      have go : ∀ {ty : Tyi} {x : AV} {l r : Int} {q : Prop × Eff}, sliceGo ty h x l r = some q → sliceGo ty h' x l r = some q := by
        intro ty x l r q hg
        unfold sliceGo at hg ⊢
        split at hg
        · split at hg
          · rename_i hc; simp only [cont_up hs hc]; exact hg
          · cases hg
        · exact hg
        · cases hg
      simp only [opF] at hl ⊢
      split at hl
      · unfold slicev at hl ⊢
        split at hl <;> first | exact go hl | cases hl
      · cases hl
  | call cl =>
    obtain ⟨ce, args, ts⟩ := cl
    simp only [opF] at hl ⊢
    unfold bltF at hl ⊢
    split at hl
    · exact hl
    · split at hl
      · split at hl
        · rename_i htu
          rw [if_pos htu]
          unfold appendv at hl ⊢
          split at hl
          · split at hl
            · rename_i h1 h2
              rw [base_up hs h1, src_up hs h2]; exact hl
            · cases hl
          · cases hl
        · cases hl
      · cases hl
    · exact hl
    · exact hl
    · cases hl
  | _ => exact hl

end

/-- The names that an operation takes; what it leaves as it is. -/
structure Eff.fine (e : Eff) (n : Nat) : Prop where
  new : ∀ p ∈ e.new, n ≤ p.1 ∧ p.1 < n + e.cnt
  nodup : (e.new.map Prod.fst).Nodup
  del : ∀ x ∈ e.del, x < n
  sets : (e.set.map Prod.fst).Nodup ∧ ∀ p ∈ e.set, p.1 < n

theorem setNil {e : Eff} {n : Nat} (h : e.set = []) : (e.set.map Prod.fst).Nodup ∧ ∀ p ∈ e.set, p.1 < n := by rw [h]; exact ⟨.nil, fun p hp => by cases hp⟩

theorem setOne {e : Eff} {n : Nat} {p : Nat × Ent} (h : e.set = [p]) (hp : p.1 < n) : (e.set.map Prod.fst).Nodup ∧ ∀ p ∈ e.set, p.1 < n := by
  rw [h]; exact ⟨by simp, fun q hq => by simp at hq; subst hq; exact hp⟩

theorem takeC_fine (id i : Nat) : ∀ (as : List AV) (k n : Nat), (∀ p ∈ (takeC id i k n as).2, n ≤ p.1 ∧ p.1 < n + as.length) ∧ ((takeC id i k n as).2.map Prod.fst).Nodup := by
  intro as
  induction as with
  | nil => intro k n; simp [takeC]
  | cons a as ih =>
    intro k n
    obtain ⟨h1, h2⟩ := ih (k + 1) (n + 1)
    have tail : ∀ p ∈ (takeC id i (k + 1) (n + 1) as).2, n ≤ p.1 ∧ p.1 < n + (a :: as).length := fun p hp => by have := h1 p hp; simp; omega
    have plain : (takeC id i k n (a :: as)).2 = (takeC id i (k + 1) (n + 1) as).2 → (∀ p ∈ (takeC id i k n (a :: as)).2, n ≤ p.1 ∧ p.1 < n + (a :: as).length) ∧ ((takeC id i k n (a :: as)).2.map Prod.fst).Nodup := by
      intro he; rw [he]; exact ⟨tail, h2⟩
    cases a with
    | lst u sz es =>
      cases u with
      | false => exact plain (by simp [takeC])
      | true =>
        simp only [takeC, List.mem_cons, List.map_cons, List.nodup_cons]
        refine ⟨fun p hp => ?_, fun hp => ?_, h2⟩
        · rcases hp with rfl | hp
          · simp
          · exact tail p hp
        · obtain ⟨p, hp, hpe⟩ := List.mem_map.1 hp
          have := (h1 p hp).1
          omega
    | _ => exact plain (by simp [takeC])

theorem layCsF_d {h : HP} {f : AV → Option (AV × List Nat)} (hf : ∀ a r, f a = some r → ∀ x ∈ r.2, ∃ y, h x = some y) : ∀ (as : List AV) (r : List AV × List Nat), layCsF f as = some r → ∀ x ∈ r.2, ∃ y, h x = some y := by
  intro as
  induction as with
  | nil => intro r hl; simp only [layCsF, Option.some.injEq] at hl; subst hl; simp
  | cons a as ih =>
    intro r hl
    simp only [layCsF] at hl
    split at hl
    · rename_i b d q ds h1 h2
      simp only [Option.some.injEq] at hl
      subst hl
      intro x hx
      simp only [List.mem_append] at hx
      rcases hx with hx | hx
      · exact hf _ _ h1 x hx
      · exact ih _ h2 x hx
    · cases hl

theorem layEsF_d {h : HP} {f : AV → Option (AV × List Nat)} (hf : ∀ a r, f a = some r → ∀ x ∈ r.2, ∃ y, h x = some y) : ∀ (es : List (List AV)) (r : List (List AV) × List Nat), layEsF f es = some r → ∀ x ∈ r.2, ∃ y, h x = some y := by
  intro es
  induction es with
  | nil => intro r hl; simp only [layEsF, Option.some.injEq] at hl; subst hl; simp
  | cons a as ih =>
    intro r hl
    simp only [layEsF] at hl
    split at hl
    · rename_i b d q ds h1 h2
      simp only [Option.some.injEq] at hl
      subst hl
      intro x hx
      simp only [List.mem_append] at hx
      rcases hx with hx | hx
      · exact layCsF_d hf _ _ h1 x hx
      · exact ih _ h2 x hx
    · cases hl

theorem layD_d {h : HP} : ∀ (dp : Nat) (a : AV) (r : AV × List Nat), layD h dp a = some r → ∀ x ∈ r.2, ∃ y, h x = some y := by
  intro dp
  induction dp with
  | zero => intro a r hl; cases hl
  | succ dp ih =>
    intro a r hl
    unfold layD at hl
    split at hl
    · simp only [Option.some.injEq] at hl; subst hl; simp
    · split at hl
      · rename_i he
        split at hl
        · simp only [Option.some.injEq] at hl
          subst hl
          intro x hx
          simp at hx
          subst hx
          exact ⟨_, he⟩
        · cases hl
      · rename_i he
        split at hl
        · split at hl
          · rename_i hq
            simp only [Option.some.injEq] at hl
            subst hl
            intro x hx
            simp only [List.mem_cons] at hx
            rcases hx with rfl | hx
            · exact ⟨_, he⟩
            · exact layEsF_d ih _ _ hq x hx
          · cases hl
        · cases hl
      · cases hl
    · cases hl

theorem layEs_d {h : HP} (es : List (List AV)) (r : List (List AV) × List Nat) (hl : layEs h es = some r) : ∀ x ∈ r.2, ∃ y, h x = some y := layEsF_d (fun a r h => layD_d depth a r h) es r hl

theorem src_d {h : HP} {sz : Nat} {x : AV} {c : Prop} {es : List (List AV)} {d : List Nat} (hl : src h sz x = some (c, es, d)) : ∀ x ∈ d, ∃ y, h x = some y := by
  unfold src at hl
  split at hl
  · simp only [Option.some.injEq, Prod.mk.injEq] at hl; obtain ⟨_, _, rfl⟩ := hl; simp
  · split at hl
    · simp only [Option.some.injEq, Prod.mk.injEq] at hl; obtain ⟨_, _, rfl⟩ := hl; simp
    · cases hl
  · split at hl
    · split at hl
      · split at hl
        · rename_i h1
          simp only [Option.some.injEq, Prod.mk.injEq] at hl
          obtain ⟨_, _, rfl⟩ := hl
          exact layEs_d _ _ h1
        · cases hl
      · cases hl
    · split at hl
      · split at hl
        · simp only [Option.some.injEq, Prod.mk.injEq] at hl; obtain ⟨_, _, rfl⟩ := hl; simp
        · cases hl
      · cases hl
    · cases hl
  · cases hl

theorem base_d {h : HP} {sz : Nat} {x : AV} {c : Prop} {es : List (List AV)} {i d : List Nat} (hl : base h sz x = some (c, es, i, d)) : (∀ x ∈ i, ∃ y, h x = some y) ∧ ∀ x ∈ d, ∃ y, h x = some y := by
  unfold base at hl
  split at hl
  · simp only [Option.some.injEq, Prod.mk.injEq] at hl; obtain ⟨_, _, rfl, rfl⟩ := hl; simp
  · split at hl
    · rename_i he
      split at hl
      · simp only [Option.some.injEq, Prod.mk.injEq] at hl; obtain ⟨_, _, rfl, rfl⟩ := hl; simp [he]
      · cases hl
    · rename_i he
      split at hl
      · split at hl
        · rename_i h1
          simp only [Option.some.injEq, Prod.mk.injEq] at hl
          obtain ⟨_, _, rfl, rfl⟩ := hl
          exact ⟨by simp [he], layEs_d _ _ h1⟩
        · cases hl
      · cases hl
    · cases hl
  · cases hl

theorem wr_one {h : HP} {n : Nat} (hlt : ∀ id x, h id = some x → id < n) : ∀ (d id : Nat) (es : List (List AV)) (s : List (Nat × Ent)), wr h d id es = some s → ∃ p, s = [p] ∧ p.1 < n := by
  intro d
  induction d with
  | zero => intro id es s hw; simp [wr] at hw
  | succ d ih =>
    intro id es s hw
    unfold wr at hw
    cases he : h id with
    | none => simp [he] at hw
    | some e =>
      cases e with
      | mix => simp [he] at hw; exact ⟨_, hw.symm, hlt _ _ he⟩
      | row => simp [he] at hw; exact ⟨_, hw.symm, hlt _ _ he⟩
      | ali c i k sz =>
        simp only [he] at hw
        cases hc : cont h d c with
        | none => simp [hc] at hw
        | some p => rw [hc] at hw; exact ih _ _ _ hw

theorem opF_fine {P : Program} {op : Op} {ev : Operand → AV} {h : HP} {n : Nat} {c : Prop} {e : Eff} (hlt : ∀ id x, h id = some x → id < n) (he : opF P op ev h n = some (c, e)) : e.fine n ∧ (writes op = false → e.set = [] ∧ e.del = []) := by
  have hdel : ∀ (sz : Nat) (s x : AV) (c1 c2 : Prop) (p1 : List (List AV) × List Nat × List Nat) (p2 : List (List AV) × List Nat), base h sz s = some (c1, p1) → src h sz x = some (c2, p2) → ∀ y ∈ p1.2.1 ++ (p1.2.2 ++ p2.2), y < n := by
    intro sz s x c1 c2 p1 p2 h1 h2 y hy
    simp only [List.mem_append] at hy
    have b := base_d (i := p1.2.1) (d := p1.2.2) (es := p1.1) h1
    rcases hy with hy | hy | hy
    · obtain ⟨z, hz⟩ := b.1 y hy; exact hlt _ _ hz
    · obtain ⟨z, hz⟩ := b.2 y hy; exact hlt _ _ hz
    · obtain ⟨z, hz⟩ := src_d (d := p2.2) (es := p2.1) h2 y hy; exact hlt _ _ hz
  have calm : e.calm → e.fine n ∧ (writes op = false → e.set = [] ∧ e.del = []) := fun ⟨h1, h2, h3, h4⟩ => ⟨⟨by simp [h3], by simp [h3], by simp [h1], setNil h2⟩, fun _ => ⟨h2, h1⟩⟩
  by_cases ht : touch op = false
  · exact calm (opF_pure ht he).1
  · have one : ∀ {x : Ent}, e.new = [(n, x)] → e.cnt = 1 → e.set = [] → (∀ x ∈ e.del, x < n) → e.fine n := fun h1 h2 h3 h4 => ⟨by simp [h1, h2], by simp [h1], h4, setNil h3⟩
    cases op with
    | alloc t =>
      simp only [opF] at he; unfold alloc at he
      split at he <;> simp only [Option.some.injEq, Prod.mk.injEq, reduceCtorEq] at he
      obtain ⟨_, rfl⟩ := he; exact ⟨one rfl rfl rfl (by simp), fun _ => ⟨rfl, rfl⟩⟩
    | box t x =>
      simp only [opF] at he; unfold boxv at he
      split at he <;> simp only [Option.some.injEq, Prod.mk.injEq, reduceCtorEq] at he <;> (obtain ⟨_, rfl⟩ := he; exact ⟨one rfl rfl rfl (by simp), fun _ => ⟨rfl, rfl⟩⟩)
    | buildSlice t len parts =>
      simp only [opF] at he
      split at he
      · unfold buildSlice at he
        split at he
        · split at he
          · split at he
            · simp only [Option.some.injEq, Prod.mk.injEq] at he
              obtain ⟨_, rfl⟩ := he; exact ⟨one rfl rfl rfl (by simp), fun _ => ⟨rfl, rfl⟩⟩
            · cases he
          · cases he
        · cases he
      · cases he
    | load t x =>
      simp only [opF] at he; unfold loadv at he
      split at he
      · split at he
        · simp only [Option.some.injEq, Prod.mk.injEq] at he
          obtain ⟨_, rfl⟩ := he; exact ⟨⟨by simp, by simp, by simp, setNil rfl⟩, fun _ => ⟨rfl, rfl⟩⟩
        · split at he
          · rename_i sz es _
            simp only [Option.some.injEq, Prod.mk.injEq] at he
            obtain ⟨_, rfl⟩ := he
            refine ⟨⟨fun p hp => ?_, (takeC_fine _ _ _ _ _).2, by simp, setNil rfl⟩, fun _ => ⟨rfl, rfl⟩⟩
            have := (takeC_fine _ _ _ _ _).1 p hp
            refine ⟨this.1, Nat.lt_of_lt_of_le this.2 (Nat.add_le_add_left ?_ _)⟩
            rw [List.length_take]; exact Nat.min_le_left _ _
          · cases he
        · cases he
      · simp only [Option.some.injEq, Prod.mk.injEq] at he
        obtain ⟨_, rfl⟩ := he; exact ⟨⟨by simp, by simp, by simp, setNil rfl⟩, fun _ => ⟨rfl, rfl⟩⟩
      · cases he
    | store t x y =>
      simp only [opF] at he; unfold storev at he
      have st : ∀ {p : Nat × Ent}, p.1 < n → e = { v := AV.bot, set := [p] } → e.fine n ∧ (writes (.store t x y) = false → e.set = [] ∧ e.del = []) := by
        rintro p hp rfl; exact ⟨⟨by simp, by simp, by simp, setOne rfl hp⟩, fun h => by simp [writes] at h⟩
      split at he
      · split at he
        · rename_i hent
          split at he
          · simp only [Option.some.injEq, Prod.mk.injEq] at he; exact st (hlt _ _ hent) he.2.symm
          · cases he
        · split at he
          · split at he
            · split at he
              · split at he
                · rename_i s hw
                  simp only [Option.some.injEq, Prod.mk.injEq] at he
                  obtain ⟨p, hp, hp2⟩ := wr_one hlt _ _ _ _ hw
                  exact st hp2 (by rw [← he.2, hp])
                · cases he
              · cases he
            · cases he
          · cases he
        · cases he
      · cases he
    | indexAddr t x i =>
      simp only [opF] at he
      split at he
      · unfold idxAddr at he
        split at he
        · split at he
          · split at he
            · simp only [Option.some.injEq, Prod.mk.injEq] at he; obtain ⟨_, rfl⟩ := he; exact calm ⟨rfl, rfl, rfl, rfl⟩
            · cases he
          · cases he
        · split at he
          · simp only [Option.some.injEq, Prod.mk.injEq] at he; obtain ⟨_, rfl⟩ := he; exact calm ⟨rfl, rfl, rfl, rfl⟩
          · cases he
        · cases he
      · cases he
    | makeSlice t l c =>
      simp only [opF] at he
      split at he
      · unfold makeSl at he
        split at he
        · split at he
          · simp only [Option.some.injEq, Prod.mk.injEq] at he; obtain ⟨_, rfl⟩ := he; exact ⟨one rfl rfl rfl (by simp), fun _ => ⟨rfl, rfl⟩⟩
          · cases he
        · cases he
      · cases he
    | slice t x lo hi mx =>
      cases mx with
      | some m => cases he
      | none =>
        have go : ∀ {ty : Tyi} {x : AV} {l r : Int}, sliceGo ty h x l r = some (c, e) → e.calm := by
          intro ty x l r hg
          unfold sliceGo at hg
          split at hg
          · split at hg
            · split at hg
              · simp only [Option.some.injEq, Prod.mk.injEq] at hg; obtain ⟨_, rfl⟩ := hg; exact ⟨rfl, rfl, rfl, rfl⟩
              · cases hg
            · cases hg
          · split at hg
            · simp only [Option.some.injEq, Prod.mk.injEq] at hg; obtain ⟨_, rfl⟩ := hg; exact ⟨rfl, rfl, rfl, rfl⟩
            · cases hg
          · cases hg
        simp only [opF] at he
        split at he
        · unfold slicev at he
          split at he <;> first | exact calm (go he) | cases he
        · cases he
    | call cl =>
      obtain ⟨ce, args, ts⟩ := cl
      simp only [opF] at he
      unfold bltF at he
      split at he
      · simp [touch] at ht
      · split at he
        · split at he
          · unfold appendv at he
            split at he
            · split at he
              · rename_i h1 h2
                split at he
                · simp only [Option.some.injEq, Prod.mk.injEq] at he
                  obtain ⟨_, rfl⟩ := he; exact ⟨one rfl rfl rfl (hdel _ _ _ _ _ _ _ h1 h2), fun h => by simp [writes] at h⟩
                · cases he
              · cases he
            · cases he
          · cases he
        · cases he
      · simp [touch] at ht
      · simp [touch] at ht
      · cases he
    | _ => first | (simp [touch] at ht; done) | (cases he; done)

end Go.Vc

/- Contracts of functions, and calls. -/
namespace Go.Vc
open Go

theorem TRel.anyR {w : World} {R R' : Nat → Prop} {o : Nat → Option (List Nat)} {L : List Nat} {v : Value} {a : AV} (h : TRel w R o L v a) : TRel w R' o L v a := h.mono (R' := R') L fun _ _ hb => ⟨hb, rfl⟩

def noρ : Nat → Option Bk := fun _ => none

/-- A result's cells, one behind the other. -/
def flat : AV → List AV
  | .tup vs => vs.flatMap AV.cells
  | a => a.cells

def flatV : Value → List Value
  | .tuple vs => vs.toList.flatMap fun v => v.cells.toList
  | v => v.cells.toList

/-- A value has the shape of an abstract one: one cell, or a struct's cells. -/
def Sh1 (v : Value) (a : AV) : Prop :=
  match a with
  | .agg as => ∃ cs : Array Value, v = .agg cs ∧ cs.size = as.length
  | .tup _ => False
  | _ => one v

def Sh (v : Value) (a : AV) : Prop :=
  match a with
  | .tup as => ∃ vs : Array Value, v = .tuple vs ∧ vs.size = as.length ∧ ∀ k, k < as.length → Sh1 (vs.getD k undef) (as.getD k .bot)
  | a => Sh1 v a

/-- What a call hands back: by content, in memory of its own. -/
structure Res (w : World) (o : Nat → Option (List Nat)) (v : Value) (a : AV) : Prop where
  sh : Sh v a
  cell : ∀ k, k < (flat a).length → TRel w (fun _ => False) o [k] ((flatV v).getD k undef) ((flat a).getD k .bot)

/-- A FUNCTION's CONTRACT: called with values that read so, in whatever memory, it hands back a value that reads so, in memory of its own, and leaves all that was there. -/
structure Contract (P : Program) (f : Nat) (args : List AV) (res : AV) : Prop where
  enters : ∃ fn, P.funcs[f]? = some fn ∧ (fn.name == "runtime.NumGoroutine") = false ∧ fn.body.isSome = true
  calls : ∀ (w : World) (R : Nat → Prop) (vals : Array Value), (∀ b, R b → b < w.heap.size) → vals.size = args.length → (∀ k, k < args.length → XRel w R noρ (vals.getD k undef) (args.getD k .bot)) →
    Calls P f vals w fun e w' => ∃ v o, e = .returned v ∧ RowKit.Below w.heap.size w w' ∧ (∀ b L, o b = some L → w.heap.size ≤ b ∧ b < w'.heap.size) ∧ Res w' o v res

/-- An argument, read by content. -/
inductive PurTo (h : HP) : AV → AV → Prop
  | val {v} : PurTo h (.val v) (.val v)
  | nil {u sz} : PurTo h (.val (.slice none 0 0)) (.lst u sz [])
  | lst {u u' sz es} : PurTo h (.lst u sz es) (.lst u' sz es)
  | rptr {cs} : PurTo h (.rptr cs) (.rptr cs)
  | pre {cs ds} : PurTo h (.rptr (cs ++ ds)) (.rptr cs)
  | row {id off n u sz es fs} : cont h depth id = some (sz, es) → isMixE (h id) = false → off + n ≤ es.length → fs = (es.drop off).take n → PurTo h (.own id off n) (.lst u sz fs)
  | mix {id off n u sz es fs} : h id = some (.mix sz es) → off + n ≤ es.length → fs.length = n → (∀ i, i < n → (fs.getD i []).length = sz) →
      (∀ i k, i < n → k < sz → PurTo h ((es.getD (off + i) []).getD k .bot) ((fs.getD i []).getD k .bot)) → PurTo h (.own id off n) (.lst u sz fs)
  | adr {id i k sz es cs} : h id = some (.mix sz es) → i < es.length → k + cs.length ≤ sz → (∀ j, j < cs.length → PurTo h ((es.getD i []).getD (k + j) .bot) (cs.getD j .bot)) → PurTo h (.adr id i k) (.rptr cs)
  | adrRow {id i k sz es cs} : cont h depth id = some (sz, es) → isMixE (h id) = false → i < es.length → k + cs.length ≤ sz → cs = ((es.getD i []).drop k).take cs.length → PurTo h (.adr id i k) (.rptr cs)
  | agg {as bs} : as.length = bs.length → (∀ k, k < as.length → PurTo h (as.getD k .bot) (bs.getD k .bot)) → PurTo h (.agg as) (.agg bs)
  | fn {f as bs} : as.length = bs.length → (∀ k, k < as.length → ∀ cs, bs.getD k .bot ≠ .agg cs) → (∀ k, k < as.length → PurTo h (as.getD k .bot) (bs.getD k .bot)) → PurTo h (.fn f as) (.fn f bs)

/-- What the callee may read: all that is only read, and all that is this call's own. -/
def RAll (g : Gh) : Nat → Prop := fun b => g.R b ∨ ∃ L, g.o b = some L

theorem XRel.lstR {w : World} {R : Nat → Prop} {ρ : Nat → Option Bk} {v : Value} {u sz es} (h : XRel w R ρ v (.lst u sz es)) : RRel w R v (.lst u sz es) := h.lst_eq

theorem pur_rel {w : World} {g : Gh} {h : HP} (H : HRel w g h) {a b : AV} (hp : PurTo h a b) : ∀ {v : Value}, XRel w g.R g.ρ v a → (XRel w (RAll g) noρ v b ∧ ((∀ as, b ≠ .agg as) → RRel w (RAll g) v b)) := by
  have hR : ∀ b, g.R b → RAll g b ∧ w.heap[b]? = w.heap[b]? := fun b hb => ⟨.inl hb, rfl⟩
  have r : ∀ {v b}, RRel w (RAll g) v b → XRel w (RAll g) noρ v b ∧ ((∀ as, b ≠ .agg as) → RRel w (RAll g) v b) := fun h => ⟨.r h, fun _ => h⟩
  induction hp with
  | val => intro v hx; cases hx with | r hx => exact r (hx.mono hR)
  | nil => intro v hx; obtain ⟨rfl, _⟩ := hx.val_eq; exact r (.nil (by decide))
  | lst => intro v hx; exact r ((hx.lst_eq.flag).mono hR)
  | rptr => intro v hx; cases hx with | r hx => exact r (hx.mono hR)
  | @pre cs ds =>
    intro v hx
    cases hx with
    | r hx =>
      refine r ?_
      cases hx with
      | rptr us h1 h2 h3 h4 h5 =>
        refine (RRel.rptr us h1 h2 (fun k hk => h3 k (by rw [List.length_append]; omega)) (fun k hk => h4 k (by rw [List.length_append]; omega)) fun k hk => ?_).mono hR
        have := h5 k (by rw [List.length_append]; omega)
        rwa [List.getD_eq_getElem?_getD, List.getElem?_append_left hk, ← List.getD_eq_getElem?_getD] at this
  | @row id off n u sz es fs hc hm hle hfs =>
    intro v hx
    subst hfs
    have hpl := part_length es off n hle
    rcases hx.own_eq with ⟨s0, c0, hb, rfl, rfl, rfl⟩ | ⟨b, bsz, cap, cc, x0, hb, rfl, h5, h6, h7, h8, h9⟩
    · have hnil : ((es.drop 0).take 0) = [] := by simp
      rw [hnil]; exact r (.nil (by decide))
    · by_cases hn : n = 0
      · subst hn
        rw [List.take_zero]; exact r (.nil (by omega))
      · obtain ⟨hbs, v0, r0, M0, _, _, ht, hhd⟩ := cont_rel H _ _ _ _ _ hc hm hb
        simp only at hbs
        subst hbs
        have hne : es ≠ [] := by rintro rfl; simp at hle; omega
        have hhd := hhd.resolve_right hne
        cases ht with
        | nil => exact absurd rfl hne
        | @own _ _ _ b2 cap2 cur el us hob hh g1 g2 g3 g4 g5 g6 g7 =>
          cases hhd
          have := RRel.lst (w := w) (R := RAll g) (u := u) (sz := bsz) (es := (es.drop off).take n) (b := b) (x := x0) (cap := cc) (cur := cur) (e := el) (fr := (0, 0)) (fun i k => us (off + i) k) (.inr ⟨_, hob⟩) hh (by rw [hpl]; omega) (by omega)
            (fun i hi => by rw [hpl] at hi; rw [part_getD _ _ _ _ hi]; exact g4 _ (by omega))
            (fun i k hi hk => by
              rw [hpl] at hi
              have := g5 (off + i) k (by omega) hk
              rw [h7 (by omega), ← Nat.add_mul]; exact this)
            (fun i k hi hk => by rw [hpl] at hi; exact g6 _ _ (by omega) hk)
            (fun i k hi hk => by
              rw [hpl] at hi
              rw [part_getD _ _ _ _ hi]
              exact (g7 (off + i) k (by omega) hk).pure fun b hb => hb)
          rw [hpl] at this
          exact r this
  | @mix id off n u sz es fs he hle hfl hfs _ ih =>
    intro v hx
    rcases hx.own_eq with ⟨s0, c0, hb, rfl, rfl, rfl⟩ | ⟨b, bsz, cap, cc, x0, hb, rfl, h5, h6, h7, h8, h9⟩
    · have hnil : fs = [] := List.eq_nil_of_length_eq_zero hfl
      subst hnil; exact r (.nil (by decide))
    · obtain ⟨b', cur, el, us, hbk, ho', hh, hsz, hml, hl, hcur, h1, hxr⟩ := (H.mix id sz es _ he hb).ex
      simp only [Bk.mk.injEq, Option.some.injEq] at hbk
      obtain ⟨rfl, rfl, _⟩ := hbk
      by_cases hn : n = 0
      · subst hn
        have hnil : fs = [] := List.eq_nil_of_length_eq_zero hfl
        subst hnil; exact r (.nil (by omega))
      · have := RRel.lst (w := w) (R := RAll g) (u := u) (sz := bsz) (es := fs) (b := b) (x := x0) (cap := cc) (cur := cur) (e := el) (fr := (0, 0)) (fun i k => us (off + i) k) (.inr ⟨_, ho'⟩) hh (by omega) (by omega)
          (fun i hi => hfs i (by omega))
          (fun i k hi hk => by
            have := hcur (off + i) k (by omega) hk
            rw [h7 (by omega), ← Nat.add_mul]; exact this)
          (fun i k hi hk => h1 _ _ (by omega) hk)
          (fun i k hi hk => by
            have hcell := hxr (off + i) k (by omega) hk
            refine (ih i k (by omega) hk hcell).2 fun as has => ?_
            have h11 := h1 (off + i) k (by omega) hk
            have h2 := (ih i k (by omega) hk hcell).1
            rw [has] at h2
            obtain ⟨cs, hcs, _⟩ := h2.agg_eq
            rw [hcs] at h11
            simp [one, Value.oneCell'] at h11)
        rw [hfl] at this
        exact r this
  | @adr id i k sz es cs he hi hk _ ih =>
    intro v hx
    obtain ⟨b, bsz, cap, hb, rfl⟩ := hx.adr_eq
    obtain ⟨b', cur, el, us, hbk, ho', hh, hsz, hml, hl, hcur, h1, hxr⟩ := (H.mix id sz es _ he hb).ex
    simp only [Bk.mk.injEq, Option.some.injEq] at hbk
    obtain ⟨rfl, rfl, _⟩ := hbk
    refine r (.rptr (fun j => us i (k + j)) (.inr ⟨_, ho'⟩) hh (fun j hj => ?_) (fun j hj => h1 i _ hi (by omega)) fun j hj => ?_)
    · rw [Nat.add_assoc]; exact hcur i (k + j) hi (by omega)
    · have hcell := hxr i (k + j) hi (by omega)
      refine (ih j hj hcell).2 fun as has => ?_
      have h11 := h1 i (k + j) hi (by omega)
      have h2 := (ih j hj hcell).1
      rw [has] at h2
      obtain ⟨cs, hcs, _⟩ := h2.agg_eq
      rw [hcs] at h11
      simp [one, Value.oneCell'] at h11
  | @adrRow id i k sz es cs hc hm hi hk hcs =>
    intro v hx
    obtain ⟨b, bsz, cap, hb, rfl⟩ := hx.adr_eq
    obtain ⟨hbs, v0, r0, M0, _, _, ht, hhd⟩ := cont_rel H _ _ _ _ _ hc hm hb
    simp only at hbs
    subst hbs
    have hne : es ≠ [] := by rintro rfl; simp at hi
    have hhd := hhd.resolve_right hne
    cases ht with
    | nil => exact absurd rfl hne
    | @own _ _ _ b2 cap2 cur el us hob hh g1 g2 g3 g4 g5 g6 g7 =>
      cases hhd
      refine r (.rptr (fun j => us i (k + j)) (.inr ⟨_, hob⟩) hh (fun j hj => ?_) (fun j hj => g6 i _ hi (by omega)) fun j hj => ?_)
      · rw [Nat.add_assoc]; exact g5 i (k + j) hi (by omega)
      · have hg := (g7 i (k + j) hi (by omega)).pure (R' := RAll g) fun b hb => hb
        have : cs.getD j .bot = (es.getD i []).getD (k + j) .bot := by
          rw [hcs]
          simp [List.getD_eq_getElem?_getD, List.getElem?_take, List.getElem?_drop, hj]
        rw [this]; exact hg
  | @agg as bs hl _ ih =>
    intro v hx
    obtain ⟨cs, rfl, h1, h2, h3⟩ := hx.agg_eq
    exact ⟨.agg (by omega) (fun k hk => h2 k (by omega)) fun k hk => (ih k (by omega) (h3 k (by omega))).1, fun hne => absurd rfl (hne bs)⟩
  | @fn f as bs hl hna _ ih =>
    intro v hx
    obtain ⟨cs, rfl, h1, h3⟩ := hx.fn_eq
    exact r (.fn (by omega) fun k hk => (ih k (by omega) (h3 k (by omega))).2 (hna k (by omega)))

/-- A result's cells, taken into slots: each list gets a name. -/
def unC (n m : Nat) : List AV → List AV
  | [] => []
  | .lst true _ es :: r => .own (n + m) 0 es.length :: unC n (m + 1) r
  | a :: r => a :: unC n (m + 1) r

def unE (n m : Nat) : List AV → List (Nat × Ent)
  | [] => []
  | .lst true sz es :: r => (n + m, .row sz es) :: unE n (m + 1) r
  | _ :: r => unE n (m + 1) r

def unT (n m : Nat) : List AV → List AV
  | [] => []
  | .agg cs :: r => .agg (unC n m cs) :: unT n (m + cs.length) r
  | .lst true _ es :: r => .own (n + m) 0 es.length :: unT n (m + 1) r
  | a :: r => a :: unT n (m + 1) r

def unA (n : Nat) : AV → AV
  | .tup vs => .tup (unT n 0 vs)
  | .agg cs => .agg (unC n 0 cs)
  | .lst true _ es => .own n 0 es.length
  | a => a

def unk (n : Nat) (res : AV) : Eff := { v := unA n res, new := unE n 0 (flat res), cnt := (flat res).length }

theorem unE_mem (n : Nat) : ∀ (as : List AV) (m : Nat) (p : Nat × Ent), p ∈ unE n m as ↔ ∃ k sz es, k < as.length ∧ as.getD k .bot = .lst true sz es ∧ p = (n + (m + k), .row sz es) := by
  intro as
  induction as with
  | nil => intro m p; simp [unE]
  | cons a as ih =>
    intro m p
    have shift : (∃ k sz es, k < (a :: as).length ∧ (a :: as).getD k .bot = .lst true sz es ∧ p = (n + (m + k), Ent.row sz es)) ↔
        (∃ sz es, a = .lst true sz es ∧ p = (n + m, Ent.row sz es)) ∨ (∃ k sz es, k < as.length ∧ as.getD k .bot = .lst true sz es ∧ p = (n + (m + 1 + k), Ent.row sz es)) := by
      constructor
      · rintro ⟨k, sz, es, h1, h2, h3⟩
        cases k with
        | zero => exact .inl ⟨sz, es, by simpa using h2, by simpa using h3⟩
        | succ k => exact .inr ⟨k, sz, es, by simpa using h1, by simpa using h2, by rw [h3]; congr 1; omega⟩
      · rintro (⟨sz, es, h1, h2⟩ | ⟨k, sz, es, h1, h2, h3⟩)
        · exact ⟨0, sz, es, by simp, by simpa using h1, by simpa using h2⟩
        · exact ⟨k + 1, sz, es, by simpa using h1, by simpa using h2, by rw [h3]; congr 1; omega⟩
    rw [shift, ← ih (m + 1) p]
    cases a with
    | lst u sz es =>
      cases u with
      | true =>
        simp only [unE, List.mem_cons]
        constructor
        · rintro (h | h)
          · exact .inl ⟨sz, es, rfl, h⟩
          · exact .inr h
        · rintro (⟨_, _, h, h'⟩ | h)
          · cases h; exact .inl h'
          · exact .inr h
      | false => simp [unE]
    | _ => simp [unE]

theorem unE_fine (n : Nat) : ∀ (as : List AV) (m : Nat), ((unE n m as).map Prod.fst).Nodup := by
  intro as
  induction as with
  | nil => intro m; simp [unE]
  | cons a as ih =>
    intro m
    cases a with
    | lst u sz es =>
      cases u with
      | false => simpa [unE] using ih (m + 1)
      | true =>
        simp only [unE, List.map_cons, List.nodup_cons]
        refine ⟨fun hp => ?_, ih (m + 1)⟩
        obtain ⟨p, hp, hpe⟩ := List.mem_map.1 hp
        obtain ⟨k, sz', es', _, _, rfl⟩ := (unE_mem n as (m + 1) p).1 hp
        simp only at hpe
        omega
    | _ => simpa [unE] using ih (m + 1)

theorem unk_fine (n : Nat) (res : AV) : (unk n res).fine n := by
  refine ⟨fun p hp => ?_, unE_fine n _ 0, by simp [unk], setNil rfl⟩
  obtain ⟨k, sz, es, h1, _, rfl⟩ := (unE_mem n _ 0 p).1 hp
  simp only [unk]
  omega


/-- The header that a result's list has. -/
def hdrOf (u : Value) (sz : Nat) : Bk :=
  match u with
  | .slice (some ad) _ cap => ⟨some ad.block, sz, cap⟩
  | _ => ⟨none, sz, 0⟩

def ρun (n : Nat) (us : Nat → Value) (as : List AV) (ρ : Nat → Option Bk) : Nat → Option Bk := fun id =>
  if n ≤ id ∧ id < n + as.length then
    match as.getD (id - n) .bot with
    | .lst true sz _ => some (hdrOf (us (id - n)) sz)
    | _ => none
  else ρ id

def oun (n size : Nat) (o o1 : Nat → Option (List Nat)) : Nat → Option (List Nat) := fun b =>
  if b < size then o b else match o1 b with
    | some (m :: M) => some ((n + m) :: M)
    | _ => none

section
variable {w' : World} {o1 : Nat → Option (List Nat)} {R : Nat → Prop} {ρ : Nat → Option Bk} {n : Nat}

def unCell (j : Nat) : AV → AV
  | .lst true _ es => .own j 0 es.length
  | a => a

/-- One cell of a result, under its name. -/
theorem un_cell {k : Nat} {u : Value} {a : AV} {ρ' : Nat → Option Bk} (ht : TRel w' (fun _ => False) o1 [k] u a) (hρ : ∀ sz es, a = .lst true sz es → ρ' (n + k) = some (hdrOf u sz)) :
    XRel w' R ρ' u (unCell (n + k) a) := by
  cases ht with
  | val h => exact .r (.val h)
  | @nil _ u0 sz =>
    cases u0 with
    | false => exact .r (.nil (by decide))
    | true => exact .own0 (hρ sz [] rfl)
  | @own _ sz es b cap cur e us h1 h2 h3 h4 h5 => exact .own (hρ sz es rfl) (Nat.zero_add _) h4 (by simp) (by simp) h5

theorem unC_length (n : Nat) : ∀ (as : List AV) (m : Nat), (unC n m as).length = as.length := by
  intro as
  induction as with
  | nil => intro m; rfl
  | cons a as ih =>
    intro m
    cases a with
    | lst u sz es => cases u <;> simp [unC, ih]
    | _ => simp [unC, ih]

theorem unC_getD (n : Nat) : ∀ (as : List AV) (m k : Nat), k < as.length → (unC n m as).getD k .bot = unCell (n + (m + k)) (as.getD k .bot) := by
  intro as
  induction as with
  | nil => intro m k hk; simp at hk
  | cons a as ih =>
    intro m k hk
    cases k with
    | zero =>
      cases a with
      | lst u sz es => cases u <;> simp [unC, unCell]
      | _ => simp [unC, unCell]
    | succ k =>
      have := ih (m + 1) k (by simpa using hk)
      rw [show m + 1 + k = m + (k + 1) by omega] at this
      cases a with
      | lst u sz es => cases u <;> simpa [unC] using this
      | _ => simpa [unC] using this

theorem un_agg {m : Nat} {cs : Array Value} {as : List AV} {ρ' : Nat → Option Bk} (hl : cs.size = as.length) (ht : ∀ k, k < as.length → TRel w' (fun _ => False) o1 [m + k] (cs.getD k undef) (as.getD k .bot))
    (hρ : ∀ k sz es, k < as.length → as.getD k .bot = .lst true sz es → ρ' (n + (m + k)) = some (hdrOf (cs.getD k undef) sz)) : XRel w' R ρ' (.agg cs) (.agg (unC n m as)) := by
  refine .agg (by rw [unC_length]; exact hl) (fun k hk => ?_) (fun k hk => ?_)
  · rw [unC_length] at hk; exact (ht k hk).one
  · rw [unC_length] at hk
    rw [unC_getD _ _ _ _ hk]
    exact un_cell (ht k hk) fun sz es he => hρ k sz es hk he

/-- A part of a tuple. -/
def unT1 (n m : Nat) : AV → AV
  | .agg cs => .agg (unC n m cs)
  | .lst true _ es => .own (n + m) 0 es.length
  | a => a

theorem unT_cons (n m : Nat) (a : AV) (r : List AV) (h : ∀ vs, a ≠ .tup vs) : unT n m (a :: r) = unT1 n m a :: unT n (m + a.cells.length) r := by
  cases a with
  | lst u sz es => cases u <;> simp [unT, unT1, AV.cells]
  | tup vs => exact absurd rfl (h vs)
  | _ => simp [unT, unT1, AV.cells]

theorem un_part {m : Nat} {v : Value} {a : AV} {ρ' : Nat → Option Bk} (hs : Sh1 v a) (ht : ∀ k, k < a.cells.length → TRel w' (fun _ => False) o1 [m + k] (v.cells.toList.getD k undef) (a.cells.getD k .bot))
    (hρ : ∀ k sz es, k < a.cells.length → a.cells.getD k .bot = .lst true sz es → ρ' (n + (m + k)) = some (hdrOf (v.cells.toList.getD k undef) sz)) : XRel w' R ρ' v (unT1 n m a) := by
  have single : one v → (∀ cs, a ≠ .agg cs) → (∀ cs, a ≠ .tup cs) → XRel w' R ρ' v (unT1 n m a) := by
    intro h1 hna hnt
    have hc : v.cells.toList = [v] := by revert h1; unfold one Value.oneCell'; cases v <;> simp [Value.cells]
    have ha : a.cells = [a] := by cases a <;> first | rfl | exact absurd rfl (hna _)
    have h0 := ht 0 (by rw [ha]; simp)
    rw [hc, ha] at h0
    simp only [Nat.add_zero, List.getD_cons_zero] at h0
    have hr0 : ∀ sz es, a = .lst true sz es → ρ' (n + m) = some (hdrOf v sz) := by
      intro sz es he
      have := hρ 0 sz es (by rw [ha]; simp) (by rw [ha]; simpa using he)
      rw [hc] at this
      simpa using this
    have := un_cell (R := R) (n := n) h0 hr0
    cases a with
    | agg cs => exact absurd rfl (hna cs)
    | lst u sz es => cases u <;> simpa [unT1, unCell] using this
    | _ => simpa [unT1, unCell] using this
  cases a with
  | agg as =>
    obtain ⟨cs, rfl, hl⟩ := hs
    exact un_agg hl (fun k hk => by have := ht k hk; simpa [Value.cells, AV.cells] using this) (fun k sz es hk he => by have := hρ k sz es hk he; simpa [Value.cells] using this)
  | tup as => exact hs.elim
  | _ => exact single hs (by intro cs h; cases h) (by intro cs h; cases h)

theorem un_tup (ρ' : Nat → Option Bk) : ∀ (as : List AV) (vs : List Value) (m : Nat), vs.length = as.length → (∀ k, k < as.length → Sh1 (vs.getD k undef) (as.getD k .bot)) →
    (∀ k, k < (as.flatMap AV.cells).length → TRel w' (fun _ => False) o1 [m + k] ((vs.flatMap fun v => v.cells.toList).getD k undef) ((as.flatMap AV.cells).getD k .bot)) →
    (∀ k sz es, k < (as.flatMap AV.cells).length → (as.flatMap AV.cells).getD k .bot = .lst true sz es → ρ' (n + (m + k)) = some (hdrOf ((vs.flatMap fun v => v.cells.toList).getD k undef) sz)) →
    (unT n m as).length = as.length ∧ ∀ k, k < as.length → XRel w' R ρ' (vs.getD k undef) ((unT n m as).getD k .bot) := by
  intro as
  induction as with
  | nil => intro vs m _ _ _ _; exact ⟨rfl, fun k hk => by simp at hk⟩
  | cons a as ih =>
    intro vs m hl hs ht hρ
    cases vs with
    | nil => simp at hl
    | cons v vs =>
      have hs0 := hs 0 (by simp)
      simp only [List.getD_cons_zero] at hs0
      have hcl : v.cells.toList.length = a.cells.length := by
        cases a with
        | agg as2 => obtain ⟨cs, rfl, h2⟩ := hs0; simpa [Value.cells, AV.cells] using h2
        | tup as2 => exact hs0.elim
        | _ =>
          have h1 : one v := hs0
          revert h1; unfold one Value.oneCell'; cases v <;> simp [Value.cells, AV.cells]
      have hnt : ∀ vs2, a ≠ .tup vs2 := by rintro vs2 rfl; exact hs0.elim
      rw [unT_cons n m a as hnt]
      have left : ∀ k, k < a.cells.length → ((v :: vs).flatMap fun v => v.cells.toList).getD k undef = v.cells.toList.getD k undef ∧ ((a :: as).flatMap AV.cells).getD k .bot = a.cells.getD k .bot := by
        intro k hk
        simp only [List.flatMap_cons, List.getD_eq_getElem?_getD]
        rw [List.getElem?_append_left (by omega), List.getElem?_append_left (by omega)]
        exact ⟨rfl, rfl⟩
      have right : ∀ k, ((v :: vs).flatMap fun v => v.cells.toList).getD (a.cells.length + k) undef = (vs.flatMap fun v => v.cells.toList).getD k undef ∧ ((a :: as).flatMap AV.cells).getD (a.cells.length + k) .bot = (as.flatMap AV.cells).getD k .bot := by
        intro k
        simp only [List.flatMap_cons, List.getD_eq_getElem?_getD]
        rw [List.getElem?_append_right (by omega), List.getElem?_append_right (by omega), hcl]
        simp
      have hlen : ((a :: as).flatMap AV.cells).length = a.cells.length + (as.flatMap AV.cells).length := by simp
      have h0 := un_part (R := R) (n := n) (m := m) (ρ' := ρ') hs0 (fun k hk => by have := ht k (by omega); rwa [(left k hk).1, (left k hk).2] at this)
        (fun k sz es hk he => by have := hρ k sz es (by omega) (by rw [(left k hk).2]; exact he); rwa [(left k hk).1] at this)
      obtain ⟨i1, i2⟩ := ih vs (m + a.cells.length) (by simpa using hl) (fun k hk => by have := hs (k + 1) (by simp; omega); simpa using this)
        (fun k hk => by
          have := ht (a.cells.length + k) (by omega)
          rw [(right k).1, (right k).2] at this
          rwa [← Nat.add_assoc] at this)
        (fun k sz es hk he => by
          have := hρ (a.cells.length + k) sz es (by omega) (by rw [(right k).2]; exact he)
          rw [(right k).1, ← Nat.add_assoc m] at this
          exact this)
      refine ⟨by simp [i1], fun k hk => ?_⟩
      cases k with
      | zero => simpa using h0
      | succ k => simpa using i2 k (by simpa using hk)

/-- A result, under its names. -/
theorem un_res {v : Value} {res : AV} {ρ' : Nat → Option Bk} (hr : Res w' o1 v res) (hρ : ∀ k sz es, k < (flat res).length → (flat res).getD k .bot = .lst true sz es → ρ' (n + k) = some (hdrOf ((flatV v).getD k undef) sz)) :
    XRel w' R ρ' v (unA n res) := by
  obtain ⟨hs, hc⟩ := hr
  cases res with
  | tup as =>
    obtain ⟨vs, rfl, hl, h1⟩ := hs
    have := un_tup (w' := w') (o1 := o1) (R := R) (n := n) ρ' as vs.toList 0 (by simpa using hl) (fun k hk => by have := h1 k hk; simpa using this)
      (fun k hk => by have := hc k hk; simpa [flat, flatV] using this) (fun k sz es hk he => by have := hρ k sz es hk he; simpa [flatV] using this)
    exact .tup (by rw [this.1]; exact hl) fun k hk => by
      rw [this.1] at hk
      have := this.2 k hk
      simpa using this
  | agg as =>
    have hs' : Sh1 v (.agg as) := hs
    obtain ⟨cs, rfl, hl⟩ := hs'
    exact un_agg (m := 0) hl (fun k hk => by have := hc k hk; simpa [flat, flatV, Value.cells, AV.cells] using this) (fun k sz es hk he => by have := hρ k sz es hk he; simpa [flatV, Value.cells] using this)
  | lst u sz es =>
    have hs' : Sh1 v (.lst u sz es) := hs
    have := un_part (R := R) (n := n) (m := 0) (ρ' := ρ') hs' (fun k hk => by
        have := hc k hk
        have hf : flatV v = v.cells.toList := by have h1 : one v := hs'; revert h1; unfold one Value.oneCell'; cases v <;> simp [flatV]
        rw [hf] at this; simpa [flat] using this) (fun k sz' es' hk he => by
        have := hρ k sz' es' hk he
        have hf : flatV v = v.cells.toList := by have h1 : one v := hs'; revert h1; unfold one Value.oneCell'; cases v <;> simp [flatV]
        rw [hf] at this; simpa using this)
    cases u <;> simpa [unA, unT1] using this
  | _ =>
    have h0 := hc 0 (by simp [flat, AV.cells])
    simp only [flat, AV.cells, List.getD_cons_zero] at h0
    first
      | (have h1 : one v := hs
         have hf : (flatV v).getD 0 undef = v := by revert h1; unfold one Value.oneCell'; cases v <;> simp [flatV, Value.cells]
         rw [hf] at h0
         cases h0 <;> exact .r (.val (by assumption)))
      | (cases h0; done)

end
end Go.Vc

/- Functions that write into what they are handed: lists of this call's own, or lists that a row of this call's own holds. -/
namespace Go.Vc
open Go

/-- A list that is handed over: its cells for each element, what it holds, what it will hold. -/
structure Mu where
  sz : Nat
  es : List (List AV)
  fs : List (List AV)

def Mu.none : Mu := ⟨0, [], []⟩

def resV : AV → Option Value
  | .val v => if scB v then some v else Option.none
  | .tup [] => some (.tuple #[])
  | _ => Option.none

theorem resV_rel {w : World} {R : Nat → Prop} {ρ : Nat → Option Bk} {res : AV} {rv : Value} (h : resV res = some rv) : XRel w R ρ rv res := by
  unfold resV at h
  split at h
  · split at h
    · rename_i hs; cases h; exact .r (.val (scB_sc hs))
    · cases h
  · cases h; exact .tup rfl fun k hk => by simp at hk
  · cases h

structure MPre (w : World) (R : Nat → Prop) (o : Nat → Option (List Nat)) (ρ : Nat → Option Bk) (ms : List Mu) (vals : Array Value) (args : List AV) : Prop where
  hR : ∀ b, R b → b < w.heap.size ∧ o b = none
  ho : ∀ b L, o b = some L → b < w.heap.size
  ent : ∀ j bk, j < ms.length → ρ j = some bk → ∃ v, Hdr v bk (ms.getD j .none).sz ∧ TRel w R o [j] v (.lst true (ms.getD j .none).sz (ms.getD j .none).es)
  lim : ∀ j bk, ρ j = some bk → j < ms.length
  size : vals.size = args.length
  args : ∀ k, k < args.length → XRel w R ρ (vals.getD k undef) (args.getD k .bot)

structure MPost (w w' : World) (R : Nat → Prop) (o : Nat → Option (List Nat)) (ρ : Nat → Option Bk) (ms : List Mu) : Prop where
  os : w'.os = w.os
  tape : w'.tape = w.tape
  output : w'.output = w.output
  size : w.heap.size ≤ w'.heap.size
  keep : ∀ b, b < w.heap.size → o b = none → w'.heap[b]? = w.heap[b]?
  ex : ∃ o', (∀ b L, o' b = some L → b < w'.heap.size ∧ (w.heap.size ≤ b ∨ ∃ L', o b = some L')) ∧
    ∀ j bk, j < ms.length → ρ j = some bk → ∃ v, Hdr v bk (ms.getD j .none).sz ∧ TRel w' R o' [j] v (.lst true (ms.getD j .none).sz (ms.getD j .none).fs)

/-- A FUNCTION's CONTRACT, where it writes: the lists ms, named 0, 1, .. -/
structure MContract (P : Program) (f : Nat) (args : List AV) (ms : List Mu) (res : AV) : Prop where
  enters : ∃ fn, P.funcs[f]? = some fn ∧ (fn.name == "runtime.NumGoroutine") = false ∧ fn.body.isSome = true
  len : ∀ j, j < ms.length → (ms.getD j .none).fs.length = (ms.getD j .none).es.length
  calls : ∃ rv, resV res = some rv ∧ ∀ (w : World) (R : Nat → Prop) (o : Nat → Option (List Nat)) (ρ : Nat → Option Bk) (vals : Array Value), MPre w R o ρ ms vals args →
    Calls P f vals w fun e w' => e = .returned rv ∧ MPost w w' R o ρ ms

/-- An argument, under the callee's names. -/
inductive MArg (m : List Nat) : AV → AV → Prop
  | val {v} : MArg m (.val v) (.val v)
  | nil {u sz} : MArg m (.val (.slice none 0 0)) (.lst u sz [])
  | lst {u u' sz es} : MArg m (.lst u sz es) (.lst u' sz es)
  | own {j off n} : j < m.length → MArg m (.own (m.getD j 0) off n) (.own j off n)
  | agg {as bs} : as.length = bs.length → (∀ k, k < as.length → MArg m (as.getD k .bot) (bs.getD k .bot)) → MArg m (.agg as) (.agg bs)

def ρc (m : List Nat) (ρ : Nat → Option Bk) : Nat → Option Bk := fun j => if j < m.length then ρ (m.getD j 0) else none

theorem MArg.rel {w : World} {R : Nat → Prop} {ρ : Nat → Option Bk} {m : List Nat} {a b : AV} (h : MArg m a b) : ∀ {v : Value}, XRel w R ρ v a → XRel w R (ρc m ρ) v b := by
  induction h with
  | val => intro v hx; cases hx with | r hx => exact .r hx
  | nil => intro v hx; obtain ⟨rfl, _⟩ := hx.val_eq; exact .r (.nil (by decide))
  | lst => intro v hx; exact .r hx.lst_eq.flag
  | @own j off n hj =>
    intro v hx
    have e : ∀ k, ρ (m.getD j 0) = some k → ρc m ρ j = some k := fun k hk => by simp only [ρc]; rw [if_pos hj]; exact hk
    rcases hx.own_eq with ⟨s0, c0, hb, rfl, rfl, rfl⟩ | ⟨b, bsz, cap, cc, x0, hb, rfl, h5, h6, h7, h8, h9⟩
    · exact .own0 (e _ hb)
    · exact .own (e _ hb) h5 h6 h7 h8 h9
  | agg hl _ ih =>
    intro v hx
    obtain ⟨cs, rfl, h1, h2, h3⟩ := hx.agg_eq
    exact .agg (by omega) (fun k hk => h2 k (by omega)) fun k hk => ih k (by omega) (h3 k (by omega))

/-- Where a list that is handed over stands: a root, or a cell of a root's row. -/
inductive At (h : HP) (mu : Mu) (id : Nat) : List Nat → Prop
  | root : h id = some (.row mu.sz mu.es) → At h mu id [id]
  | cell {r i k szr esr} : h id = some (.ali r i k mu.sz) → h r = some (.row szr esr) → i < esr.length → k < szr → (esr.getD i []).getD k .bot = .lst true mu.sz mu.es → At h mu id [r, i, k]

/-- What a root's row turns into. -/
structure Turn (ms : List Mu) (P : Nat → List Nat) (r : Nat) (sz : Nat) (es fs : List (List AV)) : Prop where
  whole : ∀ j, j < ms.length → P j = [r] → fs = (ms.getD j .none).fs
  len : fs.length = es.length
  row : (∀ j, j < ms.length → P j ≠ [r]) → ∀ i, i < es.length → (fs.getD i []).length = (es.getD i []).length
  hit : ∀ i k j, j < ms.length → P j = [r, i, k] → i < es.length → k < sz → (fs.getD i []).getD k .bot = .lst true (ms.getD j .none).sz (ms.getD j .none).fs
  miss : ∀ i k, i < es.length → k < sz → (∀ j, j < ms.length → P j ≠ [r] ∧ P j ≠ [r, i, k]) → (fs.getD i []).getD k .bot = (es.getD i []).getD k .bot

/-- A call that writes: what it asks of the state. -/
structure MCall (h : HP) (n : Nat) (ms : List Mu) (m : List Nat) (P : Nat → List Nat) (sets : List (Nat × Ent)) (dels : List Nat) : Prop where
  len : m.length = ms.length
  at_ : ∀ j, j < ms.length → At h (ms.getD j .none) (m.getD j 0) (P j)
  apart : ∀ i j, i < ms.length → j < ms.length → i ≠ j → ¬ P i <+: P j
  nodup : (sets.map Prod.fst).Nodup
  hsets : ∀ r e, look r sets = some e → ∃ sz es fs, h r = some (.row sz es) ∧ e = .row sz fs ∧ Turn ms P r sz es fs
  all : ∀ j r M, j < ms.length → P j = r :: M → (look r sets).isSome = true
  hdels : ∀ x ∈ dels, x < n
  alis : ∀ id c i k s, id < n → h id = some (.ali c i k s) → id ∈ dels ∨ ∃ d r, Vc.root h d c = some r ∧ look r sets = none

theorem root_det {h : HP} : ∀ (d d' c r r' : Nat), Vc.root h d c = some r → Vc.root h d' c = some r' → r = r' := by
  intro d
  induction d with
  | zero => intro d' c r r' h1; cases h1
  | succ d ih =>
    intro d' c r r' h1 h2
    cases d' with
    | zero => cases h2
    | succ d' =>
      unfold Vc.root at h1 h2
      cases he : h c with
      | none => simp [he] at h1
      | some e =>
        cases e with
        | ali c2 i k s => simp only [he] at h1 h2; exact ih d' c2 r r' h1 h2
        | mix => simp only [he, Option.some.injEq] at h1 h2; rw [← h1, ← h2]
        | row => simp only [he, Option.some.injEq] at h1 h2; rw [← h1, ← h2]


theorem At.head {h : HP} {mu : Mu} {id : Nat} {L : List Nat} (ha : At h mu id L) : ∃ r M, L = r :: M ∧ ∃ sz es, h r = some (.row sz es) := by
  cases ha with
  | root h1 => exact ⟨_, _, rfl, _, _, h1⟩
  | cell h1 h2 => exact ⟨_, _, rfl, _, _, h2⟩

theorem At.shape {h : HP} {mu : Mu} {id : Nat} {L : List Nat} (ha : At h mu id L) : (∃ x, L = [x]) ∨ ∃ r i k, L = [r, i, k] := by
  cases ha with
  | root => exact .inl ⟨_, rfl⟩
  | cell => exact .inr ⟨_, _, _, rfl⟩

/-- A list that is handed over, in memory. -/
theorem At.rel {w : World} {g : Gh} {h : HP} (H : HRel w g h) {mu : Mu} {id : Nat} {L : List Nat} (ha : At h mu id L) {bk : Bk} (hb : g.ρ id = some bk) : ∃ v, Hdr v bk mu.sz ∧ TRel w g.R g.o L v (.lst true mu.sz mu.es) := by
  cases ha with
  | root h1 =>
    obtain ⟨v, hv, hh⟩ := H.row _ _ _ _ h1 hb
    exact ⟨v, hh, hv⟩
  | @cell r i k szr esr h1 h2 h3 h4 h5 =>
    obtain ⟨q1, bkc, q2, q3⟩ := H.ali _ _ _ _ _ _ h1 hb
    obtain ⟨bc, cur, e, v, q4, q5, q6, q7⟩ := q3 1 szr esr (by simp [cont, h2]) (by rw [h2]; rfl) h3 h4
    obtain ⟨v0, hv, hh⟩ := H.row _ _ _ _ h2 q2
    cases hv with
    | nil => simp at h3
    | own us hob hheap a1 a2 a3 a4 a5 a6 a7 =>
      cases hh
      cases q4
      rw [q5] at hheap
      obtain ⟨rfl, rfl⟩ := by simpa using hheap
      have hu : us i k = v := by have := a5 i k h3 h4; rw [q6] at this; simpa using this.symm
      have ht := a7 i k h3 h4
      rw [hu, h5] at ht
      exact ⟨v, q7.resolve_right fun hs => ht.scn_lst hs, ht⟩

theorem hdr_eq {w w' : World} {R R' : Nat → Prop} {o o' : Nat → Option (List Nat)} {L L' : List Nat} {v v' : Value} {bk : Bk} {sz : Nat} {u u' : Bool} {es fs : List (List AV)} (h1 : Hdr v bk sz) (h2 : Hdr v' bk sz)
    (t1 : TRel w R o L v (.lst u sz es)) (t2 : TRel w' R' o' L' v' (.lst u' sz fs)) (hl : fs.length = es.length) : v = v' := by
  cases h1 with
  | nil => cases h2; rfl
  | own =>
    cases h2
    cases t1
    cases t2
    rw [hl]

def Occ (id : Nat) : AV → Prop
  | .own i _ _ => i = id
  | .agg cs => ∃ l, l < cs.length ∧ ∃ off n, cs.getD l .bot = .own id off n
  | _ => False

theorem Occ.rel {w : World} {R : Nat → Prop} {ρ : Nat → Option Bk} {v : Value} {a : AV} {id : Nat} (ho : Occ id a) (hx : XRel w R ρ v a) : ∃ bk, ρ id = some bk := by
  have one : ∀ {u off n}, XRel w R ρ u (.own id off n) → ∃ bk, ρ id = some bk := by
    intro u off n hx
    rcases hx.own_eq with ⟨s0, c0, hb, _⟩ | ⟨b, bsz, cap, cc, x0, hb, _⟩
    · exact ⟨_, hb⟩
    · exact ⟨_, hb⟩
  unfold Occ at ho
  split at ho
  · subst ho; exact one hx
  · obtain ⟨l, hl, off, n, he⟩ := ho
    obtain ⟨cs, rfl, h1, h2, h3⟩ := hx.agg_eq
    have := h3 l hl
    rw [he] at this
    exact one this
  · exact ho.elim

section
variable {P : Program} {C : Ctx} {a : Act} {w : World} {g : Gh} {h : HP} {n : Nat} {ev : Operand → AV}

theorem step_mut (hev : ∀ x, XRel w g.R g.ρ (a.eval x) (ev x)) (W : WF C w g) (H : HRel w g h) {o : Oper} {cl : Call} {x : Operand} {f : Nat} {caps args : List AV} {ms : List Mu} {res : AV} {m : List Nat} {Pt : Nat → List Nat} {sets : List (Nat × Ent)} {dels : List Nat}
    (hlim : ∀ id k, g.ρ id = some k → id < n) (ho : o.op = .call cl) (hc : cl.callee = .value x) (hx : ev x = .fn f caps) (hcon : MContract P f args ms res) (hM : MCall h n ms m Pt sets dels)
    (hal : (cl.args.toList.map ev ++ caps).length = args.length) (harg : ∀ k, k < args.length → MArg m ((cl.args.toList.map ev ++ caps).getD k .bot) (args.getD k .bot))
    (hcov : ∀ j, j < ms.length → ∃ k, k < args.length ∧ Occ (m.getD j 0) ((cl.args.toList.map ev ++ caps).getD k .bot)) :
    Step P C o a w g h n { v := res, set := sets, del := dels } := by
  intro K Q k
  have hxx := hev x
  rw [hx] at hxx
  obtain ⟨cs, hxv, hcl, hcr⟩ := hxx.fn_eq
  obtain ⟨fn, e1, e2, e3⟩ := hcon.enters
  have hrun : (execOp a.eval o).run P w = .ok (.enter f (cl.args.map a.eval ++ cs)) w := by
    obtain ⟨body, e3'⟩ := Option.isSome_iff_exists.1 e3
    have e2' : fn.name ≠ "runtime.NumGoroutine" := by simpa using e2
    simp [execOp, ho, resolve, hc, hxv, Deferred.ofValue, invoke, callFunc, e1, e2', e3']
  -- the arguments' values
  have hvals : ∀ j, j < args.length → XRel w g.R g.ρ ((cl.args.map a.eval ++ cs).getD j undef) ((cl.args.toList.map ev ++ caps).getD j .bot) := by
    intro j hj
    by_cases hlt : j < cl.args.size
    · have h1 : (cl.args.map a.eval ++ cs).getD j undef = a.eval (cl.args[j]) := by
        simp [Array.getElem?_append, hlt]
      have h2 : (cl.args.toList.map ev ++ caps).getD j .bot = ev (cl.args[j]) := by
        simp [List.getD_eq_getElem?_getD, List.getElem?_append, hlt]
      rw [h1, h2]; exact hev _
    · have hjc : j - cl.args.size < caps.length := by simp at hal; omega
      have h1 : (cl.args.map a.eval ++ cs).getD j undef = cs.getD (j - cl.args.size) undef := by
        simp [Array.getElem?_append, hlt]
      have h2 : (cl.args.toList.map ev ++ caps).getD j .bot = caps.getD (j - cl.args.size) .bot := by
        simp [List.getD_eq_getElem?_getD, List.getElem?_append, hlt]
      rw [h1, h2]; exact hcr _ hjc
  have hρ : ∀ j, j < ms.length → ∃ bk, g.ρ (m.getD j 0) = some bk ∧ ρc m g.ρ j = some bk := by
    intro j hj
    obtain ⟨q, hq, hocc⟩ := hcov j hj
    obtain ⟨bk, hbk⟩ := hocc.rel (hvals q hq)
    exact ⟨bk, hbk, by simp only [ρc]; rw [if_pos (by rw [hM.len]; exact hj)]; exact hbk⟩
  -- the callee's labels
  let Qb : Nat → Nat → List Nat → Prop := fun b j M => j < ms.length ∧ g.o b = some (Pt j ++ M)
  have huniq : ∀ b j M j' M', Qb b j M → Qb b j' M' → j = j' ∧ M = M' := by
    rintro b j M j' M' ⟨h1, h2⟩ ⟨h3, h4⟩
    rw [h2] at h4
    have he : Pt j ++ M = Pt j' ++ M' := by simpa using h4
    have hj : j = j' := by
      rcases Classical.em (j = j') with hj | hj
      · exact hj
      · exfalso
        rcases List.prefix_or_prefix_of_prefix (List.prefix_append (Pt j) M) (he ▸ List.prefix_append (Pt j') M') with h5 | h5
        · exact hM.apart j j' h1 h3 hj h5
        · exact hM.apart j' j h3 h1 (Ne.symm hj) h5
    subst hj
    exact ⟨rfl, List.append_cancel_left he⟩
  let oc : Nat → Option (List Nat) := fun b => open Classical in if hq : ∃ p : Nat × List Nat, Qb b p.1 p.2 then some (hq.choose.1 :: hq.choose.2) else none
  have oc1 : ∀ b j M, Qb b j M → oc b = some (j :: M) := by
    intro b j M hq
    have he : ∃ p : Nat × List Nat, Qb b p.1 p.2 := ⟨(j, M), hq⟩
    have hsp := he.choose_spec
    simp only [oc]
    rw [dif_pos he]
    obtain ⟨h1, h2⟩ := huniq b _ _ _ _ hsp hq
    rw [h1, h2]
  have oc2 : ∀ b L, oc b = some L → ∃ j M, Qb b j M ∧ L = j :: M := by
    intro b L hL
    simp only [oc] at hL
    split at hL
    · rename_i he
      cases hL
      exact ⟨_, _, he.choose_spec, rfl⟩
    · cases hL
  have oc3 : ∀ b, oc b = none → ∀ j M, ¬ Qb b j M := by
    intro b hb j M hq
    rw [oc1 b j M hq] at hb; cases hb
  have hpre : MPre w g.R oc (ρc m g.ρ) ms (cl.args.map a.eval ++ cs) args := by
    refine ⟨fun b hb => ⟨(W.R b hb).1, ?_⟩, fun b L hb => ?_, fun j bk hj hb => ?_, fun j bk hb => ?_, by simp at hal; simp; omega, fun q hq => (harg q hq).rel (hvals q hq)⟩
    · cases hob : oc b with
      | none => rfl
      | some L =>
        obtain ⟨j, M, ⟨_, h2⟩, _⟩ := oc2 b L hob
        rw [(W.R b hb).2] at h2; cases h2
    · obtain ⟨j, M, ⟨_, h2⟩, _⟩ := oc2 b L hb
      exact (W.o b _ h2).1
    · have hb' : g.ρ (m.getD j 0) = some bk := by
        simp only [ρc] at hb
        rw [if_pos (by rw [hM.len]; exact hj)] at hb; exact hb
      obtain ⟨v, h1, h2⟩ := (hM.at_ j hj).rel H hb'
      exact ⟨v, h1, h2.mono (R' := g.R) [j] fun b M hbM => ⟨oc1 b j M ⟨hj, hbM⟩, rfl⟩⟩
    · simp only [ρc] at hb
      split at hb
      · rw [← hM.len]; assumption
      · cases hb
  obtain ⟨rv, hrv, hcalls⟩ := hcon.calls
  unfold Oper.wp
  rw [hrun, Oper.upon_enter]
  refine (hcalls w g.R oc (ρc m g.ρ) _ hpre).mono fun e w' ⟨he, hp⟩ => ?_
  subst he
  obtain ⟨o1, ho1, hent⟩ := hp.ex
  -- the labels afterwards
  let o2 : Nat → Option (List Nat) := fun b => match o1 b with
    | some (j :: M) => if j < ms.length then some (Pt j ++ M) else none
    | some [] => none
    | none => if oc b = none then g.o b else none
  have o21 : ∀ b j M, j < ms.length → o1 b = some (j :: M) → o2 b = some (Pt j ++ M) := by
    intro b j M hj hb
    simp only [o2, hb]; rw [if_pos hj]
  have o22 : ∀ b L, g.o b = some L → (∀ j M, ¬ Qb b j M) → o2 b = some L ∧ w'.heap[b]? = w.heap[b]? := by
    intro b L hb hq
    have hocb : oc b = none := by
      cases hob : oc b with
      | none => rfl
      | some L' => obtain ⟨j, M, h1, _⟩ := oc2 b L' hob; exact absurd h1 (hq j M)
    have hlt := (W.o b L hb).1
    have ho1b : o1 b = none := by
      cases h1 : o1 b with
      | none => rfl
      | some L' =>
        rcases (ho1 b L' h1).2 with h2 | ⟨L2, h2⟩
        · omega
        · rw [hocb] at h2; cases h2
    refine ⟨by simp only [o2, ho1b]; rw [if_pos hocb]; exact hb, hp.keep b hlt hocb⟩
  have hnoroot : ∀ b r M, g.o b = some (r :: M) → look r sets = none → ∀ j M', ¬ Qb b j M' := by
    rintro b r M hb hr j M' ⟨h1, h2⟩
    obtain ⟨r', M2, hP, _⟩ := (hM.at_ j h1).head
    rw [hb, hP] at h2
    simp only [List.cons_append, Option.some.injEq, List.cons.injEq] at h2
    have := hM.all j r' M2 h1 hP
    rw [← h2.1, hr] at this
    cases this
  have hRw : ∀ b, g.R b → w'.heap[b]? = w.heap[b]? := fun b hb => hp.keep b (W.R b hb).1 ((hpre.hR b hb).2)
  have hrowset : ∀ id e, look id sets = some e → ∃ sz fs, e = .row sz fs := fun id e he => by
    obtain ⟨sz, es, fs, _, h2, _⟩ := hM.hsets id e he
    exact ⟨sz, fs, h2⟩
  have hold : ∀ id e, happ { v := res, set := sets, del := dels } h id = some e → look id sets = none → h id = some e ∧ id ∉ dels := by
    intro id e he hl
    simp only [happ, hl] at he
    split at he
    · cases he
    · rename_i hd; exact ⟨he, hd⟩
  refine k rv w' o2 g.ρ ⟨fun b hb => ?_, fun b L hb => ?_, hp.os.trans W.os, hp.tape.trans W.tape, hp.output.trans W.output, Nat.le_trans W.size hp.size, fun b hb hw => ?_⟩ ⟨fun id sz es bk he hb => ?_, fun id sz es bk he hb => ?_, fun id c i kk s bk he hb => ?_⟩ (fun _ _ h => h) (fun _ _ h => .inl h) (resV_rel hrv) hRw
  · have h1 := W.R b hb
    refine ⟨Nat.lt_of_lt_of_le h1.1 hp.size, ?_⟩
    have hocb := (hpre.hR b hb).2
    have ho1b : o1 b = none := by
      cases h2 : o1 b with
      | none => rfl
      | some L' =>
        rcases (ho1 b L' h2).2 with h3 | ⟨L2, h3⟩
        · omega
        · rw [hocb] at h3; cases h3
    show o2 b = none
    simp only [o2, ho1b]; rw [if_pos hocb]; exact h1.2
  · have hb2 : o2 b = some L := hb
    simp only [o2] at hb2
    split at hb2
    · rename_i j M h1
      obtain ⟨h2, h3⟩ := ho1 b _ h1
      refine ⟨h2, ?_⟩
      rcases h3 with h3 | ⟨L', h3⟩
      · exact .inl (by have := W.size; omega)
      · obtain ⟨j', M', ⟨_, h4⟩, _⟩ := oc2 b L' h3
        exact (W.o b _ h4).2
    · cases hb2
    · split at hb2
      · have := W.o b L hb2
        exact ⟨Nat.lt_of_lt_of_le this.1 hp.size, this.2⟩
      · cases hb2
  · rw [hp.keep b (by have := W.size; omega) ?_]
    · exact W.keep b hb hw
    · cases hob : oc b with
      | none => rfl
      | some L =>
        obtain ⟨j, M, ⟨_, h2⟩, _⟩ := oc2 b L hob
        rcases (W.o b _ h2).2 with h3 | h3
        · omega
        · exact absurd h3 hw
  · -- a variable or a literal
    have hl : look id sets = none := by
      cases hl : look id sets with
      | none => rfl
      | some e =>
        obtain ⟨sz', fs, rfl⟩ := hrowset id e hl
        simp only [happ, hl] at he; cases he
    obtain ⟨he', hd⟩ := hold id _ he hl
    exact (H.mix id sz es bk he' hb).mono hRw (fun _ _ h => h) fun b hbo => o22 b _ hbo (hnoroot b id [] hbo hl)
  · cases hl : look id sets with
    | none =>
      obtain ⟨he', hd⟩ := hold id _ he hl
      obtain ⟨v, hv, hh⟩ := H.row id sz es bk he' hb
      exact ⟨v, hv.same fun b M hbo => o22 b _ hbo (hnoroot b id M hbo hl), hh⟩
    | some e =>
      obtain ⟨sz', es0, fs, hr, rfl, hT⟩ := hM.hsets id e hl
      simp only [happ, hl, Option.some.injEq, Ent.row.injEq] at he
      obtain ⟨rfl, rfl⟩ := he
      obtain ⟨v0, hv0, hh0⟩ := H.row id sz' es0 bk hr hb
      by_cases hA : ∃ j, j < ms.length ∧ Pt j = [id]
      · obtain ⟨j, hj, hPj⟩ := hA
        have hat := hM.at_ j hj
        rw [hPj] at hat
        obtain ⟨bk', hbk1, hbk2⟩ := hρ j hj
        obtain ⟨v1, q1, q2⟩ := hent j bk' hj hbk2
        have hroot : m.getD j 0 = id ∧ (ms.getD j .none).sz = sz' := by
          generalize m.getD j 0 = y at hat
          cases hat with
          | root h1 => rw [hr] at h1; simp at h1; exact ⟨rfl, h1.1.symm⟩
        rw [hroot.1, hb] at hbk1
        cases hbk1
        rw [hroot.2] at q1 q2
        rw [hT.whole j hj hPj]
        exact ⟨v1, q2.mono (R' := g.R) [id] fun b M hbo => ⟨by have := o21 b j M hj (by simpa using hbo); rwa [hPj] at this, rfl⟩, q1⟩
      · have hB : ∀ j, j < ms.length → Pt j ≠ [id] := fun j hj h1 => hA ⟨j, hj, h1⟩
        refine ⟨v0, ?_, hh0⟩
        -- which label stands before which
        have hnq : ∀ b i k M, (∀ j, j < ms.length → Pt j ≠ [id, i, k]) → g.o b = some ([id] ++ [i, k] ++ M) → ∀ j M', ¬ Qb b j M' := by
          rintro b i k M hne hb j M' ⟨h1, h2⟩
          rw [hb] at h2
          have hat := hM.at_ j h1
          have h3 : id :: i :: k :: M = Pt j ++ M' := by simpa using h2
          rcases hat.shape with ⟨y, hy⟩ | ⟨r', i', k', hy⟩
          · rw [hy] at h3
            simp only [List.singleton_append, List.cons.injEq] at h3
            exact hB j h1 (by rw [hy, h3.1])
          · rw [hy] at h3
            simp only [List.cons_append, List.cons.injEq] at h3
            exact hne j h1 (by rw [hy, h3.1, h3.2.1, h3.2.2.1])
        cases hv0 with
        | nil =>
          have : fs = [] := List.eq_nil_of_length_eq_zero (by rw [hT.len]; rfl)
          rw [this]; exact .nil
        | @own _ _ _ b cap cur el us a1 a2 a3 a4 a5 a6 a7 a8 a9 =>
          have hbn : ∀ j M', ¬ Qb b j M' := by
            rintro j M' ⟨h1, h2⟩
            rw [a1] at h2
            obtain ⟨r', M2, hP, _⟩ := (hM.at_ j h1).head
            rw [hP] at h2
            simp only [List.cons_append, Option.some.injEq, List.cons.injEq, List.nil_eq, List.append_eq_nil_iff] at h2
            exact hB j h1 (by rw [hP, h2.2.1, ← h2.1])
          obtain ⟨ob1, ob2⟩ := o22 b _ a1 hbn
          have := TRel.own (w := w') (R := g.R) (o := o2) (L := [id]) (sz := sz') (es := fs) (b := b) (cap := cap) (cur := cur) (e := el) us ob1 (ob2.trans a2) a3 (by rw [hT.len]; exact a4) a5
            (fun i hi => by rw [hT.len] at hi; rw [hT.row hB i hi]; exact a6 i hi) (fun i k hi hk => a7 i k (by rw [hT.len] at hi; exact hi) hk) (fun i k hi hk => a8 i k (by rw [hT.len] at hi; exact hi) hk)
            (fun i k hi hk => by
              rw [hT.len] at hi
              by_cases hhit : ∃ j, j < ms.length ∧ Pt j = [id, i, k]
              · obtain ⟨j, hj, hPj⟩ := hhit
                rw [hT.hit i k j hj hPj hi hk]
                obtain ⟨bk', hbk1, hbk2⟩ := hρ j hj
                obtain ⟨v1, q1, q2⟩ := hent j bk' hj hbk2
                obtain ⟨v2, q3, q4⟩ := (hM.at_ j hj).rel H hbk1
                have hv12 : v2 = v1 := hdr_eq q3 q1 q4 q2 (hcon.len j hj)
                have hat := hM.at_ j hj
                have hus : us i k = v2 := by
                  rw [hPj] at hat
                  generalize m.getD j 0 = y at hat hbk1
                  cases hat with
                  | cell h1 h2 h3 h4 h5 =>
                    obtain ⟨z1, bkc, z2, z3⟩ := H.ali _ _ _ _ _ _ h1 hbk1
                    rw [hb] at z2
                    cases z2
                    rw [hr] at h2
                    cases h2
                    obtain ⟨bc, cur2, e2, v, z4, z5, z6, z7⟩ := z3 1 sz' es0 (by simp [cont, hr]) (by rw [hr]; rfl) hi hk
                    cases hh0
                    cases z4
                    rw [z5] at a2
                    obtain ⟨rfl, rfl⟩ := by simpa using a2
                    have hu : us i k = v := by have := a7 i k hi hk; rw [z6] at this; simpa using this.symm
                    have ht := a9 i k hi hk
                    rw [hu, h5] at ht
                    have hhv := z7.resolve_right fun hs => ht.scn_lst hs
                    rw [hu]
                    exact hdr_eq hhv q3 ht q4 rfl
                rw [hus, hv12]
                exact q2.mono (R' := g.R) _ fun b M hbo => ⟨by have := o21 b j M hj (by simpa using hbo); rw [hPj] at this; exact this, rfl⟩
              · have hne : ∀ j, j < ms.length → Pt j ≠ [id, i, k] := fun j hj h1 => hhit ⟨j, hj, h1⟩
                rw [hT.miss i k hi hk fun j hj => ⟨hB j hj, hne j hj⟩]
                exact (a9 i k hi hk).same fun b M hbo => o22 b _ hbo (hnq b i k M hne hbo))
          rw [hT.len] at this
          exact this
  · -- a name for a cell's list
    have hl : look id sets = none := by
      cases hl : look id sets with
      | none => rfl
      | some e =>
        obtain ⟨sz', fs, rfl⟩ := hrowset id e hl
        simp only [happ, hl] at he; cases he
    obtain ⟨he', hd⟩ := hold id _ he hl
    have hfree : ∀ d r, Vc.root h d c = some r → look r sets = none := by
      obtain ⟨d0, r0, hr0, hl0⟩ := (hM.alis id c i kk s (hlim id bk hb) he').resolve_left hd
      intro d r hr
      rw [← root_det _ _ _ _ _ hr0 hr]; exact hl0
    obtain ⟨h1, bkc, h2, h3⟩ := H.ali id c i kk s bk he' hb
    refine ⟨h1, bkc, h2, fun d szc esc hcc hmc hi hk => ?_⟩
    have keepc : ∀ (d c : Nat) (x : Nat × List (List AV)), (∀ d r, Vc.root h d c = some r → look r sets = none) → cont (happ { v := res, set := sets, del := dels } h) d c = some x → cont h d c = some x ∧ ∃ e, happ { v := res, set := sets, del := dels } h c = some e ∧ h c = some e := by
      intro d
      induction d with
      | zero => intro c x _ hx; cases hx
      | succ d ih =>
        intro c x hf hx
        have hcn : ∃ e, happ { v := res, set := sets, del := dels } h c = some e := by
          cases hh : happ { v := res, set := sets, del := dels } h c with
          | none => simp only [cont, hh] at hx; cases hx
          | some e => exact ⟨e, rfl⟩
        obtain ⟨e, hce⟩ := hcn
        have hcl : look c sets = none := by
          cases hl : look c sets with
          | none => rfl
          | some e' =>
            obtain ⟨sz, es, fs, hr, _⟩ := hM.hsets c e' hl
            have := hf 1 c (by simp [Vc.root, hr])
            rw [hl] at this; cases this
        obtain ⟨hc', _⟩ := hold c e hce hcl
        refine ⟨?_, e, hce, hc'⟩
        unfold cont at hx ⊢
        rw [hce] at hx
        rw [hc']
        cases e with
        | mix => exact hx
        | row => exact hx
        | ali c2 i2 k2 s2 =>
          simp only at hx ⊢
          split at hx
          · cases hx
          · rename_i hm2
            cases hc2 : cont (happ { v := res, set := sets, del := dels } h) d c2 with
            | none => simp [hc2] at hx
            | some p =>
              obtain ⟨h4, e2, h5, h6⟩ := ih c2 p (fun d r hr => hf (d + 1) r (by simp [Vc.root, hc', hr])) hc2
              rw [hc2] at hx
              rw [h5] at hm2
              rw [h6, if_neg hm2, h4]
              exact hx
    obtain ⟨hc1, e, hc2, hc3⟩ := keepc d c _ hfree hcc
    have hmc' : isMixE (h c) = false := by rw [hc3, ← hc2]; exact hmc
    obtain ⟨bc, cur, el, v, h4, h5, h6, h7⟩ := h3 d szc esc hc1 hmc' hi hk
    obtain ⟨_, v3, r, M, hroot, _, ht, hhd⟩ := cont_hdr H d c szc esc bkc hc1 hmc' h2
    refine ⟨bc, cur, el, v, h4, ?_, h6, h7⟩
    cases ht with
    | nil => simp at hi
    | own us hob =>
      cases hhd
      cases h4
      exact (o22 _ _ hob (hnoroot _ r M hob (hfree d r hroot))).2.trans h5

theorem At.up {h' : HP} (hs : ∀ id x, h id = some x → h' id = some x) {mu : Mu} {id : Nat} {L : List Nat} (ha : At h mu id L) : At h' mu id L := by
  cases ha with
  | root h1 => exact .root (hs _ _ h1)
  | cell h1 h2 h3 h4 h5 => exact .cell (hs _ _ h1) (hs _ _ h2) h3 h4 h5

theorem root_up {h' : HP} (hs : ∀ id x, h id = some x → h' id = some x) : ∀ (d c r : Nat), Vc.root h d c = some r → Vc.root h' d c = some r := by
  intro d
  induction d with
  | zero => intro c r h1; cases h1
  | succ d ih =>
    intro c r h1
    unfold Vc.root at h1 ⊢
    cases he : h c with
    | none => simp [he] at h1
    | some e =>
      rw [hs _ _ he]
      rw [he] at h1
      cases e with
      | ali c2 i k s => exact ih c2 r h1
      | mix => exact h1
      | row => exact h1

theorem MCall.up {h' : HP} (hs : ∀ id x, h id = some x → h' id = some x) (hlt : ∀ id, id < n → h' id = h id) {ms : List Mu} {m : List Nat} {Pt : Nat → List Nat} {sets : List (Nat × Ent)} {dels : List Nat} (hM : MCall h n ms m Pt sets dels) : MCall h' n ms m Pt sets dels := by
  refine ⟨hM.len, fun j hj => (hM.at_ j hj).up hs, hM.apart, hM.nodup, fun r e hr => ?_, hM.all, hM.hdels, fun id c i k s hid he => ?_⟩
  · obtain ⟨sz, es, fs, h1, h2, h3⟩ := hM.hsets r e hr
    exact ⟨sz, es, fs, hs _ _ h1, h2, h3⟩
  · rw [hlt id hid] at he
    rcases hM.alis id c i k s hid he with h1 | ⟨d, r, h1, h2⟩
    · exact .inl h1
    · exact .inr ⟨d, r, root_up hs d c r h1, h2⟩

def isCallV : Op → Bool
  | .call ⟨.value _, _, _⟩ => true
  | _ => false

/-- Operations that may turn blocks: where mt is set, calls too. -/
def wrM (mt : Bool) (op : Op) : Bool := writes op || (mt && isCallV op)

end
end Go.Vc

/- A list is stored into a row's cell. -/
namespace Go.Vc
open Go

structure Sto (h : HP) (n id i k : Nat) (x b : AV) (sz : Nat) (es : List (List AV)) (ds dels : List Nat) : Prop where
  ent : h id = some (.row sz es)
  lay : layC h x = some (b, ds)
  hi : i < es.length
  hk : k < sz
  nodup : (id :: ds).Nodup
  lt : ∀ y ∈ ds ++ dels, y < n
  alis : ∀ id' c i' k' s, id' < n → h id' = some (.ali c i' k' s) → id' ∈ dels ∨ ∃ d r, Vc.root h d c = some r ∧ r ≠ id

theorem cells_one1 {v : Value} (h : one v) : v.cells = #[v] := by revert h; unfold one Value.oneCell'; cases v <;> simp [Value.cells]

theorem keep_cont {h h' : HP} {id : Nat} (hs : ∀ c e, h' c = some e → c ≠ id → h c = some e) : ∀ (d c : Nat) (x : Nat × List (List AV)), (∀ d r, Vc.root h d c = some r → r ≠ id) → (h id).isSome = true → (∀ z zz, h id ≠ some (.mix z zz)) → isMixE (h' id) = false →
    (∀ c i k s, h id ≠ some (.ali c i k s)) → cont h' d c = some x → cont h d c = some x ∧ ∃ e, h' c = some e ∧ h c = some e := by
  intro d
  induction d with
  | zero => intro c x _ _ _ _ _ hx; cases hx
  | succ d ih =>
    intro c x hf hid hmix hmix' hali hx
    have hcid : c ≠ id := by
      rintro rfl
      obtain ⟨e, he⟩ := Option.isSome_iff_exists.1 hid
      have : Vc.root h 1 c = some c := by
        cases e with
        | mix z zz => exact absurd he (hmix z zz)
        | row => simp [Vc.root, he]
        | ali c2 i2 k2 s2 => exact absurd he (hali c2 i2 k2 s2)
      exact hf 1 c this rfl
    have hcn : ∃ e, h' c = some e := by
      cases hh : h' c with
      | none => simp only [cont, hh] at hx; cases hx
      | some e => exact ⟨e, rfl⟩
    obtain ⟨e, hce⟩ := hcn
    have hc' := hs c e hce hcid
    refine ⟨?_, e, hce, hc'⟩
    unfold cont at hx ⊢
    rw [hce] at hx
    rw [hc']
    cases e with
    | mix => exact hx
    | row => exact hx
    | ali c2 i2 k2 s2 =>
      simp only at hx ⊢
      split at hx
      · cases hx
      · rename_i hm2
        cases hc2 : cont h' d c2 with
        | none => simp [hc2] at hx
        | some p =>
          obtain ⟨h4, e2, h5, h6⟩ := ih c2 p (fun d r hr => hf (d + 1) r (by simp [Vc.root, hc', hr])) hid hmix hmix' hali hc2
          rw [hc2] at hx
          rw [h5] at hm2
          rw [h6, if_neg hm2, h4]
          exact hx

section
variable {P : Program} {C : Ctx} {a : Act} {w : World} {g : Gh} {h : HP} {n : Nat} {ev : Operand → AV}

theorem step_sto (hev : ∀ x, XRel w g.R g.ρ (a.eval x) (ev x)) (W : WF C w g) (H : HRel w g h) (hlim : ∀ id k, g.ρ id = some k → id < n) {o : Oper} {t : TypeId} {x y : Operand} {ty : Tyi} {id i k sz : Nat} {b : AV} {es : List (List AV)} {ds dels : List Nat}
    (ho : o.op = .store t x y) (hty : tyi P t = some ty) (hts : ty.sz = 1) (hxx : ev x = .adr id i k) (hS : Sto h n id i k (ev y) b sz es ds dels) :
    Step P C o a w g h n { v := .bot, set := [(id, .row sz (es.set i ((es.getD i []).set k b)))], del := ds ++ dels } := by
  intro K Q kk
  obtain ⟨hent, hlay, hi, hk, hnd, hlt, halis⟩ := hS
  have hx := hev x
  rw [hxx] at hx
  obtain ⟨b0, bsz, cap0, hb, hv⟩ := hx.adr_eq
  have hids : id ∉ ds := (List.nodup_cons.1 hnd).1
  obtain ⟨hone, ky, hky, hL⟩ := layC_rel H _ _ _ _ [id, i, k] hlay (hev y)
  have hnk : (ky.map Prod.fst).Nodup := by rw [hky]; exact (List.nodup_cons.1 hnd).2
  obtain ⟨v0, hv0, hh0⟩ := H.row id sz es _ hent hb
  cases hv0 with
  | nil => simp at hi
  | @own _ _ _ b1 cap cur el us a1 a2 a3 a4 a5 a6 a7 a8 a9 =>
    cases hh0
    have hcs : (a.eval y).cells = #[a.eval y] := by
      have := cells_one1 hone
      exact this
    have hmul := Nat.mul_le_mul_right sz a4
    have hcl := cell_lt hi hk
    have hfit : i * sz + k + ty.sz ≤ cur.size := by rw [hts, a3]; omega
    have hrun := run_storeAt (P := P) hty a2 (v := a.eval y) (by rw [hcs, hts]; rfl) hfit (fun j hj => by
      rw [hts] at hj
      have : j = 0 := by omega
      subst this
      rw [hcs]; exact hone)
    rw [hts, hcs] at hrun
    generalize hu : a.eval y = u at hrun hone hL hcs
    have hfit' : i * sz + k + (#[u] : Array Value).size ≤ cur.size := by simp; omega
    have hnew := new_cells cur (i * sz + k) #[u] hfit'
    have hnsz : (cur.toList.take (i * sz + k) ++ [u] ++ cur.toList.drop (i * sz + k + 1)).toArray.size = cur.size := new_size cur (i * sz + k) #[u] hfit'
    simp only [List.size_toArray, List.length_singleton] at hnew hrun
    generalize (cur.toList.take (i * sz + k) ++ [u] ++ cur.toList.drop (i * sz + k + 1)).toArray = cur' at hrun hnew hnsz
    have hexec : (execOp a.eval o).run P w = .ok .skip (w.setRow b0 cur') := by simp [execOp, ho, hv, hu, hrun]
    have hoth : ∀ b', g.o b' ≠ some [id] → (w.setRow b0 cur').heap[b']? = w.heap[b']? := fun b' hb' => setRow_other w b0 b' cur' (by rintro rfl; exact hb' a1)
    have hRr : ∀ b', g.R b' → (w.setRow b0 cur').heap[b']? = w.heap[b']? := fun b' hb' => hoth b' (by rw [(W.R b' hb').2]; simp)
    have hset := fun j l => set_cell es i k b j l hi (by rw [a6 i hi]; exact hk)
    have hlen : (es.set i ((es.getD i []).set k b)).length = es.length := by simp
    have hkey : ∀ z, z ∉ ds → look z ky = none := fun z hz => look_none (by rw [hky]; exact hz)
    have hsame : ∀ b' z M, z ∉ ds → g.o b' = some (z :: M) → mv ky g.o b' = some (z :: M) := fun b' z M hz hb' => mv_other (hkey z hz) hb'
    have hold : ∀ c e, happ { v := .bot, set := [(id, .row sz (es.set i ((es.getD i []).set k b)))], del := ds ++ dels } h c = some e → c ≠ id → h c = some e ∧ c ∉ ds ∧ c ∉ dels := by
      intro c e he hc
      simp only [happ, look] at he
      rw [if_neg (Ne.symm hc)] at he
      simp only at he
      split at he
      · cases he
      · rename_i hd; simp only [List.mem_append, not_or] at hd; exact ⟨he, hd.1, hd.2⟩
    have hself : happ { v := .bot, set := [(id, .row sz (es.set i ((es.getD i []).set k b)))], del := ds ++ dels } h id = some (.row sz (es.set i ((es.getD i []).set k b))) := by simp [happ, look]
    refine wp_of_skip hexec (kk undef _ (mv ky g.o) g.ρ ⟨fun b' hb' => ?_, fun b' L hb' => ?_, W.os, W.tape, W.output, by simpa using W.size, fun b' hb' hw => ?_⟩ ⟨fun id' sz' es' bk he hbk => ?_, fun id' sz' es' bk he hbk => ?_, fun id' c i' k' s bk he hbk => ?_⟩ (fun _ _ h => h) (fun _ _ h => .inl h) .bot hRr)
    · exact ⟨by simpa using (W.R b' hb').1, mv_none (W.R b' hb').2⟩
    · obtain ⟨M, hM⟩ := mv_isSome hb'
      exact ⟨by simpa using (W.o b' M hM).1, (W.o b' M hM).2⟩
    · rw [hoth b' (fun h1 => by
        rcases (W.o b' _ h1).2 with h2 | h2
        · omega
        · exact hw h2)]
      exact W.keep b' hb' hw
    · have hne : id' ≠ id := by rintro rfl; rw [hself] at he; cases he
      obtain ⟨h1, h2, _⟩ := hold id' _ he hne
      exact (H.mix id' sz' es' bk h1 hbk).mono hRr (fun _ _ h => h) fun b' hbo => ⟨hsame b' id' [] h2 hbo, hoth b' (by rw [hbo]; intro h3; cases h3; exact hne rfl)⟩
    · by_cases hne : id' = id
      · subst hne
        rw [hself] at he
        cases he
        rw [hb] at hbk
        cases hbk
        refine ⟨.slice (some ⟨b0, 0, none⟩) es.length cap0, ?_, .own⟩
        have := TRel.own (w := w.setRow b0 cur') (R := g.R) (o := mv ky g.o) (L := [id']) (sz := sz) (es := es.set i ((es.getD i []).set k b)) (cap := cap0) (cur := cur') (e := el)
          (fun j l => if j = i ∧ l = k then u else us j l) (hsame _ id' [] hids a1) (setRow_heap w b0 cur cur' el (0, 0) a2) (by rw [hnsz, a3]) (by rw [hlen]; exact a4) a5
          (fun j hj => by rw [hlen] at hj; rw [set_row]; exact a6 j hj)
          (fun j l hj hl => by
            rw [hlen] at hj
            rw [hnew]
            by_cases hjl : j = i ∧ l = k
            · obtain ⟨rfl, rfl⟩ := hjl
              rw [if_pos (by omega), if_pos ⟨rfl, rfl⟩, Nat.sub_self]; rfl
            · rw [if_neg hjl, if_neg]
              · exact a7 j l hj hl
              · intro hq
                by_cases hji : j = i
                · subst hji; exact hjl ⟨rfl, by omega⟩
                · exact cell_apart (m := 1) hl (by omega) hji hq)
          (fun j l hj hl => by
            rw [hlen] at hj
            split
            · exact hone
            · exact a8 j l hj hl)
          (fun j l hj hl => by
            rw [hlen] at hj
            rw [hset]
            by_cases hjl : j = i ∧ l = k
            · rw [if_pos hjl, if_pos hjl]
              obtain ⟨rfl, rfl⟩ := hjl
              exact hL _ _ hRr fun p hp b' M hbo => ⟨mv_key (look_mem hnk hp) hbo, hoth b' (by
                rw [hbo]; intro h3; cases h3
                exact hids (by rw [← hky]; exact List.mem_map.2 ⟨p, hp, rfl⟩))⟩
            · rw [if_neg hjl, if_neg hjl]
              exact (a9 j l hj hl).same fun b' M hbo => ⟨hsame b' id' _ hids (by simpa using hbo), hoth b' (by rw [hbo]; simp)⟩)
        rw [hlen] at this; exact this
      · obtain ⟨h1, h2, _⟩ := hold id' _ he hne
        obtain ⟨v, hv', hh⟩ := H.row id' sz' es' bk h1 hbk
        exact ⟨v, hv'.same fun b' M hbo => ⟨hsame b' id' M h2 hbo, hoth b' (by rw [show g.o b' = some (id' :: M) from hbo]; intro h3; cases h3; exact hne rfl)⟩, hh⟩
    · have hne : id' ≠ id := by rintro rfl; rw [hself] at he; cases he
      obtain ⟨h1, h2, h3⟩ := hold id' _ he hne
      obtain ⟨d0, r0, hr0, hl0⟩ := (halis id' c i' k' s (hlim id' bk hbk) h1).resolve_left h3
      have hfree : ∀ d r, Vc.root h d c = some r → r ≠ id := by
        intro d r hr
        rw [← root_det _ _ _ _ _ hr0 hr]; exact hl0
      obtain ⟨q1, bkc, q2, q3⟩ := H.ali id' c i' k' s bk h1 hbk
      refine ⟨q1, bkc, q2, fun d szc esc hcc hmc hi' hk' => ?_⟩
      obtain ⟨hc1, e, hc2, hc3⟩ := keep_cont (fun c e he hc => (hold c e he hc).1) d c _ hfree (by rw [hent]; rfl) (by rw [hent]; intro z zz hz; cases hz) (by rw [hself]; rfl) (by rw [hent]; intro z z1 z2 z3 hz; cases hz) hcc
      have hmc' : isMixE (h c) = false := by rw [hc3, ← hc2]; exact hmc
      obtain ⟨bc, cur3, el3, v, h4, h5, h6, h7⟩ := q3 d szc esc hc1 hmc' hi' hk'
      obtain ⟨_, v3, r, M, hroot, _, ht, hhd⟩ := cont_hdr H d c szc esc bkc hc1 hmc' q2
      refine ⟨bc, cur3, el3, v, h4, ?_, h6, h7⟩
      cases ht with
      | nil => simp at hi'
      | own us2 hob =>
        cases hhd
        cases h4
        exact (hoth _ (by rw [hob]; intro h8; cases h8; exact hfree d _ hroot rfl)).trans h5

theorem Sto.up {h' : HP} (hs : ∀ id x, h id = some x → h' id = some x) (hlt : ∀ id, id < n → h' id = h id) {id i k : Nat} {x b : AV} {sz : Nat} {es : List (List AV)} {ds dels : List Nat} (hS : Sto h n id i k x b sz es ds dels) : Sto h' n id i k x b sz es ds dels := by
  refine ⟨hs _ _ hS.ent, layC_up hs hS.lay, hS.hi, hS.hk, hS.nodup, hS.lt, fun id' c i' k' s hid he => ?_⟩
  rw [hlt id' hid] at he
  rcases hS.alis id' c i' k' s hid he with h1 | ⟨d, r, h1, h2⟩
  · exact .inl h1
  · exact .inr ⟨d, r, root_up hs d c r h1, h2⟩

end
end Go.Vc
