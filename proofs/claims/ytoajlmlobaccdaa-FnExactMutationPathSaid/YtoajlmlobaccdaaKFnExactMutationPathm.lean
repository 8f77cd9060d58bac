/- What the law FnExactMutationPath reaches, part 13: functions as plain Lean functions with the proofs that their calls come to them, and plain lemmas over these. Put together by a program (wip/pack.py). -/
import Derived.Test.YtoajlmlobaccdaaKFnExactMutationPathl
import Derived.Test.YtoajlmlobaccdaaKFnExactMutationPathd
import Derived.Test.YtoajlmlobaccdaaKFnExactMutationPathc
import Derived.Test.YtoajlmlobaccdaaKFnExactMutationPathh
import Derived.Test.YtoajlmlobaccdaaKFnExactMutationPathi
import Derived.Test.YtoajlmlobaccdaaKFnExactMutationPathe
import Derived.Test.YtoajlmlobaccdaaKFnExactMutationPathj
import Derived.Test.YtoajlmlobaccdaaKFnExactMutationPathf
namespace Go.Proofs.Ytoajlmlobaccdaa.Pure
set_option linter.unusedSimpArgs false
set_option linter.unusedVariables false
set_option linter.unusedSectionVars false
theorem nodup_sub_le {V : Type} [DecidableEq V] : ∀ (l U : List V), l.Nodup → (∀ x ∈ l, x ∈ U) → l.length ≤ U.length
  | [], _, _, _ => Nat.zero_le _
  | x :: l, U, hn, hs => by
    rw [List.nodup_cons] at hn
    have hx := hs x List.mem_cons_self
    have ih := nodup_sub_le l (U.erase x) hn.2 (fun y hy => by
      refine (List.mem_erase_of_ne ?_).2 (hs y (List.mem_cons_of_mem _ hy))
      rintro rfl
      exact hn.1 hy)
    rw [List.length_erase_of_mem hx] at ih
    have := List.length_pos_of_mem hx
    rw [List.length_cons]
    omega
variable {V L : Type} [DecidableEq V]
def hasG (es : List (V × Int)) (p : V) : Bool := es.any (fun e => decide (e.1 = p))
def lookG (es : List (V × Int)) (p : V) : Int := match es.find? (fun e => decide (e.1 = p)) with
  | some e => e.2
  | none => 0
theorem hasG_iff {es : List (V × Int)} {p : V} : hasG es p = true ↔ ∃ d, (p, d) ∈ es := by
  unfold hasG
  rw [List.any_eq_true]
  constructor
  · rintro ⟨e, h1, h2⟩
    obtain rfl := of_decide_eq_true h2
    exact ⟨e.2, h1⟩
  · rintro ⟨d, h⟩
    exact ⟨_, h, decide_eq_true rfl⟩
theorem key_one : ∀ {es : List (V × Int)} {p : V} {d d' : Int}, (es.map Prod.fst).Nodup → (p, d) ∈ es → (p, d') ∈ es → d = d'
  | [], _, _, _, _, h, _ => by cases h
  | e :: es, p, d, d', hn, h, h' => by
    rw [List.map_cons, List.nodup_cons] at hn
    rcases List.mem_cons.1 h with h1 | h1 <;> rcases List.mem_cons.1 h' with h2 | h2
    · rw [← h1] at h2
      exact (congrArg Prod.snd h2).symm
    · exact absurd (List.mem_map_of_mem (f := Prod.fst) h2) (by rw [← h1] at hn; exact hn.1)
    · exact absurd (List.mem_map_of_mem (f := Prod.fst) h1) (by rw [← h2] at hn; exact hn.1)
    · exact key_one hn.2 h1 h2
theorem lookG_mem {es : List (V × Int)} {p : V} {d : Int} (hn : (es.map Prod.fst).Nodup) (h : (p, d) ∈ es) : lookG es p = d := by
  unfold lookG
  cases hf : es.find? (fun e => decide (e.1 = p)) with
  | none =>
    have := List.find?_eq_none.1 hf _ h
    simp at this
  | some e =>
    have h1 := List.mem_of_find?_eq_some hf
    have h2 := List.find?_some hf
    obtain rfl : e.1 = p := by simpa using h2
    exact key_one hn h1 h
def innI (d : Int) : List V → List (V × Int) → List (V × Int)
  | [], es => es
  | v :: r, es => innI d r (if hasG es v = true then es else es ++ [(v, d + 1)])
def outI (nb : V → List V) : Nat → Nat → List (V × Int) → Option (List (V × Int))
  | 0, _, _ => none
  | f + 1, k, es => match es[k]? with
    | none => some es
    | some e => outI nb f (k + 1) (innI e.2 (nb e.1) es)
structure InvI (nb : V → List V) (t : V) (U : List V) (k : Nat) (es : List (V × Int)) : Prop where
  nd : (es.map Prod.fst).Nodup
  inU : ∀ e ∈ es, e.1 ∈ U
  ht : (t, 0) ∈ es
  srt : es.Pairwise (fun a b => a.2 ≤ b.2)
  out_ : ∀ i, i < k → ∀ e, es[i]? = some e → ∀ v ∈ nb e.1, ∃ d', (v, d') ∈ es ∧ d' ≤ e.2 + 1
  par : ∀ e ∈ es, (e.1 = t ∧ e.2 = 0) ∨ (0 < e.2 ∧ ∃ u, (u, e.2 - 1) ∈ es ∧ e.1 ∈ nb u)
  bd : ∀ e ∈ es, 0 ≤ e.2 ∧ e.2 < es.length
theorem inv_add {nb : V → List V} {t : V} {U : List V} {k : Nat} {es : List (V × Int)} (h : InvI nb t U k es) {u : V} {d : Int} (hu : es[k]? = some (u, d)) (near : ∀ a ∈ es, a.2 ≤ d + 1) {v : V} (hv : v ∈ nb u) (hvU : v ∈ U) (hn : hasG es v = false) : InvI nb t U k (es ++ [(v, d + 1)]) := by
  have hk : k < es.length := (List.getElem?_eq_some_iff.1 hu).1
  have hum := List.mem_of_getElem? hu
  constructor
  · rw [List.map_append, List.nodup_append]
    refine ⟨h.nd, by simp, ?_⟩
    intro a ha b hb e
    subst e
    obtain ⟨e, he, rfl⟩ := List.mem_map.1 ha
    rw [List.map_cons, List.map_nil, List.mem_singleton] at hb
    have hb' : e.1 = v := hb
    have : hasG es v = true := hasG_iff.2 ⟨e.2, by rw [← hb']; exact he⟩
    rw [hn] at this
    cases this
  · intro e he
    rcases List.mem_append.1 he with he | he
    · exact h.inU e he
    · rw [List.mem_singleton] at he
      rw [he]
      exact hvU
  · exact List.mem_append_left _ h.ht
  · rw [List.pairwise_append]
    refine ⟨h.srt, by simp, ?_⟩
    intro a ha b hb
    rw [List.mem_singleton] at hb
    rw [hb]
    exact near a ha
  · intro i hi e he w hw
    rw [List.getElem?_append_left (by omega)] at he
    obtain ⟨d', h1, h2⟩ := h.out_ i hi e he w hw
    exact ⟨d', List.mem_append_left _ h1, h2⟩
  · intro e he
    rcases List.mem_append.1 he with he | he
    · rcases h.par e he with h1 | ⟨h1, u', h2, h3⟩
      · exact Or.inl h1
      · exact Or.inr ⟨h1, u', List.mem_append_left _ h2, h3⟩
    · rw [List.mem_singleton] at he
      rw [he]
      refine Or.inr ⟨?_, u, List.mem_append_left _ ?_, hv⟩
      · have := (h.bd _ hum).1
        show (0 : Int) < d + 1
        omega
      · show (u, d + 1 - 1) ∈ es
        rw [Int.add_sub_cancel]
        exact hum
  · intro e he
    rw [List.length_append, List.length_singleton]
    rcases List.mem_append.1 he with he | he
    · have := h.bd e he
      omega
    · rw [List.mem_singleton] at he
      rw [he]
      have := h.bd _ hum
      constructor
      · show (0 : Int) ≤ d + 1
        omega
      · show d + 1 < _
        omega
theorem inn_inv {nb : V → List V} {t : V} {U : List V} {k : Nat} {u : V} {d : Int} (hU : ∀ v ∈ nb u, v ∈ U) : ∀ (r : List V) (es : List (V × Int)), (∀ v ∈ r, v ∈ nb u) → InvI nb t U k es → es[k]? = some (u, d) → (∀ a ∈ es, a.2 ≤ d + 1) →
    InvI nb t U k (innI d r es) ∧ (innI d r es)[k]? = some (u, d) ∧ (∀ a ∈ innI d r es, a.2 ≤ d + 1) ∧ (∀ a ∈ es, a ∈ innI d r es) ∧ ∀ v ∈ r, ∃ d', (v, d') ∈ innI d r es ∧ d' ≤ d + 1
  | [], es, _, h, hu, near => ⟨h, hu, near, fun _ ha => ha, fun _ hv => by cases hv⟩
  | v :: r, es, hr, h, hu, near => by
    have hv := hr v List.mem_cons_self
    have hr' := fun w hw => hr w (List.mem_cons_of_mem _ hw)
    rw [innI]
    cases hn : hasG es v with
    | true =>
      rw [if_pos rfl]
      obtain ⟨i1, i2, i3, i4, i5⟩ := inn_inv hU r es hr' h hu near
      refine ⟨i1, i2, i3, i4, ?_⟩
      intro w hw
      rcases List.mem_cons.1 hw with rfl | hw
      · obtain ⟨d', hd⟩ := hasG_iff.1 hn
        exact ⟨d', i4 _ hd, near _ hd⟩
      · exact i5 w hw
    | false =>
      rw [if_neg (by simp)]
      have h' := inv_add h hu near hv (hU v hv) hn
      have hk : k < es.length := (List.getElem?_eq_some_iff.1 hu).1
      obtain ⟨i1, i2, i3, i4, i5⟩ := inn_inv hU r (es ++ [(v, d + 1)]) hr' h' (by rw [List.getElem?_append_left hk]; exact hu) (fun a ha => by
        rcases List.mem_append.1 ha with ha | ha
        · exact near a ha
        · rw [List.mem_singleton] at ha
          rw [ha]
          exact Int.le_refl _)
      refine ⟨i1, i2, i3, fun a ha => i4 a (List.mem_append_left _ ha), ?_⟩
      intro w hw
      rcases List.mem_cons.1 hw with rfl | hw
      · exact ⟨d + 1, i4 _ (List.mem_append_right _ (by simp)), Int.le_refl _⟩
      · exact i5 w hw
theorem innI_len (d : Int) : ∀ (r : List V) (es : List (V × Int)), ∃ x, innI d r es = es ++ x
  | [], es => ⟨[], (List.append_nil _).symm⟩
  | v :: r, es => by
    rw [innI]
    split
    · exact innI_len d r es
    · obtain ⟨x, hx⟩ := innI_len d r (es ++ [(v, d + 1)])
      exact ⟨(v, d + 1) :: x, by rw [hx, List.append_assoc]; rfl⟩
theorem InvI.len {nb : V → List V} {t : V} {U : List V} {k : Nat} {es : List (V × Int)} (h : InvI nb t U k es) : es.length ≤ U.length := by
  have := nodup_sub_le (es.map Prod.fst) U h.nd (fun x hx => by
    obtain ⟨e, he, rfl⟩ := List.mem_map.1 hx
    exact h.inU e he)
  rwa [List.length_map] at this
theorem step_inv {nb : V → List V} {t : V} {U : List V} (hU : ∀ u ∈ U, ∀ v ∈ nb u, v ∈ U) {k : Nat} {es : List (V × Int)} {e : V × Int} (h : InvI nb t U k es) (near : ∀ b, es[k]? = some b → ∀ a ∈ es, a.2 ≤ b.2 + 1) (he : es[k]? = some e) :
    InvI nb t U (k + 1) (innI e.2 (nb e.1) es) ∧ ∀ b, (innI e.2 (nb e.1) es)[k + 1]? = some b → ∀ a ∈ innI e.2 (nb e.1) es, a.2 ≤ b.2 + 1 := by
  obtain ⟨u, d⟩ := e
  obtain ⟨i1, i2, i3, i4, i5⟩ := inn_inv (hU u (h.inU _ (List.mem_of_getElem? he))) (nb u) es (fun _ hv => hv) h he (near _ he)
  constructor
  · refine ⟨i1.nd, i1.inU, i1.ht, i1.srt, ?_, i1.par, i1.bd⟩
    intro i hi e' he' v hv
    by_cases hik : i = k
    · subst hik
      rw [i2] at he'
      obtain rfl := Option.some.inj he'
      exact i5 v hv
    · exact i1.out_ i (by omega) e' he' v hv
  · intro b hb a ha
    have h1 := i3 a ha
    have h2 : d ≤ b.2 := by
      obtain ⟨hk1, e1⟩ := List.getElem?_eq_some_iff.1 i2
      obtain ⟨hk2, e2⟩ := List.getElem?_eq_some_iff.1 hb
      have := List.pairwise_iff_getElem.1 i1.srt k (k + 1) hk1 hk2 (by omega)
      rw [e1, e2] at this
      exact this
    omega
theorem outI_inv {nb : V → List V} {t : V} {U : List V} (hU : ∀ u ∈ U, ∀ v ∈ nb u, v ∈ U) : ∀ f k es, InvI nb t U k es → (∀ b, es[k]? = some b → ∀ a ∈ es, a.2 ≤ b.2 + 1) → U.length < f + k → k ≤ es.length →
    ∃ o k', outI nb f k es = some o ∧ InvI nb t U k' o ∧ o.length ≤ k'
  | 0, k, es, h, _, hf, hk => by
    have := h.len
    omega
  | f + 1, k, es, h, near, hf, hk => by
    rw [outI]
    cases he : es[k]? with
    | none => exact ⟨es, k, rfl, h, by rw [List.getElem?_eq_none_iff] at he; exact he⟩
    | some e =>
      obtain ⟨h1, h2⟩ := step_inv hU h near he
      refine outI_inv hU f (k + 1) _ h1 h2 (by omega) ?_
      obtain ⟨x, hx⟩ := innI_len e.2 (nb e.1) es
      have := (List.getElem?_eq_some_iff.1 he).1
      rw [hx, List.length_append]
      omega
structure Far (nb : V → List V) (t : V) (es : List (V × Int)) : Prop where
  nd : (es.map Prod.fst).Nodup
  ht : (t, 0) ∈ es
  edge : ∀ e ∈ es, ∀ v ∈ nb e.1, ∃ d', (v, d') ∈ es ∧ d' ≤ e.2 + 1
  par : ∀ e ∈ es, (e.1 = t ∧ e.2 = 0) ∨ (0 < e.2 ∧ ∃ u, (u, e.2 - 1) ∈ es ∧ e.1 ∈ nb u)
  pos : ∀ e ∈ es, 0 ≤ e.2 ∧ e.2 < es.length
theorem InvI.far {nb : V → List V} {t : V} {U : List V} {k : Nat} {es : List (V × Int)} (h : InvI nb t U k es) (hk : es.length ≤ k) : Far nb t es := by
  refine ⟨h.nd, h.ht, ?_, h.par, h.bd⟩
  intro e he v hv
  obtain ⟨i, hi, rfl⟩ := List.getElem_of_mem he
  exact h.out_ i (by omega) _ (List.getElem?_eq_getElem hi) v hv
theorem inv_start (nb : V → List V) (t : V) (U : List V) (ht : t ∈ U) : InvI nb t U 0 [(t, 0)] := by
  refine ⟨by simp, ?_, by simp, by simp, ?_, ?_, ?_⟩
  · intro e he
    rw [List.mem_singleton] at he
    rw [he]
    exact ht
  · intro i hi
    omega
  · intro e he
    rw [List.mem_singleton] at he
    rw [he]
    exact Or.inl ⟨rfl, rfl⟩
  · intro e he
    rw [List.mem_singleton] at he
    rw [he]
    exact ⟨Int.le_refl _, by simp⟩
theorem outI_far (nb : V → List V) (t : V) (U : List V) (ht : t ∈ U) (hU : ∀ u ∈ U, ∀ v ∈ nb u, v ∈ U) : ∃ o, (∀ f, U.length < f → outI nb f 0 [(t, 0)] = some o) ∧ Far nb t o ∧ ∀ e ∈ o, e.1 ∈ U := by
  have key := fun f (hf : U.length < f) => outI_inv hU f 0 [(t, 0)] (inv_start nb t U ht) (by
    intro b hb a ha
    simp at hb ha
    subst hb
    subst ha
    simp) (by omega) (by simp)
  have mono : ∀ f k es o, outI nb f k es = some o → outI nb (f + 1) k es = some o := by
    intro f
    induction f with
    | zero =>
      intro k es o h
      cases h
    | succ f ih =>
      intro k es o h
      rw [outI] at h ⊢
      cases he : es[k]? with
      | none =>
        rw [he] at h
        exact h
      | some e =>
        rw [he] at h
        exact ih _ _ _ h
  obtain ⟨o, k', h1, h2, h3⟩ := key (U.length + 1) (by omega)
  refine ⟨o, ?_, h2.far h3, h2.inU⟩
  intro f hf
  obtain ⟨d, rfl⟩ : ∃ d, f = U.length + 1 + d := ⟨f - (U.length + 1), by omega⟩
  clear hf
  induction d with
  | zero => exact h1
  | succ d ih => exact mono _ _ _ _ ih
def hasF (F : List (V × List L)) (v : V) : Bool := F.any (fun e => decide (e.1 = v))
theorem hasF_iff {F : List (V × List L)} {v : V} : hasF F v = true ↔ ∃ p, (v, p) ∈ F := by
  unfold hasF
  rw [List.any_eq_true]
  constructor
  · rintro ⟨e, h1, h2⟩
    obtain rfl := of_decide_eq_true h2
    exact ⟨e.2, h1⟩
  · rintro ⟨d, h⟩
    exact ⟨_, h, decide_eq_true rfl⟩
def innS (t : V) (p : List L) : List (L × V) → List (V × List L) → List (V × List L) ⊕ List L
  | [], F => .inl F
  | e :: r, F => if hasF F e.2 = true then innS t p r F else if e.2 = t then .inr (p ++ [e.1]) else innS t p r (F ++ [(e.2, p ++ [e.1])])
def outS (adj : V → List (L × V)) (t : V) : Nat → Nat → List (V × List L) → Option (List L)
  | 0, _, _ => none
  | f + 1, k, F => match F[k]? with
    | none => some []
    | some e => match innS t e.2 (adj e.1) F with
      | .inr w => some w
      | .inl F' => outS adj t f (k + 1) F'
def grd (adj : V → List (L × V)) (far : V → Int) (t : V) : Nat → V → List L → Option (List L)
  | 0, _, _ => none
  | f + 1, s, o => if s = t then some o else match (adj s).find? (fun e => decide (far e.2 = far s - 1)) with
    | none => none
    | some e => grd adj far t f e.2 (o ++ [e.1])
theorem innS_app (t : V) (p : List L) : ∀ (r r' : List (L × V)) (F F1 : List (V × List L)), innS t p r F = .inl F1 → innS t p (r ++ r') F = innS t p r' F1
  | [], _, F, F1, h => by
    injection h with h
    rw [h]
    rfl
  | e :: r, r', F, F1, h => by
    rw [List.cons_append, innS]
    rw [innS] at h
    split at h
    · rename_i c
      rw [if_pos c]
      exact innS_app t p r r' _ _ h
    · rename_i c
      rw [if_neg c]
      split at h
      · cases h
      · rename_i c2
        rw [if_neg c2]
        exact innS_app t p r r' _ _ h
structure Fnd (U : List V) (P : V → Prop) (F : List (V × List L)) : Prop where
  nd : (F.map Prod.fst).Nodup
  inU : ∀ e ∈ F, e.1 ∈ U
  p : ∀ e ∈ F, P e.1
theorem Fnd.len {U : List V} {P : V → Prop} {F : List (V × List L)} (h : Fnd U P F) : F.length ≤ U.length := by
  have := nodup_sub_le (F.map Prod.fst) U h.nd (fun x hx => by
    obtain ⟨e, he, rfl⟩ := List.mem_map.1 hx
    exact h.inU e he)
  rwa [List.length_map] at this
theorem Fnd.add {U : List V} {P : V → Prop} {F : List (V × List L)} (h : Fnd U P F) {v : V} {p : List L} (hn : hasF F v = false) (hU : v ∈ U) (hP : P v) : Fnd U P (F ++ [(v, p)]) := by
  constructor
  · rw [List.map_append, List.nodup_append]
    refine ⟨h.nd, by simp, ?_⟩
    intro a ha b hb e
    subst e
    obtain ⟨e, he, rfl⟩ := List.mem_map.1 ha
    rw [List.map_cons, List.map_nil, List.mem_singleton] at hb
    have hb' : e.1 = v := hb
    have : hasF F v = true := hasF_iff.2 ⟨e.2, by rw [← hb']; exact he⟩
    rw [hn] at this
    cases this
  · intro e he
    rcases List.mem_append.1 he with he | he
    · exact h.inU e he
    · rw [List.mem_singleton] at he
      rw [he]
      exact hU
  · intro e he
    rcases List.mem_append.1 he with he | he
    · exact h.p e he
    · rw [List.mem_singleton] at he
      rw [he]
      exact hP
theorem innS_inl {U : List V} {P : V → Prop} {t : V} (ht : ¬ P t) (p : List L) : ∀ (r : List (L × V)) (F : List (V × List L)), Fnd U P F → (∀ e ∈ r, e.2 ∈ U ∧ P e.2) → ∃ x, innS t p r F = .inl (F ++ x) ∧ Fnd U P (F ++ x)
  | [], F, h, _ => ⟨[], by rw [List.append_nil]; exact ⟨rfl, h⟩⟩
  | e :: r, F, h, hr => by
    have he := hr e List.mem_cons_self
    have hr' := fun w hw => hr w (List.mem_cons_of_mem _ hw)
    rw [innS]
    cases hn : hasF F e.2 with
    | true =>
      rw [if_pos rfl]
      exact innS_inl ht p r F h hr'
    | false =>
      rw [if_neg (by simp), if_neg (fun h1 => ht (by rw [← h1]; exact he.2))]
      obtain ⟨x, h1, h2⟩ := innS_inl ht p r _ (h.add (p := p ++ [e.1]) hn he.1 he.2) hr'
      exact ⟨(e.2, p ++ [e.1]) :: x, by rw [h1, List.append_assoc]; rfl, by rw [List.append_assoc] at h2; exact h2⟩
theorem outS_none {U : List V} {P : V → Prop} {t : V} {adj : V → List (L × V)} (ht : ¬ P t) (hc : ∀ u ∈ U, P u → ∀ e ∈ adj u, e.2 ∈ U ∧ P e.2) : ∀ f k F, Fnd U P F → U.length < f + k → k ≤ F.length → outS adj t f k F = some []
  | 0, k, F, h, hf, hk => by
    have := h.len
    omega
  | f + 1, k, F, h, hf, hk => by
    rw [outS]
    cases he : F[k]? with
    | none => rfl
    | some e =>
      have hm := List.mem_of_getElem? he
      obtain ⟨x, h1, h2⟩ := innS_inl ht e.2 (adj e.1) F h (hc e.1 (h.inU e hm) (h.p e hm))
      simp only [h1]
      have := (List.getElem?_eq_some_iff.1 he).1
      exact outS_none ht hc f (k + 1) _ h2 (by omega) (by rw [List.length_append]; omega)
structure Good (adj : V → List (L × V)) (U : List V) (t : V) (D : V → Prop) (far : V → Int) : Prop where
  cl : ∀ u, D u → ∀ e ∈ adj u, e.2 ∈ U ∧ D e.2 ∧ far u ≤ far e.2 + 1
  near : ∀ u, D u → u ≠ t → ∃ e ∈ adj u, far e.2 = far u - 1
  t0 : far t = 0
  pos : ∀ u, D u → 0 ≤ far u
  only : ∀ u, D u → far u = 0 → u = t
theorem outS_grd {adj : V → List (L × V)} {U : List V} {t : V} {D : V → Prop} {far : V → Int} (G : Good adj U t D far) : ∀ f k (F : List (V × List L)) m g p n, F[m]? = some (g, p) → k ≤ m → Fnd U (fun v => D v ∧ far g ≤ far v) F → (∀ i, i < m → ∀ e, F[i]? = some e → far g < far e.1) → g ≠ t → U.length < f + k → far g < (n : Nat) →
    ∃ o, outS adj t f k F = some o ∧ grd adj far t n g p = some o
  | 0, k, F, m, g, p, n, hm, hk, h, _, _, hf, _ => by
    have := h.len
    have := (List.getElem?_eq_some_iff.1 hm).1
    omega
  | f + 1, k, F, m, g, p, n, hm, hk, h, hlt, hgt, hf, hn => by
    have hml := (List.getElem?_eq_some_iff.1 hm).1
    have hg := h.p _ (List.mem_of_getElem? hm)
    have hg1 : 0 < far g := by
      have h1 := G.pos g hg.1
      have h2 : far g ≠ 0 := fun h3 => hgt (G.only g hg.1 h3)
      omega
    obtain ⟨e, he⟩ : ∃ e, F[k]? = some e := ⟨_, List.getElem?_eq_getElem (by omega)⟩
    have hem := h.p _ (List.mem_of_getElem? he)
    rw [outS]
    simp only [he]
    by_cases hkm : k = m
    · subst hkm
      obtain rfl : e = (g, p) := Option.some.inj (he.symm.trans hm)
      obtain ⟨n, rfl⟩ : ∃ j, n = j + 1 := ⟨n - 1, by omega⟩
      rw [grd, if_neg hgt]
      cases hfd : (adj g).find? (fun e => decide (far e.2 = far g - 1)) with
      | none =>
        obtain ⟨e, h1, h2⟩ := G.near g hg.1 hgt
        have := List.find?_eq_none.1 hfd e h1
        simp [h2] at this
      | some e =>
        obtain ⟨h1, pre, post, h2, h3⟩ := List.find?_eq_some_iff_append.1 hfd
        have he1 : far e.2 = far g - 1 := of_decide_eq_true h1
        have hsub : ∀ x ∈ pre, x ∈ adj g := fun x hx => by rw [h2]; exact List.mem_append_left _ hx
        have hsub2 : ∀ x ∈ post, x ∈ adj g := fun x hx => by rw [h2]; exact List.mem_append_right _ (List.mem_cons_of_mem _ hx)
        have heg : e ∈ adj g := by rw [h2]; exact List.mem_append_right _ List.mem_cons_self
        obtain ⟨x, i1, i2⟩ := innS_inl (t := t) (fun h4 => by have := h4.2; rw [G.t0] at this; omega) p pre F h (fun y hy => by
          have c := G.cl g hg.1 y (hsub y hy)
          have c2 := h3 y hy
          have c3 : far y.2 ≠ far g - 1 := by simpa using c2
          exact ⟨c.1, c.2.1, by have := c.2.2; omega⟩)
        have hnew : hasF (F ++ x) e.2 = false := by
          cases hh : hasF (F ++ x) e.2 with
          | false => rfl
          | true =>
            obtain ⟨q, hq⟩ := hasF_iff.1 hh
            have := (i2.p _ hq).2
            simp only at this
            omega
        simp only
        rw [h2, innS_app t p pre (e :: post) F (F ++ x) i1, innS, hnew, if_neg (by simp)]
        by_cases het : e.2 = t
        · rw [if_pos het]
          refine ⟨p ++ [e.1], rfl, ?_⟩
          obtain ⟨n, rfl⟩ : ∃ j, n = j + 1 := ⟨n - 1, by omega⟩
          rw [grd, if_pos het]
        · rw [if_neg het]
          have c := G.cl g hg.1 e heg
          have hw : Fnd U (fun v => D v ∧ far e.2 ≤ far v) (F ++ x) := ⟨i2.nd, i2.inU, fun y hy => ⟨(i2.p y hy).1, by have := (i2.p y hy).2; omega⟩⟩
          have he0 : 0 < far e.2 := by
            have h4 := G.pos e.2 c.2.1
            have h5 : far e.2 ≠ 0 := fun h3 => het (G.only e.2 c.2.1 h3)
            omega
          obtain ⟨y, j1, j2⟩ := innS_inl (t := t) (fun h4 => by have := h4.2; rw [G.t0] at this; omega) p post _ (hw.add (p := p ++ [e.1]) hnew c.1 ⟨c.2.1, Int.le_refl _⟩) (fun y hy => by
            have c' := G.cl g hg.1 y (hsub2 y hy)
            exact ⟨c'.1, c'.2.1, by have := c'.2.2; omega⟩)
          rw [j1]
          refine outS_grd G f (k + 1) _ (F ++ x).length e.2 (p ++ [e.1]) n ?_ (by rw [List.length_append]; omega) j2 ?_ het (by omega) (by omega)
          · rw [List.getElem?_append_left (by simp), List.getElem?_append_right (Nat.le_refl _), Nat.sub_self]
            rfl
          · intro i hi z hz
            rw [List.append_assoc, List.getElem?_append_left hi] at hz
            have := (i2.p z (List.mem_of_getElem? hz)).2
            omega
    · have hke := hlt k (by omega) e he
      obtain ⟨x, i1, i2⟩ := innS_inl (t := t) (fun h4 => by have := h4.2; rw [G.t0] at this; omega) e.2 (adj e.1) F h (fun y hy => by
        have c := G.cl e.1 hem.1 y hy
        exact ⟨c.1, c.2.1, by have := c.2.2; omega⟩)
      simp only [i1]
      refine outS_grd G f (k + 1) _ m g p n (by rw [List.getElem?_append_left hml]; exact hm) (by omega) i2 ?_ hgt (by omega) hn
      intro i hi z hz
      rw [List.getElem?_append_left (by omega)] at hz
      exact hlt i hi z hz
theorem same_path {adj : V → List (L × V)} {U : List V} (hU : ∀ u ∈ U, ∀ e ∈ adj u, e.2 ∈ U) (hsym : ∀ u ∈ U, ∀ e ∈ adj u, ∃ e' ∈ adj e.2, e'.2 = u) {s t : V} (hs : s ∈ U) (hst : s ≠ t) {es : List (V × Int)} (hF : Far (fun u => (adj u).map Prod.snd) t es) (hE : ∀ e ∈ es, e.1 ∈ U) (f n : Nat) (hf : U.length < f) (hn : U.length < n) :
    ∃ o, outS adj t f 0 [(s, [])] = some o ∧ (if hasG es s = true then grd adj (lookG es) t n s [] else some []) = some o := by
  cases hh : hasG es s with
  | false =>
    rw [if_neg (by simp)]
    refine ⟨[], ?_, rfl⟩
    refine outS_none (U := U) (P := fun v => hasG es v = false) (by rw [hasG_iff.2 ⟨_, hF.ht⟩]; simp) ?_ f 0 _ ⟨by simp, by simpa using hs, by simpa using hh⟩ (by omega) (by simp)
    intro u hu hp e he
    refine ⟨hU u hu e he, ?_⟩
    cases h1 : hasG es e.2 with
    | false => rfl
    | true =>
      obtain ⟨d, hd⟩ := hasG_iff.1 h1
      obtain ⟨e', h2, h3⟩ := hsym u hu e he
      obtain ⟨d', h4, _⟩ := hF.edge _ hd u (List.mem_map.2 ⟨e', h2, h3⟩)
      rw [hasG_iff.2 ⟨d', h4⟩] at hp
      cases hp
  | true =>
    rw [if_pos rfl]
    have G : Good adj U t (fun v => hasG es v = true) (lookG es) := by
      refine ⟨?_, ?_, lookG_mem hF.nd hF.ht, ?_, ?_⟩
      · intro u hu e he
        obtain ⟨d, hd⟩ := hasG_iff.1 hu
        have huU := hE _ hd
        obtain ⟨d', h1, h2⟩ := hF.edge _ hd e.2 (List.mem_map_of_mem he)
        refine ⟨hU u huU e he, hasG_iff.2 ⟨d', h1⟩, ?_⟩
        obtain ⟨e', h3, h4⟩ := hsym u huU e he
        obtain ⟨d'', h5, h6⟩ := hF.edge _ h1 u (List.mem_map.2 ⟨e', h3, h4⟩)
        rw [lookG_mem hF.nd hd, lookG_mem hF.nd h1]
        have := key_one hF.nd hd h5
        simp only at h6
        omega
      · intro u hu hut
        obtain ⟨d, hd⟩ := hasG_iff.1 hu
        rcases hF.par _ hd with h1 | ⟨h1, v, h2, h3⟩
        · exact absurd h1.1 hut
        · obtain ⟨e, h4, h5⟩ := List.mem_map.1 h3
          obtain ⟨e', h6, h7⟩ := hsym v (hE _ h2) e h4
          simp only at h5
          rw [h5] at h6
          refine ⟨e', h6, ?_⟩
          rw [h7, lookG_mem hF.nd hd, lookG_mem hF.nd h2]
      · intro u hu
        obtain ⟨d, hd⟩ := hasG_iff.1 hu
        rw [lookG_mem hF.nd hd]
        exact (hF.pos _ hd).1
      · intro u hu h0
        obtain ⟨d, hd⟩ := hasG_iff.1 hu
        rw [lookG_mem hF.nd hd] at h0
        rcases hF.par _ hd with h1 | ⟨h1, _⟩
        · exact h1.1
        · simp only at h1
          omega
    refine outS_grd G f 0 [(s, [])] 0 s [] n rfl (Nat.le_refl _) ⟨by simp, by simpa using hs, ?_⟩ (fun i hi => by omega) hst (by omega) ?_
    · intro e he
      rw [List.mem_singleton] at he
      rw [he]
      exact ⟨hh, Int.le_refl _⟩
    · obtain ⟨d, hd⟩ := hasG_iff.1 hh
      rw [lookG_mem hF.nd hd]
      have h1 := (hF.pos _ hd).2
      have h2 := nodup_sub_le (es.map Prod.fst) U hF.nd (fun x hx => by
        obtain ⟨e, he, rfl⟩ := List.mem_map.1 hx
        exact hE e he)
      rw [List.length_map] at h2
      simp only at h1
      omega
end Go.Proofs.Ytoajlmlobaccdaa.Pure
namespace Go.Proofs.Ytoajlmlobaccdaa.P
open Go.RowKit Go.Proofs.YtoajlmlobaccdaaW.PrintWords Go.Proofs.YtoajlmlobaccdaaW.PrintLast Go.Proofs.YtoajlmlobaccdaaW.PrintMore
attribute [local go_sem] ptrOf_slice
attribute [local go_sem] min2_str max2_int min2_int max_two min_two max_three min_three max_four min_four
set_option linter.unusedVariables false
set_option linter.unusedSimpArgs false
def spec_l1Min.f (a0 : Int) (a1 : Int) : Option (Int) := if a0 < a1 then (some a0) else (some a1)
def spec_l1Max.f (a0 : Int) (a1 : Int) : Option (Int) := if a0 > a1 then (some a0) else (some a1)
end Go.Proofs.Ytoajlmlobaccdaa.P
namespace Go.Proofs.Ytoajlmlobaccdaa.Pure
set_option linter.unusedSimpArgs false
set_option linter.unusedVariables false
open Go.RowKit Go.Proofs.YtoajlmlobaccdaaW.PrintWords Go.Proofs.Ytoajlmlobaccdaa.P Go.Proofs.Ytoajlmlobaccdaa.Pl
abbrev T3 := S89
def tri : Nat → List T3
  | 3 => [⟨0, 1, 2⟩]
  | 4 => [⟨0, 1, 2⟩, ⟨0, 1, 3⟩, ⟨0, 2, 3⟩, ⟨1, 2, 3⟩]
  | 5 => [⟨0, 1, 2⟩, ⟨0, 1, 3⟩, ⟨0, 1, 4⟩, ⟨0, 2, 3⟩, ⟨0, 2, 4⟩, ⟨0, 3, 4⟩, ⟨1, 2, 3⟩, ⟨1, 2, 4⟩, ⟨1, 3, 4⟩, ⟨2, 3, 4⟩]
  | 6 => [⟨0, 1, 2⟩, ⟨0, 1, 3⟩, ⟨0, 1, 4⟩, ⟨0, 1, 5⟩, ⟨0, 2, 3⟩, ⟨0, 2, 4⟩, ⟨0, 2, 5⟩, ⟨0, 3, 4⟩, ⟨0, 3, 5⟩, ⟨0, 4, 5⟩, ⟨1, 2, 3⟩, ⟨1, 2, 4⟩, ⟨1, 2, 5⟩, ⟨1, 3, 4⟩, ⟨1, 3, 5⟩, ⟨1, 4, 5⟩, ⟨2, 3, 4⟩, ⟨2, 3, 5⟩, ⟨2, 4, 5⟩, ⟨3, 4, 5⟩]
  | 7 => [⟨0, 1, 2⟩, ⟨0, 1, 3⟩, ⟨0, 1, 4⟩, ⟨0, 1, 5⟩, ⟨0, 1, 6⟩, ⟨0, 2, 3⟩, ⟨0, 2, 4⟩, ⟨0, 2, 5⟩, ⟨0, 2, 6⟩, ⟨0, 3, 4⟩, ⟨0, 3, 5⟩, ⟨0, 3, 6⟩, ⟨0, 4, 5⟩, ⟨0, 4, 6⟩, ⟨0, 5, 6⟩, ⟨1, 2, 3⟩, ⟨1, 2, 4⟩, ⟨1, 2, 5⟩, ⟨1, 2, 6⟩, ⟨1, 3, 4⟩, ⟨1, 3, 5⟩, ⟨1, 3, 6⟩, ⟨1, 4, 5⟩, ⟨1, 4, 6⟩, ⟨1, 5, 6⟩, ⟨2, 3, 4⟩, ⟨2, 3, 5⟩, ⟨2, 3, 6⟩, ⟨2, 4, 5⟩, ⟨2, 4, 6⟩, ⟨2, 5, 6⟩, ⟨3, 4, 5⟩, ⟨3, 4, 6⟩, ⟨3, 5, 6⟩, ⟨4, 5, 6⟩]
  | _ => []
theorem tri_some : ∀ n : Nat, n ≤ 7 → impl_triplesOf.f 500 n = some (tri n)
  | 0, _ => by kernel_rfl
  | 1, _ => by kernel_rfl
  | 2, _ => by kernel_rfl
  | 3, _ => by kernel_rfl
  | 4, _ => by kernel_rfl
  | 5, _ => by kernel_rfl
  | 6, _ => by kernel_rfl
  | 7, _ => by kernel_rfl
  | n + 8, h => absurd h (by omega)
theorem triplesOf_ev (n : Nat) (h : n ≤ 7) : Ev (fun k => impl_triplesOf.f k n) (tri n) := Ev.of (impl_triplesOf.mono _) (tri_some n h)
theorem tri_length (n : Nat) (h : n ≤ 7) : ((tri n).length : Int) = Int.tdiv ((n : Int) * (n - 1) * (n - 2)) 6 := by
  have : (List.range 8).all (fun n => ((tri n).length : Int) == Int.tdiv ((n : Int) * ((n : Int) - 1) * ((n : Int) - 2)) 6) = true := by decide +kernel
  rw [List.all_eq_true] at this
  simpa using this n (by simp; omega)
def okT (n : Nat) (t : T3) : Bool := decide (0 ≤ t.f0 ∧ t.f0 < t.f1 ∧ t.f1 < t.f2 ∧ t.f2 < n)
theorem tri_ok (n : Nat) (h : n ≤ 7) : (tri n).all (okT n) = true := by
  have : (List.range 8).all (fun n => (tri n).all (okT n)) = true := by decide +kernel
  rw [List.all_eq_true] at this
  exact this n (by simp; omega)
def put3 (l : List Int) (t : T3) (v : Int) : List Int := chiSet l t.f0 t.f1 t.f2 v
def fill (v : Nat → Int) : List T3 → Nat → List Int → List Int
  | [], _, l => l
  | t :: ts, m, l => fill v ts (m + 1) (put3 l t (v m))
theorem fill_length (v : Nat → Int) : ∀ ts m l, (fill v ts m l).length = l.length := by
  intro ts
  induction ts with
  | nil => intro m l; rfl
  | cons t ts ih => intro m l; rw [fill, ih]; exact chiSet_length ..
theorem fill_append (v : Nat → Int) : ∀ ts us m l, fill v (ts ++ us) m l = fill v us (m + ts.length) (fill v ts m l) := by
  intro ts
  induction ts with
  | nil => intro us m l; rfl
  | cons t ts ih => intro us m l; rw [List.cons_append, fill, ih, fill, List.length_cons]; congr 1; omega
def par (t : T3) (x y z : Int) : Option Bool :=
  if (x = t.f0 ∧ y = t.f1 ∧ z = t.f2) ∨ (x = t.f1 ∧ y = t.f2 ∧ z = t.f0) ∨ (x = t.f2 ∧ y = t.f0 ∧ z = t.f1) then some true
  else if (x = t.f0 ∧ y = t.f2 ∧ z = t.f1) ∨ (x = t.f2 ∧ y = t.f1 ∧ z = t.f0) ∨ (x = t.f1 ∧ y = t.f0 ∧ z = t.f2) then some false else none
theorem rd_set (l : List Int) (p q : Nat) (v : Int) (h : p < l.length) : rd (l.set p v) q = if p = q then v else rd l q := by
  unfold rd
  rw [Int.toNat_natCast, List.getD_eq_getElem?_getD, List.getD_eq_getElem?_getD, List.getElem?_set]
  by_cases e : p = q
  · subst e
    simp [h]
  · simp [e]
theorem chiA_nat (l : List Int) (x y z : Nat) : chiA l x y z = rd l ((1 + x * 49 + y * 7 + z : Nat) : Int) := by
  unfold chiA
  congr 1
  omega
theorem pos_iff (a b c x y z : Nat) (ha : a < 7) (hb : b < 7) (hc : c < 7) (hx : x < 7) (hy : y < 7) (hz : z < 7) : (1 + a * 49 + b * 7 + c = 1 + x * 49 + y * 7 + z) ↔ (x = a ∧ y = b ∧ z = c) := by
  constructor
  · intro h
    have h1 : c = z := by have := congrArg (· % 7) (show a * 49 + b * 7 + c + 1 = x * 49 + y * 7 + z + 1 by omega); omega
    have h2 : b = y := by subst h1; omega
    exact ⟨by omega, h2.symm, h1.symm⟩
  · rintro ⟨rfl, rfl, rfl⟩
    rfl
theorem chiA_set (l : List Int) (hl : l.length = 344) (a b c : Nat) (ha : a < 7) (hb : b < 7) (hc : c < 7) (ab : a ≠ b) (bc : b ≠ c) (ac : a ≠ c) (v : Int) (x y z : Nat) (hx : x < 7) (hy : y < 7) (hz : z < 7) :
    chiA (chiSet l a b c v) x y z = match par ⟨a, b, c⟩ x y z with | some true => v | some false => wrap64 (-v) | none => chiA l x y z := by
  rw [chiA_nat, chiA_nat]
  unfold chiSet setL par
  simp only [Int.toNat_natCast]
  rw [rd_set _ _ _ _ (by first | (simp only [List.length_set]; omega) | omega), rd_set _ _ _ _ (by first | (simp only [List.length_set]; omega) | omega), rd_set _ _ _ _ (by first | (simp only [List.length_set]; omega) | omega), rd_set _ _ _ _ (by first | (simp only [List.length_set]; omega) | omega), rd_set _ _ _ _ (by first | (simp only [List.length_set]; omega) | omega), rd_set _ _ _ _ (by first | (simp only [List.length_set]; omega) | omega)]
  simp only [pos_iff a b c x y z (by omega) (by omega) (by omega) hx hy hz, pos_iff b c a x y z (by omega) (by omega) (by omega) hx hy hz, pos_iff c a b x y z (by omega) (by omega) (by omega) hx hy hz, pos_iff a c b x y z (by omega) (by omega) (by omega) hx hy hz, pos_iff c b a x y z (by omega) (by omega) (by omega) hx hy hz, pos_iff b a c x y z (by omega) (by omega) (by omega) hx hy hz]
  simp only [Int.natCast_inj]
  clear hl
  generalize rd l ((1 + x * 49 + y * 7 + z : Nat) : Int) = o
  by_cases k0 : x = a ∧ y = b ∧ z = c
  · have := k0
    have n1 : ¬ (x = b ∧ y = c ∧ z = a) := by omega
    have n2 : ¬ (x = c ∧ y = a ∧ z = b) := by omega
    have n3 : ¬ (x = a ∧ y = c ∧ z = b) := by omega
    have n4 : ¬ (x = c ∧ y = b ∧ z = a) := by omega
    have n5 : ¬ (x = b ∧ y = a ∧ z = c) := by omega
    clear this
    simp only [(eq_true k0), (eq_false n1), (eq_false n2), (eq_false n3), (eq_false n4), (eq_false n5), if_true, if_false, or_true, true_or, or_false, false_or]
  by_cases k1 : x = b ∧ y = c ∧ z = a
  · have := k1
    have n2 : ¬ (x = c ∧ y = a ∧ z = b) := by omega
    have n3 : ¬ (x = a ∧ y = c ∧ z = b) := by omega
    have n4 : ¬ (x = c ∧ y = b ∧ z = a) := by omega
    have n5 : ¬ (x = b ∧ y = a ∧ z = c) := by omega
    clear this
    simp only [(eq_false k0), (eq_true k1), (eq_false n2), (eq_false n3), (eq_false n4), (eq_false n5), if_true, if_false, or_true, true_or, or_false, false_or]
  by_cases k2 : x = c ∧ y = a ∧ z = b
  · have := k2
    have n3 : ¬ (x = a ∧ y = c ∧ z = b) := by omega
    have n4 : ¬ (x = c ∧ y = b ∧ z = a) := by omega
    have n5 : ¬ (x = b ∧ y = a ∧ z = c) := by omega
    clear this
    simp only [(eq_false k0), (eq_false k1), (eq_true k2), (eq_false n3), (eq_false n4), (eq_false n5), if_true, if_false, or_true, true_or, or_false, false_or]
  by_cases k3 : x = a ∧ y = c ∧ z = b
  · have := k3
    have n4 : ¬ (x = c ∧ y = b ∧ z = a) := by omega
    have n5 : ¬ (x = b ∧ y = a ∧ z = c) := by omega
    clear this
    simp only [(eq_false k0), (eq_false k1), (eq_false k2), (eq_true k3), (eq_false n4), (eq_false n5), if_true, if_false, or_true, true_or, or_false, false_or]
  by_cases k4 : x = c ∧ y = b ∧ z = a
  · have := k4
    have n5 : ¬ (x = b ∧ y = a ∧ z = c) := by omega
    clear this
    simp only [(eq_false k0), (eq_false k1), (eq_false k2), (eq_false k3), (eq_true k4), (eq_false n5), if_true, if_false, or_true, true_or, or_false, false_or]
  by_cases k5 : x = b ∧ y = a ∧ z = c
  · have := k5
    clear this
    simp only [(eq_false k0), (eq_false k1), (eq_false k2), (eq_false k3), (eq_false k4), (eq_true k5), if_true, if_false, or_true, true_or, or_false, false_or]
  simp only [(eq_false k0), (eq_false k1), (eq_false k2), (eq_false k3), (eq_false k4), (eq_false k5), if_true, if_false, or_true, true_or, or_false, false_or]
theorem chiA_put3 (l : List Int) (hl : l.length = 344) (t : T3) (ht : okT 7 t = true) (v : Int) (x y z : Nat) (hx : x < 7) (hy : y < 7) (hz : z < 7) :
    chiA (put3 l t v) x y z = match par t x y z with | some true => v | some false => wrap64 (-v) | none => chiA l x y z := by
  obtain ⟨a, b, c⟩ := t
  unfold okT at ht
  rw [decide_eq_true_eq] at ht
  obtain ⟨h0, h1, h2, h3⟩ := ht
  dsimp only at h0 h1 h2 h3
  obtain ⟨a, rfl⟩ := Int.eq_ofNat_of_zero_le h0
  obtain ⟨b, rfl⟩ := Int.eq_ofNat_of_zero_le (show 0 ≤ b by omega)
  obtain ⟨c, rfl⟩ := Int.eq_ofNat_of_zero_le (show 0 ≤ c by omega)
  exact chiA_set l hl a b c (by omega) (by omega) (by omega) (by omega) (by omega) (by omega) v x y z hx hy hz
theorem chiN_put3 (l : List Int) (hl : l.length = 344) (t : T3) (v : Int) : chiN (put3 l t v) = chiN l := by
  have h : ∀ (l : List Int) (p : Nat) (u : Int), rd (l.set (1 + p) u) 0 = rd l 0 := by
    intro l p u
    unfold rd
    simp [List.getD_eq_getElem?_getD, List.getElem?_set, show ¬ (1 + p = 0) by omega]
  unfold put3 chiSet setL chiN
  simp only [Nat.add_assoc, h]
def src : List T3 → Nat → Int → Int → Int → Option (Nat × Bool)
  | [], _, _, _, _ => none
  | t :: ts, m, x, y, z => (src ts (m + 1) x y z).or ((par t x y z).map fun b => (m, b))
def sval (v : Nat → Int) (o : Int) : Option (Nat × Bool) → Int
  | some (m, true) => v m
  | some (m, false) => wrap64 (-v m)
  | none => o
theorem chiA_fill (v : Nat → Int) (x y z : Nat) (hx : x < 7) (hy : y < 7) (hz : z < 7) : ∀ (ts : List T3), ts.all (okT 7) = true → ∀ m l, l.length = 344 → chiA (fill v ts m l) x y z = sval v (chiA l x y z) (src ts m x y z) := by
  intro ts
  induction ts with
  | nil => intro _ m l _; rfl
  | cons t ts ih =>
    intro h m l hl
    rw [List.all_cons, Bool.and_eq_true] at h
    rw [fill, ih h.2 (m + 1) _ (by unfold put3; rw [chiSet_length]; exact hl), chiA_put3 l hl t h.1 (v m) x y z hx hy hz, src]
    cases hs : src ts (m + 1) x y z with
    | some p => obtain ⟨q, b⟩ := p; cases b <;> rfl
    | none =>
      cases hp : par t x y z with
      | none => rfl
      | some b => cases b <;> rfl
theorem chiN_fill (v : Nat → Int) : ∀ (ts : List T3) m l, l.length = 344 → chiN (fill v ts m l) = chiN l := by
  intro ts
  induction ts with
  | nil => intro m l _; rfl
  | cons t ts ih => intro m l hl; rw [fill, ih _ _ (by unfold put3; rw [chiSet_length]; exact hl), chiN_put3 l hl]
theorem okT_mono {n : Nat} (h : n ≤ 7) (t : T3) (ht : okT n t = true) : okT 7 t = true := by
  unfold okT at ht ⊢
  rw [decide_eq_true_eq] at ht ⊢
  omega
theorem tri_ok7 (n : Nat) (h : n ≤ 7) : (tri n).all (okT 7) = true := by
  have := tri_ok n h
  rw [List.all_eq_true] at this ⊢
  exact fun t ht => okT_mono h t (this t ht)
theorem chiA_new (n : Int) (x y z : Nat) (hx : x < 7) (hy : y < 7) (hz : z < 7) : chiA (chiNew n) x y z = 0 := by
  rw [chiA_nat, show 1 + x * 49 + y * 7 + z = (x * 49 + y * 7 + z) + 1 by omega]
  unfold rd chiNew
  rw [Int.toNat_natCast, List.getD_cons_succ, List.getD_eq_getElem?_getD, List.getElem?_replicate]
  rw [if_pos (by omega)]
  rfl
def isPM (s : ByteArray) (m : Nat) : Bool := bt s (m : Int) == 43 || bt s (m : Int) == 45
def isS (n : Int) (s : ByteArray) : Bool := decide (3 ≤ n ∧ n ≤ 7 ∧ (s.size : Int) = Int.tdiv (n * (n - 1) * (n - 2)) 6) && (List.range s.size).all (isPM s)
theorem count3 {n : Int} (h3 : 3 ≤ n) (h7 : n ≤ 7) : wrap64 (wrap64 (n * wrap64 (n - 1)) * wrap64 (n - 2)) = n * (n - 1) * (n - 2) ∧ wrap64 (Int.tdiv (n * (n - 1) * (n - 2)) 6) = Int.tdiv (n * (n - 1) * (n - 2)) 6 ∧ 0 ≤ Int.tdiv (n * (n - 1) * (n - 2)) 6 ∧ Int.tdiv (n * (n - 1) * (n - 2)) 6 ≤ 35 := by
  have : n = 3 ∨ n = 4 ∨ n = 5 ∨ n = 6 ∨ n = 7 := by omega
  obtain rfl | rfl | rfl | rfl | rfl := this <;> (unfold wrap64; decide)
theorem range_drop' (n i : Nat) (h : i < n) : (List.range n).drop i = i :: (List.range n).drop (i + 1) := by
  rw [List.drop_eq_getElem_cons (by simpa using h)]
  simp
theorem l1In_is (x a b : Int) : spec_l1In.f x a b = some (decide (a ≤ x ∧ x ≤ b)) := by
  unfold spec_l1In.f
  by_cases h : x ≥ a
  · rw [if_pos h]
    simp [h]
  · rw [if_neg h]
    simp [show ¬ a ≤ x by omega]
theorem spec_AreSigns_ev (n : Int) (s : ByteArray) : Ev (fun k => spec_AreSigns.f k n s) (isS n s) := by
  unfold spec_AreSigns.f isS
  have no : ∀ x, Ev (fun k => spec_AreSigns.j0 k true n x) false := fun x => Ev.step (fun k => spec_AreSigns.j0.eq_2 ..) (Ev.ite_pos rfl (Ev.now _))
  by_cases h : 3 ≤ n ∧ n ≤ 7
  · obtain ⟨e1, e2, e3, e4⟩ := count3 h.1 h.2
    refine Ev.bind0 (l1In_is ..) (Ev.ite_pos (decide_eq_true h) ?_)
    rw [e1, e2]
    by_cases hc : (s.size : Int) = Int.tdiv (n * (n - 1) * (n - 2)) 6
    · rw [show decide (3 ≤ n ∧ n ≤ 7 ∧ (s.size : Int) = Int.tdiv (n * (n - 1) * (n - 2)) 6) = true from decide_eq_true ⟨h.1, h.2, hc⟩, Bool.true_and]
      refine Ev.step (fun k => spec_AreSigns.j0.eq_2 ..) (Ev.ite_neg (by simp [hc]) ?_)
      have key := Ev.loop_to (fun i k => spec_AreSigns.l0 k i n s) s.size (fun i => ((List.range s.size).drop i).all (isPM s)) ?_ ?_ 0 (by omega)
      · simpa using key
      · refine Ev.step (fun k => spec_AreSigns.l0.eq_2 ..) (Ev.ite_neg (by omega) (Ev.const ?_))
        rw [List.drop_of_length_le (by simp)]
        rfl
      · intro i hi ih
        rw [range_drop' _ _ hi, List.all_cons]
        refine Ev.step (fun k => spec_AreSigns.l0.eq_2 ..) (Ev.ite_pos (by omega) (Ev.ite_pos (by omega) ?_))
        rw [wrap_nat i (by omega)]
        rw [show isPM s i = (bt s (i : Int) == 43 || bt s (i : Int) == 45) from rfl]
        by_cases h43 : bt s (i : Int) = 43
        · refine Ev.ite_pos h43 ?_
          simpa [h43] using ih
        · refine Ev.ite_neg h43 ?_
          by_cases h45 : bt s (i : Int) = 45
          · refine Ev.ite_pos h45 ?_
            simpa [h45] using ih
          · refine Ev.ite_neg h45 (Ev.const ?_)
            simp [h43, h45]
    · rw [show decide (3 ≤ n ∧ n ≤ 7 ∧ (s.size : Int) = Int.tdiv (n * (n - 1) * (n - 2)) 6) = false from decide_eq_false (fun q => hc q.2.2), Bool.false_and]
      rw [show ((s.size : Int) != Int.tdiv (n * (n - 1) * (n - 2)) 6) = true by simpa using hc]
      exact no s
  · rw [show decide (3 ≤ n ∧ n ≤ 7 ∧ (s.size : Int) = Int.tdiv (n * (n - 1) * (n - 2)) 6) = false from decide_eq_false (fun q => h ⟨q.1, q.2.1⟩), Bool.false_and]
    exact Ev.bind0 (l1In_is ..) (Ev.ite_neg (by simpa using h) (no s))
theorem impl_AreSigns_ev (n : Int) (s : ByteArray) : Ev (fun k => impl_AreSigns.f k n s) (isS n s) := by
  unfold impl_AreSigns.f isS
  have no : ∀ x, Ev (fun k => impl_AreSigns.j0 k true n x) false := fun x => Ev.step (fun k => impl_AreSigns.j0.eq_2 ..) (Ev.ite_pos rfl (Ev.now _))
  by_cases h3 : n < 3
  · rw [show decide (3 ≤ n ∧ n ≤ 7 ∧ (s.size : Int) = Int.tdiv (n * (n - 1) * (n - 2)) 6) = false from decide_eq_false (fun q => by omega), Bool.false_and]
    exact Ev.ite_pos h3 (no s)
  · refine Ev.ite_neg h3 ?_
    by_cases h7 : n > 7
    · rw [show decide (3 ≤ n ∧ n ≤ 7 ∧ (s.size : Int) = Int.tdiv (n * (n - 1) * (n - 2)) 6) = false from decide_eq_false (fun q => by omega), Bool.false_and]
      exact Ev.ite_pos h7 (no s)
    · refine Ev.ite_neg h7 ?_
      obtain ⟨e1, e2, e3, e4⟩ := count3 (n := n) (by omega) (by omega)
      rw [e1, e2]
      by_cases hc : (s.size : Int) = Int.tdiv (n * (n - 1) * (n - 2)) 6
      · rw [show decide (3 ≤ n ∧ n ≤ 7 ∧ (s.size : Int) = Int.tdiv (n * (n - 1) * (n - 2)) 6) = true from decide_eq_true ⟨by omega, by omega, hc⟩, Bool.true_and]
        refine Ev.step (fun k => impl_AreSigns.j0.eq_2 ..) (Ev.ite_neg (by simp [hc]) ?_)
        have key := Ev.loop_to (fun i k => impl_AreSigns.l0 k i n s) s.size (fun i => ((List.range s.size).drop i).all (isPM s)) ?_ ?_ 0 (by omega)
        · simpa using key
        · refine Ev.step (fun k => impl_AreSigns.l0.eq_2 ..) (Ev.ite_neg (by omega) (Ev.const ?_))
          rw [List.drop_of_length_le (by simp)]
          rfl
        · intro i hi ih
          rw [range_drop' _ _ hi, List.all_cons]
          refine Ev.step (fun k => impl_AreSigns.l0.eq_2 ..) (Ev.ite_pos (by omega) (Ev.ite_pos (by omega) ?_))
          rw [wrap_nat i (by omega)]
          rw [show isPM s i = (bt s (i : Int) == 43 || bt s (i : Int) == 45) from rfl]
          by_cases h43 : bt s (i : Int) = 43
          · refine Ev.ite_pos h43 ?_
            simpa [h43] using ih
          · refine Ev.ite_neg h43 ?_
            by_cases h45 : bt s (i : Int) = 45
            · refine Ev.ite_pos h45 ?_
              simpa [h45] using ih
            · refine Ev.ite_neg h45 (Ev.const ?_)
              simp [h43, h45]
      · rw [show decide (3 ≤ n ∧ n ≤ 7 ∧ (s.size : Int) = Int.tdiv (n * (n - 1) * (n - 2)) 6) = false from decide_eq_false (fun q => hc q.2.2), Bool.false_and]
        rw [show ((s.size : Int) != Int.tdiv (n * (n - 1) * (n - 2)) 6) = true by simpa using hc]
        exact no s
theorem isS_bounds {n : Int} {s : ByteArray} (h : isS n s = true) : 3 ≤ n ∧ n ≤ 7 ∧ s.size = (tri n.toNat).length ∧ s.size ≤ 35 := by
  unfold isS at h
  rw [Bool.and_eq_true, decide_eq_true_eq] at h
  obtain ⟨⟨h3, h7, hc⟩, _⟩ := h
  have hb := (count3 h3 h7).2.2.2
  obtain ⟨m, rfl⟩ := Int.eq_ofNat_of_zero_le (show 0 ≤ n by omega)
  have ht := tri_length m (by omega)
  rw [Int.toNat_natCast]
  exact ⟨h3, h7, by omega, by omega⟩
def sgAt (s : ByteArray) (m : Nat) : Int := if bt s (m : Int) = 45 then -1 else 1
def tab (n : Nat) (s : ByteArray) : List Int := fill (sgAt s) (tri n) 0 (chiNew n)
def sg (n : Nat) (s : ByteArray) (x y z : Int) : Int := sval (sgAt s) 0 (src (tri n) 0 x y z)
theorem tab_length (n : Nat) (s : ByteArray) : (tab n s).length = 344 := by
  unfold tab
  rw [fill_length, chiNew_length]
theorem tab_n (n : Nat) (s : ByteArray) : chiN (tab n s) = n := by
  unfold tab
  rw [chiN_fill _ _ _ _ (chiNew_length _)]
  rfl
theorem tab_at (n : Nat) (hn : n ≤ 7) (s : ByteArray) (x y z : Nat) (hx : x < 7) (hy : y < 7) (hz : z < 7) : chiA (tab n s) x y z = sg n s x y z := by
  unfold tab sg
  rw [chiA_fill _ x y z hx hy hz _ (tri_ok7 n hn) 0 _ (chiNew_length _), chiA_new _ x y z hx hy hz]
theorem tri_at (n : Nat) (hn : n ≤ 7) (i : Nat) (hi : i < (tri n).length) : okT 7 (tri n)[i] = true := by
  have := tri_ok7 n hn
  rw [List.all_eq_true] at this
  exact this _ (List.getElem_mem hi)
theorem rdT_lt (l : List T3) (i : Nat) (h : i < l.length) : rd_T89 l (i : Int) = l[i] := by
  unfold rd_T89
  rw [Int.toNat_natCast, getD_lt _ _ _ h]
theorem tableOf_ev (n : Nat) (hn : n ≤ 7) (s : ByteArray) (hs : s.size = (tri n).length) : Ev (fun k => impl_tableOf.f k n s) (tab n s) := by
  unfold impl_tableOf.f
  refine Ev.bind (triplesOf_ev n hn) ?_
  have h35 : (tri n).length ≤ 1000 := by
    have : (List.range 8).all (fun n => decide ((tri n).length ≤ 1000)) = true := by decide +kernel
    rw [List.all_eq_true] at this
    simpa using this n (by simp; omega)
  have key := Ev.loop (fun i k => impl_tableOf.l0 k (fill (sgAt s) ((tri n).take i) 0 (chiNew n)) (tri n) (tri n).length i n s) (tri n).length (tab n s) ?_ ?_ 0 (by omega)
  · simpa [fill] using key
  · refine Ev.step (fun k => impl_tableOf.l0.eq_2 ..) (Ev.ite_neg (by omega) (Ev.const ?_))
    rw [List.take_length]
    rfl
  · intro i hi ih
    refine Ev.step (fun k => impl_tableOf.l0.eq_2 ..) (Ev.ite_pos (by omega) (Ev.ite_pos (by omega) (Ev.ite_pos (by omega) (Ev.ite_pos (by omega) ?_))))
    have ht := tri_at n hn i hi
    rw [wrap_nat i (by omega), rdT_lt _ i hi]
    rw [List.take_succ_eq_append_getElem hi, fill_append, Nat.zero_add, List.length_take, Nat.min_eq_left (by omega)] at ih
    have hl : (fill (sgAt s) ((tri n).take i) 0 (chiNew n)).length = 344 := by rw [fill_length, chiNew_length]
    generalize fill (sgAt s) ((tri n).take i) 0 (chiNew n) = l at ih hl ⊢
    generalize (tri n)[i] = t at ih ht ⊢
    unfold okT at ht
    rw [decide_eq_true_eq] at ht
    have hset : ∀ v, impl_chi_set.f l t.f0 t.f1 t.f2 v = some (put3 l t v) := by
      intro v
      unfold impl_chi_set.f
      rw [if_pos ⟨hl, by omega, by omega, by omega⟩]
      rfl
    rw [fill, fill] at ih
    unfold sgAt at ih
    by_cases h45 : bt s (i : Int) = 45
    · rw [if_pos h45] at ih
      exact Ev.ite_pos h45 (Ev.bind0 (hset _) ih)
    · rw [if_neg h45] at ih
      exact Ev.ite_neg h45 (Ev.bind0 (hset _) ih)
def srt2 (n x y z p : Int) : Option (Int × Int) := if x > y then (spec_l3Index.f 60 n y x z).map fun m => (m, -p) else (spec_l3Index.f 60 n x y z).map fun m => (m, p)
def srt1 (n x y z p : Int) : Option (Int × Int) := if y > z then srt2 n x z y (-p) else srt2 n x y z p
def srt (n x y z : Int) : Option (Int × Int) := if x > y then srt1 n y x z (-1) else srt1 n x y z 1
def okSrt (n : Nat) (x y z : Nat) : Bool :=
  match srt n x y z, src (tri n) 0 x y z with
  | some (m, p), some (q, b) => m == (q : Int) && decide (q < (tri n).length) && (p == if b then 1 else -1)
  | _, _ => false
theorem all_srt : (List.range 8).all (fun n => (List.range n).all fun x => (List.range n).all fun y => (List.range n).all fun z => x == y || y == z || x == z || okSrt n x y z) = true := by decide +kernel
theorem srt_ok (n x y z : Nat) (hn : n ≤ 7) (hx : x < n) (hy : y < n) (hz : z < n) (h1 : x ≠ y) (h2 : y ≠ z) (h3 : x ≠ z) : okSrt n x y z = true := by
  have h := all_srt
  rw [List.all_eq_true] at h
  have h := h n (by simp; omega)
  rw [List.all_eq_true] at h
  have h := h x (by simpa using hx)
  rw [List.all_eq_true] at h
  have h := h y (by simpa using hy)
  rw [List.all_eq_true] at h
  have h := h z (by simpa using hz)
  simpa [h1, h2, h3] using h
theorem l3Index_ev {n x y z m : Int} (h : spec_l3Index.f 60 n x y z = some m) : Ev (fun k => spec_l3Index.f k n x y z) m := Ev.of (spec_l3Index.mono _ _ _ _) h
def look (s : ByteArray) (m p : Int) : Int := if bt s m = 45 then wrap64 (-p) else p
theorem j1_ev (n x y z p m q : Int) (s : ByteArray) (hp : p = 1 ∨ p = -1) (h : srt2 n x y z p = some (m, q)) (hm : 0 ≤ m) (hs : m < (s.size : Int)) : Ev (fun k => spec_l3At.j1 k x y z p n s) (look s m q) := by
  refine Ev.step (fun k => spec_l3At.j1.eq_2 ..) ?_
  have hw : wrap64 (-p) = -p := wrap_in (by omega) (by omega)
  unfold srt2 at h
  unfold look
  by_cases hxy : x > y
  · rw [if_pos hxy] at h
    obtain ⟨m', h1, h2⟩ := Option.map_eq_some_iff.mp h
    cases h2
    refine Ev.ite_pos hxy (Ev.bind (l3Index_ev h1) (Ev.ite_pos hm (Ev.ite_pos hs ?_)))
    rw [hw]
    by_cases h45 : bt s m = 45
    · exact Ev.ite_pos h45 (Ev.const (by rw [if_pos h45]))
    · exact Ev.ite_neg h45 (Ev.const (by rw [if_neg h45]))
  · rw [if_neg hxy] at h
    obtain ⟨m', h1, h2⟩ := Option.map_eq_some_iff.mp h
    cases h2
    refine Ev.ite_neg hxy (Ev.bind (l3Index_ev h1) (Ev.ite_pos hm (Ev.ite_pos hs ?_)))
    by_cases h45 : bt s m = 45
    · exact Ev.ite_pos h45 (Ev.const (by rw [if_pos h45]))
    · exact Ev.ite_neg h45 (Ev.const (by rw [if_neg h45]))
theorem j0_ev (n x y z p m q : Int) (s : ByteArray) (hp : p = 1 ∨ p = -1) (h : srt1 n x y z p = some (m, q)) (hm : 0 ≤ m) (hs : m < (s.size : Int)) : Ev (fun k => spec_l3At.j0 k x y z p n s) (look s m q) := by
  refine Ev.step (fun k => spec_l3At.j0.eq_2 ..) ?_
  have hw : wrap64 (-p) = -p := wrap_in (by omega) (by omega)
  unfold srt1 at h
  by_cases hyz : y > z
  · rw [if_pos hyz] at h
    rw [hw]
    exact Ev.ite_pos hyz (j1_ev n x z y (-p) m q s (by omega) h hm hs)
  · rw [if_neg hyz] at h
    exact Ev.ite_neg hyz (j1_ev n x y z p m q s hp h hm hs)
theorem l3At_ev (n : Nat) (hn : n ≤ 7) (s : ByteArray) (hs : s.size = (tri n).length) (x y z : Nat) (hx : x < n) (hy : y < n) (hz : z < n) (h1 : x ≠ y) (h2 : y ≠ z) (h3 : x ≠ z) :
    Ev (fun k => spec_l3At.f k n s x y z) (sg n s x y z) := by
  have h := srt_ok n x y z hn hx hy hz h1 h2 h3
  unfold okSrt at h
  unfold spec_l3At.f sg
  cases ha : srt n x y z with
  | none => rw [ha] at h; cases h
  | some mp =>
    obtain ⟨m, p⟩ := mp
    cases hb : src (tri n) 0 x y z with
    | none => rw [ha, hb] at h; cases h
    | some qb =>
      obtain ⟨q, b⟩ := qb
      rw [ha, hb] at h
      simp only [Bool.and_eq_true, beq_iff_eq, decide_eq_true_eq] at h
      obtain ⟨⟨rfl, hq⟩, hp⟩ := h
      have e : sval (sgAt s) 0 (some (q, b)) = look s q p := by
        subst hp
        unfold sval look sgAt
        cases b <;> by_cases h45 : bt s (q : Int) = 45 <;> simp [h45, wrap64]
      rw [e]
      unfold srt at ha
      by_cases hxy : (x : Int) > y
      · rw [if_pos hxy] at ha
        exact Ev.ite_pos hxy (j0_ev n y x z (-1) q p s (by omega) ha (by omega) (by omega))
      · rw [if_neg hxy] at ha
        exact Ev.ite_neg hxy (j0_ev n x y z 1 q p s (by omega) ha (by omega) (by omega))
theorem sg_pm (n : Nat) (hn : n ≤ 7) (s : ByteArray) (x y z : Nat) (hx : x < n) (hy : y < n) (hz : z < n) (h1 : x ≠ y) (h2 : y ≠ z) (h3 : x ≠ z) : sg n s x y z = 1 ∨ sg n s x y z = -1 := by
  have h := srt_ok n x y z hn hx hy hz h1 h2 h3
  unfold okSrt at h
  unfold sg
  cases ha : srt n x y z with
  | none => rw [ha] at h; cases h
  | some mp =>
    cases hb : src (tri n) 0 x y z with
    | none => rw [ha, hb] at h; cases h
    | some qb =>
      obtain ⟨q, b⟩ := qb
      unfold sval sgAt
      cases b <;> by_cases h45 : bt s (q : Int) = 45 <;> simp [h45, wrap64]
def pm (v : Int) : Int := if v > 0 then 43 else 45
def codesT (l : List Int) (ts : List T3) : List Int := ts.map fun t => pm (chiA l t.f0 t.f1 t.f2)
theorem signs_ev (n : Nat) (hn : n ≤ 7) (l : List Int) (hl : l.length = 344) (hc : chiN l = n) : Ev (fun k => impl_chi_signs.f k l) ((n : Int), strOfNums (codesT l (tri n))) := by
  unfold impl_chi_signs.f
  rw [hc]
  refine Ev.ite_pos (by omega) (Ev.bind (triplesOf_ev n hn) ?_)
  have h35 : (tri n).length ≤ 1000 := by
    have : (List.range 8).all (fun n => decide ((tri n).length ≤ 1000)) = true := by decide +kernel
    rw [List.all_eq_true] at this
    simpa using this n (by simp; omega)
  have key := Ev.loop (fun i k => impl_chi_signs.l0 k l (codesT l ((tri n).take i)) (tri n) (tri n).length i) (tri n).length ((n : Int), strOfNums (codesT l (tri n))) ?_ ?_ 0 (by omega)
  · simpa [codesT] using key
  · refine Ev.step (fun k => impl_chi_signs.l0.eq_2 ..) (Ev.ite_neg (by omega) (Ev.ite_pos (by omega) (Ev.const ?_)))
    rw [List.take_length, hc]
  · intro i hi ih
    have ht := tri_at n hn i hi
    have hlen : (codesT l ((tri n).take i)).length < 140737488355328 := by unfold codesT; simp; omega
    refine Ev.step (fun k => impl_chi_signs.l0.eq_2 ..) (Ev.ite_pos (by omega) (Ev.ite_pos (by omega) (Ev.ite_pos (by omega) (Ev.ite_pos (by omega) ?_))))
    rw [wrap_nat i (by omega), rdT_lt _ i hi]
    have hcod : codesT l ((tri n).take (i + 1)) = codesT l ((tri n).take i) ++ [pm (chiA l (tri n)[i].f0 (tri n)[i].f1 (tri n)[i].f2)] := by
      unfold codesT
      rw [List.take_succ_eq_append_getElem hi, List.map_append]
      rfl
    rw [hcod] at ih
    generalize (tri n)[i] = t at ih ht ⊢
    unfold okT at ht
    rw [decide_eq_true_eq] at ht
    refine Ev.ite_pos (by omega) (Ev.ite_pos (by omega) (Ev.ite_pos (by omega) (Ev.ite_pos (by omega) (Ev.ite_pos (by omega) (Ev.ite_pos (by omega) ?_)))))
    unfold pm at ih
    by_cases h : chiA l t.f0 t.f1 t.f2 > 0
    · rw [if_pos h] at ih
      exact Ev.ite_pos h (Ev.ite_pos hlen ih)
    · rw [if_neg h] at ih
      exact Ev.ite_neg h (Ev.ite_pos hlen ih)
theorem all_tri : (List.range 8).all (fun n => (List.range (tri n).length).all fun m => (let t := (tri n).getD m ⟨0, 0, 0⟩; src (tri n) 0 t.f0 t.f1 t.f2 == some (m, true))) = true := by decide +kernel
theorem tri_src (n : Nat) (hn : n ≤ 7) (m : Nat) (hm : m < (tri n).length) : src (tri n) 0 (tri n)[m].f0 (tri n)[m].f1 (tri n)[m].f2 = some (m, true) := by
  have g := all_tri
  rw [List.all_eq_true] at g
  have g := g n (by simp; omega)
  rw [List.all_eq_true] at g
  have g := g m (by simpa using hm)
  rw [getD_lt _ _ _ hm] at g
  simpa using g
theorem tri_nat (n : Nat) (hn : n ≤ 7) (m : Nat) (hm : m < (tri n).length) : ∃ a b c : Nat, a < b ∧ b < c ∧ c < n ∧ (tri n)[m] = ⟨a, b, c⟩ := by
  have h := tri_ok n hn
  rw [List.all_eq_true] at h
  have h := h _ (List.getElem_mem hm)
  generalize (tri n)[m] = t at h ⊢
  obtain ⟨a, b, c⟩ := t
  unfold okT at h
  rw [decide_eq_true_eq] at h
  dsimp only at h
  obtain ⟨a, rfl⟩ := Int.eq_ofNat_of_zero_le h.1
  obtain ⟨b, rfl⟩ := Int.eq_ofNat_of_zero_le (show 0 ≤ b by omega)
  obtain ⟨c, rfl⟩ := Int.eq_ofNat_of_zero_le (show 0 ≤ c by omega)
  exact ⟨a, b, c, by omega, by omega, by omega, rfl⟩
theorem tab_tri (n : Nat) (hn : n ≤ 7) (s : ByteArray) (m : Nat) (hm : m < (tri n).length) : chiA (tab n s) (tri n)[m].f0 (tri n)[m].f1 (tri n)[m].f2 = sgAt s m := by
  obtain ⟨a, b, c, h1, h2, h3, e⟩ := tri_nat n hn m hm
  have hs := tri_src n hn m hm
  rw [e] at hs ⊢
  dsimp only at hs ⊢
  rw [tab_at n hn s a b c (by omega) (by omega) (by omega)]
  unfold sg
  rw [hs]
  rfl
theorem rd_takeI (l : List Int) (n j : Nat) (h : j < n) : rd (l.take n) (j : Int) = rd l (j : Int) := by
  unfold rd
  rw [Int.toNat_natCast]
  simp [List.getD_eq_getElem?_getD, h]
theorem containsI_ev (l : List Int) (n : Nat) (hn : n ≤ l.length) (hl : l.length ≤ 1000000) (x : Int) :
    Ev (fun k => slices_Contains_Sint_int.f k (l.take n) x) ((List.range n).any fun j => x == rd l j) := by
  have hlen : (l.take n).length = n := by rw [List.length_take]; omega
  have key : ∀ d i, i + d = n → ∃ r, Ev (fun k => slices_Index_Sint_int.l0 k (l.take n) x n i) r ∧ decide (r ≥ 0) = ((List.range n).drop i).any fun j => x == rd l j := by
    intro d
    induction d with
    | zero =>
      intro i hi
      obtain rfl : i = n := by omega
      refine ⟨-1, Ev.step (fun k => slices_Index_Sint_int.l0.eq_2 ..) (Ev.ite_neg (by omega) (Ev.now _)), ?_⟩
      rw [List.drop_of_length_le (by simp)]
      rfl
    | succ d ih =>
      intro i hi
      obtain ⟨r, hr, he⟩ := ih (i + 1) (by omega)
      rw [range_drop' n i (by omega), List.any_cons]
      by_cases hb : x = rd l (i : Int)
      · refine ⟨i, Ev.step (fun k => slices_Index_Sint_int.l0.eq_2 ..) (Ev.ite_pos (by omega) (Ev.ite_pos (by omega) (Ev.ite_pos (by omega) (Ev.ite_pos (by rw [rd_takeI l n i (by omega)]; exact hb) (Ev.now _))))), ?_⟩
        rw [show (x == rd l (i : Int)) = true by simpa using hb]
        simp
      · refine ⟨r, Ev.step (fun k => slices_Index_Sint_int.l0.eq_2 ..) (Ev.ite_pos (by omega) (Ev.ite_pos (by omega) (Ev.ite_pos (by omega) (Ev.ite_neg (by rw [rd_takeI l n i (by omega)]; exact hb) ?_)))), ?_⟩
        · rw [wrap_nat i (by omega)]
          exact hr
        · rw [he, show (x == rd l (i : Int)) = false by simpa using hb, Bool.false_or]
  obtain ⟨r, hr, he⟩ := key n 0 (by omega)
  unfold slices_Contains_Sint_int.f slices_Index_Sint_int.f
  rw [hlen]
  refine Ev.bind hr (Ev.const ?_)
  rw [he, List.drop_zero]
def inE (n x : Int) : Bool := decide (0 ≤ x ∧ x < n)
def okD (n : Int) (l : List Int) (i : Nat) : Bool := inE n (rd l i) && !((List.range i).any fun j => rd l i == rd l j)
def diffFrom (n : Int) (l : List Int) (i : Nat) : Bool := ((List.range l.length).drop i).all (okD n l)
def diffB (n : Int) (l : List Int) : Bool := diffFrom n l 0
theorem diffFrom_step (n : Int) (l : List Int) (i : Nat) (h : i < l.length) : diffFrom n l i = (okD n l i && diffFrom n l (i + 1)) := by
  unfold diffFrom
  rw [range_drop' _ _ h, List.all_cons]
theorem isElement_eq (n x : Int) : impl_isElement.f n x = some (inE n x) := by
  unfold impl_isElement.f inE
  by_cases h : x ≥ 0
  · rw [if_pos h]
    simp [h]
  · rw [if_neg h]
    simp [show ¬ 0 ≤ x by omega]
theorem impl_areDifferent_ev (n : Int) (l : List Int) (hl : l.length ≤ 1000000) : Ev (fun k => impl_areDifferent.f k n l) (diffB n l) := by
  unfold impl_areDifferent.f diffB
  refine Ev.loop_to (fun i k => impl_areDifferent.l0 k n l l l.length i) l.length (diffFrom n l) ?_ ?_ 0 (by omega)
  · refine Ev.step (fun k => impl_areDifferent.l0.eq_2 ..) (Ev.ite_neg (by omega) (Ev.const ?_))
    unfold diffFrom
    rw [List.drop_of_length_le (by simp)]
    rfl
  · intro i hi ih
    rw [diffFrom_step n l i hi]
    unfold okD
    refine Ev.step (fun k => impl_areDifferent.l0.eq_2 ..) (Ev.ite_pos (by omega) (Ev.ite_pos (by omega) (Ev.ite_pos (by omega) (Ev.bind0 (isElement_eq ..) ?_))))
    cases he : inE n (rd l (i : Int)) with
    | false => exact Ev.ite_neg (by simp) (Ev.now _)
    | true =>
      refine Ev.ite_pos rfl (Ev.ite_pos (by omega) ?_)
      rw [Int.toNat_natCast, wrap_nat i (by omega)]
      refine Ev.bind (containsI_ev l i (by omega) hl _) ?_
      cases hb : (List.range i).any fun j => rd l (i : Int) == rd l (j : Int) with
      | true => exact Ev.ite_pos rfl (Ev.now _)
      | false => exact Ev.ite_neg (by simp) (by simpa using ih)
theorem diff3 {n x y z : Int} (h : diffB n [x, y, z] = true) : (0 ≤ x ∧ x < n) ∧ (0 ≤ y ∧ y < n) ∧ (0 ≤ z ∧ z < n) ∧ x ≠ y ∧ y ≠ z ∧ x ≠ z := by
  simp [diffB, diffFrom, okD, inE, rd, List.range_succ] at h
  omega
def okEx (n x y z : Nat) : Bool :=
  match src (tri n) 0 x y z with
  | some (q, b) => (List.range (tri n).length).all fun m => (let t := (tri n).getD m ⟨0, 0, 0⟩; par ⟨x, y, z⟩ t.f0 t.f1 t.f2 == if m = q then some b else none)
  | none => false
theorem all_ex : (List.range 8).all (fun n => (List.range n).all fun x => (List.range n).all fun y => (List.range n).all fun z => x == y || y == z || x == z || okEx n x y z) = true := by decide +kernel
theorem ex_ok (n x y z : Nat) (hn : n ≤ 7) (hx : x < n) (hy : y < n) (hz : z < n) (h1 : x ≠ y) (h2 : y ≠ z) (h3 : x ≠ z) : okEx n x y z = true := by
  have h := all_ex
  rw [List.all_eq_true] at h
  have h := h n (by simp; omega)
  rw [List.all_eq_true] at h
  have h := h x (by simpa using hx)
  rw [List.all_eq_true] at h
  have h := h y (by simpa using hy)
  rw [List.all_eq_true] at h
  have h := h z (by simpa using hz)
  simpa [h1, h2, h3] using h
def place (n x y z : Int) : Option Int :=
  (spec_l1Min.f y z).bind fun t => (spec_l1Min.f x t).bind fun lo => (spec_l1Max.f y z).bind fun t' => (spec_l1Max.f x t').bind fun hi => spec_l3Index.f 60 n lo (wrap64 ((wrap64 ((wrap64 ((wrap64 (x + y)) + z)) - lo)) - hi)) hi
def okPl (n x y z : Nat) : Bool :=
  match src (tri n) 0 x y z, place n x y z with
  | some (q, _), some m => m == (q : Int) && decide (q < (tri n).length)
  | _, _ => false
theorem all_pl : (List.range 8).all (fun n => (List.range n).all fun x => (List.range n).all fun y => (List.range n).all fun z => x == y || y == z || x == z || okPl n x y z) = true := by decide +kernel
theorem pl_ok (n x y z : Nat) (hn : n ≤ 7) (hx : x < n) (hy : y < n) (hz : z < n) (h1 : x ≠ y) (h2 : y ≠ z) (h3 : x ≠ z) : okPl n x y z = true := by
  have h := all_pl
  rw [List.all_eq_true] at h
  have h := h n (by simp; omega)
  rw [List.all_eq_true] at h
  have h := h x (by simpa using hx)
  rw [List.all_eq_true] at h
  have h := h y (by simpa using hy)
  rw [List.all_eq_true] at h
  have h := h z (by simpa using hz)
  simpa [h1, h2, h3] using h
theorem src_some (n x y z : Nat) (hn : n ≤ 7) (hx : x < n) (hy : y < n) (hz : z < n) (h1 : x ≠ y) (h2 : y ≠ z) (h3 : x ≠ z) : ∃ q b, src (tri n) 0 x y z = some (q, b) ∧ q < (tri n).length ∧ place n x y z = some (q : Int) := by
  have h := pl_ok n x y z hn hx hy hz h1 h2 h3
  unfold okPl at h
  cases ha : src (tri n) 0 x y z with
  | none => rw [ha] at h; cases h
  | some p =>
    obtain ⟨q, b⟩ := p
    cases hb : place n x y z with
    | none => rw [ha, hb] at h; cases h
    | some m =>
      rw [ha, hb] at h
      simp only [Bool.and_eq_true, beq_iff_eq, decide_eq_true_eq] at h
      exact ⟨q, b, rfl, h.2, by rw [h.1]⟩
def codesX (s : ByteArray) (len q : Nat) : List Int := (List.range len).map fun m : Nat => if m = q then (if bt s (m : Int) = 43 then 45 else 43) else bt s (m : Int)
theorem codes_of_set (n x y z : Nat) (hn : n ≤ 7) (hx : x < n) (hy : y < n) (hz : z < n) (h1 : x ≠ y) (h2 : y ≠ z) (h3 : x ≠ z) (s : ByteArray) (hs : s.size = (tri n).length) (hpm : ∀ m, m < s.size → isPM s m = true) (q : Nat) (b : Bool) (hq : src (tri n) 0 x y z = some (q, b)) :
    codesT (chiSet (tab n s) x y z (wrap64 (-(chiA (tab n s) x y z)))) (tri n) = codesX s (tri n).length q := by
  have h := ex_ok n x y z hn hx hy hz h1 h2 h3
  unfold okEx at h
  rw [hq] at h
  dsimp only at h
  rw [List.all_eq_true] at h
  apply List.ext_getElem
  · simp [codesT, codesX]
  · intro m hm hm'
    have hm1 : m < (tri n).length := by simpa [codesT] using hm
    have g := h m (by simpa using hm1)
    rw [getD_lt _ _ _ hm1] at g
    simp only [codesT, codesX, List.getElem_map, List.getElem_range]
    have hp := hpm m (by omega)
    have ht := tab_tri n hn s m hm1
    obtain ⟨a, b', c, k1, k2, k3, e⟩ := tri_nat n hn m hm1
    rw [e] at g ht ⊢
    dsimp only at g ht ⊢
    rw [chiA_set (tab n s) (tab_length n s) x y z (by omega) (by omega) (by omega) h1 h2 h3 _ a b' c (by omega) (by omega) (by omega)]
    have g' : par ⟨x, y, z⟩ a b' c = if m = q then some b else none := by simpa using g
    rw [g', ht, tab_at n hn s x y z (by omega) (by omega) (by omega)]
    unfold isPM at hp
    simp only [Bool.or_eq_true, beq_iff_eq] at hp
    by_cases hmq : m = q
    · subst hmq
      rw [if_pos rfl, if_pos rfl]
      unfold sg
      rw [hq]
      unfold sval sgAt pm
      cases b <;> rcases hp with hp | hp <;> simp [hp, wrap64]
    · rw [if_neg hmq, if_neg hmq]
      unfold sgAt pm
      rcases hp with hp | hp <;> simp [hp]
theorem bt_get (s : ByteArray) (m : Nat) (h : m < s.size) : UInt8.ofNat (bt s (m : Int)).toNat = s.data[m]'h := by
  unfold bt
  rw [dif_pos (by simpa using h)]
  simp
  rfl
theorem text_of_codes (s : ByteArray) (q : Nat) (hq : q < s.size) (c : Int) (hc : c = if bt s (q : Int) = 43 then 45 else 43) :
    strOfNums (codesX s s.size q) = ((s.extract 0 q) ++ (⟨#[UInt8.ofNat c.toNat]⟩ : ByteArray)) ++ (s.extract (q + 1) s.size) := by
  apply ByteArray.ext
  apply Array.ext'
  have hL : (strOfNums (codesX s s.size q)).data.toList = s.data.toList.set q (UInt8.ofNat c.toNat) := by
    apply List.ext_getElem
    · rw [List.length_set]
      simp [strOfNums, codesX]
    · intro m hm hm'
      have hm1 : m < s.size := by simpa [strOfNums, codesX] using hm
      rw [List.getElem_set]
      simp only [strOfNums, codesX, List.getElem_map, List.getElem_range, List.map_map, Function.comp]
      by_cases e : q = m
      · subst e
        rw [if_pos rfl, if_pos rfl, ← hc]
      · rw [if_neg e, if_neg (fun h => e h.symm), bt_get s m hm1]
        rfl
  rw [hL, List.set_eq_take_append_cons_drop]
  have hq' : q < s.data.toList.length := hq
  rw [if_pos hq']
  rw [ByteArray.data_append, ByteArray.data_append, Array.toList_append, Array.toList_append, ByteArray.data_extract, ByteArray.data_extract, Array.toList_extract, Array.toList_extract]
  simp only [List.extract_eq_take_drop, List.drop_zero, Nat.sub_zero, List.append_assoc, List.singleton_append]
  congr 2
  rw [List.take_of_length_le]
  rw [List.length_drop]
  exact Nat.le_refl _
theorem diff3_of {n x y z : Int} (h : (0 ≤ x ∧ x < n) ∧ (0 ≤ y ∧ y < n) ∧ (0 ≤ z ∧ z < n) ∧ x ≠ y ∧ y ≠ z ∧ x ≠ z) : diffB n [x, y, z] = true := by
  simp [diffB, diffFrom, okD, inE, rd, List.range_succ]
  omega
theorem isS_pm {n : Int} {s : ByteArray} (h : isS n s = true) (m : Nat) (hm : m < s.size) : isPM s m = true := by
  unfold isS at h
  rw [Bool.and_eq_true, List.all_eq_true] at h
  exact h.2 m (by simpa using hm)
theorem l14_eq (n : Int) (s : ByteArray) (q : Nat) (hq : q < s.size) (hs : s.size ≤ 1000) : spec_l14Exchange.f n s q = some (n, strOfNums (codesX s s.size q)) := by
  have hw : wrap64 ((q : Int) + 1) = ((q + 1 : Nat) : Int) := wrap_nat q (by omega)
  have e1 : ∀ c : UInt8, ((s.extract 0 q) ++ (⟨#[c]⟩ : ByteArray)).size = q + 1 := by
    intro c
    rw [ByteArray.size_append, ByteArray.size_extract]
    show min q s.size - 0 + 1 = q + 1
    omega
  have e2 : (s.extract 0 q).size = q := by rw [ByteArray.size_extract]; omega
  have e3 : (s.extract (q + 1) s.size).size ≤ 1000 := by rw [ByteArray.size_extract]; omega
  unfold spec_l14Exchange.f
  rw [if_pos (by omega), if_pos (by omega)]
  simp only [hw, Int.toNat_natCast]
  by_cases h43 : bt s (q : Int) = 43
  · rw [if_pos h43, if_pos (by omega), if_pos (by omega), if_pos (by omega), if_pos (by omega), if_pos (by rw [e1]; omega)]
    rw [text_of_codes s q hq 45 (by rw [if_pos h43])]
    rfl
  · rw [if_neg h43, if_pos (by omega), if_pos (by omega), if_pos (by omega), if_pos (by omega), if_pos (by rw [e1]; omega)]
    rw [text_of_codes s q hq 43 (by rw [if_neg h43])]
    rfl
def exT (n : Nat) (s : ByteArray) (x y z : Int) : ByteArray := strOfNums (codesX s s.size (((src (tri n) 0 x y z).map Prod.fst).getD 0))
def exS (n : Int) (s : ByteArray) (x y z : Int) : Int × ByteArray × Bool := if isS n s = true ∧ diffB n [x, y, z] = true then (n, exT n.toNat s x y z, true) else (0, ⟨#[]⟩, false)
theorem impl_Exchange_ev (n : Int) (s : ByteArray) (x y z : Int) : Ev (fun k => impl_ExchangeSign.f k n s x y z) (exS n s x y z) := by
  have hI := impl_AreSigns_ev n s
  unfold impl_ExchangeSign.f exS
  have none_ : Ev (fun k => impl_ExchangeSign.j0 k x y z true n s) ((0 : Int), (⟨#[]⟩ : ByteArray), false) := Ev.step (fun k => impl_ExchangeSign.j0.eq_2 ..) (Ev.ite_pos rfl (Ev.now _))
  cases hA : isS n s with
  | false =>
    rw [hA] at hI
    rw [if_neg (by simp)]
    exact Ev.bind hI (Ev.ite_neg (by simp) none_)
  | true =>
    rw [hA] at hI
    obtain ⟨h3, h7, hs, hs35⟩ := isS_bounds hA
    have dI := impl_areDifferent_ev n [x, y, z] (by simp)
    cases hD : diffB n [x, y, z] with
    | false =>
      rw [hD] at dI
      rw [if_neg (by simp)]
      exact Ev.bind hI (Ev.ite_pos rfl (Ev.bind dI none_))
    | true =>
      rw [hD] at dI
      rw [if_pos ⟨rfl, rfl⟩]
      have hd := diff3 hD
      have hpm := fun m hm => isS_pm hA m hm
      obtain ⟨n, rfl⟩ := Int.eq_ofNat_of_zero_le (show 0 ≤ n by omega)
      obtain ⟨x, rfl⟩ := Int.eq_ofNat_of_zero_le hd.1.1
      obtain ⟨y, rfl⟩ := Int.eq_ofNat_of_zero_le hd.2.1.1
      obtain ⟨z, rfl⟩ := Int.eq_ofNat_of_zero_le hd.2.2.1.1
      rw [Int.toNat_natCast] at hs ⊢
      obtain ⟨q, b, hq, hq1, _⟩ := src_some n x y z (by omega) (by omega) (by omega) (by omega) (by omega) (by omega) (by omega)
      have hl := tab_length n s
      have hset : impl_chi_set.f (tab n s) x y z (wrap64 (-(chiA (tab n s) x y z))) = some (chiSet (tab n s) x y z (wrap64 (-(chiA (tab n s) x y z)))) := by
        unfold impl_chi_set.f
        rw [if_pos ⟨hl, by omega, by omega, by omega⟩]
      have hcn : chiN (chiSet (tab n s) x y z (wrap64 (-(chiA (tab n s) x y z)))) = n := by
        have := chiN_put3 (tab n s) hl ⟨x, y, z⟩ (wrap64 (-(chiA (tab n s) x y z)))
        rw [tab_n] at this
        exact this
      have hsig := signs_ev n (by omega) _ (by rw [chiSet_length]; exact hl) hcn
      rw [codes_of_set n x y z (by omega) (by omega) (by omega) (by omega) (by omega) (by omega) (by omega) s hs hpm q b hq] at hsig
      refine Ev.bind hI (Ev.ite_pos rfl (Ev.bind dI (Ev.step (fun k => impl_ExchangeSign.j0.eq_2 ..) (Ev.ite_neg (by simp) (Ev.bind (tableOf_ev n (by omega) s hs) ?_)))))
      refine Ev.ite_pos (by omega) (Ev.ite_pos (by omega) (Ev.ite_pos (by omega) (Ev.ite_pos (by omega) (Ev.ite_pos (by omega) (Ev.ite_pos (by omega) (Ev.ite_pos (by omega) ?_))))))
      refine Ev.bind0 hset (Ev.bind hsig (Ev.const ?_))
      unfold exT
      rw [hq, hs]
      rfl
abbrev Q4 := S180
def quad : Nat → List Q4
  | 4 => [⟨0, 1, 2, 3⟩]
  | 5 => [⟨0, 1, 2, 3⟩, ⟨0, 1, 2, 4⟩, ⟨0, 1, 3, 4⟩, ⟨0, 2, 3, 4⟩, ⟨1, 2, 3, 4⟩]
  | 6 => [⟨0, 1, 2, 3⟩, ⟨0, 1, 2, 4⟩, ⟨0, 1, 2, 5⟩, ⟨0, 1, 3, 4⟩, ⟨0, 1, 3, 5⟩, ⟨0, 1, 4, 5⟩, ⟨0, 2, 3, 4⟩, ⟨0, 2, 3, 5⟩, ⟨0, 2, 4, 5⟩, ⟨0, 3, 4, 5⟩, ⟨1, 2, 3, 4⟩, ⟨1, 2, 3, 5⟩, ⟨1, 2, 4, 5⟩, ⟨1, 3, 4, 5⟩, ⟨2, 3, 4, 5⟩]
  | 7 => [⟨0, 1, 2, 3⟩, ⟨0, 1, 2, 4⟩, ⟨0, 1, 2, 5⟩, ⟨0, 1, 2, 6⟩, ⟨0, 1, 3, 4⟩, ⟨0, 1, 3, 5⟩, ⟨0, 1, 3, 6⟩, ⟨0, 1, 4, 5⟩, ⟨0, 1, 4, 6⟩, ⟨0, 1, 5, 6⟩, ⟨0, 2, 3, 4⟩, ⟨0, 2, 3, 5⟩, ⟨0, 2, 3, 6⟩, ⟨0, 2, 4, 5⟩, ⟨0, 2, 4, 6⟩, ⟨0, 2, 5, 6⟩, ⟨0, 3, 4, 5⟩, ⟨0, 3, 4, 6⟩, ⟨0, 3, 5, 6⟩, ⟨0, 4, 5, 6⟩, ⟨1, 2, 3, 4⟩, ⟨1, 2, 3, 5⟩, ⟨1, 2, 3, 6⟩, ⟨1, 2, 4, 5⟩, ⟨1, 2, 4, 6⟩, ⟨1, 2, 5, 6⟩, ⟨1, 3, 4, 5⟩, ⟨1, 3, 4, 6⟩, ⟨1, 3, 5, 6⟩, ⟨1, 4, 5, 6⟩, ⟨2, 3, 4, 5⟩, ⟨2, 3, 4, 6⟩, ⟨2, 3, 5, 6⟩, ⟨2, 4, 5, 6⟩, ⟨3, 4, 5, 6⟩]
  | _ => []
theorem quad_some : ∀ n : Nat, n ≤ 7 → impl_quadsOf.f 700 n = some (quad n)
  | 0, _ => by kernel_rfl
  | 1, _ => by kernel_rfl
  | 2, _ => by kernel_rfl
  | 3, _ => by kernel_rfl
  | 4, _ => by kernel_rfl
  | 5, _ => by kernel_rfl
  | 6, _ => by kernel_rfl
  | 7, _ => by kernel_rfl
  | n + 8, h => absurd h (by omega)
theorem quadsOf_ev (n : Nat) (h : n ≤ 7) : Ev (fun k => impl_quadsOf.f k n) (quad n) := Ev.of (impl_quadsOf.mono _) (quad_some n h)
def okQ (n : Nat) (q : Q4) : Bool := decide (0 ≤ q.f0 ∧ q.f0 < q.f1 ∧ q.f1 < q.f2 ∧ q.f2 < q.f3 ∧ q.f3 < n)
theorem all_q : (List.range 8).all (fun n => (quad n).all (okQ n) && decide ((quad n).length ≤ 1000)) = true := by decide +kernel
theorem quad_ok (n : Nat) (h : n ≤ 7) : (quad n).all (okQ n) = true ∧ (quad n).length ≤ 1000 := by
  have := all_q
  rw [List.all_eq_true] at this
  have := this n (by simp; omega)
  rw [Bool.and_eq_true, decide_eq_true_eq] at this
  exact this
def brk (n : Nat) (s : ByteArray) (a b c d e : Int) : Bool :=
  decide (wrap64 (sg n s a b c * sg n s a d e) = wrap64 (sg n s a b e * sg n s a c d)) && (wrap64 (sg n s a b e * sg n s a c d) == wrap64 ((wrap64 (-(sg n s a b d))) * sg n s a c e))
theorem breaks_eq (n : Nat) (hn : n ≤ 7) (s : ByteArray) (a b c d e : Nat) (ha : a < 7) (hb : b < 7) (hc : c < 7) (hd : d < 7) (he : e < 7) : impl_chi_breaks.f (tab n s) a b c d e = some (brk n s a b c d e) := by
  unfold impl_chi_breaks.f brk
  have hl := tab_length n s
  rw [if_pos (by omega), if_pos (by omega), if_pos (by omega), if_pos (by omega), if_pos (by omega), if_pos (by omega), if_pos (by omega), if_pos (by omega), if_pos (by omega), if_pos (by omega), if_pos (by omega)]
  rw [tab_at n hn s a b c ha hb hc, tab_at n hn s a d e ha hd he, tab_at n hn s a b e ha hb he, tab_at n hn s a c d ha hc hd, tab_at n hn s a b d ha hb hd, tab_at n hn s a c e ha hc he]
  by_cases h : wrap64 (sg n s a b c * sg n s a d e) = wrap64 (sg n s a b e * sg n s a c d)
  · rw [if_pos h, decide_eq_true h, Bool.true_and]
  · rw [if_neg h, decide_eq_false h, Bool.false_and]
theorem l4Breaks_ev (n : Nat) (hn : n ≤ 7) (s : ByteArray) (hs : s.size = (tri n).length) (a b c d e : Nat) (ha : a < n) (hb : b < n) (hc : c < n) (hd : d < n) (he : e < n)
    (hab : a ≠ b) (hac : a ≠ c) (had : a ≠ d) (hae : a ≠ e) (hbc : b < c) (hcd : c < d) (hde : d < e) : Ev (fun k => spec_l4Breaks.f k n s a b c d e) (brk n s a b c d e) := by
  unfold spec_l4Breaks.f brk
  refine Ev.bind (l3At_ev n hn s hs a b c ha hb hc hab (by omega) hac) (Ev.bind (l3At_ev n hn s hs a d e ha hd he had (by omega) hae) (Ev.bind (l3At_ev n hn s hs a b e ha hb he hab (by omega) hae) (Ev.bind (l3At_ev n hn s hs a c d ha hc hd hac (by omega) had) (Ev.bind (l3At_ev n hn s hs a b d ha hb hd hab (by omega) had) (Ev.bind (l3At_ev n hn s hs a c e ha hc he hac (by omega) hae) ?_)))))
  by_cases h : wrap64 (sg n s a b c * sg n s a d e) = wrap64 (sg n s a b e * sg n s a c d)
  · rw [decide_eq_true h, Bool.true_and]
    exact Ev.ite_pos h (Ev.now _)
  · rw [decide_eq_false h, Bool.false_and]
    exact Ev.ite_neg h (Ev.now _)
theorem loopE (g : Nat → Nat → Option (List Int)) (m : Nat) (P : Nat → Bool) (X : Bool) (lo : Nat) (hlo : lo ≤ m) (hend : ∃ r, Ev (g m) r ∧ r.isEmpty = !X)
    (hstep : ∀ i, lo ≤ i → i < m → (∃ r, Ev (g (i + 1)) r ∧ r.isEmpty = !(((List.range m).drop (i + 1)).any P || X)) → ∃ r, Ev (g i) r ∧ r.isEmpty = !(P i || (((List.range m).drop (i + 1)).any P || X))) :
    ∃ r, Ev (g lo) r ∧ r.isEmpty = !(((List.range m).drop lo).any P || X) := by
  have key : ∀ d i, lo ≤ i → i + d = m → ∃ r, Ev (g i) r ∧ r.isEmpty = !(((List.range m).drop i).any P || X) := by
    intro d
    induction d with
    | zero =>
      intro i _ hi
      obtain rfl : i = m := by omega
      rw [List.drop_of_length_le (by simp)]
      simpa using hend
    | succ d ih =>
      intro i hl hi
      rw [range_drop' m i (by omega), List.any_cons, Bool.or_assoc]
      exact hstep i hl (by omega) (ih (i + 1) (by omega) (by omega))
  exact key (m - lo) lo (Nat.le_refl _) (by omega)
def avoid (a : Int) (q : Q4) : Bool := !(q.f0 == a || q.f1 == a || q.f2 == a || q.f3 == a)
def brkQ (n : Nat) (s : ByteArray) (a : Int) (q : Q4) : Bool := brk n s a q.f0 q.f1 q.f2 q.f3
def anyA (n : Nat) (s : ByteArray) (a : Nat) : Bool := (quad n).any fun q => avoid a q && brkQ n s a q
def anyB (n : Nat) (s : ByteArray) : Bool := (List.range n).any (anyA n s)
theorem any_range (l : List Q4) (P : Q4 → Bool) : (List.range l.length).any (fun i => P (rd_T180 l (i : Int))) = l.any P := by
  rw [Bool.eq_iff_iff, List.any_eq_true, List.any_eq_true]
  have hr : ∀ i (h : i < l.length), rd_T180 l (i : Int) = l[i] := by
    intro i h
    unfold rd_T180
    rw [Int.toNat_natCast, getD_lt _ _ _ h]
  constructor
  · rintro ⟨i, hi, hp⟩
    rw [List.mem_range] at hi
    rw [hr i hi] at hp
    exact ⟨_, List.getElem_mem hi, hp⟩
  · rintro ⟨q, hq, hp⟩
    obtain ⟨i, hi, rfl⟩ := List.getElem_of_mem hq
    exact ⟨i, by simpa using hi, by rw [hr i hi]; exact hp⟩
theorem impl_first_ev (n : Nat) (hn : n ≤ 7) (s : ByteArray) : ∃ r, Ev (fun k => impl_chi_firstBreak.f k (tab n s)) r ∧ r.isEmpty = !anyB n s := by
  have hl := tab_length n s
  obtain ⟨hq, hq1⟩ := quad_ok n hn
  unfold impl_chi_firstBreak.f
  have key := loopE (fun a k => impl_chi_firstBreak.l0 k (tab n s) a) n (anyA n s) false 0 (by omega) ?_ ?_
  · simpa [anyB] using key
  · refine ⟨[], Ev.step (fun k => impl_chi_firstBreak.l0.eq_2 ..) (Ev.ite_pos (by omega) (Ev.ite_neg (by rw [tab_n]; omega) (Ev.now _))), rfl⟩
  · intro a _ ha h0
    rw [Bool.or_false] at h0 ⊢
    have key2 := loopE (fun i k => impl_chi_firstBreak.l1 k (tab n s) a (quad n) (quad n).length i) (quad n).length (fun i => avoid a (rd_T180 (quad n) (i : Int)) && brkQ n s a (rd_T180 (quad n) (i : Int))) (((List.range n).drop (a + 1)).any (anyA n s)) 0 (by omega) ?_ ?_
    · obtain ⟨r, h1, h2⟩ := key2
      rw [List.drop_zero, any_range (quad n) (fun q => avoid a q && brkQ n s a q)] at h2
      refine ⟨r, Ev.step (fun k => impl_chi_firstBreak.l0.eq_2 ..) (Ev.ite_pos (by omega) (Ev.ite_pos (by rw [tab_n]; omega) ?_)), h2⟩
      rw [tab_n]
      exact Ev.bind (quadsOf_ev n hn) h1
    · obtain ⟨r, h1, h2⟩ := h0
      refine ⟨r, Ev.step (fun k => impl_chi_firstBreak.l1.eq_2 ..) (Ev.ite_neg (by omega) ?_), h2⟩
      rw [wrap_nat a (by omega)]
      exact h1
    · intro i _ hi h1
      have hr : rd_T180 (quad n) (i : Int) = (quad n)[i] := by
        unfold rd_T180
        rw [Int.toNat_natCast, getD_lt _ _ _ hi]
      rw [List.all_eq_true] at hq
      have ht := hq _ (List.getElem_mem hi)
      rw [← hr] at ht
      obtain ⟨r, h1, h2⟩ := h1
      rw [← wrap_nat i (by omega)] at h1
      by_cases hav : avoid a (rd_T180 (quad n) (i : Int)) = true
      · have hav' := hav
        unfold avoid at hav'
        simp only [Bool.not_eq_true', Bool.or_eq_false_iff, beq_eq_false_iff_ne] at hav'
        obtain ⟨⟨⟨e0, e1⟩, e2⟩, e3⟩ := hav'
        have hb : impl_chi_breaks.f (tab n s) a (rd_T180 (quad n) (i : Int)).f0 (rd_T180 (quad n) (i : Int)).f1 (rd_T180 (quad n) (i : Int)).f2 (rd_T180 (quad n) (i : Int)).f3 = some (brkQ n s a (rd_T180 (quad n) (i : Int))) := by
          generalize rd_T180 (quad n) (i : Int) = q at ht ⊢
          obtain ⟨b, c, d, e⟩ := q
          unfold okQ at ht
          rw [decide_eq_true_eq] at ht
          dsimp only at ht
          obtain ⟨b, rfl⟩ := Int.eq_ofNat_of_zero_le ht.1
          obtain ⟨c, rfl⟩ := Int.eq_ofNat_of_zero_le (show 0 ≤ c by omega)
          obtain ⟨d, rfl⟩ := Int.eq_ofNat_of_zero_le (show 0 ≤ d by omega)
          obtain ⟨e, rfl⟩ := Int.eq_ofNat_of_zero_le (show 0 ≤ e by omega)
          exact breaks_eq n hn s a b c d e (by omega) (by omega) (by omega) (by omega) (by omega)
        rw [hav, Bool.true_and]
        by_cases hbk : brkQ n s a (rd_T180 (quad n) (i : Int)) = true
        · rw [hbk, Bool.true_or]
          exact ⟨_, Ev.step (fun k => impl_chi_firstBreak.l1.eq_2 ..) (Ev.ite_pos (by omega) (Ev.ite_pos (by omega) (Ev.ite_pos (by omega) (Ev.ite_neg e0 (Ev.ite_neg e1 (Ev.ite_neg e2 (Ev.ite_neg e3 (Ev.bind0 hb (Ev.ite_pos hbk (Ev.now _)))))))))), rfl⟩
        · rw [Bool.eq_false_iff.mpr hbk, Bool.false_or]
          exact ⟨r, Ev.step (fun k => impl_chi_firstBreak.l1.eq_2 ..) (Ev.ite_pos (by omega) (Ev.ite_pos (by omega) (Ev.ite_pos (by omega) (Ev.ite_neg e0 (Ev.ite_neg e1 (Ev.ite_neg e2 (Ev.ite_neg e3 (Ev.bind0 hb (Ev.ite_neg hbk h1))))))))), h2⟩
      · rw [Bool.eq_false_iff.mpr hav, Bool.false_and, Bool.false_or]
        refine ⟨r, Ev.step (fun k => impl_chi_firstBreak.l1.eq_2 ..) (Ev.ite_pos (by omega) (Ev.ite_pos (by omega) (Ev.ite_pos (by omega) ?_))), h2⟩
        unfold avoid at hav
        by_cases e0 : (rd_T180 (quad n) (i : Int)).f0 = a
        · exact Ev.ite_pos e0 h1
        refine Ev.ite_neg e0 ?_
        by_cases e1 : (rd_T180 (quad n) (i : Int)).f1 = a
        · exact Ev.ite_pos e1 h1
        refine Ev.ite_neg e1 ?_
        by_cases e2 : (rd_T180 (quad n) (i : Int)).f2 = a
        · exact Ev.ite_pos e2 h1
        refine Ev.ite_neg e2 ?_
        by_cases e3 : (rd_T180 (quad n) (i : Int)).f3 = a
        · exact Ev.ite_pos e3 h1
        · exact absurd (by simp [e0, e1, e2, e3]) hav
def oth (n a : Nat) : List Int := ((List.range n).filter fun x => x != a).map fun x : Nat => (x : Int)
theorem all_oth : (List.range 8).all (fun n => (List.range n).all fun a => spec_l3Others.f 40 n a == some (oth n a)) = true := by decide +kernel
theorem l3Others_ev (n a : Nat) (hn : n ≤ 7) (ha : a < n) : Ev (fun k => spec_l3Others.f k n a) (oth n a) := by
  have h := all_oth
  rw [List.all_eq_true] at h
  have h := h n (by simp; omega)
  rw [List.all_eq_true] at h
  have h := h a (by simpa using ha)
  exact Ev.of (spec_l3Others.mono _ _) (k := 40) (by simpa using h)
theorem all_o : (List.range 8).all (fun n => (List.range n).all fun a => decide ((oth n a).length ≤ 7) && (List.range (oth n a).length).all fun i => decide (0 ≤ rd (oth n a) (i : Int) ∧ rd (oth n a) (i : Int) < n ∧ rd (oth n a) (i : Int) ≠ a) && (List.range i).all fun j => decide (rd (oth n a) (j : Int) < rd (oth n a) (i : Int))) = true := by decide +kernel
theorem oth_ok (n a : Nat) (hn : n ≤ 7) (ha : a < n) : (oth n a).length ≤ 7 ∧ ∀ i, i < (oth n a).length → (∃ u : Nat, rd (oth n a) (i : Int) = u ∧ u < n ∧ u ≠ a) ∧ ∀ j, j < i → rd (oth n a) (j : Int) < rd (oth n a) (i : Int) := by
  have h := all_o
  rw [List.all_eq_true] at h
  have h := h n (by simp; omega)
  rw [List.all_eq_true] at h
  have h := h a (by simpa using ha)
  rw [Bool.and_eq_true, decide_eq_true_eq, List.all_eq_true] at h
  refine ⟨h.1, fun i hi => ?_⟩
  have g := h.2 i (by simpa using hi)
  rw [Bool.and_eq_true, decide_eq_true_eq, List.all_eq_true] at g
  refine ⟨⟨(rd (oth n a) (i : Int)).toNat, by omega, by omega, by omega⟩, fun j hj => ?_⟩
  simpa using g.2 j (by simpa using hj)
def listQ (n a : Nat) : List Q4 :=
  ((List.range (oth n a).length).drop 0).flatMap fun b : Nat => ((List.range (oth n a).length).drop (b + 1)).flatMap fun c : Nat => ((List.range (oth n a).length).drop (c + 1)).flatMap fun d : Nat => ((List.range (oth n a).length).drop (d + 1)).map fun e : Nat =>
    (⟨rd (oth n a) (b : Int), rd (oth n a) (c : Int), rd (oth n a) (d : Int), rd (oth n a) (e : Int)⟩ : Q4)
def tup (q : Q4) : Int × Int × Int × Int := (q.f0, q.f1, q.f2, q.f3)
def untup (q : Int × Int × Int × Int) : Q4 := ⟨q.1, q.2.1, q.2.2.1, q.2.2.2⟩
theorem untup_map (l : List Q4) : (l.map tup).map untup = l := by
  rw [List.map_map]
  exact List.map_id' l
theorem all_list : (List.range 8).all (fun n => (List.range n).all fun a => (listQ n a).map tup == ((quad n).filter (avoid a)).map tup) = true := by decide +kernel
theorem listQ_eq (n a : Nat) (hn : n ≤ 7) (ha : a < n) : listQ n a = (quad n).filter (avoid a) := by
  have h := all_list
  rw [List.all_eq_true] at h
  have h := h n (by simp; omega)
  rw [List.all_eq_true] at h
  have h := h a (by simpa using ha)
  have h := congrArg (List.map untup) (eq_of_beq h)
  rwa [untup_map, untup_map] at h
section
variable (n : Nat) (s : ByteArray) (a : Nat)
def b4 (b c d e : Nat) : Bool := brk n s a (rd (oth n a) (b : Int)) (rd (oth n a) (c : Int)) (rd (oth n a) (d : Int)) (rd (oth n a) (e : Int))
def b3 (b c d : Nat) : Bool := ((List.range (oth n a).length).drop (d + 1)).any (b4 n s a b c d)
def b2 (b c : Nat) : Bool := ((List.range (oth n a).length).drop (c + 1)).any (b3 n s a b c)
def b1 (b : Nat) : Bool := ((List.range (oth n a).length).drop (b + 1)).any (b2 n s a b)
end
theorem b1_eq (n : Nat) (s : ByteArray) (a : Nat) (hn : n ≤ 7) (ha : a < n) : (List.range (oth n a).length).any (b1 n s a) = anyA n s a := by
  unfold anyA
  rw [← List.any_filter, ← listQ_eq n a hn ha]
  unfold listQ
  rw [List.drop_zero, List.any_flatMap]
  simp only [List.any_flatMap, List.any_map]
  rfl
theorem spec_first_ev (n : Nat) (hn : n ≤ 7) (s : ByteArray) (hA : isS n s = true) : ∃ r, Ev (fun k => spec_FirstBreak.f k n s) r ∧ r.isEmpty = !anyB n s := by
  have hS := spec_AreSigns_ev n s
  rw [hA] at hS
  obtain ⟨_, _, hs, _⟩ := isS_bounds hA
  rw [Int.toNat_natCast] at hs
  unfold spec_FirstBreak.f
  have key := loopE (fun a k => spec_FirstBreak.l0 k a n s) n (anyA n s) false 0 (by omega) ?_ ?_
  · simpa [anyB] using key
  · exact ⟨[], Ev.step (fun k => spec_FirstBreak.l0.eq_2 ..) (Ev.ite_neg (by omega) (Ev.step (fun k => spec_FirstBreak.j1.eq_2 ..) (Ev.ite_neg (by simp) (Ev.now _)))), rfl⟩
  · intro a _ ha h0
    rw [Bool.or_false] at h0 ⊢
    obtain ⟨ho, hok⟩ := oth_ok n a hn ha
    rw [← b1_eq n s a hn ha]
    have key1 := loopE (fun b k => spec_FirstBreak.l1 k a (oth n a) b n s) (oth n a).length (b1 n s a) (((List.range n).drop (a + 1)).any (anyA n s)) 0 (by omega) ?_ ?_
    · obtain ⟨r, h1, h2⟩ := key1
      rw [List.drop_zero] at h2
      exact ⟨r, Ev.step (fun k => spec_FirstBreak.l0.eq_2 ..) (Ev.ite_pos (by omega) (Ev.bind hS (Ev.step (fun k => spec_FirstBreak.j1.eq_2 ..) (Ev.ite_pos rfl (Ev.bind (l3Others_ev n a hn ha) h1))))), h2⟩
    · obtain ⟨r, h1, h2⟩ := h0
      refine ⟨r, Ev.step (fun k => spec_FirstBreak.l1.eq_2 ..) (Ev.ite_neg (by omega) ?_), h2⟩
      rw [wrap_nat a (by omega)]
      exact h1
    · intro b _ hb h1
      have key2 := loopE (fun c k => spec_FirstBreak.l2 k a (oth n a) b c n s) (oth n a).length (b2 n s a b) (((List.range (oth n a).length).drop (b + 1)).any (b1 n s a) || ((List.range n).drop (a + 1)).any (anyA n s)) (b + 1) (by omega) ?_ ?_
      · obtain ⟨r, g1, g2⟩ := key2
        refine ⟨r, Ev.step (fun k => spec_FirstBreak.l1.eq_2 ..) (Ev.ite_pos (by omega) ?_), g2⟩
        rw [wrap_nat b (by omega)]
        exact g1
      · obtain ⟨r, g1, g2⟩ := h1
        refine ⟨r, Ev.step (fun k => spec_FirstBreak.l2.eq_2 ..) (Ev.ite_neg (by omega) ?_), g2⟩
        rw [wrap_nat b (by omega)]
        exact g1
      · intro c hbc hc h2
        have key3 := loopE (fun d k => spec_FirstBreak.l3 k a (oth n a) b c d n s) (oth n a).length (b3 n s a b c) (((List.range (oth n a).length).drop (c + 1)).any (b2 n s a b) || (((List.range (oth n a).length).drop (b + 1)).any (b1 n s a) || ((List.range n).drop (a + 1)).any (anyA n s))) (c + 1) (by omega) ?_ ?_
        · obtain ⟨r, g1, g2⟩ := key3
          refine ⟨r, Ev.step (fun k => spec_FirstBreak.l2.eq_2 ..) (Ev.ite_pos (by omega) ?_), g2⟩
          rw [wrap_nat c (by omega)]
          exact g1
        · obtain ⟨r, g1, g2⟩ := h2
          refine ⟨r, Ev.step (fun k => spec_FirstBreak.l3.eq_2 ..) (Ev.ite_neg (by omega) ?_), g2⟩
          rw [wrap_nat c (by omega)]
          exact g1
        · intro d hcd hd h3
          have key4 := loopE (fun e k => spec_FirstBreak.l4 k a (oth n a) b c d e n s) (oth n a).length (b4 n s a b c d) (((List.range (oth n a).length).drop (d + 1)).any (b3 n s a b c) || (((List.range (oth n a).length).drop (c + 1)).any (b2 n s a b) || (((List.range (oth n a).length).drop (b + 1)).any (b1 n s a) || ((List.range n).drop (a + 1)).any (anyA n s)))) (d + 1) (by omega) ?_ ?_
          · obtain ⟨r, g1, g2⟩ := key4
            refine ⟨r, Ev.step (fun k => spec_FirstBreak.l3.eq_2 ..) (Ev.ite_pos (by omega) ?_), g2⟩
            rw [wrap_nat d (by omega)]
            exact g1
          · obtain ⟨r, g1, g2⟩ := h3
            refine ⟨r, Ev.step (fun k => spec_FirstBreak.l4.eq_2 ..) (Ev.ite_neg (by omega) ?_), g2⟩
            rw [wrap_nat d (by omega)]
            exact g1
          · intro e hde he h4
            have hord : b < c ∧ c < d ∧ d < e := ⟨by omega, by omega, by omega⟩
            obtain ⟨⟨ub, eb, lb, nb⟩, _⟩ := hok b hb
            obtain ⟨⟨uc, ec, lc, nc⟩, oc⟩ := hok c hc
            obtain ⟨⟨ud, ed, ld, nd⟩, od⟩ := hok d hd
            obtain ⟨⟨ue, ee, le, ne⟩, oe⟩ := hok e he
            have kb := oc b hord.1
            have kc := od c hord.2.1
            have kd := oe d hord.2.2
            rw [eb, ec] at kb
            rw [ec, ed] at kc
            rw [ed, ee] at kd
            have hbr : Ev (fun k => spec_l4Breaks.f k n s a (rd (oth n a) (b : Int)) (rd (oth n a) (c : Int)) (rd (oth n a) (d : Int)) (rd (oth n a) (e : Int))) (b4 n s a b c d e) := by
              unfold b4
              rw [eb, ec, ed, ee]
              exact l4Breaks_ev n hn s hs a ub uc ud ue ha lb lc ld le (Ne.symm nb) (Ne.symm nc) (Ne.symm nd) (Ne.symm ne) (by omega) (by omega) (by omega)
            obtain ⟨r, g1, g2⟩ := h4
            rw [← wrap_nat e (by omega)] at g1
            by_cases hbk : b4 n s a b c d e = true
            · rw [hbk] at hbr
              rw [hbk, Bool.true_or]
              exact ⟨_, Ev.step (fun k => spec_FirstBreak.l4.eq_2 ..) (Ev.ite_pos (by omega) (Ev.ite_pos (by omega) (Ev.ite_pos (by omega) (Ev.ite_pos (by omega) (Ev.ite_pos (by omega) (Ev.ite_pos (by omega) (Ev.ite_pos (by omega) (Ev.ite_pos (by omega) (Ev.bind hbr (Ev.ite_pos rfl (Ev.now _))))))))))), rfl⟩
            · rw [Bool.eq_false_iff.mpr hbk] at hbr
              rw [Bool.eq_false_iff.mpr hbk, Bool.false_or]
              exact ⟨r, Ev.step (fun k => spec_FirstBreak.l4.eq_2 ..) (Ev.ite_pos (by omega) (Ev.ite_pos (by omega) (Ev.ite_pos (by omega) (Ev.ite_pos (by omega) (Ev.ite_pos (by omega) (Ev.ite_pos (by omega) (Ev.ite_pos (by omega) (Ev.ite_pos (by omega) (Ev.bind hbr (Ev.ite_neg (by simp) g1)))))))))), g2⟩
def isM (n : Int) (s : ByteArray) : Bool := isS n s && !anyB n.toNat s
theorem len_empty (r : List Int) : ((r.length : Int) = 0) ↔ r.isEmpty = true := by
  rw [List.isEmpty_iff, ← List.length_eq_zero_iff]
  omega
theorem spec_IsMatroid_ev (n : Int) (s : ByteArray) : Ev (fun k => spec_IsMatroid.f k n s) (isM n s) := by
  have hS := spec_AreSigns_ev n s
  unfold spec_IsMatroid.f isM
  cases hA : isS n s with
  | false =>
    rw [hA] at hS
    exact Ev.bind hS (Ev.ite_neg (by simp) (Ev.now _))
  | true =>
    rw [hA] at hS
    obtain ⟨h3, h7, _, _⟩ := isS_bounds hA
    obtain ⟨n, rfl⟩ := Int.eq_ofNat_of_zero_le (show 0 ≤ n by omega)
    obtain ⟨r, h1, h2⟩ := spec_first_ev n (by omega) s hA
    rw [Int.toNat_natCast, Bool.true_and, ← h2]
    refine Ev.bind hS (Ev.ite_pos rfl (Ev.bind h1 (Ev.const (congrArg some ?_))))
    rw [Bool.eq_iff_iff, beq_iff_eq]
    exact len_empty r
theorem impl_IsMatroid_ev (n : Int) (s : ByteArray) : Ev (fun k => impl_IsMatroid.f k n s) (isM n s) := by
  have hS := impl_AreSigns_ev n s
  unfold impl_IsMatroid.f isM
  cases hA : isS n s with
  | false =>
    rw [hA] at hS
    exact Ev.bind hS (Ev.ite_neg (by simp) (Ev.now _))
  | true =>
    rw [hA] at hS
    obtain ⟨h3, h7, hs, _⟩ := isS_bounds hA
    obtain ⟨n, rfl⟩ := Int.eq_ofNat_of_zero_le (show 0 ≤ n by omega)
    rw [Int.toNat_natCast] at hs
    obtain ⟨r, h1, h2⟩ := impl_first_ev n (by omega) s
    rw [Int.toNat_natCast, Bool.true_and, ← h2]
    have hF : Ev (fun k => impl_FirstBreak.f k n s) r := by
      unfold impl_FirstBreak.f
      exact Ev.bind hS (Ev.ite_pos rfl (Ev.bind (tableOf_ev n (by omega) s hs) (Ev.bind h1 (Ev.now _))))
    refine Ev.bind hS (Ev.ite_pos rfl (Ev.bind hF ?_))
    cases he : r.isEmpty with
    | true => exact Ev.ite_pos ((len_empty r).mpr he) (Ev.now _)
    | false => exact Ev.ite_neg (fun h => by rw [(len_empty r).mp h] at he; cases he) (Ev.now _)
def byteS (v : Int) : ByteArray := if v > 0 then ⟨#[43]⟩ else ⟨#[45]⟩
def circT (p q r t : Int) : ByteArray := (((⟨#[43]⟩ : ByteArray) ++ byteS (wrap64 ((wrap64 (-p)) * q))) ++ byteS (wrap64 (p * r))) ++ byteS (wrap64 ((wrap64 (-p)) * t))
theorem l3Byte_eq (v : Int) : spec_l3Byte.f v = some (byteS v) := by
  unfold spec_l3Byte.f byteS
  by_cases h : v > 0
  · rw [if_pos h, if_pos h]
  · rw [if_neg h, if_neg h]
theorem byteS_size (v : Int) : (byteS v).size = 1 := by
  unfold byteS
  by_cases h : v > 0
  · rw [if_pos h]; rfl
  · rw [if_neg h]; rfl
def pm1 : List Int := [1, -1]
theorem all_circ : pm1.all (fun p => pm1.all fun q => pm1.all fun r => pm1.all fun t => (impl_chi_circuit.l0 12 [] [p, wrap64 (-q), r, wrap64 (-t)] 4 0).map (fun b => b.data.toList) == some (circT p q r t).data.toList) = true := by decide +kernel
theorem circ_eq (p q r t : Int) (hp : p = 1 ∨ p = -1) (hq : q = 1 ∨ q = -1) (hr : r = 1 ∨ r = -1) (ht : t = 1 ∨ t = -1) : impl_chi_circuit.l0 12 [] [p, wrap64 (-q), r, wrap64 (-t)] 4 0 = some (circT p q r t) := by
  have h := all_circ
  rw [List.all_eq_true] at h
  have h := h p (by rcases hp with rfl | rfl <;> decide)
  rw [List.all_eq_true] at h
  have h := h q (by rcases hq with rfl | rfl <;> decide)
  rw [List.all_eq_true] at h
  have h := h r (by rcases hr with rfl | rfl <;> decide)
  rw [List.all_eq_true] at h
  have h := eq_of_beq (h t (by rcases ht with rfl | rfl <;> decide))
  obtain ⟨b, h1, h2⟩ := Option.map_eq_some_iff.mp h
  rw [h1]
  congr 1
  apply ByteArray.ext
  exact Array.ext' h2
theorem impl_circuit_ev (n : Nat) (hn : n ≤ 7) (s : ByteArray) (a b c d : Nat) (hd : d < n) (hab : a < b) (hbc : b < c) (hcd : c < d) :
    Ev (fun k => impl_chi_circuit.f k (tab n s) a b c d) (circT (sg n s b c d) (sg n s a c d) (sg n s a b d) (sg n s a b c)) := by
  have hl := tab_length n s
  unfold impl_chi_circuit.f
  refine Ev.ite_pos (by omega) (Ev.ite_pos (by omega) (Ev.ite_pos (by omega) (Ev.ite_pos (by omega) (Ev.ite_pos (by omega) (Ev.ite_pos (by omega) (Ev.ite_pos (by omega) (Ev.ite_pos (by omega) (Ev.ite_pos (by omega) (Ev.bind0 rfl ?_)))))))))
  rw [tab_at n hn s b c d (by omega) (by omega) (by omega), tab_at n hn s a c d (by omega) (by omega) (by omega), tab_at n hn s a b d (by omega) (by omega) (by omega), tab_at n hn s a b c (by omega) (by omega) (by omega)]
  exact Ev.of (fun k => (impl_chi_circuit.mono_l k) _ _ _ _) (k := 12) (circ_eq _ _ _ _ (sg_pm n hn s b c d (by omega) (by omega) (by omega) (by omega) (by omega) (by omega)) (sg_pm n hn s a c d (by omega) (by omega) (by omega) (by omega) (by omega) (by omega)) (sg_pm n hn s a b d (by omega) (by omega) (by omega) (by omega) (by omega) (by omega)) (sg_pm n hn s a b c (by omega) (by omega) (by omega) (by omega) (by omega) (by omega)))
theorem spec_circuit_ev (n : Nat) (hn : n ≤ 7) (s : ByteArray) (hs : s.size = (tri n).length) (a b c d : Nat) (hd : d < n) (hab : a < b) (hbc : b < c) (hcd : c < d) :
    Ev (fun k => spec_l4Circuit.f k n s a b c d) (circT (sg n s b c d) (sg n s a c d) (sg n s a b d) (sg n s a b c)) := by
  unfold spec_l4Circuit.f circT
  refine Ev.bind (l3At_ev n hn s hs b c d (by omega) (by omega) (by omega) (by omega) (by omega) (by omega)) (Ev.bind (l3At_ev n hn s hs a c d (by omega) (by omega) (by omega) (by omega) (by omega) (by omega)) (Ev.bind0 (l3Byte_eq _) (Ev.ite_pos (by rw [byteS_size]; omega) ?_)))
  refine Ev.bind (l3At_ev n hn s hs a b d (by omega) (by omega) (by omega) (by omega) (by omega) (by omega)) (Ev.bind0 (l3Byte_eq _) (Ev.ite_pos (by rw [ByteArray.size_append, byteS_size, byteS_size]; decide) ?_))
  exact Ev.bind (l3At_ev n hn s hs a b c (by omega) (by omega) (by omega) (by omega) (by omega) (by omega)) (Ev.bind0 (l3Byte_eq _) (Ev.ite_pos (by rw [ByteArray.size_append, ByteArray.size_append, byteS_size, byteS_size, byteS_size]; decide) (Ev.now _)))
def listC (n : Nat) : List Q4 :=
  ((List.range n).drop 0).flatMap fun a : Nat => ((List.range n).drop (a + 1)).flatMap fun b : Nat => ((List.range n).drop (b + 1)).flatMap fun c : Nat => ((List.range n).drop (c + 1)).map fun d : Nat => (⟨a, b, c, d⟩ : Q4)
theorem all_c : (List.range 8).all (fun n => (listC n).map tup == (quad n).map tup) = true := by decide +kernel
theorem listC_eq (n : Nat) (hn : n ≤ 7) : listC n = quad n := by
  have h := all_c
  rw [List.all_eq_true] at h
  have h := congrArg (List.map untup) (eq_of_beq (h n (by simp; omega)))
  rwa [untup_map, untup_map] at h
theorem loopA (g : Nat → Nat → Option Bool) (m : Nat) (P : Nat → Bool) (X : Bool) (lo : Nat) (hlo : lo ≤ m) (hend : Ev (g m) X)
    (hstep : ∀ i, lo ≤ i → i < m → Ev (g (i + 1)) (((List.range m).drop (i + 1)).all P && X) → Ev (g i) (P i && (((List.range m).drop (i + 1)).all P && X))) : Ev (g lo) (((List.range m).drop lo).all P && X) := by
  have key : ∀ d i, lo ≤ i → i + d = m → Ev (g i) (((List.range m).drop i).all P && X) := by
    intro d
    induction d with
    | zero =>
      intro i _ hi
      obtain rfl : i = m := by omega
      rw [List.drop_of_length_le (by simp)]
      simpa using hend
    | succ d ih =>
      intro i hl hi
      rw [range_drop' m i (by omega), List.all_cons, Bool.and_assoc]
      exact hstep i hl (by omega) (ih (i + 1) (by omega) (by omega))
  exact key (m - lo) lo (Nat.le_refl _) (by omega)
def mixed (n : Nat) (s : ByteArray) (a b c d : Int) : Bool := !decide ((circT (sg n s b c d) (sg n s a c d) (sg n s a b d) (sg n s a b c)).toList = ([43, 43, 43, 43] : List UInt8))
def mixQ (n : Nat) (s : ByteArray) (q : Q4) : Bool := mixed n s q.f0 q.f1 q.f2 q.f3
def acyT (n : Nat) (s : ByteArray) : Bool := (quad n).all (mixQ n s)
theorem impl_acy_ev (n : Nat) (hn : n ≤ 7) (s : ByteArray) : Ev (fun k => impl_chi_isAcyclic.f k (tab n s)) (acyT n s) := by
  have hl := tab_length n s
  obtain ⟨hq, hq1⟩ := quad_ok n hn
  rw [List.all_eq_true] at hq
  unfold impl_chi_isAcyclic.f acyT
  rw [tab_n]
  refine Ev.ite_pos (by omega) (Ev.bind (quadsOf_ev n hn) ?_)
  have key := Ev.loop_to (fun i k => impl_chi_isAcyclic.l0 k (tab n s) (quad n) (quad n).length i) (quad n).length (fun i => ((quad n).drop i).all (mixQ n s)) ?_ ?_ 0 (by omega)
  · simpa using key
  · refine Ev.step (fun k => impl_chi_isAcyclic.l0.eq_2 ..) (Ev.ite_neg (by omega) (Ev.const ?_))
    rw [List.drop_of_length_le (by omega)]
    rfl
  · intro i hi ih
    have hr : rd_T180 (quad n) (i : Int) = (quad n)[i] := by
      unfold rd_T180
      rw [Int.toNat_natCast, getD_lt _ _ _ hi]
    have ht := hq _ (List.getElem_mem hi)
    rw [List.drop_eq_getElem_cons hi, List.all_cons]
    refine Ev.step (fun k => impl_chi_isAcyclic.l0.eq_2 ..) (Ev.ite_pos (by omega) (Ev.ite_pos (by omega) (Ev.ite_pos (by omega) ?_)))
    rw [hr, wrap_nat i (by omega)]
    generalize (quad n)[i] = q at ht ⊢
    obtain ⟨a, b, c, d⟩ := q
    unfold okQ at ht
    rw [decide_eq_true_eq] at ht
    dsimp only at ht
    obtain ⟨a, rfl⟩ := Int.eq_ofNat_of_zero_le ht.1
    obtain ⟨b, rfl⟩ := Int.eq_ofNat_of_zero_le (show 0 ≤ b by omega)
    obtain ⟨c, rfl⟩ := Int.eq_ofNat_of_zero_le (show 0 ≤ c by omega)
    obtain ⟨d, rfl⟩ := Int.eq_ofNat_of_zero_le (show 0 ≤ d by omega)
    refine Ev.bind (impl_circuit_ev n hn s a b c d (by omega) (by omega) (by omega) (by omega)) ?_
    rw [show mixQ n s (⟨a, b, c, d⟩ : Q4) = !decide ((circT (sg n s b c d) (sg n s a c d) (sg n s a b d) (sg n s a b c)).toList = ([43, 43, 43, 43] : List UInt8)) from rfl]
    by_cases h : (circT (sg n s b c d) (sg n s a c d) (sg n s a b d) (sg n s a b c)).toList = ([43, 43, 43, 43] : List UInt8)
    · rw [decide_eq_true h]
      exact Ev.ite_pos h (Ev.now _)
    · rw [decide_eq_false h]
      exact Ev.ite_neg h (by simpa using ih)
section
variable (n : Nat) (s : ByteArray)
def m4 (a b c d : Nat) : Bool := mixed n s a b c d
def m3 (a b c : Nat) : Bool := ((List.range n).drop (c + 1)).all (m4 n s a b c)
def m2 (a b : Nat) : Bool := ((List.range n).drop (b + 1)).all (m3 n s a b)
def m1 (a : Nat) : Bool := ((List.range n).drop (a + 1)).all (m2 n s a)
end
theorem acy_eq (n : Nat) (hn : n ≤ 7) (s : ByteArray) : (List.range n).all (m1 n s) = acyT n s := by
  unfold acyT
  rw [← listC_eq n hn]
  unfold listC
  rw [List.drop_zero, List.all_flatMap]
  simp only [List.all_flatMap, List.all_map]
  rfl
theorem spec_acy_ev (n : Nat) (hn : n ≤ 7) (s : ByteArray) (hs : s.size = (tri n).length) : Ev (fun k => spec_l4Acyclic.f k n s) (acyT n s) := by
  rw [← acy_eq n hn s]
  unfold spec_l4Acyclic.f
  have key := loopA (fun a k => spec_l4Acyclic.l0 k a n s) n (m1 n s) true 0 (by omega) ?_ ?_
  · simpa using key
  · exact Ev.step (fun k => spec_l4Acyclic.l0.eq_2 ..) (Ev.ite_neg (by omega) (Ev.now _))
  · intro a _ ha h0
    have key1 := loopA (fun b k => spec_l4Acyclic.l1 k a b n s) n (m2 n s a) (((List.range n).drop (a + 1)).all (m1 n s) && true) (a + 1) (by omega) ?_ ?_
    · refine Ev.step (fun k => spec_l4Acyclic.l0.eq_2 ..) (Ev.ite_pos (by omega) ?_)
      rw [wrap_nat a (by omega)]
      exact key1
    · refine Ev.step (fun k => spec_l4Acyclic.l1.eq_2 ..) (Ev.ite_neg (by omega) ?_)
      rw [wrap_nat a (by omega)]
      exact h0
    · intro b hab hb h1
      have key2 := loopA (fun c k => spec_l4Acyclic.l2 k a b c n s) n (m3 n s a b) (((List.range n).drop (b + 1)).all (m2 n s a) && (((List.range n).drop (a + 1)).all (m1 n s) && true)) (b + 1) (by omega) ?_ ?_
      · refine Ev.step (fun k => spec_l4Acyclic.l1.eq_2 ..) (Ev.ite_pos (by omega) ?_)
        rw [wrap_nat b (by omega)]
        exact key2
      · refine Ev.step (fun k => spec_l4Acyclic.l2.eq_2 ..) (Ev.ite_neg (by omega) ?_)
        rw [wrap_nat b (by omega)]
        exact h1
      · intro c hbc hc h2
        have key3 := loopA (fun d k => spec_l4Acyclic.l3 k a b c d n s) n (m4 n s a b c) (((List.range n).drop (c + 1)).all (m3 n s a b) && (((List.range n).drop (b + 1)).all (m2 n s a) && (((List.range n).drop (a + 1)).all (m1 n s) && true))) (c + 1) (by omega) ?_ ?_
        · refine Ev.step (fun k => spec_l4Acyclic.l2.eq_2 ..) (Ev.ite_pos (by omega) ?_)
          rw [wrap_nat c (by omega)]
          exact key3
        · refine Ev.step (fun k => spec_l4Acyclic.l3.eq_2 ..) (Ev.ite_neg (by omega) ?_)
          rw [wrap_nat c (by omega)]
          exact h2
        · intro d hcd hd h3
          refine Ev.step (fun k => spec_l4Acyclic.l3.eq_2 ..) (Ev.ite_pos (by omega) (Ev.bind (spec_circuit_ev n hn s hs a b c d (by omega) (by omega) (by omega) (by omega)) ?_))
          rw [show m4 n s a b c d = !decide ((circT (sg n s b c d) (sg n s a c d) (sg n s a b d) (sg n s a b c)).toList = ([43, 43, 43, 43] : List UInt8)) from rfl, wrap_nat d (by omega)]
          by_cases h : (circT (sg n s b c d) (sg n s a c d) (sg n s a b d) (sg n s a b c)).toList = ([43, 43, 43, 43] : List UInt8)
          · rw [decide_eq_true h]
            exact Ev.ite_pos h (Ev.now _)
          · rw [decide_eq_false h]
            exact Ev.ite_neg h (by simpa using h3)
def isA (n : Int) (s : ByteArray) : Bool := isM n s && acyT n.toNat s
theorem isM_S {n : Int} {s : ByteArray} (h : isM n s = true) : isS n s = true := by
  unfold isM at h
  rw [Bool.and_eq_true] at h
  exact h.1
theorem spec_IsAcyclic_ev (n : Int) (s : ByteArray) : Ev (fun k => spec_IsAcyclic.f k n s) (isA n s) := by
  unfold spec_IsAcyclic.f isA
  refine Ev.bind (spec_IsMatroid_ev n s) ?_
  cases hM : isM n s with
  | false => exact Ev.ite_neg (by simp) (Ev.now _)
  | true =>
    obtain ⟨h3, h7, hs, _⟩ := isS_bounds (isM_S hM)
    obtain ⟨n, rfl⟩ := Int.eq_ofNat_of_zero_le (show 0 ≤ n by omega)
    rw [Int.toNat_natCast] at hs ⊢
    exact Ev.ite_pos rfl (Ev.bind (spec_acy_ev n (by omega) s hs) (Ev.now _))
theorem impl_IsAcyclic_ev (n : Int) (s : ByteArray) : Ev (fun k => impl_IsAcyclic.f k n s) (isA n s) := by
  unfold impl_IsAcyclic.f isA
  refine Ev.bind (impl_IsMatroid_ev n s) ?_
  cases hM : isM n s with
  | false => exact Ev.ite_neg (by simp) (Ev.now _)
  | true =>
    obtain ⟨h3, h7, hs, _⟩ := isS_bounds (isM_S hM)
    obtain ⟨n, rfl⟩ := Int.eq_ofNat_of_zero_le (show 0 ≤ n by omega)
    rw [Int.toNat_natCast] at hs ⊢
    exact Ev.ite_pos rfl (Ev.bind (tableOf_ev n (by omega) s hs) (Ev.bind (impl_acy_ev n (by omega) s) (Ev.now _)))
theorem loopR {β ρ : Type} (g : List β → Nat → Nat → Option ρ) (m : Nat) (item : Nat → List β) (tail R : List β) (r : ρ) (lo : Nat) (hlo : lo ≤ m) (hend : ∀ acc, acc ++ tail = R → Ev (g acc m) r)
    (hstep : ∀ c, lo ≤ c → c < m → ∀ acc X, acc ++ (item c ++ X) = R → (∀ acc', acc' ++ X = R → Ev (g acc' (c + 1)) r) → Ev (g acc c) r) : ∀ acc, acc ++ (((List.range m).drop lo).flatMap item ++ tail) = R → Ev (g acc lo) r := by
  have key : ∀ d c, lo ≤ c → c + d = m → ∀ acc, acc ++ (((List.range m).drop c).flatMap item ++ tail) = R → Ev (g acc c) r := by
    intro d
    induction d with
    | zero =>
      intro c _ hc acc h
      obtain rfl : c = m := by omega
      rw [List.drop_of_length_le (by simp)] at h
      exact hend acc (by simpa using h)
    | succ d ih =>
      intro c hl hc acc h
      rw [range_drop' m c (by omega), List.flatMap_cons, List.append_assoc] at h
      exact hstep c hl (by omega) acc _ h (fun acc' h' => ih (c + 1) (by omega) (by omega) acc' h')
  exact key (m - lo) lo (Nat.le_refl _) (by omega)
theorem flat_range {α β : Type} (d : α) (f : α → List β) (l : List α) : l.flatMap f = (List.range l.length).flatMap fun i => f (l.getD i d) := by
  have h : l = (List.range l.length).map fun i => l.getD i d := by
    apply List.ext_getElem
    · simp
    · intro i h1 h2
      simp [h1]
  conv => lhs; rw [h]
  rw [List.flatMap_map]
def tup3 (q : T3) : Int × Int × Int := (q.f0, q.f1, q.f2)
def untup3 (q : Int × Int × Int) : T3 := ⟨q.1, q.2.1, q.2.2⟩
theorem untup3_map (l : List T3) : (l.map tup3).map untup3 = l := by
  rw [List.map_map]
  exact (List.map_congr_left (fun a _ => rfl)).trans (List.map_id l)
def list3 (n : Nat) : List T3 :=
  ((List.range n).drop 0).flatMap fun a : Nat => ((List.range n).drop (a + 1)).flatMap fun b : Nat => ((List.range n).drop (b + 1)).map fun c : Nat => (⟨a, b, c⟩ : T3)
theorem all_3 : (List.range 8).all (fun n => (list3 n).map tup3 == (tri n).map tup3) = true := by decide +kernel
theorem list3_eq (n : Nat) (hn : n ≤ 7) : list3 n = tri n := by
  have h := all_3
  rw [List.all_eq_true] at h
  have h := congrArg (List.map untup3) (eq_of_beq (h n (by simp; omega)))
  rwa [untup3_map, untup3_map] at h
end Go.Proofs.Ytoajlmlobaccdaa.Pure
