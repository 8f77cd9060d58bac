/- What the law FnPure reaches, part 15: functions as plain Lean functions with the proofs that their calls come to them, and plain lemmas over these. Put together by a program (wip/pack.py). -/
import Derived.Test.YtoajlmlobaccdaaKFnPureg
import Derived.Test.YtoajlmlobaccdaaKFnPurei
import Derived.Test.YtoajlmlobaccdaaKFnPurej
import Derived.Test.YtoajlmlobaccdaaKFnPuren
import Derived.Sort.Defs
import Derived.Test.YtoajlmlobaccdaaKFnPureh
import Derived.Test.YtoajlmlobaccdaaKFnPurec
import Derived.Test.YtoajlmlobaccdaaKFnPurea
import Derived.Test.YtoajlmlobaccdaaKFnPurem
namespace Go.Proofs.Ytoajlmlobaccdaa.Pure
set_option linter.unusedSimpArgs false
set_option linter.unusedVariables false
open Go.RowKit Go.Proofs.YtoajlmlobaccdaaW.PrintWords Go.Proofs.Ytoajlmlobaccdaa.P Go.Proofs.Ytoajlmlobaccdaa.Pl
theorem isW_run2 {n : Nat} {w : List Int} (h : isW n w = true) : ∃ r, runW (upTo n) w = some r ∧ 3 ≤ n ∧ n ≤ 6 ∧ 2 * w.length = n * (n - 1) := by
  unfold isW at h
  rw [Bool.and_eq_true, decide_eq_true_eq, Int.toNat_natCast] at h
  obtain ⟨⟨h3, h6, hc⟩, hr⟩ := h
  obtain ⟨r, hr⟩ := Option.isSome_iff_exists.1 hr
  have : n = 3 ∨ n = 4 ∨ n = 5 ∨ n = 6 := by omega
  refine ⟨r, hr, by omega, by omega, ?_⟩
  obtain rfl | rfl | rfl | rfl := this
  · have : Int.tdiv (((3 : Nat) : Int) * (((3 : Nat) : Int) - 1)) 2 = 3 := by decide
    omega
  · have : Int.tdiv (((4 : Nat) : Int) * (((4 : Nat) : Int) - 1)) 2 = 6 := by decide
    omega
  · have : Int.tdiv (((5 : Nat) : Int) * (((5 : Nat) : Int) - 1)) 2 = 10 := by decide
    omega
  · have : Int.tdiv (((6 : Nat) : Int) * (((6 : Nat) : Int) - 1)) 2 = 15 := by decide
    omega
theorem run_swA_ev (n : Nat) (hn : 2 ≤ n) (hn6 : n ≤ 1000) (w : List Int) (hw : w.length ≤ 1000) : ∀ d i, i + d = w.length → ∀ (l r : List Int) (xs : List (List Int)), runW l (w.drop i) = some r → l.length = n → xs.length ≤ i → Ev (fun k => impl_run_sw.l0 k n l xs w w.length i) (true, xs ++ swL l (w.drop i))
  | 0, i, hi, l, r, xs, hr, hl, hx => by
    refine Ev.step (fun k => impl_run_sw.l0.eq_2 ..) (Ev.ite_neg (by omega) (Ev.const ?_))
    rw [List.drop_of_length_le (by omega)]
    simp [swL]
  | d + 1, i, hi, l, r, xs, hr, hl, hx => by
    refine Ev.step (fun k => impl_run_sw.l0.eq_2 ..) ?_
    rw [drop_rd w i (by omega)] at hr ⊢
    generalize rd w (i : Int) = p at hr ⊢
    unfold runW at hr
    by_cases ho : okAt l p
    · rw [if_pos ho] at hr
      obtain ⟨o1, o2, o3⟩ := ho
      refine Ev.ite_pos (by omega) (Ev.ite_pos (by omega) (Ev.ite_pos (by omega) ?_))
      rw [wrap_in (n := (n : Int) - 2) (by omega) (by omega), wrap_in (n := p + 1) (by omega) (by omega)]
      refine Ev.ite_neg (by omega) (Ev.ite_neg (by omega) (Ev.ite_pos (by omega) (Ev.ite_pos (by omega) (Ev.ite_pos (by omega) (Ev.ite_pos (by omega) (Ev.ite_neg (by omega) (Ev.ite_pos (by omega) ?_)))))))
      rw [wrap_nat i (by omega), swL]
      have h := run_swA_ev n hn hn6 w hw d (i + 1) (by omega) (swp l p) r (xs ++ [[rd l p, rd l (p + 1)]]) hr (by rw [swp_length]; exact hl) (by rw [List.length_append, List.length_singleton]; omega)
      rw [List.append_assoc] at h
      exact h
    · rw [if_neg ho] at hr
      cases hr
theorem cloneI (l : List Int) (h : l.length ≤ 1000) : slices_Clone_Sint_int.f l = some l := by
  unfold slices_Clone_Sint_int.f
  rw [Option.bind_some, if_pos (by rw [List.length_nil]; omega), List.nil_append]
theorem turn_both (n : Int) (w : List Int) : ∃ r : List Int × Bool, r.1.length ≤ 16 ∧ Ev (fun k => spec_TurnWiring.f k n w) r ∧ Ev (fun k => impl_TurnWiring.f k n w) r := by
  have hS := spec_IsWiring_ev n w
  have hI := impl_IsWiring_ev n w
  unfold spec_TurnWiring.f impl_TurnWiring.f
  cases hA : isW n w with
  | false =>
    rw [hA] at hS hI
    exact ⟨([], false), by simp, Ev.bind hS (Ev.ite_neg (by simp) (Ev.now _)), Ev.bind hI (Ev.ite_neg (by simp) (Ev.now _))⟩
  | true =>
    rw [hA] at hS hI
    obtain ⟨h3, h6, hl⟩ := isW_bounds hA
    obtain ⟨m, rfl⟩ := Int.eq_ofNat_of_zero_le (show 0 ≤ n by omega)
    obtain ⟨_, _, m3, m6, hm⟩ := isW_run2 hA
    have h1 : 3 ≤ w.length := by
      have : m = 3 ∨ m = 4 ∨ m = 5 ∨ m = 6 := by omega
      rcases this with rfl | rfl | rfl | rfl <;> omega
    have hd : (w.drop 1).length = w.length - 1 := List.length_drop
    refine ⟨(w.drop 1 ++ [wrap64 ((wrap64 ((m : Int) - 2)) - (rd w 0))], true), by rw [List.length_append, List.length_singleton]; omega, Ev.bind hS (Ev.ite_pos rfl (Ev.bind0 rfl (Ev.ite_pos (by omega) (Ev.ite_pos (by rw [List.length_nil]; omega) (Ev.bind0 rfl (Ev.ite_pos (by omega) (Ev.bind0 rfl (Ev.ite_pos ?_ (Ev.now _))))))))), Ev.bind hI (Ev.ite_pos rfl (Ev.ite_pos (by omega) (Ev.bind0 (cloneI _ (by omega)) (Ev.ite_pos (by omega) (Ev.bind0 rfl (Ev.ite_pos ?_ (Ev.now _)))))))⟩
    · rw [List.nil_append, List.length_singleton]; omega
    · rw [List.length_singleton]; omega
theorem l12Swaps_ev (w : List Int) (hw : w.length ≤ 1000) : ∀ d i, i + d = w.length → ∀ (l r : List Int) (xs : List (List Int)), runW l (w.drop i) = some r → 2 ≤ l.length → l.length ≤ 1000 → xs.length ≤ i → Ev (fun k => spec_l12Swaps.l0 k w xs l i) (xs ++ swL l (w.drop i))
  | 0, i, hi, l, r, xs, hr, hl, hl2, hx => by
    refine Ev.step (fun k => spec_l12Swaps.l0.eq_2 ..) (Ev.ite_neg (by omega) (Ev.const ?_))
    rw [List.drop_of_length_le (by omega)]
    simp [swL]
  | d + 1, i, hi, l, r, xs, hr, hl, hl2, hx => by
    refine Ev.step (fun k => spec_l12Swaps.l0.eq_2 ..) ?_
    rw [drop_rd w i (by omega)] at hr ⊢
    generalize rd w (i : Int) = p at hr ⊢
    unfold runW at hr
    by_cases ho : okAt l p
    · rw [if_pos ho] at hr
      have ho' := ho
      obtain ⟨o1, o2, o3⟩ := ho
      have hs := l12Swap_eq l p hl2 hl
      rw [if_pos ho'] at hs
      refine Ev.ite_pos (by omega) (Ev.ite_pos (by omega) (Ev.ite_pos (by omega) (Ev.ite_pos (by omega) ?_)))
      rw [wrap_in (n := p + 1) (by omega) (by omega)]
      refine Ev.ite_pos (by omega) (Ev.ite_pos (by omega) (Ev.ite_pos (by omega) (Ev.bind0 hs ?_)))
      rw [wrap_nat i (by omega), swL]
      have h := l12Swaps_ev w hw d (i + 1) (by omega) (swp l p) r (xs ++ [[rd l p, rd l (p + 1)]]) hr (by rw [swp_length]; exact hl) (by rw [swp_length]; exact hl2) (by rw [List.length_append, List.length_singleton]; omega)
      rw [List.append_assoc] at h
      exact h
    · rw [if_neg ho] at hr
      cases hr
theorem swaps_both (n : Int) (w : List Int) : ∃ r : List (List Int), r.length ≤ 15 ∧ (∀ l ∈ r, l.length ≤ 16) ∧ Ev (fun k => spec_SwapsOf.f k n w) r ∧ Ev (fun k => impl_SwapsOf.f k n w) r := by
  have hS := spec_IsWiring_ev n w
  have hI := impl_IsWiring_ev n w
  unfold spec_SwapsOf.f impl_SwapsOf.f
  cases hA : isW n w with
  | false =>
    rw [hA] at hS hI
    exact ⟨[], by simp, by simp, Ev.bind hS (Ev.ite_neg (by simp) (Ev.now _)), Ev.bind hI (Ev.ite_neg (by simp) (Ev.now _))⟩
  | true =>
    rw [hA] at hS hI
    obtain ⟨h3, h6, hl⟩ := isW_bounds hA
    obtain ⟨m, rfl⟩ := Int.eq_ofNat_of_zero_le (show 0 ≤ n by omega)
    obtain ⟨r, hr, m3, m6, hm⟩ := isW_run2 hA
    have e1 := l12Swaps_ev w (by omega) w.length 0 (by omega) (upTo m) r [] hr (by rw [upTo_length]; omega) (by rw [upTo_length]; omega) (Nat.le_refl _)
    have e2 := run_swA_ev m (by omega) (by omega) w (by omega) w.length 0 (by omega) (upTo m) r [] hr (upTo_length m) (Nat.le_refl _)
    have hlen : ∀ (w l : List Int), (swL l w).length = w.length := by
      intro w
      induction w with
      | nil => intro l; rfl
      | cons p w ih => intro l; rw [swL, List.length_cons, List.length_cons, ih]
    have e3 : Ev (fun k => impl_run_sw.f k m w []) (true, swL (upTo m) w) := by
      unfold impl_run_sw.f
      exact Ev.bind (impl_upTo_ev m (by omega)) e2
    have hin : ∀ (w l : List Int), ∀ x ∈ swL l w, x.length ≤ 16 := by
      intro w
      induction w with
      | nil => intro l x hx; cases hx
      | cons p w ih =>
        intro l x hx
        rw [swL] at hx
        rcases List.mem_cons.1 hx with rfl | hx
        · simp
        · exact ih _ x hx
    refine ⟨swL (upTo m) w, by rw [hlen]; omega, hin w (upTo m), Ev.bind hS (Ev.ite_pos rfl (Ev.bind ?_ (Ev.now _))), Ev.bind hI (Ev.ite_pos rfl (Ev.bind e3 (Ev.now _)))⟩
    · unfold spec_l12Swaps.f
      exact Ev.bind (spec_l12Start_ev m (by omega)) e1
end Go.Proofs.Ytoajlmlobaccdaa.Pure
namespace Go.Proofs.Ytoajlmlobaccdaa.Pl
set_option linter.unusedSimpArgs false
set_option linter.unusedVariables false
section
variable {α : Type} [Inhabited α]
def posR (lt : α → α → Bool) (x : α) (L : List α) : Nat → Nat
  | 0 => 0
  | p + 1 => if lt x L[p]! then posR lt x L p else p + 1
theorem posR_le (lt : α → α → Bool) (x : α) (L : List α) : ∀ p, posR lt x L p ≤ p
  | 0 => Nat.le_refl _
  | p + 1 => by
    unfold posR
    split
    · exact Nat.le_succ_of_le (posR_le lt x L p)
    · exact Nat.le_refl _
def insR (lt : α → α → Bool) (x : α) (L : List α) : List α := L.take (posR lt x L L.length) ++ x :: L.drop (posR lt x L L.length)
theorem insR_length (lt : α → α → Bool) (x : α) (L : List α) : (insR lt x L).length = L.length + 1 := by
  unfold insR
  have := posR_le lt x L L.length
  rw [List.length_append, List.length_take, List.length_cons, List.length_drop]
  omega
def insS (lt : α → α → Bool) : List α → List α → List α
  | S, [] => S
  | S, x :: r => insS lt (insR lt x S) r
theorem insS_length (lt : α → α → Bool) : ∀ (r S : List α), (insS lt S r).length = S.length + r.length
  | [], S => rfl
  | x :: r, S => by
    rw [insS, insS_length lt r, insR_length, List.length_cons]
    omega
end
section
variable {α β : Type} [Inhabited α] [Inhabited β]
end
end Go.Proofs.Ytoajlmlobaccdaa.Pl
namespace Go.Proofs.Ytoajlmlobaccdaa.Pure
set_option linter.unusedSimpArgs false
set_option linter.unusedVariables false
open Go.RowKit Go.Proofs.YtoajlmlobaccdaaW.PrintWords Go.Proofs.Ytoajlmlobaccdaa.P Go.Proofs.Ytoajlmlobaccdaa.Pl
abbrev PtS := S56
instance : Inhabited PtS := ⟨z56⟩
def ltP (p q : PtS) : Bool := if p.f0 < q.f0 then true else if p.f0 = q.f0 then decide (p.f1 < q.f1) else false
def cmpC (a b : Int) : Int := if a < b then -1 else if a > b then 1 else 0
theorem compare_eq (a b : Int) : cmp_Compare_int.f a b = some (cmpC a b) := by
  unfold cmp_Compare_int.f cmp_isNaN_int.f cmpC
  simp
  split
  · rfl
  · split <;> rfl
theorem or2_ev (a b : Int) : Ev (fun k => cmp_Or_int.f k [a, b]) (if a = 0 then b else a) := by
  unfold cmp_Or_int.f
  refine Ev.step (fun k => cmp_Or_int.l0.eq_2 ..) (Ev.ite_pos (by simp) (Ev.ite_pos (by omega) (Ev.ite_pos (by simp) ?_)))
  have h0 : rd [a, b] 0 = a := rfl
  have h1 : rd [a, b] 1 = b := rfl
  rw [h0, show wrap64 ((0 : Int) + 1) = 1 from by rw [wrap_in (by omega) (by omega)]; rfl]
  by_cases ha : a = 0
  · rw [if_pos ha]
    refine Ev.ite_pos ha (Ev.step (fun k => cmp_Or_int.l0.eq_2 ..) (Ev.ite_pos (by simp) (Ev.ite_pos (by omega) (Ev.ite_pos (by simp) ?_))))
    rw [h1, show wrap64 ((1 : Int) + 1) = 2 from by rw [wrap_in (by omega) (by omega)]; rfl]
    by_cases hb : b = 0
    · rw [hb]
      exact Ev.ite_pos rfl (Ev.step (fun k => cmp_Or_int.l0.eq_2 ..) (Ev.ite_neg (by simp) (Ev.now _)))
    · exact Ev.ite_neg hb (Ev.now _)
  · rw [if_neg ha]
    exact Ev.ite_neg ha (Ev.now _)
theorem cmpP_ev (p q : PtS) : ∃ c, Ev (fun k => impl_SortPoints_1.f k p.f0 p.f1 q.f0 q.f1) c ∧ (c < 0 ↔ ltP p q = true) := by
  refine ⟨if cmpC p.f0 q.f0 = 0 then cmpC p.f1 q.f1 else cmpC p.f0 q.f0, ?_, ?_⟩
  · unfold impl_SortPoints_1.f
    exact Ev.bind0 (compare_eq _ _) (Ev.bind0 (compare_eq _ _) (Ev.bind (or2_ev _ _) (Ev.now _)))
  · unfold cmpC ltP
    by_cases h1 : p.f0 < q.f0
    · simp [h1]
    · by_cases h2 : p.f0 = q.f0
      · simp [h2]
        by_cases h3 : p.f1 < q.f1
        · simp [h3]
        · by_cases h4 : q.f1 < p.f1 <;> simp [h3, h4]
      · have h3 : q.f0 < p.f0 := by omega
        simp [h1, h2, h3]
theorem rdS_lt (L : List PtS) (j : Nat) (h : j < L.length) : rd_T56 L (j : Int) = L[j] := by
  unfold rd_T56
  rw [Int.toNat_natCast, getD_lt _ _ _ h]
theorem pt_eta (p : PtS) : (⟨p.f0, p.f1⟩ : PtS) = p := rfl
theorem insP_l1 (S R : List PtS) (x : PtS) (b i : Nat) (hl : S.length + R.length ≤ 1000) (r : List PtS) (hr : Ev (fun k => slices_insertionSortCmpFunc_impl_Point_impl_SortPoints_1.l0 k (S.take (posR ltP x S S.length) ++ x :: (S.drop (posR ltP x S S.length) ++ R)) 0 b (wrap64 ((i : Int) + 1))) r) :
    ∀ p, p ≤ S.length → posR ltP x S p = posR ltP x S S.length → Ev (fun k => slices_insertionSortCmpFunc_impl_Point_impl_SortPoints_1.l1 k (S.take p ++ x :: (S.drop p ++ R)) 0 b i (p : Nat)) r
  | 0, hp, he => by
    rw [← he] at hr
    exact Ev.step (fun k => slices_insertionSortCmpFunc_impl_Point_impl_SortPoints_1.l1.eq_2 ..) (Ev.ite_neg (by omega) hr)
  | p + 1, hp, he => by
    have hpl : p < S.length := by omega
    have hw : wrap64 (((p + 1 : Nat) : Int) - 1) = (p : Int) := by rw [wrap_in (by omega) (by omega)]; omega
    have hA : S.take (p + 1) = S.take p ++ [S[p]] := List.take_succ_eq_append_getElem hpl
    have hlen : (S.take (p + 1) ++ x :: (S.drop (p + 1) ++ R)).length = S.length + R.length + 1 := by
      rw [List.length_append, List.length_take, List.length_cons, List.length_append, List.length_drop]
      omega
    have htl : (S.take p).length = p := by rw [List.length_take]; omega
    have htl1 : (S.take (p + 1)).length = p + 1 := by rw [List.length_take]; omega
    have r1 : rd_T56 (S.take (p + 1) ++ x :: (S.drop (p + 1) ++ R)) ((p + 1 : Nat) : Int) = x := by
      rw [rdS_lt _ _ (by omega), List.getElem_append_right (by omega)]
      simp [htl1]
    have r0 : rd_T56 (S.take (p + 1) ++ x :: (S.drop (p + 1) ++ R)) (p : Int) = S[p] := by
      rw [rdS_lt _ _ (by omega), List.getElem_append_left (by omega), List.getElem_take]
    have hg : S[p]! = S[p] := getElem!_pos S p hpl
    obtain ⟨c, hc, hcl⟩ := cmpP_ev x S[p]
    refine Ev.step (fun k => slices_insertionSortCmpFunc_impl_Point_impl_SortPoints_1.l1.eq_2 ..) (Ev.ite_pos (by omega) (Ev.ite_pos (by omega) (Ev.ite_pos (by omega) ?_)))
    rw [hw]
    refine Ev.ite_pos (by omega) (Ev.ite_pos (by omega) ?_)
    rw [r1, r0]
    refine Ev.bind hc ?_
    have he' : posR ltP x S (p + 1) = (if ltP x S[p]! = true then posR ltP x S p else p + 1) := rfl
    rw [he', hg] at he
    by_cases hb : ltP x S[p] = true
    · rw [if_pos hb] at he
      refine Ev.ite_pos (hcl.2 hb) ?_
      have ih := insP_l1 S R x b i hl r hr p (by omega) he
      have e : (((S.take (p + 1) ++ x :: (S.drop (p + 1) ++ R)).set ((p + 1 : Nat) : Int).toNat (⟨S[p].f0, S[p].f1⟩ : PtS)).set ((p : Nat) : Int).toNat (⟨x.f0, x.f1⟩ : PtS)) = S.take p ++ x :: (S.drop p ++ R) := by
        rw [Int.toNat_natCast, Int.toNat_natCast, pt_eta, pt_eta, hA, List.append_assoc, List.drop_eq_getElem_cons hpl]
        rw [List.set_append_right _ _ (by omega), htl, show p + 1 - p = 1 by omega]
        show (S.take p ++ S[p] :: S[p] :: (S.drop (p + 1) ++ R)).set p x = _
        rw [List.set_append_right _ _ (by omega), htl, Nat.sub_self]
        rfl
      rw [e]
      exact ih
    · rw [if_neg hb] at he
      refine Ev.ite_neg (fun h => hb (hcl.1 h)) ?_
      rw [← he] at hr
      exact hr
theorem insP_l0 : ∀ (R S : List PtS) (b : Nat), b = S.length + R.length → b ≤ 1000 → Ev (fun k => slices_insertionSortCmpFunc_impl_Point_impl_SortPoints_1.l0 k (S ++ R) 0 b S.length) (insS ltP S R)
  | [], S, b, hb, h1 => by
    refine Ev.step (fun k => slices_insertionSortCmpFunc_impl_Point_impl_SortPoints_1.l0.eq_2 ..) (Ev.ite_neg (by simp at hb; omega) (Ev.const ?_))
    rw [List.append_nil, insS]
  | x :: R, S, b, hb, h1 => by
    rw [List.length_cons] at hb
    have ih := insP_l0 R (insR ltP x S) b (by rw [insR_length]; omega) h1
    refine Ev.step (fun k => slices_insertionSortCmpFunc_impl_Point_impl_SortPoints_1.l0.eq_2 ..) (Ev.ite_pos (by omega) ?_)
    rw [insS]
    have h2 := insP_l1 S R x b S.length (by omega) (insS ltP (insR ltP x S) R) (by
      rw [insR_length] at ih
      rw [wrap_nat S.length (by omega)]
      unfold insR at ih ⊢
      rw [List.append_assoc, List.cons_append] at ih
      exact ih) S.length (Nat.le_refl _) rfl
    rw [List.take_of_length_le (Nat.le_refl _), List.drop_of_length_le (Nat.le_refl _), List.nil_append] at h2
    exact h2
theorem sortFunc_ev (L : List PtS) (h1 : 1 ≤ L.length) (h2 : L.length ≤ 12) : Ev (fun k => slices_SortFunc_Simpl_Point_impl_Point_impl_SortPoints_1.f k L ()) (insS ltP [] L) := by
  unfold slices_SortFunc_Simpl_Point_impl_Point_impl_SortPoints_1.f slices_insertionSortCmpFunc_impl_Point_impl_SortPoints_1.f
  refine Ev.ite_pos h2 ?_
  match L, h1 with
  | x :: R, _ =>
    have h := insP_l0 R [x] (x :: R).length (by rw [List.length_cons, List.length_singleton]; omega) (by omega)
    have e : insS ltP [x] R = insS ltP [] (x :: R) := by
      rw [insS]
      rfl
    rw [e] at h
    rw [show wrap64 ((0 : Int) + 1) = (([x] : List PtS).length : Int) from by rw [wrap_in (by omega) (by omega)]; rfl]
    exact h
theorem before_eq (p q : PtS) : spec_l2Before.f p.f0 p.f1 q.f0 q.f1 = some (ltP p q) := by
  unfold spec_l2Before.f ltP
  split
  · rfl
  · split <;> rfl
theorem specP_l1 (L S : List PtS) (i : Nat) (hi : i < L.length) (hL : L.length ≤ 1000) (hl : S.length ≤ 1000) (r : List PtS) (hr : Ev (fun k => spec_SortPoints.l0 k L (insR ltP L[i] S) (wrap64 ((i : Int) + 1))) r) :
    ∀ p, p ≤ S.length → posR ltP L[i] S p = posR ltP L[i] S S.length → Ev (fun k => spec_SortPoints.l1 k L S i (p : Nat)) r
  | 0, hp, he => by
    have h0 : posR ltP L[i] S S.length = 0 := he.symm
    unfold insR at hr
    rw [h0, List.take_zero, List.nil_append, List.drop_zero] at hr
    refine Ev.step (fun k => spec_SortPoints.l1.eq_2 ..) (Ev.ite_neg (by omega) (Ev.bind0 rfl (Ev.ite_pos (by omega) (Ev.ite_pos (by omega) (Ev.bind0 rfl (Ev.ite_pos (by simp; omega) (Ev.bind0 rfl (Ev.bind0 rfl ?_))))))))
    refine Ev.ite_pos (by omega) (Ev.ite_pos (by omega) (Ev.ite_pos (by simp) (Ev.bind0 rfl (Ev.ite_pos (by simp; omega) ?_))))
    rw [rdS_lt L i hi]
    simpa using hr
  | p + 1, hp, he => by
    have hpl : p < S.length := by omega
    have hw : wrap64 (((p + 1 : Nat) : Int) - 1) = (p : Int) := by rw [wrap_in (by omega) (by omega)]; omega
    have hg : S[p]! = S[p] := getElem!_pos S p hpl
    have he' : posR ltP L[i] S (p + 1) = (if ltP L[i] S[p]! = true then posR ltP L[i] S p else p + 1) := rfl
    rw [he', hg] at he
    refine Ev.step (fun k => spec_SortPoints.l1.eq_2 ..) (Ev.ite_pos (by omega) (Ev.ite_pos (by omega) (Ev.ite_pos (by omega) ?_)))
    rw [hw]
    refine Ev.ite_pos (by omega) (Ev.ite_pos (by omega) ?_)
    rw [rdS_lt L i hi, rdS_lt S p hpl]
    refine Ev.bind0 (before_eq _ _) ?_
    by_cases hb : ltP L[i] S[p] = true
    · rw [if_pos hb] at he
      exact Ev.ite_pos hb (specP_l1 L S i hi hL hl r hr p (by omega) he)
    · rw [if_neg hb] at he
      unfold insR at hr
      rw [← he] at hr
      refine Ev.ite_neg hb (Ev.bind0 rfl (Ev.ite_pos (by omega) (Ev.ite_pos (by omega) (Ev.bind0 rfl (Ev.ite_pos (by simp; omega) (Ev.bind0 rfl (Ev.bind0 rfl ?_)))))))
      refine Ev.ite_pos (by simp; omega) (Ev.bind0 rfl (Ev.ite_pos (by simp; omega) ?_))
      simpa using hr
theorem specP_l0 (L : List PtS) (hL : L.length ≤ 1000) (hA : Ev (fun k => spec_ArePoints.f k L) true) : ∀ d i (S : List PtS), i + d = L.length → S.length = i → Ev (fun k => spec_SortPoints.l0 k L S (i : Nat)) (insS ltP S (L.drop i))
  | 0, i, S, hi, hS => by
    rw [List.drop_of_length_le (by omega)]
    exact Ev.step (fun k => spec_SortPoints.l0.eq_2 ..) (Ev.ite_neg (by omega) (Ev.step (fun k => spec_SortPoints.j1.eq_2 ..) (Ev.ite_neg (by simp) (Ev.const (by rw [insS])))))
  | d + 1, i, S, hi, hS => by
    have hil : i < L.length := by omega
    rw [List.drop_eq_getElem_cons hil, insS]
    have ih := specP_l0 L hL hA d (i + 1) (insR ltP L[i] S) (by omega) (by rw [insR_length]; omega)
    refine Ev.step (fun k => spec_SortPoints.l0.eq_2 ..) (Ev.ite_pos (by omega) (Ev.bind hA (Ev.step (fun k => spec_SortPoints.j1.eq_2 ..) (Ev.ite_pos rfl ?_))))
    exact specP_l1 L S i hil hL (by omega) _ (by rw [wrap_nat i (by omega)]; exact ih) S.length (Nat.le_refl _) rfl
theorem sort_both (L : List PtS) (hL : L.length ≤ 1000) (b : Bool) (hS : Ev (fun k => spec_ArePoints.f k L) b) (hI : Ev (fun k => impl_ArePoints.f k L) b) (hb : b = true → 1 ≤ L.length ∧ L.length ≤ 12) : ∃ r : List PtS, r.length ≤ 12 ∧ Ev (fun k => spec_SortPoints.f k L) r ∧ Ev (fun k => impl_SortPoints.f k L) r := by
  unfold spec_SortPoints.f impl_SortPoints.f
  cases b with
  | false =>
    refine ⟨[], by simp, ?_, Ev.bind hI (Ev.ite_neg (by simp) (Ev.now _))⟩
    by_cases h0 : (0 : Int) < (L.length : Int)
    · exact Ev.step (fun k => spec_SortPoints.l0.eq_2 ..) (Ev.ite_pos h0 (Ev.bind hS (Ev.step (fun k => spec_SortPoints.j1.eq_2 ..) (Ev.ite_neg (by simp) (Ev.now _)))))
    · exact Ev.step (fun k => spec_SortPoints.l0.eq_2 ..) (Ev.ite_neg h0 (Ev.step (fun k => spec_SortPoints.j1.eq_2 ..) (Ev.ite_neg (by simp) (Ev.now _))))
  | true =>
    obtain ⟨h1, h2⟩ := hb rfl
    have e1 := specP_l0 L hL hS L.length 0 [] (by omega) rfl
    rw [List.drop_zero] at e1
    have hc : slices_Clone_Simpl_Point_impl_Point.f L = some L := by
      unfold slices_Clone_Simpl_Point_impl_Point.f
      rw [Option.bind_some, if_pos (by rw [List.length_nil]; omega), List.nil_append]
    exact ⟨insS ltP [] L, by rw [insS_length]; simpa using h2, e1, Ev.bind hI (Ev.ite_pos rfl (Ev.bind0 hc (Ev.bind (sortFunc_ev L h1 h2) (Ev.now _))))⟩
end Go.Proofs.Ytoajlmlobaccdaa.Pure
namespace Go.Proofs.Ytoajlmlobaccdaa.P
open Go.RowKit Go.Proofs.YtoajlmlobaccdaaW.PrintWords Go.Proofs.YtoajlmlobaccdaaW.PrintLast Go.Proofs.YtoajlmlobaccdaaW.PrintMore
def ix (i j k : Int) : Nat := 1 + i.toNat * 49 + j.toNat * 7 + k.toNat
def setL (l : List Int) (i j k v : Int) : List Int := ((l.set (1 + i.toNat * 49 + j.toNat * 7 + k.toNat) v).set (1 + j.toNat * 49 + k.toNat * 7 + i.toNat) v).set (1 + k.toNat * 49 + i.toNat * 7 + j.toNat) v
def chiSet (l : List Int) (i j k v : Int) : List Int := setL (setL l i j k v) i k j (wrap64 (-v))
def impl_chi_set.f (l : List Int) (i j k v : Int) : Option (List Int) :=
  if l.length = 344 ∧ (0 ≤ i ∧ i < 7) ∧ (0 ≤ j ∧ j < 7) ∧ (0 ≤ k ∧ k < 7) then some (chiSet l i j k v) else none
abbrev TBL (w : World) (base : Nat) (ok : Nat → Prop) (v : Value) (l : List Int) : Prop := Kd.R (Kd.int .i64) 88 w base ok v l
end Go.Proofs.Ytoajlmlobaccdaa.P
namespace Go.Proofs.Ytoajlmlobaccdaa.Pure
set_option linter.unusedSimpArgs false
set_option linter.unusedVariables false
open Go.RowKit Go.Proofs.YtoajlmlobaccdaaW.PrintWords Go.Proofs.Ytoajlmlobaccdaa.P Go.Proofs.Ytoajlmlobaccdaa.Pl
abbrev T3 := S89
def tri : Nat → List T3
  | 3 => [⟨0, 1, 2⟩]
  | 4 => [⟨0, 1, 2⟩, ⟨0, 1, 3⟩, ⟨0, 2, 3⟩, ⟨1, 2, 3⟩]
  | 5 => [⟨0, 1, 2⟩, ⟨0, 1, 3⟩, ⟨0, 1, 4⟩, ⟨0, 2, 3⟩, ⟨0, 2, 4⟩, ⟨0, 3, 4⟩, ⟨1, 2, 3⟩, ⟨1, 2, 4⟩, ⟨1, 3, 4⟩, ⟨2, 3, 4⟩]
  | 6 => [⟨0, 1, 2⟩, ⟨0, 1, 3⟩, ⟨0, 1, 4⟩, ⟨0, 1, 5⟩, ⟨0, 2, 3⟩, ⟨0, 2, 4⟩, ⟨0, 2, 5⟩, ⟨0, 3, 4⟩, ⟨0, 3, 5⟩, ⟨0, 4, 5⟩, ⟨1, 2, 3⟩, ⟨1, 2, 4⟩, ⟨1, 2, 5⟩, ⟨1, 3, 4⟩, ⟨1, 3, 5⟩, ⟨1, 4, 5⟩, ⟨2, 3, 4⟩, ⟨2, 3, 5⟩, ⟨2, 4, 5⟩, ⟨3, 4, 5⟩]
  | 7 => [⟨0, 1, 2⟩, ⟨0, 1, 3⟩, ⟨0, 1, 4⟩, ⟨0, 1, 5⟩, ⟨0, 1, 6⟩, ⟨0, 2, 3⟩, ⟨0, 2, 4⟩, ⟨0, 2, 5⟩, ⟨0, 2, 6⟩, ⟨0, 3, 4⟩, ⟨0, 3, 5⟩, ⟨0, 3, 6⟩, ⟨0, 4, 5⟩, ⟨0, 4, 6⟩, ⟨0, 5, 6⟩, ⟨1, 2, 3⟩, ⟨1, 2, 4⟩, ⟨1, 2, 5⟩, ⟨1, 2, 6⟩, ⟨1, 3, 4⟩, ⟨1, 3, 5⟩, ⟨1, 3, 6⟩, ⟨1, 4, 5⟩, ⟨1, 4, 6⟩, ⟨1, 5, 6⟩, ⟨2, 3, 4⟩, ⟨2, 3, 5⟩, ⟨2, 3, 6⟩, ⟨2, 4, 5⟩, ⟨2, 4, 6⟩, ⟨2, 5, 6⟩, ⟨3, 4, 5⟩, ⟨3, 4, 6⟩, ⟨3, 5, 6⟩, ⟨4, 5, 6⟩]
  | _ => []
theorem tri_some : ∀ n : Nat, n ≤ 7 → impl_triplesOf.f 500 n = some (tri n)
  | 0, _ => by kernel_rfl
  | 1, _ => by kernel_rfl
  | 2, _ => by kernel_rfl
  | 3, _ => by kernel_rfl
  | 4, _ => by kernel_rfl
  | 5, _ => by kernel_rfl
  | 6, _ => by kernel_rfl
  | 7, _ => by kernel_rfl
  | n + 8, h => absurd h (by omega)
theorem triplesOf_ev (n : Nat) (h : n ≤ 7) : Ev (fun k => impl_triplesOf.f k n) (tri n) := Ev.of (impl_triplesOf.mono _) (tri_some n h)
def okT (n : Nat) (t : T3) : Bool := decide (0 ≤ t.f0 ∧ t.f0 < t.f1 ∧ t.f1 < t.f2 ∧ t.f2 < n)
theorem tri_ok (n : Nat) (h : n ≤ 7) : (tri n).all (okT n) = true := by
  have : (List.range 8).all (fun n => (tri n).all (okT n)) = true := by decide +kernel
  rw [List.all_eq_true] at this
  exact this n (by simp; omega)
def put3 (l : List Int) (t : T3) (v : Int) : List Int := chiSet l t.f0 t.f1 t.f2 v
def fill (v : Nat → Int) : List T3 → Nat → List Int → List Int
  | [], _, l => l
  | t :: ts, m, l => fill v ts (m + 1) (put3 l t (v m))
def par (t : T3) (x y z : Int) : Option Bool :=
  if (x = t.f0 ∧ y = t.f1 ∧ z = t.f2) ∨ (x = t.f1 ∧ y = t.f2 ∧ z = t.f0) ∨ (x = t.f2 ∧ y = t.f0 ∧ z = t.f1) then some true
  else if (x = t.f0 ∧ y = t.f2 ∧ z = t.f1) ∨ (x = t.f2 ∧ y = t.f1 ∧ z = t.f0) ∨ (x = t.f1 ∧ y = t.f0 ∧ z = t.f2) then some false else none
def src : List T3 → Nat → Int → Int → Int → Option (Nat × Bool)
  | [], _, _, _, _ => none
  | t :: ts, m, x, y, z => (src ts (m + 1) x y z).or ((par t x y z).map fun b => (m, b))
def sval (v : Nat → Int) (o : Int) : Option (Nat × Bool) → Int
  | some (m, true) => v m
  | some (m, false) => wrap64 (-v m)
  | none => o
abbrev Pt := S56
abbrev rdP (l : List Pt) (i : Nat) : Pt := rd_T56 l (i : Int)
def sgn (x : Int) : Int := if x < 0 then -1 else if x > 0 then 1 else 0
theorem signOf_eq (x : Int) : impl_signOf.f x = some (sgn x) := by
  unfold impl_signOf.f cmp_Compare_int.f cmp_isNaN_int.f sgn
  simp only [bne_self_eq_false, Option.bind_some, Bool.false_eq_true, if_false]
  by_cases h : x < 0
  · simp [h]
  · by_cases h2 : x > 0
    · simp [h, h2]
    · simp [h, h2]
def nearB (b : Int) (p : Pt) : Bool := decide (-b ≤ p.f0 ∧ p.f0 ≤ b) && decide (-b ≤ p.f1 ∧ p.f1 ≤ b)
def areaP (a b c : Pt) : Int := wrap64 ((wrap64 ((wrap64 (b.f0 - a.f0)) * (wrap64 (c.f1 - a.f1)))) - (wrap64 ((wrap64 (b.f1 - a.f1)) * (wrap64 (c.f0 - a.f0)))))
theorem range_dropP (n i : Nat) (h : i < n) : (List.range n).drop i = i :: (List.range n).drop (i + 1) := by
  rw [List.drop_eq_getElem_cons (by simpa using h)]
  simp
theorem l1In_p (x a b : Int) : spec_l1In.f x a b = some (decide (a ≤ x ∧ x ≤ b)) := by
  unfold spec_l1In.f
  by_cases h : x ≥ a
  · rw [if_pos h]
    simp [h]
  · rw [if_neg h]
    simp [show ¬ a ≤ x by omega]
theorem isFar_p (x b : Int) (hb : 0 ≤ b ∧ b ≤ 1000000) : impl_isFar.f x b = some (!decide (-b ≤ x ∧ x ≤ b)) := by
  unfold impl_isFar.f
  rw [wrap_in (by omega) (by omega)]
  by_cases h : x < -b
  · rw [if_pos h]
    simp [show ¬ -b ≤ x by omega]
  · rw [if_neg h]
    by_cases h2 : x ≤ b
    · simp [h2, show -b ≤ x by omega, show ¬ x > b by omega]
    · simp [h2, show x > b by omega]
theorem fits_eq (p : Pt) (b : Int) (hb : 0 ≤ b ∧ b ≤ 1000000) : spec_l2Fits.f p.f0 p.f1 b = some (nearB b p) := by
  unfold spec_l2Fits.f nearB
  rw [wrap_in (by omega) (by omega), l1In_p, l1In_p]
  by_cases h : -b ≤ p.f0 ∧ p.f0 ≤ b
  · simp [h]
  · simp [h]
theorem near1_eq (p : Pt) (b : Int) (hb : 0 ≤ b ∧ b ≤ 1000000) : impl_areNear_1.f p.f0 p.f1 b = some (!nearB b p) := by
  unfold impl_areNear_1.f nearB
  rw [isFar_p _ _ hb, isFar_p _ _ hb]
  by_cases h : -b ≤ p.f0 ∧ p.f0 ≤ b
  · simp [h]
  · simp [h]
def nearAll (b : Int) (l : List Pt) : Bool := (List.range l.length).all fun i => nearB b (rdP l i)
theorem areNear_ev (b : Int) (hb : 0 ≤ b ∧ b ≤ 1000000) (l : List Pt) (hl : l.length ≤ 1048576) : Ev (fun k => impl_areNear.f k b l) (nearAll b l) := by
  have key : ∀ d i, i + d = l.length → ∃ r, Ev (fun k => slices_IndexFunc_Simpl_Point_impl_Point_impl_areNear_1.l0 k l l.length i b) r ∧ decide (r ≥ 0) = !((List.range l.length).drop i).all fun j => nearB b (rdP l j) := by
    intro d
    induction d with
    | zero =>
      intro i hi
      refine ⟨-1, Ev.step (fun k => slices_IndexFunc_Simpl_Point_impl_Point_impl_areNear_1.l0.eq_2 ..) (Ev.ite_neg (by omega) (Ev.now _)), ?_⟩
      rw [List.drop_of_length_le (by simp; omega)]
      rfl
    | succ d ih =>
      intro i hi
      obtain ⟨r, hr, he⟩ := ih (i + 1) (by omega)
      rw [range_dropP _ i (by omega), List.all_cons]
      cases hn : nearB b (rdP l i) with
      | false =>
        refine ⟨i, Ev.step (fun k => slices_IndexFunc_Simpl_Point_impl_Point_impl_areNear_1.l0.eq_2 ..) (Ev.ite_pos (by omega) (Ev.ite_pos (by omega) (Ev.ite_pos (by omega) (Ev.bind0 (near1_eq _ _ hb) (Ev.ite_pos (by rw [hn]; rfl) (Ev.now _)))))), ?_⟩
        simp
      | true =>
        refine ⟨r, Ev.step (fun k => slices_IndexFunc_Simpl_Point_impl_Point_impl_areNear_1.l0.eq_2 ..) (Ev.ite_pos (by omega) (Ev.ite_pos (by omega) (Ev.ite_pos (by omega) (Ev.bind0 (near1_eq _ _ hb) (Ev.ite_neg (by rw [hn]; decide) ?_))))), ?_⟩
        · rw [wrap_nat i (by omega)]
          exact hr
        · rw [he, Bool.true_and]
  obtain ⟨r, hr, he⟩ := key l.length 0 (by omega)
  unfold impl_areNear.f slices_ContainsFunc_Simpl_Point_impl_Point_impl_areNear_1.f slices_IndexFunc_Simpl_Point_impl_Point_impl_areNear_1.f
  refine Ev.bind (Ev.bind hr (Ev.now _)) (Ev.const ?_)
  rw [he, List.drop_zero, Bool.not_not]
  rfl
theorem TurnOf_ev (a b c : Pt) (ha : nearB 50 a = true) (hb : nearB 50 b = true) (hc : nearB 50 c = true) : Ev (fun k => impl_TurnOf.f k a.f0 a.f1 b.f0 b.f1 c.f0 c.f1) (sgn (areaP a b c)) := by
  unfold impl_TurnOf.f
  have h := areNear_ev 1000 (by omega) [a, b, c] (by simp)
  have e : nearAll 1000 [a, b, c] = true := by
    unfold nearB at ha hb hc
    simp only [Bool.and_eq_true, decide_eq_true_eq] at ha hb hc
    simp only [nearAll, List.length_cons, List.length_nil, List.range_succ, List.range_zero, List.nil_append, List.cons_append, List.all_cons, List.all_nil, Bool.and_true, Bool.and_eq_true]
    refine ⟨?_, ?_, ?_⟩
    · show nearB 1000 a = true
      unfold nearB
      simp only [Bool.and_eq_true, decide_eq_true_eq]
      omega
    · show nearB 1000 b = true
      unfold nearB
      simp only [Bool.and_eq_true, decide_eq_true_eq]
      omega
    · show nearB 1000 c = true
      unfold nearB
      simp only [Bool.and_eq_true, decide_eq_true_eq]
      omega
  rw [e] at h
  exact Ev.bind h (Ev.ite_pos rfl (Ev.bind0 rfl (Ev.bind0 (signOf_eq _) (Ev.now _))))
theorem sgn_zero (x : Int) : sgn x = 0 ↔ x = 0 := by
  unfold sgn
  split
  · omega
  · split <;> omega
def bentT (l : List Pt) (t : T3) : Bool := areaP (rd_T56 l t.f0) (rd_T56 l t.f1) (rd_T56 l t.f2) != 0
def bent (l : List Pt) (k j i : Nat) : Bool := areaP (rdP l k) (rdP l j) (rdP l i) != 0
def areP (l : List Pt) : Bool := decide (3 ≤ l.length ∧ l.length ≤ 7) && (nearAll 50 l && (tri l.length).all (bentT l))
theorem nearAll_at {b : Int} {l : List Pt} (h : nearAll b l = true) (i : Nat) (hi : i < l.length) : nearB b (rdP l i) = true := by
  unfold nearAll at h
  rw [List.all_eq_true] at h
  exact h i (by simpa using hi)
theorem impl_ArePoints_ev (l : List Pt) (hl : l.length ≤ 1048576) : Ev (fun k => impl_ArePoints.f k l) (areP l) := by
  unfold impl_ArePoints.f areP
  have no : Ev (fun k => impl_ArePoints.j0 k l true) false := Ev.step (fun k => impl_ArePoints.j0.eq_2 ..) (Ev.ite_pos rfl (Ev.now _))
  by_cases h3 : (l.length : Int) < 3
  · rw [show decide (3 ≤ l.length ∧ l.length ≤ 7) = false from decide_eq_false (by omega), Bool.false_and]
    exact Ev.ite_pos h3 no
  refine Ev.ite_neg h3 ?_
  by_cases h7 : (l.length : Int) > 7
  · rw [show decide (3 ≤ l.length ∧ l.length ≤ 7) = false from decide_eq_false (by omega), Bool.false_and]
    exact Ev.ite_pos h7 no
  refine Ev.ite_neg h7 (Ev.bind (areNear_ev 50 (by omega) l hl) ?_)
  rw [show decide (3 ≤ l.length ∧ l.length ≤ 7) = true from decide_eq_true (by omega), Bool.true_and]
  cases hn : nearAll 50 l with
  | false => exact no
  | true =>
    rw [Bool.true_and]
    refine Ev.step (fun k => impl_ArePoints.j0.eq_2 ..) (Ev.ite_neg (by simp) (Ev.bind (triplesOf_ev l.length (by omega)) ?_))
    have h35 : (tri l.length).length ≤ 1000 := by
      have : (List.range 8).all (fun n => decide ((tri n).length ≤ 1000)) = true := by decide +kernel
      rw [List.all_eq_true] at this
      simpa using this l.length (by simp; omega)
    have key := Ev.loop_to (fun i k => impl_ArePoints.l0 k l (tri l.length) (tri l.length).length i) (tri l.length).length (fun i => ((tri l.length).drop i).all (bentT l)) ?_ ?_ 0 (by omega)
    · simpa using key
    · refine Ev.step (fun k => impl_ArePoints.l0.eq_2 ..) (Ev.ite_neg (by omega) (Ev.const ?_))
      rw [List.drop_of_length_le (by omega)]
      rfl
    · intro i hi ih
      have ht := tri_ok l.length (by omega)
      rw [List.all_eq_true] at ht
      have ht := ht _ (List.getElem_mem hi)
      rw [List.drop_eq_getElem_cons hi, List.all_cons]
      refine Ev.step (fun k => impl_ArePoints.l0.eq_2 ..) (Ev.ite_pos (by omega) (Ev.ite_pos (by omega) (Ev.ite_pos (by omega) ?_)))
      have hr : rd_T89 (tri l.length) (i : Int) = (tri l.length)[i] := by
        unfold rd_T89
        rw [Int.toNat_natCast, getD_lt _ _ _ hi]
      rw [hr]
      generalize (tri l.length)[i] = t at ht ⊢
      unfold okT at ht
      rw [decide_eq_true_eq] at ht
      refine Ev.ite_pos (by omega) (Ev.ite_pos (by omega) (Ev.ite_pos (by omega) (Ev.ite_pos (by omega) (Ev.ite_pos (by omega) (Ev.ite_pos (by omega) ?_)))))
      have hnear : ∀ x : Int, 0 ≤ x → x < (l.length : Int) → nearB 50 (rd_T56 l x) = true := by
        intro x h0 h1
        obtain ⟨x, rfl⟩ := Int.eq_ofNat_of_zero_le h0
        exact nearAll_at hn x (by omega)
      refine Ev.bind (TurnOf_ev _ _ _ (hnear t.f0 (by omega) (by omega)) (hnear t.f1 (by omega) (by omega)) (hnear t.f2 (by omega) (by omega))) ?_
      rw [wrap_nat i (by omega)]
      by_cases hz : areaP (rd_T56 l t.f0) (rd_T56 l t.f1) (rd_T56 l t.f2) = 0
      · rw [show bentT l t = false by unfold bentT; simpa using hz, Bool.false_and]
        exact Ev.ite_pos ((sgn_zero _).mpr hz) (Ev.now _)
      · rw [show bentT l t = true by unfold bentT; simpa using hz, Bool.true_and]
        exact Ev.ite_neg (fun h => hz ((sgn_zero _).mp h)) ih
def okPt (l : List Pt) (i : Nat) : Bool := nearB 50 (rdP l i) && (List.range i).all fun j => (List.range j).all fun k => bent l k j i
theorem spec_loop_p (l : List Pt) (hl : l.length ≤ 1048576) : Ev (fun k => spec_ArePoints.l0 k l ((0 : Nat) : Int)) ((List.range l.length).all (okPt l)) := by
  have key := Ev.loop_to (fun i k => spec_ArePoints.l0 k l i) l.length (fun i => ((List.range l.length).drop i).all (okPt l)) ?_ ?_ 0 (by omega)
  · simpa using key
  · refine Ev.step (fun k => spec_ArePoints.l0.eq_2 ..) (Ev.ite_neg (by omega) (Ev.const ?_))
    rw [List.drop_of_length_le (by simp)]
    rfl
  · intro i hi ih
    rw [range_dropP _ i hi, List.all_cons, show okPt l i = (nearB 50 (rdP l i) && (List.range i).all fun j => (List.range j).all fun k => bent l k j i) from rfl]
    refine Ev.step (fun k => spec_ArePoints.l0.eq_2 ..) (Ev.ite_pos (by omega) (Ev.ite_pos (by omega) (Ev.bind0 (fits_eq _ 50 (by omega)) ?_)))
    cases hn : nearB 50 (rdP l i) with
    | false => exact Ev.ite_neg (by simp) (Ev.now _)
    | true =>
      refine Ev.ite_pos rfl ?_
      rw [Bool.true_and]
      have key1 := Ev.loop_to (fun j k => spec_ArePoints.l1 k l i j) i (fun j => (((List.range i).drop j).all fun j => (List.range j).all fun k => bent l k j i) && ((List.range l.length).drop (i + 1)).all (okPt l)) ?_ ?_ 0 (by omega)
      · simpa using key1
      · refine Ev.step (fun k => spec_ArePoints.l1.eq_2 ..) (Ev.ite_neg (by omega) ?_)
        rw [List.drop_of_length_le (by simp), wrap_nat i (by omega)]
        simpa using ih
      · intro j hj ih1
        rw [range_dropP _ j hj, List.all_cons]
        refine Ev.step (fun k => spec_ArePoints.l1.eq_2 ..) (Ev.ite_pos (by omega) ?_)
        have key2 := Ev.loop_to (fun m k => spec_ArePoints.l2 k l i j m) j (fun m => (((List.range j).drop m).all fun k => bent l k j i) && ((((List.range i).drop (j + 1)).all fun j => (List.range j).all fun k => bent l k j i) && ((List.range l.length).drop (i + 1)).all (okPt l))) ?_ ?_ 0 (by omega)
        · rw [Bool.and_assoc]
          simpa using key2
        · refine Ev.step (fun k => spec_ArePoints.l2.eq_2 ..) (Ev.ite_neg (by omega) ?_)
          rw [List.drop_of_length_le (by simp), wrap_nat j (by omega)]
          simpa using ih1
        · intro m hm ih2
          rw [range_dropP _ m hm, List.all_cons]
          refine Ev.step (fun k => spec_ArePoints.l2.eq_2 ..) (Ev.ite_pos (by omega) (Ev.ite_pos (by omega) (Ev.ite_pos (by omega) (Ev.ite_pos (by omega) (Ev.ite_pos (by omega) (Ev.ite_pos (by omega) (Ev.ite_pos (by omega) (Ev.bind0 (a := areaP (rdP l m) (rdP l j) (rdP l i)) rfl ?_))))))))
          rw [wrap_nat m (by omega)]
          by_cases hz : areaP (rdP l m) (rdP l j) (rdP l i) = 0
          · rw [show bent l m j i = false by unfold bent; simpa using hz, Bool.false_and, Bool.false_and]
            exact Ev.ite_pos hz (Ev.now _)
          · rw [show bent l m j i = true by unfold bent; simpa using hz, Bool.true_and]
            exact Ev.ite_neg hz ih2
theorem all_in : (List.range 8).all (fun n => (List.range n).all fun i => (List.range i).all fun j => (List.range j).all fun k => (tri n).any fun t => t.f0 == (k : Int) && t.f1 == (j : Int) && t.f2 == (i : Int)) = true := by decide +kernel
theorem tri_in (n i j k : Nat) (hn : n ≤ 7) (hi : i < n) (hj : j < i) (hk : k < j) : ∃ t ∈ tri n, t = (⟨k, j, i⟩ : T3) := by
  have h := all_in
  rw [List.all_eq_true] at h
  have h := h n (by simp; omega)
  rw [List.all_eq_true] at h
  have h := h i (by simpa using hi)
  rw [List.all_eq_true] at h
  have h := h j (by simpa using hj)
  rw [List.all_eq_true] at h
  have h := h k (by simpa using hk)
  obtain ⟨t, ht, he⟩ := List.any_eq_true.mp h
  refine ⟨t, ht, ?_⟩
  simp only [Bool.and_eq_true, beq_iff_eq] at he
  obtain ⟨a, b, c⟩ := t
  obtain ⟨⟨rfl, rfl⟩, rfl⟩ := he
  rfl
theorem areP_eq (l : List Pt) (h : 3 ≤ l.length ∧ l.length ≤ 7) : (List.range l.length).all (okPt l) = (nearAll 50 l && (tri l.length).all (bentT l)) := by
  rw [Bool.eq_iff_iff, Bool.and_eq_true, List.all_eq_true, List.all_eq_true]
  unfold nearAll
  rw [List.all_eq_true]
  constructor
  · intro g
    constructor
    · intro i hi
      have := g i hi
      unfold okPt at this
      rw [Bool.and_eq_true] at this
      exact this.1
    · intro t ht
      have hk := tri_ok l.length h.2
      rw [List.all_eq_true] at hk
      have hk := hk t ht
      obtain ⟨a, b, c⟩ := t
      unfold okT at hk
      rw [decide_eq_true_eq] at hk
      dsimp only at hk
      obtain ⟨a, rfl⟩ := Int.eq_ofNat_of_zero_le hk.1
      obtain ⟨b, rfl⟩ := Int.eq_ofNat_of_zero_le (show 0 ≤ b by omega)
      obtain ⟨c, rfl⟩ := Int.eq_ofNat_of_zero_le (show 0 ≤ c by omega)
      have := g c (by simp; omega)
      unfold okPt at this
      rw [Bool.and_eq_true, List.all_eq_true] at this
      have := this.2 b (by simp; omega)
      rw [List.all_eq_true] at this
      have := this a (by simp; omega)
      unfold bent at this
      unfold bentT
      exact this
  · rintro ⟨g1, g2⟩ i hi
    unfold okPt
    rw [Bool.and_eq_true, List.all_eq_true]
    refine ⟨g1 i hi, fun j hj => ?_⟩
    rw [List.all_eq_true]
    intro k hk
    rw [List.mem_range] at hi hj hk
    obtain ⟨t, ht, e⟩ := tri_in l.length i j k h.2 hi hj hk
    have g := g2 t ht
    rw [e] at g
    unfold bentT at g
    unfold bent
    exact g
theorem spec_ArePoints_ev (l : List Pt) (hl : l.length ≤ 1048576) : Ev (fun k => spec_ArePoints.f k l) (areP l) := by
  unfold spec_ArePoints.f areP
  refine Ev.bind0 (l1In_p ..) ?_
  by_cases h : 3 ≤ l.length ∧ l.length ≤ 7
  · rw [show decide (3 ≤ l.length ∧ l.length ≤ 7) = true from decide_eq_true h, Bool.true_and, ← areP_eq l h]
    exact Ev.ite_pos (decide_eq_true (by omega)) (spec_loop_p l hl)
  · rw [show decide (3 ≤ l.length ∧ l.length ≤ 7) = false from decide_eq_false h, Bool.false_and]
    exact Ev.ite_neg (by simp; omega) (Ev.now _)
theorem areP_len {l : List Pt} (h : areP l = true) : 3 ≤ l.length ∧ l.length ≤ 7 := by
  unfold areP at h
  rw [Bool.and_eq_true, decide_eq_true_eq] at h
  exact h.1
end Go.Proofs.Ytoajlmlobaccdaa.Pure
namespace Go.Proofs.Ytoajlmlobaccdaa.Pure
set_option linter.unusedSimpArgs false
set_option linter.unusedVariables false
def cellsL (q : Int) : Int → Int → List Int → List (Int × Int)
  | k, f, [] => [(f, k)]
  | k, f, p :: w => if p + 1 = q then (f, k) :: cellsL q (k + 1) k w else cellsL q (k + 1) f w
def ovl (a b : Int × Int) : Bool := decide (max a.1 b.1 < min a.2 b.2)
def rowS (a : Int × Int) : List (Int × Int) → List Int → Int
  | b :: B, x :: xs => (if ovl a b = true then x else 0) + rowS a B xs
  | _, _ => 0
def nextW (A B : List (Int × Int)) (ways : List Int) : List Int := A.map fun a => rowS a B ways
def specW (q : Int) : List Int → Bool → Int → List Int → List Int
  | ways, met, acc, [] => [if met = true then acc else acc + ways.headD 0]
  | ways, met, acc, p :: w =>
    if p = q then specW q ways.tail false (if met = true then acc else acc + ways.headD 0) w
    else if p + 1 = q then (if met = true then acc else acc + ways.headD 0) :: specW q ways false 0 w
    else specW q ways true (if met = true then acc else acc + ways.headD 0) w
def addH (c : Int) : List Int → List Int
  | x :: l => (c + x) :: l
  | [] => []
end Go.Proofs.Ytoajlmlobaccdaa.Pure
namespace Go.Proofs.Ytoajlmlobaccdaa.Pure
set_option linter.unusedSimpArgs false
set_option linter.unusedVariables false
open Go.RowKit Go.Proofs.YtoajlmlobaccdaaW.PrintWords Go.Proofs.Ytoajlmlobaccdaa.P Go.Proofs.Ytoajlmlobaccdaa.Pl
def full (i : Int) : Int := wrap64 ((shl .i64 1 i) - 1)
def inC (n : Int) : Nat → Nat → CeS → CeS
  | 0, _, s => s
  | d + 1, i, s => inC n d (i + 1) (ceIn n s i (full i))
def runC : List Int → CeS → List Int → CeS
  | [], s, _ => s
  | p :: w, s, l => runC w (ceStep s (rd l p) (rd l (p + 1)) p) (swp l p)
def endC : Nat → Nat → CeS → CeS
  | 0, _, s => s
  | d + 1, i, s => endC d (i + 1) (ceEnd s i)
theorem ceIn_len (n : Int) (s : CeS) (i t : Int) : (ceIn n s i t).now.length = s.now.length ∧ (ceIn n s i t).out = s.out := by
  unfold ceIn ceNew ceD ceD2 ceD1
  constructor <;> (split <;> split <;> simp)
theorem ceStep_len (s : CeS) (a b p : Int) : (ceStep s a b p).now.length = s.now.length ∧ (ceStep s a b p).out.length = s.out.length ∧ (ceStep s a b p).cnt = wrap64 (s.cnt + 1) := by
  unfold ceStep ceD ceD2 ceD1 ceC ceB ceA
  simp
theorem ceEnd_len (s : CeS) (i : Int) : (ceEnd s i).now.length = s.now.length ∧ (ceEnd s i).out.length = s.out.length ∧ (ceEnd s i).cnt = s.cnt := by
  unfold ceEnd ceB ceA
  simp
theorem inC_len (n : Int) : ∀ d i (s : CeS), (inC n d i s).now.length = s.now.length ∧ (inC n d i s).out = s.out
  | 0, _, _ => ⟨rfl, rfl⟩
  | d + 1, i, s => by
    obtain ⟨h1, h2⟩ := inC_len n d (i + 1) (ceIn n s i (full i))
    obtain ⟨h3, h4⟩ := ceIn_len n s i (full i)
    exact ⟨h1.trans h3, h2.trans h4⟩
def frm (s : CeS) (q : Nat) : Int := (s.now.getD q Cel.z).f2
def ft (c : Cel) : Int × Int := (c.f2, c.f3)
def rws (s : CeS) (q : Nat) : List (Int × Int) := (s.out.getD q []).map ft
theorem celAt_nat (l : List Cel) (i : Int) : celAt l i = l.getD i.toNat Cel.z := rfl
theorem getD_set {α : Type} (l : List α) (i j : Nat) (x z : α) (hi : i < l.length) : (l.set i x).getD j z = if i = j then x else l.getD j z := by
  rw [List.getD_eq_getElem?_getD, List.getD_eq_getElem?_getD, List.getElem?_set]
  by_cases h : i = j
  · subst h; simp [hi]
  · simp [h]
theorem frm_now (s : CeS) (i : Int) (x : Cel) (q : Nat) (hi : i.toNat < s.now.length) : frm { s with now := s.now.set i.toNat x } q = if i.toNat = q then x.f2 else frm s q := by
  unfold frm
  show ((s.now.set i.toNat x).getD q Cel.z).f2 = _
  rw [getD_set _ _ _ _ _ hi]
  split <;> rfl
theorem frm_D (s : CeS) (a i : Int) (q : Nat) (hi : i.toNat < s.now.length) : frm (ceD s a i) q = frm s q := by
  have h2 : i.toNat < (ceD1 s i).now.length := by unfold ceD1; simp; exact hi
  unfold ceD ceD2
  rw [frm_now _ _ _ _ h2]
  split
  · rename_i e
    subst e
    show (celAt (ceD1 s i).now i).f2 = _
    rw [celAt_nat]
    show frm (ceD1 s i) i.toNat = _
    unfold ceD1
    rw [frm_now _ _ _ _ hi, if_pos rfl]
    rfl
  · unfold ceD1
    rw [frm_now _ _ _ _ hi]
    split
    · rename_i e; subst e; rfl
    · rfl
theorem rws_out (s : CeS) (i : Int) (x : List Cel) (q : Nat) (hi : i.toNat < s.out.length) : rws { s with out := s.out.set i.toNat x } q = if i.toNat = q then x.map ft else rws s q := by
  unfold rws
  show ((s.out.set i.toNat x).getD q []).map ft = _
  rw [getD_set _ _ _ _ _ hi]
  split <;> rfl
theorem step_frm (s : CeS) (a b : Int) (p : Nat) (hp : p + 2 < s.now.length) (ho : p + 1 < s.out.length) (q : Nat) :
    frm (ceStep s a b p) q = (if p + 1 = q then s.cnt else frm s q) ∧ rws (ceStep s a b p) q = (if p + 1 = q then rws s q ++ [(frm s q, s.cnt)] else rws s q) := by
  have e1 : ((p : Int) + 1).toNat = p + 1 := by omega
  have e2 : ((p : Int) + 2).toNat = p + 2 := by omega
  have e0 : ((p : Int)).toNat = p := by omega
  obtain ⟨sA, hA⟩ : ∃ t, t = ceA s ((p : Int) + 1) := ⟨_, rfl⟩
  obtain ⟨sB, hB⟩ : ∃ t, t = ceB sA ((p : Int) + 1) := ⟨_, rfl⟩
  obtain ⟨sC, hC⟩ : ∃ t, t = ceC sB a b ((p : Int) + 1) := ⟨_, rfl⟩
  have lA : sA.now.length = s.now.length ∧ sA.out = s.out ∧ sA.cnt = s.cnt := by rw [hA]; unfold ceA; simp
  have lB : sB.now = sA.now ∧ sB.out.length = sA.out.length ∧ sB.cnt = sA.cnt := by rw [hB]; unfold ceB; simp
  have lC : sC.now.length = sB.now.length ∧ sC.out = sB.out ∧ sC.cnt = sB.cnt := by rw [hC]; unfold ceC; simp
  have eS : ceStep s a b p = { ceD (ceD sC b p) a ((p : Int) + 2) with cnt := wrap64 ((ceD (ceD sC b p) a ((p : Int) + 2)).cnt + 1) } := by unfold ceStep; rw [← hA, ← hB, ← hC]
  rw [eS]
  have fA : ∀ q, frm sA q = frm s q := fun q => by
    rw [hA]; unfold ceA; rw [frm_now _ _ _ _ (by rw [e1]; omega)]
    split
    · rename_i e; subst e; rfl
    · rfl
  constructor
  · show frm (ceD (ceD sC b p) a ((p : Int) + 2)) q = _
    rw [frm_D _ _ _ _ (by rw [e2]; unfold ceD ceD2 ceD1; simp; rw [lC.1, lB.1, lA.1]; exact hp), frm_D _ _ _ _ (by rw [e0, lC.1, lB.1, lA.1]; omega), hC]
    unfold ceC
    rw [frm_now _ _ _ _ (by rw [e1, lB.1, lA.1]; omega), e1]
    split
    · exact (lB.2.2.trans lA.2.2)
    · unfold frm; rw [lB.1]; exact fA q
  · show rws (ceD (ceD sC b p) a ((p : Int) + 2)) q = _
    have e3 : rws (ceD (ceD sC b p) a ((p : Int) + 2)) q = rws sB q := by unfold rws; rw [show (ceD (ceD sC b p) a ((p : Int) + 2)).out = sB.out from lC.2.1]
    rw [e3, hB]
    unfold ceB
    rw [rws_out _ _ _ _ (by rw [e1, lA.2.1]; exact ho), e1]
    split
    · rename_i e
      rw [List.map_append, List.map_singleton]
      unfold rws
      rw [← e, lA.2.1]
      congr 2
      show ft (celAt sA.now ((p : Int) + 1)) = (frm s (p + 1), s.cnt)
      rw [celAt_nat, e1, hA]
      unfold ceA
      show ft ((s.now.set ((p : Int) + 1).toNat _).getD (p + 1) Cel.z) = _
      rw [getD_set _ _ _ _ _ (by rw [e1]; omega), if_pos e1]
      unfold ft frm
      rw [celAt_nat, e1]
    · unfold rws; rw [lA.2.1]
theorem end_frm (s : CeS) (p : Nat) (hp : p < s.now.length) (ho : p < s.out.length) (q : Nat) :
    frm (ceEnd s p) q = frm s q ∧ rws (ceEnd s p) q = (if p = q then rws s q ++ [(frm s q, s.cnt)] else rws s q) := by
  have e0 : ((p : Int)).toNat = p := by omega
  obtain ⟨sA, hA⟩ : ∃ t, t = ceA s (p : Int) := ⟨_, rfl⟩
  have lA : sA.now.length = s.now.length ∧ sA.out = s.out ∧ sA.cnt = s.cnt := by rw [hA]; unfold ceA; simp
  have eS : ceEnd s p = ceB sA p := by unfold ceEnd; rw [← hA]
  rw [eS]
  constructor
  · show frm sA q = _
    rw [hA]; unfold ceA; rw [frm_now _ _ _ _ (by rw [e0]; omega)]
    split
    · rename_i e; subst e; rfl
    · rfl
  · unfold ceB
    rw [rws_out _ _ _ _ (by rw [e0, lA.2.1]; exact ho), e0]
    split
    · rename_i e
      rw [List.map_append, List.map_singleton]
      unfold rws
      rw [← e, lA.2.1]
      congr 2
      show ft (celAt sA.now (p : Int)) = (frm s p, s.cnt)
      rw [celAt_nat, e0, hA]
      unfold ceA
      show ft ((s.now.set (p : Int).toNat _).getD p Cel.z) = _
      rw [getD_set _ _ _ _ _ (by rw [e0]; omega), if_pos e0]
      unfold ft frm
      rw [celAt_nat, e0]
    · unfold rws; rw [lA.2.1]
theorem rd_nonneg {l : List Int} (h : ∀ x ∈ l, 0 ≤ x) (p : Int) : 0 ≤ rd l p := by
  unfold rd
  rw [List.getD_eq_getElem?_getD]
  rcases Nat.lt_or_ge p.toNat l.length with h1 | h1
  · rw [List.getElem?_eq_getElem h1]; exact h _ (List.getElem_mem h1)
  · rw [List.getElem?_eq_none h1]; exact Int.le_refl _
theorem mem_set_of {l : List Int} {i : Nat} {y x : Int} (h : x ∈ l.set i y) : x = y ∨ x ∈ l := by
  rcases List.mem_or_eq_of_mem_set h with h | h
  · exact .inr h
  · exact .inl h
theorem swp_nonneg {l : List Int} (h : ∀ x ∈ l, 0 ≤ x) (p : Int) : ∀ x ∈ swp l p, 0 ≤ x := by
  intro x hx
  unfold swp at hx
  rcases mem_set_of hx with rfl | hx
  · exact rd_nonneg h _
  rcases mem_set_of hx with rfl | hx
  · exact rd_nonneg h _
  · exact h x hx
theorem run_ce_ev (n : Nat) (hn : 2 ≤ n) (hn6 : n ≤ 1000) (w : List Int) (hw : w.length ≤ 1000) : ∀ d i, i + d = w.length → ∀ (l r : List Int) (s : CeS), runW l (w.drop i) = some r → l.length = n → (∀ x ∈ l, 0 ≤ x) → s.now.length = n + 1 → s.out.length = n + 1 → (∀ q, (rws s q).length ≤ i) →
    Ev (fun k => impl_run_ce.l0 k n l s w w.length i) (true, runC (w.drop i) s l)
  | 0, i, hi, l, r, s, hr, hl, h0, hn1, ho1, hq => by
    refine Ev.step (fun k => impl_run_ce.l0.eq_2 ..) (Ev.ite_neg (by omega) (Ev.const ?_))
    rw [List.drop_of_length_le (by omega)]
    rfl
  | d + 1, i, hi, l, r, s, hr, hl, h0, hn1, ho1, hq => by
    refine Ev.step (fun k => impl_run_ce.l0.eq_2 ..) ?_
    rw [drop_rd w i (by omega)] at hr ⊢
    generalize rd w (i : Int) = p at hr ⊢
    unfold runW at hr
    by_cases ho : okAt l p
    · rw [if_pos ho] at hr
      obtain ⟨o1, o2, o3⟩ := ho
      refine Ev.ite_pos (by omega) (Ev.ite_pos (by omega) (Ev.ite_pos (by omega) ?_))
      rw [wrap_in (n := (n : Int) - 2) (by omega) (by omega), wrap_in (n := p + 1) (by omega) (by omega)]
      obtain ⟨m, rfl⟩ : ∃ m : Nat, p = m := ⟨p.toNat, by omega⟩
      have hm : m + 2 < s.now.length ∧ m + 1 < s.out.length := by omega
      have hok : ceOk s (rd l m) (rd l ((m : Int) + 1)) m := by
        refine ⟨rd_nonneg h0 _, rd_nonneg h0 _, by omega, by omega, ?_⟩
        have h1 := hq ((m : Int) + 1).toNat
        unfold rws at h1
        rw [List.length_map] at h1
        omega
      refine Ev.ite_neg (by omega) (Ev.ite_neg (by omega) (Ev.ite_pos (by omega) (Ev.ite_pos (by omega) (Ev.ite_pos (by omega) (Ev.ite_pos (by omega) (Ev.ite_neg (by omega) (Ev.ite_pos hok ?_)))))))
      rw [wrap_nat i (by omega), runC]
      obtain ⟨l1, l2, l3⟩ := ceStep_len s (rd l m) (rd l ((m : Int) + 1)) m
      refine run_ce_ev n hn hn6 w hw d (i + 1) (by omega) (swp l m) r _ hr (by rw [swp_length]; exact hl) (swp_nonneg h0 _) (by rw [l1]; exact hn1) (by rw [l2]; exact ho1) (fun q => ?_)
      rw [(step_frm s _ _ m hm.1 hm.2 q).2]
      have h1 := hq q
      split
      · rw [List.length_append, List.length_singleton]; omega
      · omega
    · rw [if_neg ho] at hr
      cases hr
theorem inC_ev (n : Nat) (hn : n ≤ 60) : ∀ d i, i + d = n + 1 → ∀ s : CeS, Ev (fun k => impl_cellsOf.l0 k n s i) (inC n d i s)
  | 0, i, hi, s => Ev.step (fun k => impl_cellsOf.l0.eq_2 ..) (Ev.ite_neg (by omega) (Ev.now _))
  | d + 1, i, hi, s => by
    refine Ev.step (fun k => impl_cellsOf.l0.eq_2 ..) (Ev.ite_pos (by omega) (Ev.bind0 (a := full i) ?_ ?_))
    · unfold impl_fullSet.f full
      rw [if_pos (by omega)]
    · exact inC_ev n hn d (i + 1) (by omega) _
theorem endC_ev (m : Nat) (hm : m ≤ 1000) : ∀ d i, i + d = m → ∀ s : CeS, s.now.length = m → s.out.length = m → (∀ q, (rws s q).length ≤ 1000 + i) → Ev (fun k => impl_cellsOf.l1 k s i) (endC d i s)
  | 0, i, hi, s, h1, h2, hq => Ev.step (fun k => impl_cellsOf.l1.eq_2 ..) (Ev.ite_neg (by omega) (Ev.now _))
  | d + 1, i, hi, s, h1, h2, hq => by
    obtain ⟨l1, l2, l3⟩ := ceEnd_len s (i : Int)
    refine Ev.step (fun k => impl_cellsOf.l1.eq_2 ..) (Ev.ite_pos (by omega) (Ev.ite_pos ⟨by omega, ?_⟩ ?_))
    · have h := hq i
      unfold rws at h
      rw [List.length_map] at h
      rw [show (i : Int).toNat = i by omega]
      omega
    · refine endC_ev m hm d (i + 1) (by omega) _ (by rw [l1]; exact h1) (by rw [l2]; exact h2) (fun q => ?_)
      rw [(end_frm s i (by omega) (by omega) q).2]
      have h := hq q
      split
      · rw [List.length_append, List.length_singleton]; omega
      · omega
def cellsS (n : Int) (w : List Int) : CeS := endC (n.toNat + 1) 0 (runC w { inC n (n.toNat + 1) 0 (ceStart n) with cnt := 0 } (upTo n.toNat))
def cellsP (n : Int) (w : List Int) : List (List Cel) := (cellsS n w).out
theorem runC_len : ∀ (w : List Int) (s : CeS) (l : List Int), (runC w s l).now.length = s.now.length ∧ (runC w s l).out.length = s.out.length
  | [], _, _ => ⟨rfl, rfl⟩
  | p :: w, s, l => by
    obtain ⟨h1, h2⟩ := runC_len w (ceStep s (rd l p) (rd l (p + 1)) p) (swp l p)
    obtain ⟨l1, l2, _⟩ := ceStep_len s (rd l p) (rd l (p + 1)) p
    exact ⟨h1.trans l1, h2.trans l2⟩
theorem runC_rows : ∀ (w l r : List Int) (n : Nat) (s : CeS) (i : Nat), runW l w = some r → l.length = n → s.now.length = n + 1 → s.out.length = n + 1 → i + w.length ≤ 1000 → s.cnt = i → (∀ q, (rws s q).length ≤ i) →
    (∀ q, (rws (runC w s l) q).length ≤ i + w.length) ∧ (runC w s l).cnt = ((i + w.length : Nat) : Int) ∧ ∀ q : Nat, rws (runC w s l) q ++ [(frm (runC w s l) q, (runC w s l).cnt)] = rws s q ++ cellsL q s.cnt (frm s q) w
  | [], l, r, n, s, i, hr, hl, h1, h2, hi, hc, hq => ⟨fun q => by have := hq q; simpa [runC] using this, by simpa [runC] using hc, fun q => rfl⟩
  | p :: w, l, r, n, s, i, hr, hl, h1, h2, hi, hc, hq => by
    unfold runW at hr
    by_cases ho : okAt l p
    · rw [if_pos ho] at hr
      obtain ⟨o1, o2, o3⟩ := ho
      obtain ⟨m, rfl⟩ : ∃ m : Nat, p = m := ⟨p.toNat, by omega⟩
      have hm : m + 2 < s.now.length ∧ m + 1 < s.out.length := by omega
      obtain ⟨l1, l2, l3⟩ := ceStep_len s (rd l m) (rd l ((m : Int) + 1)) m
      have e3 : (ceStep s (rd l m) (rd l ((m : Int) + 1)) m).cnt = ((i + 1 : Nat) : Int) := by rw [l3, hc]; rw [List.length_cons] at hi; exact wrap_nat i (by omega)
      have hs := step_frm s (rd l m) (rd l ((m : Int) + 1)) m hm.1 hm.2
      rw [List.length_cons] at hi
      obtain ⟨g1, g2, g3⟩ := runC_rows w (swp l m) r n (ceStep s (rd l m) (rd l ((m : Int) + 1)) m) (i + 1) hr (by rw [swp_length]; exact hl) (by rw [l1]; exact h1) (by rw [l2]; exact h2) (by omega) e3 (fun q => by
        rw [(hs q).2]
        have h := hq q
        split
        · rw [List.length_append, List.length_singleton]; omega
        · omega)
      refine ⟨fun q => ?_, ?_, fun q => ?_⟩
      · rw [runC, List.length_cons]; have := g1 q; omega
      · rw [runC, g2, List.length_cons]; congr 1; omega
      · rw [runC, g3 q, (hs q).1, (hs q).2, e3, cellsL, hc]
        by_cases e : m + 1 = q
        · rw [if_pos e, if_pos e, if_pos (by omega), List.append_assoc]; rfl
        · rw [if_neg e, if_neg e, if_neg (by omega)]; rfl
    · rw [if_neg ho] at hr
      cases hr
theorem frm_in (n : Int) (s : CeS) (i : Nat) (t : Int) (hi : i < s.now.length) (q : Nat) : frm (ceIn n s i t) q = if i = q then -1 else frm s q := by
  have e0 : ((i : Int)).toNat = i := by omega
  have hN : ∀ q, frm (ceNew s i t) q = if i = q then -1 else frm s q := fun q => by
    unfold ceNew; rw [frm_now _ _ _ _ (by rw [e0]; exact hi), e0]
  have lN : (ceNew s i t).now.length = s.now.length := by unfold ceNew; simp
  have lD : ∀ (s : CeS) a, (ceD s a i).now.length = s.now.length := fun s a => by unfold ceD ceD2 ceD1; simp
  unfold ceIn
  split <;> split
  · show frm (ceD (ceD (ceNew s i t) ((i : Int) - 1) i) i i) q = _
    rw [frm_D _ _ _ _ (by rw [e0, lD, lN]; exact hi), frm_D _ _ _ _ (by rw [e0, lN]; exact hi)]; exact hN q
  · show frm (ceD (ceNew s i t) ((i : Int) - 1) i) q = _
    rw [frm_D _ _ _ _ (by rw [e0, lN]; exact hi)]; exact hN q
  · show frm (ceD (ceNew s i t) i i) q = _
    rw [frm_D _ _ _ _ (by rw [e0, lN]; exact hi)]; exact hN q
  · exact hN q
theorem frm_inC (n : Int) : ∀ d i (s : CeS), i + d ≤ s.now.length → ∀ q, frm (inC n d i s) q = if i ≤ q ∧ q < i + d then -1 else frm s q
  | 0, i, s, h, q => by rw [if_neg (by omega)]; rfl
  | d + 1, i, s, h, q => by
    show frm (inC n d (i + 1) (ceIn n s i (full i))) q = _
    rw [frm_inC n d (i + 1) _ (by rw [(ceIn_len n s i (full i)).1]; omega) q, frm_in n s i _ (by omega) q]
    by_cases h1 : i + 1 ≤ q ∧ q < i + 1 + d
    · rw [if_pos h1, if_pos (by omega)]
    · rw [if_neg h1]
      by_cases h2 : i = q
      · rw [if_pos h2, if_pos (by omega)]
      · rw [if_neg h2, if_neg (by omega)]
theorem endC_rows : ∀ d i (s : CeS), i + d = s.now.length → s.out.length = s.now.length → ∀ q, rws (endC d i s) q = (if i ≤ q ∧ q < i + d then rws s q ++ [(frm s q, s.cnt)] else rws s q) ∧ (endC d i s).out.length = s.out.length
  | 0, i, s, h, ho, q => by rw [if_neg (by omega)]; exact ⟨rfl, rfl⟩
  | d + 1, i, s, h, ho, q => by
    obtain ⟨l1, l2, l3⟩ := ceEnd_len s (i : Int)
    obtain ⟨e1, e2⟩ := end_frm s i (by omega) (by omega) q
    obtain ⟨g1, g2⟩ := endC_rows d (i + 1) (ceEnd s i) (by rw [l1]; omega) (by rw [l1, l2]; exact ho) q
    refine ⟨?_, g2.trans l2⟩
    show rws (endC d (i + 1) (ceEnd s i)) q = _
    rw [g1, e1, e2, l3]
    by_cases h1 : i + 1 ≤ q ∧ q < i + 1 + d
    · rw [if_pos h1, if_neg (by omega), if_pos (by omega)]
    · rw [if_neg h1]
      by_cases h2 : i = q
      · rw [if_pos h2, if_pos (by omega)]
      · rw [if_neg h2, if_neg (by omega)]
theorem runW_of (n : Int) (w : List Int) (h : isW n w = true) : ∃ r, runW (upTo n.toNat) w = some r := by
  unfold isW at h
  rw [Bool.and_eq_true] at h
  exact Option.isSome_iff_exists.1 h.2
theorem upTo_nonneg (n : Nat) : ∀ x ∈ upTo n, 0 ≤ x := by
  intro x hx
  unfold upTo at hx
  obtain ⟨i, _, rfl⟩ := List.mem_map.1 hx
  omega
theorem start_facts (n : Int) (w : List Int) (h : isW n w = true) : ∃ s : CeS, s = { inC n (n.toNat + 1) 0 (ceStart n) with cnt := 0 } ∧ s.now.length = n.toNat + 1 ∧ s.out.length = n.toNat + 1 ∧ (∀ q, rws s q = []) ∧ (∀ q, q ≤ n.toNat → frm s q = -1) ∧ s.cnt = 0 := by
  obtain ⟨h3, h6, hl⟩ := isW_bounds h
  have hs : (n + 1).toNat = n.toNat + 1 := by omega
  have l0 : (ceStart n).now.length = n.toNat + 1 ∧ (ceStart n).out = List.replicate (n.toNat + 1) [] := by unfold ceStart; rw [hs]; simp
  obtain ⟨l1, l2⟩ := inC_len n (n.toNat + 1) 0 (ceStart n)
  refine ⟨_, rfl, l1.trans l0.1, ?_, fun q => ?_, fun q hq => ?_, rfl⟩
  · show (inC n (n.toNat + 1) 0 (ceStart n)).out.length = _
    rw [l2, l0.2, List.length_replicate]
  · unfold rws
    show ((inC n (n.toNat + 1) 0 (ceStart n)).out.getD q []).map ft = []
    rw [l2, l0.2, List.getD_eq_getElem?_getD, List.getElem?_replicate]
    split <;> rfl
  · show frm (inC n (n.toNat + 1) 0 (ceStart n)) q = -1
    rw [frm_inC n (n.toNat + 1) 0 (ceStart n) (by rw [l0.1]; omega) q, if_pos (by omega)]
theorem cellsOf_ev (n : Int) (w : List Int) (h : isW n w = true) : Ev (fun k => impl_cellsOf.f k n w) (cellsP n w) := by
  obtain ⟨h3, h6, hl⟩ := isW_bounds h
  obtain ⟨r, hr⟩ := runW_of n w h
  obtain ⟨s, hs, s1, s2, s3, s4, s5⟩ := start_facts n w h
  obtain ⟨m, rfl⟩ : ∃ m : Nat, n = m := ⟨n.toNat, by omega⟩
  rw [show (m : Int).toNat = m by omega] at *
  unfold impl_cellsOf.f
  refine Ev.ite_pos (by omega) (Ev.bind (inC_ev m (by omega) (m + 1) 0 (by omega) (ceStart m)) ?_)
  rw [← hs]
  refine Ev.bind (a := (true, runC w s (upTo m))) ?_ ?_
  · unfold impl_run_ce.f
    refine Ev.bind (impl_upTo_ev m (by omega)) ?_
    have h := run_ce_ev m (by omega) (by omega) w (by omega) w.length 0 (by omega) (upTo m) r s (by simpa using hr) (upTo_length m) (upTo_nonneg m) s1 s2 (fun q => by rw [s3 q]; exact Nat.le_refl _)
    simpa using h
  · obtain ⟨g1, g2, g3⟩ := runC_rows w (upTo m) r m s 0 hr (upTo_length m) s1 s2 (by omega) (by rw [s5]; rfl) (fun q => by rw [s3 q]; exact Nat.le_refl _)
    obtain ⟨q1, q2⟩ := runC_len w s (upTo m)
    refine Ev.bind (endC_ev (m + 1) (by omega) (m + 1) 0 (by omega) (runC w s (upTo m)) (by rw [q1]; exact s1) (by rw [q2]; exact s2) (fun q => by have := g1 q; omega)) (Ev.const ?_)
    unfold cellsP cellsS
    rw [show (m : Int).toNat = m by omega, ← hs]
theorem cellsP_rows (n : Int) (w : List Int) (h : isW n w = true) : (cellsP n w).length = n.toNat + 1 ∧ ∀ q, q ≤ n.toNat → ((cellsP n w).getD q []).map ft = cellsL q 0 (-1) w := by
  obtain ⟨h3, h6, hl⟩ := isW_bounds h
  obtain ⟨r, hr⟩ := runW_of n w h
  obtain ⟨s, hs, s1, s2, s3, s4, s5⟩ := start_facts n w h
  obtain ⟨g1, g2, g3⟩ := runC_rows w (upTo n.toNat) r n.toNat s 0 hr (upTo_length _) s1 s2 (by omega) (by rw [s5]; rfl) (fun q => by rw [s3 q]; exact Nat.le_refl _)
  obtain ⟨q1, q2⟩ := runC_len w s (upTo n.toNat)
  have E := endC_rows (n.toNat + 1) 0 (runC w s (upTo n.toNat)) (by rw [q1, s1]; omega) (by rw [q1, q2, s1, s2])
  have e1 : cellsP n w = (endC (n.toNat + 1) 0 (runC w s (upTo n.toNat))).out := by unfold cellsP cellsS; rw [← hs]
  rw [e1]
  refine ⟨(E 0).2.trans (q2.trans s2), fun q hq => ?_⟩
  have h1 := (E q).1
  rw [if_pos (by omega), g3 q, s3 q, s4 q hq, s5] at h1
  exact h1
def sd (s : CeS) (q : Nat) : Int := (s.now.getD q Cel.z).f0
def rs (s : CeS) (q : Nat) : List Int := (s.out.getD q []).map fun c => c.f0
def sdL (q : Int) : Int → List Int → List Int
  | s, [] => [s]
  | s, p :: w => if p + 1 = q then s :: sdL q 2 w else if p = q ∨ p + 2 = q then sdL q (s + 1) w else sdL q s w
theorem sd_now (s : CeS) (i : Int) (x : Cel) (q : Nat) (hi : i.toNat < s.now.length) : sd { s with now := s.now.set i.toNat x } q = if i.toNat = q then x.f0 else sd s q := by
  unfold sd
  show ((s.now.set i.toNat x).getD q Cel.z).f0 = _
  rw [getD_set _ _ _ _ _ hi]
  split <;> rfl
theorem sd_D (s : CeS) (a i : Int) (q : Nat) (hi : i.toNat < s.now.length) : sd (ceD s a i) q = if i.toNat = q then wrap64 (sd s q + 1) else sd s q := by
  have h2 : i.toNat < (ceD1 s i).now.length := by unfold ceD1; simp; exact hi
  have h3 : sd (ceD1 s i) q = if i.toNat = q then wrap64 (sd s q + 1) else sd s q := by
    unfold ceD1
    rw [sd_now _ _ _ _ hi]
    split
    · rename_i e; subst e; rfl
    · rfl
  unfold ceD ceD2
  rw [sd_now _ _ _ _ h2, h3]
  split
  · rename_i e
    subst e
    show (celAt (ceD1 s i).now i).f0 = _
    rw [celAt_nat]
    show sd (ceD1 s i) i.toNat = _
    rw [h3, if_pos rfl]
  · rfl
theorem rs_out (s : CeS) (i : Int) (x : List Cel) (q : Nat) (hi : i.toNat < s.out.length) : rs { s with out := s.out.set i.toNat x } q = if i.toNat = q then x.map (fun c => c.f0) else rs s q := by
  unfold rs
  show ((s.out.set i.toNat x).getD q []).map _ = _
  rw [getD_set _ _ _ _ _ hi]
  split <;> rfl
theorem step_sd (s : CeS) (a b : Int) (p : Nat) (hp : p + 2 < s.now.length) (ho : p + 1 < s.out.length) (q : Nat) :
    sd (ceStep s a b p) q = (if p + 1 = q then 2 else if p = q ∨ p + 2 = q then wrap64 (sd s q + 1) else sd s q) ∧ rs (ceStep s a b p) q = (if p + 1 = q then rs s q ++ [sd s q] else rs s q) := by
  have e1 : ((p : Int) + 1).toNat = p + 1 := by omega
  have e2 : ((p : Int) + 2).toNat = p + 2 := by omega
  have e0 : ((p : Int)).toNat = p := by omega
  obtain ⟨sA, hA⟩ : ∃ t, t = ceA s ((p : Int) + 1) := ⟨_, rfl⟩
  obtain ⟨sB, hB⟩ : ∃ t, t = ceB sA ((p : Int) + 1) := ⟨_, rfl⟩
  obtain ⟨sC, hC⟩ : ∃ t, t = ceC sB a b ((p : Int) + 1) := ⟨_, rfl⟩
  have lA : sA.now.length = s.now.length ∧ sA.out = s.out ∧ sA.cnt = s.cnt := by rw [hA]; unfold ceA; simp
  have lB : sB.now = sA.now ∧ sB.out.length = sA.out.length ∧ sB.cnt = sA.cnt := by rw [hB]; unfold ceB; simp
  have lC : sC.now.length = sB.now.length ∧ sC.out = sB.out ∧ sC.cnt = sB.cnt := by rw [hC]; unfold ceC; simp
  have eS : ceStep s a b p = { ceD (ceD sC b p) a ((p : Int) + 2) with cnt := wrap64 ((ceD (ceD sC b p) a ((p : Int) + 2)).cnt + 1) } := by unfold ceStep; rw [← hA, ← hB, ← hC]
  rw [eS]
  have fA : ∀ q, sd sA q = sd s q := fun q => by
    rw [hA]; unfold ceA; rw [sd_now _ _ _ _ (by rw [e1]; omega)]
    split
    · rename_i e; subst e; rfl
    · rfl
  have fC : ∀ q, sd sC q = if p + 1 = q then 2 else sd s q := fun q => by
    rw [hC]; unfold ceC
    rw [sd_now _ _ _ _ (by rw [e1, lB.1, lA.1]; omega), e1]
    split
    · rfl
    · unfold sd; rw [lB.1]; exact fA q
  constructor
  · show sd (ceD (ceD sC b p) a ((p : Int) + 2)) q = _
    rw [sd_D _ _ _ _ (by rw [e2]; unfold ceD ceD2 ceD1; simp; rw [lC.1, lB.1, lA.1]; exact hp), sd_D _ _ _ _ (by rw [e0, lC.1, lB.1, lA.1]; omega), e2, e0, fC q]
    by_cases c1 : p + 1 = q
    · rw [if_neg (by omega), if_neg (by omega), if_pos c1, if_pos c1]
    · by_cases c2 : p + 2 = q
      · rw [if_pos c2, if_neg (by omega), if_neg c1, if_neg c1, if_pos (by omega)]
      · by_cases c3 : p = q
        · rw [if_neg c2, if_pos c3, if_neg c1, if_neg c1, if_pos (by omega)]
        · rw [if_neg c2, if_neg c3, if_neg c1, if_neg c1, if_neg (by omega)]
  · show rs (ceD (ceD sC b p) a ((p : Int) + 2)) q = _
    have e3 : rs (ceD (ceD sC b p) a ((p : Int) + 2)) q = rs sB q := by unfold rs; rw [show (ceD (ceD sC b p) a ((p : Int) + 2)).out = sB.out from lC.2.1]
    rw [e3, hB]
    unfold ceB
    rw [rs_out _ _ _ _ (by rw [e1, lA.2.1]; exact ho), e1]
    split
    · rename_i e
      rw [List.map_append, List.map_singleton]
      unfold rs
      rw [← e, lA.2.1]
      congr 2
      show (celAt sA.now ((p : Int) + 1)).f0 = sd s (p + 1)
      rw [celAt_nat, e1]
      exact fA (p + 1)
    · unfold rs; rw [lA.2.1]
theorem end_sd (s : CeS) (p : Nat) (hp : p < s.now.length) (ho : p < s.out.length) (q : Nat) :
    sd (ceEnd s p) q = sd s q ∧ rs (ceEnd s p) q = (if p = q then rs s q ++ [sd s q] else rs s q) := by
  have e0 : ((p : Int)).toNat = p := by omega
  obtain ⟨sA, hA⟩ : ∃ t, t = ceA s (p : Int) := ⟨_, rfl⟩
  have lA : sA.now.length = s.now.length ∧ sA.out = s.out ∧ sA.cnt = s.cnt := by rw [hA]; unfold ceA; simp
  have eS : ceEnd s p = ceB sA p := by unfold ceEnd; rw [← hA]
  have fA : ∀ q, sd sA q = sd s q := fun q => by
    rw [hA]; unfold ceA; rw [sd_now _ _ _ _ (by rw [e0]; omega)]
    split
    · rename_i e; subst e; rfl
    · rfl
  rw [eS]
  constructor
  · exact fA q
  · unfold ceB
    rw [rs_out _ _ _ _ (by rw [e0, lA.2.1]; exact ho), e0]
    split
    · rename_i e
      rw [List.map_append, List.map_singleton]
      unfold rs
      rw [← e, lA.2.1]
      congr 2
      show (celAt sA.now (p : Int)).f0 = sd s p
      rw [celAt_nat, e0]
      exact fA p
    · unfold rs; rw [lA.2.1]
theorem runC_sd : ∀ (w l r : List Int) (n : Nat) (s : CeS) (i : Nat), runW l w = some r → l.length = n → s.now.length = n + 1 → s.out.length = n + 1 → i + w.length ≤ 1000 → (∀ q, 0 ≤ sd s q ∧ sd s q ≤ i + 2) →
    ∀ q : Nat, rs (runC w s l) q ++ [sd (runC w s l) q] = rs s q ++ sdL q (sd s q) w
  | [], l, r, n, s, i, hr, hl, h1, h2, hi, hq => fun q => rfl
  | p :: w, l, r, n, s, i, hr, hl, h1, h2, hi, hq => by
    unfold runW at hr
    by_cases ho : okAt l p
    · rw [if_pos ho] at hr
      obtain ⟨o1, o2, o3⟩ := ho
      obtain ⟨m, rfl⟩ : ∃ m : Nat, p = m := ⟨p.toNat, by omega⟩
      have hm : m + 2 < s.now.length ∧ m + 1 < s.out.length := by omega
      obtain ⟨l1, l2, l3⟩ := ceStep_len s (rd l m) (rd l ((m : Int) + 1)) m
      have hs := step_sd s (rd l m) (rd l ((m : Int) + 1)) m hm.1 hm.2
      rw [List.length_cons] at hi
      have hw : ∀ q, wrap64 (sd s q + 1) = sd s q + 1 := fun q => wrap_in (by have := hq q; omega) (by have := hq q; omega)
      have g := runC_sd w (swp l m) r n (ceStep s (rd l m) (rd l ((m : Int) + 1)) m) (i + 1) hr (by rw [swp_length]; exact hl) (by rw [l1]; exact h1) (by rw [l2]; exact h2) (by omega) (fun q => by
        rw [(hs q).1, hw q]
        have h := hq q
        split
        · omega
        · split <;> omega)
      intro q
      rw [runC, g q, (hs q).1, (hs q).2, sdL, hw q]
      by_cases c1 : m + 1 = q
      · rw [if_pos c1, if_pos c1, if_pos (by omega), List.append_assoc]; rfl
      · by_cases c2 : m = q ∨ m + 2 = q
        · rw [if_neg c1, if_neg c1, if_pos c2, if_neg (by omega), if_pos (by omega)]
        · rw [if_neg c1, if_neg c1, if_neg c2, if_neg (by omega), if_neg (by omega)]
    · rw [if_neg ho] at hr
      cases hr
theorem endC_sd : ∀ d i (s : CeS), i + d = s.now.length → s.out.length = s.now.length → ∀ q, rs (endC d i s) q = (if i ≤ q ∧ q < i + d then rs s q ++ [sd s q] else rs s q)
  | 0, i, s, h, ho, q => by rw [if_neg (by omega)]; rfl
  | d + 1, i, s, h, ho, q => by
    obtain ⟨l1, l2, l3⟩ := ceEnd_len s (i : Int)
    obtain ⟨e1, e2⟩ := end_sd s i (by omega) (by omega) q
    have g1 := endC_sd d (i + 1) (ceEnd s i) (by rw [l1]; omega) (by rw [l1, l2]; exact ho) q
    show rs (endC d (i + 1) (ceEnd s i)) q = _
    rw [g1, e1, e2]
    by_cases h1 : i + 1 ≤ q ∧ q < i + 1 + d
    · rw [if_pos h1, if_neg (by omega), if_pos (by omega)]
    · rw [if_neg h1]
      by_cases h2 : i = q
      · rw [if_pos h2, if_pos (by omega)]
      · rw [if_neg h2, if_neg (by omega)]
def sd0 (n : Int) (q : Nat) : Int := (if 0 < (q : Int) then 1 else 0) + (if (q : Int) < n then 1 else 0)
theorem sd_in (n : Int) (s : CeS) (i : Nat) (t : Int) (hi : i < s.now.length) (q : Nat) : sd (ceIn n s i t) q = if i = q then sd0 n i else sd s q := by
  have e0 : ((i : Int)).toNat = i := by omega
  have hN : ∀ q, sd (ceNew s i t) q = if i = q then 0 else sd s q := fun q => by
    unfold ceNew; rw [sd_now _ _ _ _ (by rw [e0]; exact hi), e0]
  have lN : (ceNew s i t).now.length = s.now.length := by unfold ceNew; simp
  have lD : ∀ (s : CeS) a, (ceD s a i).now.length = s.now.length := fun s a => by unfold ceD ceD2 ceD1; simp
  have w1 : wrap64 ((0 : Int) + 1) = 1 := by rw [wrap_in (by omega) (by omega)]; rfl
  have w2 : wrap64 ((1 : Int) + 1) = 2 := by rw [wrap_in (by omega) (by omega)]; rfl
  unfold ceIn sd0
  by_cases c1 : 0 < (i : Int)
  · by_cases c2 : (i : Int) < n
    · rw [if_pos c1, if_pos c2, if_pos c1, if_pos c2, sd_D _ _ _ _ (by rw [e0, lD, lN]; exact hi), sd_D _ _ _ _ (by rw [e0, lN]; exact hi), hN q, e0]
      by_cases c3 : i = q
      · simp only [if_pos c3, w1, w2]
        rfl
      · simp only [if_neg c3]
    · rw [if_pos c1, if_neg c2, if_pos c1, if_neg c2, sd_D _ _ _ _ (by rw [e0, lN]; exact hi), hN q, e0]
      by_cases c3 : i = q
      · simp only [if_pos c3, w1]
        rfl
      · simp only [if_neg c3]
  · by_cases c2 : (i : Int) < n
    · rw [if_neg c1, if_pos c2, if_neg c1, if_pos c2, sd_D _ _ _ _ (by rw [e0, lN]; exact hi), hN q, e0]
      by_cases c3 : i = q
      · simp only [if_pos c3, w1]
        rfl
      · simp only [if_neg c3]
    · rw [if_neg c1, if_neg c2, if_neg c1, if_neg c2, hN q]
      rfl
theorem sd_inC (n : Int) : ∀ d i (s : CeS), i + d ≤ s.now.length → ∀ q, sd (inC n d i s) q = if i ≤ q ∧ q < i + d then sd0 n q else sd s q
  | 0, i, s, h, q => by rw [if_neg (by omega)]; rfl
  | d + 1, i, s, h, q => by
    show sd (inC n d (i + 1) (ceIn n s i (full i))) q = _
    rw [sd_inC n d (i + 1) _ (by rw [(ceIn_len n s i (full i)).1]; omega) q, sd_in n s i _ (by omega) q]
    by_cases h1 : i + 1 ≤ q ∧ q < i + 1 + d
    · rw [if_pos h1, if_pos (by omega)]
    · rw [if_neg h1]
      by_cases h2 : i = q
      · rw [if_pos h2, if_pos (by omega), h2]
      · rw [if_neg h2, if_neg (by omega)]
theorem sd0_bd (n : Int) (q : Nat) : 0 ≤ sd0 n q ∧ sd0 n q ≤ 2 := by
  unfold sd0
  split <;> split <;> omega
theorem cellsP_sides (n : Int) (w : List Int) (h : isW n w = true) : ∀ q, q ≤ n.toNat → ((cellsP n w).getD q []).map (fun c => c.f0) = sdL q (sd0 n q) w := by
  obtain ⟨h3, h6, hl⟩ := isW_bounds h
  obtain ⟨r, hr⟩ := runW_of n w h
  obtain ⟨s, hs, s1, s2, s3, s4, s5⟩ := start_facts n w h
  have hst : (n + 1).toNat = n.toNat + 1 := by omega
  have l0 : (ceStart n).now.length = n.toNat + 1 := by unfold ceStart; rw [hst]; simp
  have hsd : ∀ q, sd s q = if q ≤ n.toNat then sd0 n q else sd (ceStart n) q := fun q => by
    rw [hs]
    show sd (inC n (n.toNat + 1) 0 (ceStart n)) q = _
    rw [sd_inC n (n.toNat + 1) 0 (ceStart n) (by rw [l0]; omega) q]
    by_cases c : q ≤ n.toNat
    · rw [if_pos (by omega), if_pos c]
    · rw [if_neg (by omega), if_neg c]
  have hz : ∀ q, n.toNat < q → sd (ceStart n) q = 0 := fun q hq => by
    unfold sd
    rw [List.getD_eq_getElem?_getD, List.getElem?_eq_none (by rw [l0]; omega)]
    rfl
  have hbd : ∀ q, 0 ≤ sd s q ∧ sd s q ≤ (0 : Nat) + 2 := fun q => by
    rw [hsd q]
    have := sd0_bd n q
    split
    · omega
    · rw [hz q (by omega)]
      omega
  have hrs : ∀ q, rs s q = [] := fun q => by
    have := s3 q
    unfold rws at this
    unfold rs
    rw [List.map_eq_nil_iff.1 this]
    rfl
  have g3 := runC_sd w (upTo n.toNat) r n.toNat s 0 hr (upTo_length _) s1 s2 (by omega) hbd
  obtain ⟨q1, q2⟩ := runC_len w s (upTo n.toNat)
  have E := endC_sd (n.toNat + 1) 0 (runC w s (upTo n.toNat)) (by rw [q1, s1]; omega) (by rw [q1, q2, s1, s2])
  have e1 : cellsP n w = (endC (n.toNat + 1) 0 (runC w s (upTo n.toNat))).out := by unfold cellsP cellsS; rw [← hs]
  intro q hq
  rw [e1]
  have h1 := E q
  rw [if_pos (by omega), g3 q, hrs q, hsd q, if_pos hq, List.nil_append] at h1
  exact h1
theorem bitT (b : Bool) : spec_l1Bit.f b = some (if b = true then 1 else 0) := by
  unfold spec_l1Bit.f
  split <;> rfl
def gS (q j : Int) : Int → Int → List Int → Int
  | x, _, [] => x
  | x, y, p :: w => if p = q - 1 then gS q j x (y + 1) w else if y = j ∧ (p = q - 2 ∨ p = q) then gS q j (x + 1) y w else gS q j x y w
theorem gS_past (q j : Int) : ∀ (w : List Int) (x y : Int), j < y → gS q j x y w = x
  | [], _, _, _ => rfl
  | p :: w, x, y, h => by
    rw [gS]
    split
    · exact gS_past q j w x (y + 1) (by omega)
    · rw [if_neg (by omega)]
      exact gS_past q j w x y h
theorem gS_now (q j : Int) : ∀ (w : List Int) (s : Int), (sdL q s w)[0]? = some (gS q j s j w)
  | [], s => rfl
  | p :: w, s => by
    rw [gS, sdL]
    by_cases c1 : p + 1 = q
    · rw [if_pos c1, if_pos (show p = q - 1 by omega), gS_past q j w s (j + 1) (by omega)]
      rfl
    · rw [if_neg c1, if_neg (show ¬ p = q - 1 by omega)]
      by_cases c2 : p = q ∨ p + 2 = q
      · rw [if_pos c2, if_pos (show j = j ∧ (p = q - 2 ∨ p = q) from ⟨rfl, by omega⟩)]
        exact gS_now q j w (s + 1)
      · rw [if_neg c2, if_neg (show ¬ (j = j ∧ (p = q - 2 ∨ p = q)) by omega)]
        exact gS_now q j w s
theorem gS_later (q : Int) : ∀ (w : List Int) (s y : Int) (d : Nat), d + 1 < (sdL q s w).length → (sdL q s w)[d + 1]? = some (gS q (y + (d + 1 : Nat)) 2 y w)
  | [], s, y, d, h => by simp [sdL] at h
  | p :: w, s, y, d, h => by
    rw [gS]
    rw [sdL] at h ⊢
    by_cases c1 : p + 1 = q
    · rw [if_pos c1] at h ⊢
      rw [if_pos (show p = q - 1 by omega), List.getElem?_cons_succ]
      cases d with
      | zero => exact gS_now q (y + ((0 + 1 : Nat) : Int)) w 2
      | succ d =>
        have := gS_later q w 2 (y + 1) d (by rw [List.length_cons] at h; omega)
        rw [this]
        congr 2
        omega
    · rw [if_neg c1] at h ⊢
      rw [if_neg (show ¬ p = q - 1 by omega), if_neg (show ¬ (y = y + ((d + 1 : Nat) : Int) ∧ (p = q - 2 ∨ p = q)) by omega)]
      by_cases c2 : p = q ∨ p + 2 = q
      · rw [if_pos c2] at h ⊢
        exact gS_later q w (s + 1) y d h
      · rw [if_neg c2] at h ⊢
        exact gS_later q w s y d h
theorem sides_loop (w : List Int) (hw : w.length ≤ 1000) (q j : Int) (hq : 0 ≤ q ∧ q ≤ 100) (hj : 0 ≤ j ∧ j ≤ 100000) : ∀ (d i : Nat) (x y : Int), i + d = w.length → 0 ≤ x ∧ x ≤ i + 2 → 0 ≤ y ∧ y ≤ i → Ev (fun k => spec_l16Sides.l0 k w q j x y (i : Nat)) (gS q j x y (w.drop i))
  | 0, i, x, y, hi, hx, hy => by
    rw [List.drop_of_length_le (by omega)]
    exact Ev.step (fun k => spec_l16Sides.l0.eq_2 ..) (Ev.ite_neg (by omega) (Ev.now _))
  | d + 1, i, x, y, hi, hx, hy => by
    have w1 : wrap64 (q - 1) = q - 1 := wrap_in (by omega) (by omega)
    have w2 : wrap64 (q - 2) = q - 2 := wrap_in (by omega) (by omega)
    have wx : wrap64 (x + 1) = x + 1 := wrap_in (by omega) (by omega)
    have wy : wrap64 (y + 1) = y + 1 := wrap_in (by omega) (by omega)
    refine Ev.step (fun k => spec_l16Sides.l0.eq_2 ..) (Ev.ite_pos (by omega) (Ev.ite_pos (by omega) ?_))
    rw [drop_rd w i (by omega), gS]
    generalize rd w (i : Int) = p
    rw [w1, w2, wx, wy, wrap_nat i (by omega)]
    by_cases c1 : p = q - 1
    · rw [if_pos c1]
      have ih := sides_loop w hw q j hq hj d (i + 1) x (y + 1) (by omega) (by omega) (by omega)
      refine Ev.ite_pos c1 ?_
      by_cases c2 : y + 1 = j
      · exact Ev.ite_pos c2 (Ev.ite_neg (by omega) (Ev.ite_neg (by omega) ih))
      · exact Ev.ite_neg c2 ih
    · rw [if_neg c1]
      refine Ev.ite_neg c1 ?_
      by_cases c2 : y = j
      · refine Ev.ite_pos c2 ?_
        by_cases c3 : p = q - 2
        · rw [if_pos ⟨c2, Or.inl c3⟩]
          exact Ev.ite_pos c3 (sides_loop w hw q j hq hj d (i + 1) (x + 1) y (by omega) (by omega) (by omega))
        · refine Ev.ite_neg c3 ?_
          by_cases c4 : p = q
          · rw [if_pos ⟨c2, Or.inr c4⟩]
            exact Ev.ite_pos c4 (sides_loop w hw q j hq hj d (i + 1) (x + 1) y (by omega) (by omega) (by omega))
          · rw [if_neg (by omega)]
            exact Ev.ite_neg c4 (sides_loop w hw q j hq hj d (i + 1) x y (by omega) (by omega) (by omega))
      · rw [if_neg (by omega)]
        exact Ev.ite_neg c2 (sides_loop w hw q j hq hj d (i + 1) x y (by omega) (by omega) (by omega))
def mostQ (q : Int) (w : List Int) : Nat := w.countP fun p => decide (p + 1 = q)
theorem sdL_length (q : Int) : ∀ (w : List Int) (s : Int), (sdL q s w).length = mostQ q w + 1
  | [], _ => rfl
  | p :: w, s => by
    rw [sdL]
    unfold mostQ
    rw [List.countP_cons]
    by_cases c1 : p + 1 = q
    · rw [if_pos c1, List.length_cons, sdL_length q w 2, if_pos (decide_eq_true c1)]
      unfold mostQ
      omega
    · have e0 : (if decide (p + 1 = q) = true then 1 else 0) = 0 := if_neg (by simpa using c1)
      rw [if_neg c1, e0]
      split
      · rw [sdL_length q w]; rfl
      · rw [sdL_length q w]; rfl
def rowT (n : Int) (w : List Int) (q : Nat) : List Int := sdL q (sd0 n q) w
theorem rowT_length (n : Int) (w : List Int) (q : Nat) : (rowT n w q).length = mostQ q w + 1 := sdL_length _ _ _
theorem mostQ_le (q : Int) (w : List Int) : mostQ q w ≤ w.length := List.countP_le_length
theorem rowT_at (n : Int) (w : List Int) (hv : ∀ p ∈ w, 0 ≤ p ∧ p + 2 ≤ n) (q j : Nat) (h : j < (rowT n w q).length) : (rowT n w q)[j] = gS q j (sd0 n q) 0 w := by
  have e : (rowT n w q)[j]? = some (gS q j (sd0 n q) 0 w) := by
    unfold rowT at h ⊢
    cases j with
    | zero => exact gS_now q 0 w _
    | succ j =>
      have h2 := gS_later q w (sd0 n q) 0 j h
      rw [h2, Int.zero_add]
      have hs : sd0 n q = 2 := by
        rw [sdL_length] at h
        have hpos : 0 < mostQ q w := by omega
        unfold mostQ at hpos
        rw [List.countP_pos_iff] at hpos
        obtain ⟨p, hp, hpq⟩ := hpos
        have := hv p hp
        have := of_decide_eq_true hpq
        unfold sd0
        rw [if_pos (by omega), if_pos (by omega)]
        rfl
      rw [hs]
  rw [List.getElem?_eq_getElem h] at e
  exact Option.some.inj e
theorem sides_ev (n : Int) (hn : 3 ≤ n ∧ n ≤ 6) (w : List Int) (hw : w.length ≤ 1000) (q j : Nat) (hq : q ≤ 100) (hj : j ≤ 100000) : Ev (fun k => spec_l16Sides.f k n w q j) (gS q j (sd0 n q) 0 w) := by
  unfold spec_l16Sides.f
  refine Ev.bind0 (bitT _) (Ev.bind0 (bitT _) ?_)
  have e : wrap64 ((if decide ((q : Int) > 0) = true then 1 else 0) + (if decide ((q : Int) < n) = true then 1 else 0)) = sd0 n q := by
    unfold sd0
    by_cases c1 : 0 < (q : Int) <;> by_cases c2 : (q : Int) < n <;> simp [c1, c2] <;> exact wrap_in (by omega) (by omega)
  rw [e]
  have hb := sd0_bd n q
  have := sides_loop w hw q j (by omega) (by omega) w.length 0 (sd0 n q) 0 (by omega) (by omega) (by omega)
  rw [List.drop_zero] at this
  exact this
theorem tab_l2 (n : Int) (hn : 3 ≤ n ∧ n ≤ 6) (w : List Int) (hw : w.length ≤ 1000) (hv : ∀ p ∈ w, 0 ≤ p ∧ p + 2 ≤ n) (acc : List (List Int)) (ha : acc.length ≤ 1000) (q : Nat) (hq : q ≤ 100) (r : List (List Int)) (hr : Ev (fun k => spec_CellTable.l0 k n w (acc ++ [rowT n w q]) ((q + 1 : Nat) : Int)) r) :
    ∀ (d j : Nat), j + d = (rowT n w q).length → Ev (fun k => spec_CellTable.l2 k n w acc q ((rowT n w q).take j) (mostQ q w : Nat) (j : Nat)) r
  | 0, j, hj => by
    have hl := rowT_length n w q
    rw [List.take_of_length_le (by omega)]
    refine Ev.step (fun k => spec_CellTable.l2.eq_2 ..) (Ev.ite_neg (by omega) (Ev.ite_pos (by omega) ?_))
    rw [wrap_nat q (by omega)]
    exact hr
  | d + 1, j, hj => by
    have hl := rowT_length n w q
    have hm := mostQ_le q w
    have hjl : j < (rowT n w q).length := by omega
    have ih := tab_l2 n hn w hw hv acc ha q hq r hr d (j + 1) (by omega)
    rw [List.take_succ_eq_append_getElem hjl, rowT_at n w hv q j hjl] at ih
    refine Ev.step (fun k => spec_CellTable.l2.eq_2 ..) (Ev.ite_pos (by omega) (Ev.bind (sides_ev n hn w hw q j hq (by omega)) (Ev.ite_pos (by rw [List.length_take]; omega) ?_)))
    rw [wrap_nat j (by omega)]
    exact ih
theorem tab_l1 (n : Int) (hn : 3 ≤ n ∧ n ≤ 6) (w : List Int) (hw : w.length ≤ 1000) (hv : ∀ p ∈ w, 0 ≤ p ∧ p + 2 ≤ n) (acc : List (List Int)) (ha : acc.length ≤ 1000) (q : Nat) (hq : q ≤ 100) (r : List (List Int)) (hr : Ev (fun k => spec_CellTable.l0 k n w (acc ++ [rowT n w q]) ((q + 1 : Nat) : Int)) r) :
    ∀ (d i : Nat), i + d = w.length → Ev (fun k => spec_CellTable.l1 k n w acc q [] (mostQ q (w.take i) : Nat) (i : Nat)) r
  | 0, i, hi => by
    rw [List.take_of_length_le (by omega)]
    have h := tab_l2 n hn w hw hv acc ha q hq r hr _ 0 (Nat.zero_add _)
    rw [List.take_zero] at h
    exact Ev.step (fun k => spec_CellTable.l1.eq_2 ..) (Ev.ite_neg (by omega) h)
  | d + 1, i, hi => by
    have hil : i < w.length := by omega
    have ih := tab_l1 n hn w hw hv acc ha q hq r hr d (i + 1) (by omega)
    have hm := mostQ_le q (w.take i)
    rw [List.length_take] at hm
    have hrd : rd w (i : Int) = w[i] := by
      unfold rd
      rw [Int.toNat_natCast, getD_lt _ _ _ hil]
    have hw1 : wrap64 ((q : Int) - 1) = (q : Int) - 1 := wrap_in (by omega) (by omega)
    have e : (mostQ q (w.take (i + 1)) : Int) = wrap64 ((mostQ q (w.take i) : Nat) + (if (rd w (i : Int) == wrap64 ((q : Int) - 1)) = true then 1 else 0)) := by
      rw [hrd, hw1, List.take_succ_eq_append_getElem hil]
      unfold mostQ at hm ⊢
      rw [List.countP_append, List.countP_singleton]
      by_cases c : w[i] + 1 = (q : Int)
      · rw [if_pos (decide_eq_true c), if_pos (by simp; omega), wrap_in (by omega) (by omega)]
        omega
      · rw [if_neg (by simpa using c), if_neg (by simp; omega), wrap_in (by omega) (by omega)]
        omega
    rw [e] at ih
    refine Ev.step (fun k => spec_CellTable.l1.eq_2 ..) (Ev.ite_pos (by omega) (Ev.ite_pos (by omega) (Ev.bind0 (bitT _) ?_)))
    rw [wrap_nat i (by omega)]
    exact ih
theorem tab_l0 (m : Nat) (hn : 3 ≤ m ∧ m ≤ 6) (w : List Int) (hw : w.length ≤ 1000) (hv : ∀ p ∈ w, 0 ≤ p ∧ p + 2 ≤ (m : Int)) : ∀ (d q : Nat), q + d = m + 1 → Ev (fun k => spec_CellTable.l0 k m w ((List.range q).map (rowT m w)) (q : Nat)) ((List.range (m + 1)).map (rowT m w))
  | 0, q, hq => by
    obtain rfl : q = m + 1 := by omega
    exact Ev.step (fun k => spec_CellTable.l0.eq_2 ..) (Ev.ite_neg (by omega) (Ev.now _))
  | d + 1, q, hq => by
    have ih := tab_l0 m hn w hw hv d (q + 1) (by omega)
    rw [show (List.range (q + 1)).map (rowT m w) = (List.range q).map (rowT m w) ++ [rowT m w q] by rw [List.range_succ, List.map_append]; rfl] at ih
    have h := tab_l1 m (by omega) w hw hv ((List.range q).map (rowT m w)) (by rw [List.length_map, List.length_range]; omega) q (by omega) _ ih w.length 0 (by omega)
    exact Ev.step (fun k => spec_CellTable.l0.eq_2 ..) (Ev.ite_pos (by omega) h)
theorem runW_vals : ∀ (w l r : List Int), runW l w = some r → ∀ p ∈ w, 0 ≤ p ∧ p + 2 ≤ (l.length : Int)
  | [], _, _, _, p, hp => by cases hp
  | x :: w, l, r, h, p, hp => by
    unfold runW at h
    by_cases ho : okAt l x
    · rw [if_pos ho] at h
      rcases List.mem_cons.1 hp with rfl | hp
      · obtain ⟨o1, o2, _⟩ := ho
        exact ⟨o1, by omega⟩
      · have := runW_vals w (swp l x) r h p hp
        rw [swp_length] at this
        exact this
    · rw [if_neg ho] at h
      cases h
theorem rdRow (R : List (List Cel)) (j : Nat) (h : j < R.length) : rd_L11 R (j : Int) = R[j] := by
  unfold rd_L11
  rw [Int.toNat_natCast, getD_lt _ _ _ h]
theorem rdCel (R : List Cel) (j : Nat) (h : j < R.length) : rd_T101 R (j : Int) = R[j] := by
  unfold rd_T101
  rw [Int.toNat_natCast, getD_lt _ _ _ h]
theorem tabI_l1 (acc : List (List Int)) (ha : acc.length ≤ 1000) (R : List (List Cel)) (q : Nat) (hq : q ≤ 1000) (C : List Cel) (hC : C.length ≤ 1000) (r : List (List Int)) (hr : Ev (fun k => impl_CellTable.l0 k (acc ++ [C.map fun c => c.f0]) R (R.length : Int) ((q + 1 : Nat) : Int)) r) :
    ∀ (d i : Nat), i + d = C.length → Ev (fun k => impl_CellTable.l1 k acc ((C.take i).map fun c => c.f0) R (R.length : Int) (q : Nat) C (C.length : Int) (i : Nat)) r
  | 0, i, hi => by
    rw [List.take_of_length_le (by omega)]
    refine Ev.step (fun k => impl_CellTable.l1.eq_2 ..) (Ev.ite_neg (by omega) (Ev.ite_pos (by omega) ?_))
    rw [wrap_nat q (by omega)]
    exact hr
  | d + 1, i, hi => by
    have hil : i < C.length := by omega
    have ih := tabI_l1 acc ha R q hq C hC r hr d (i + 1) (by omega)
    rw [List.take_succ_eq_append_getElem hil, List.map_append] at ih
    refine Ev.step (fun k => impl_CellTable.l1.eq_2 ..) (Ev.ite_pos (by omega) (Ev.ite_pos (by omega) (Ev.ite_pos (by omega) (Ev.ite_pos (by rw [List.length_map, List.length_take]; omega) ?_))))
    rw [rdCel C i hil, wrap_nat i (by omega)]
    exact ih
theorem tabI_l0 (R : List (List Cel)) (hR : R.length ≤ 1000) (hc : ∀ C ∈ R, C.length ≤ 1000) : ∀ (d q : Nat), q + d = R.length → Ev (fun k => impl_CellTable.l0 k ((R.take q).map fun C => C.map fun c => c.f0) R (R.length : Int) (q : Nat)) (R.map fun C => C.map fun c => c.f0)
  | 0, q, hq => by
    rw [List.take_of_length_le (by omega)]
    exact Ev.step (fun k => impl_CellTable.l0.eq_2 ..) (Ev.ite_neg (by omega) (Ev.now _))
  | d + 1, q, hq => by
    have hql : q < R.length := by omega
    have ih := tabI_l0 R hR hc d (q + 1) (by omega)
    rw [List.take_succ_eq_append_getElem hql, List.map_append] at ih
    have h := tabI_l1 ((R.take q).map fun C => C.map fun c => c.f0) (by rw [List.length_map, List.length_take]; omega) R q (by omega) R[q] (hc _ (List.getElem_mem hql)) _ ih R[q].length 0 (by omega)
    refine Ev.step (fun k => impl_CellTable.l0.eq_2 ..) (Ev.ite_pos (by omega) (Ev.ite_pos (by omega) (Ev.ite_pos (by omega) ?_)))
    rw [rdRow R q hql]
    exact h
theorem cellTable_both (n : Int) (w : List Int) : ∃ r : List (List Int), r.length ≤ 7 ∧ (∀ l ∈ r, l.length ≤ 16) ∧ Ev (fun k => spec_CellTable.f k n w) r ∧ Ev (fun k => impl_CellTable.f k n w) r := by
  have hS := spec_IsWiring_ev n w
  have hI := impl_IsWiring_ev n w
  unfold spec_CellTable.f impl_CellTable.f
  cases hA : isW n w with
  | false =>
    rw [hA] at hS hI
    exact ⟨[], by simp, by simp, Ev.bind0 rfl (Ev.bind hS (Ev.ite_neg (by simp) (Ev.now _))), Ev.bind hI (Ev.ite_neg (by simp) (Ev.now _))⟩
  | true =>
    rw [hA] at hS hI
    obtain ⟨h3, h6, hl⟩ := isW_bounds hA
    obtain ⟨m, rfl⟩ := Int.eq_ofNat_of_zero_le (show 0 ≤ n by omega)
    obtain ⟨rr, hr⟩ := runW_of m w hA
    rw [Int.toNat_natCast] at hr
    have hv : ∀ p ∈ w, 0 ≤ p ∧ p + 2 ≤ (m : Int) := fun p hp => by
      have := runW_vals w (upTo m) rr hr p hp
      rw [upTo_length] at this
      exact this
    have hT := tab_l0 m (by omega) w (by omega) hv (m + 1) 0 (by omega)
    rw [List.range_zero, List.map_nil] at hT
    obtain ⟨c1, _⟩ := cellsP_rows m w hA
    have c2 := cellsP_sides m w hA
    rw [Int.toNat_natCast] at c1 c2
    have hrow : ∀ q, (rowT m w q).length ≤ 16 := fun q => by
      rw [rowT_length]
      have := mostQ_le q w
      omega
    have e : (cellsP m w).map (fun C => C.map fun c => c.f0) = (List.range (m + 1)).map (rowT m w) := by
      apply List.ext_getElem
      · rw [List.length_map, List.length_map, List.length_range, c1]
      · intro q h1 h2
        have hq : q < (cellsP m w).length := by rw [List.length_map] at h1; exact h1
        have := c2 q (by omega)
        rw [getD_lt _ _ _ hq] at this
        rw [List.getElem_map, List.getElem_map, List.getElem_range]
        exact this
    have hcl : ∀ C ∈ cellsP m w, C.length ≤ 1000 := fun C hC => by
      obtain ⟨q, hq, rfl⟩ := List.getElem_of_mem hC
      have := c2 q (by omega)
      rw [getD_lt _ _ _ hq] at this
      have h2 := congrArg List.length this
      rw [List.length_map] at h2
      have := hrow q
      unfold rowT at this
      omega
    have hP := tabI_l0 (cellsP m w) (by omega) hcl (cellsP m w).length 0 (by omega)
    rw [List.take_zero, List.map_nil, e] at hP
    refine ⟨(List.range (m + 1)).map (rowT m w), by rw [List.length_map, List.length_range]; omega, ?_, Ev.bind0 rfl (Ev.bind hS (Ev.ite_pos rfl hT)), Ev.bind hI (Ev.ite_pos rfl (Ev.bind (cellsOf_ev m w hA) hP))⟩
    intro l hl'
    obtain ⟨q, _, rfl⟩ := List.mem_map.1 hl'
    exact hrow q
theorem sameInts_self (l : List Int) (h : l.length ≤ 1048576) : Ev (fun k => laws_sameInts.f k l l) true := by
  unfold laws_sameInts.f
  refine Ev.ite_pos rfl ?_
  refine Ev.loop (fun i k => laws_sameInts.l0 k l l i) l.length true ?_ ?_ 0 (by omega)
  · exact Ev.step (fun k => laws_sameInts.l0.eq_2 ..) (Ev.ite_neg (by omega) (Ev.now _))
  · intro i hi ih
    refine Ev.step (fun k => laws_sameInts.l0.eq_2 ..) (Ev.ite_pos (by omega) (Ev.ite_pos (by omega) (Ev.ite_pos (by omega) (Ev.ite_pos rfl ?_))))
    rw [wrap_nat i (by omega)]
    exact ih
theorem sameLists_self (L : List (List Int)) (h : L.length ≤ 1048576) (h2 : ∀ l ∈ L, l.length ≤ 1048576) : Ev (fun k => laws_sameLists.f k L L) true := by
  unfold laws_sameLists.f
  refine Ev.ite_pos rfl ?_
  refine Ev.loop (fun i k => laws_sameLists.l0 k L L i) L.length true ?_ ?_ 0 (by omega)
  · exact Ev.step (fun k => laws_sameLists.l0.eq_2 ..) (Ev.ite_neg (by omega) (Ev.now _))
  · intro i hi ih
    have e : rd_L1 L (i : Int) = L[i] := by
      unfold rd_L1
      rw [Int.toNat_natCast, getD_lt _ _ _ hi]
    refine Ev.step (fun k => laws_sameLists.l0.eq_2 ..) (Ev.ite_pos (by omega) (Ev.ite_pos (by omega) (Ev.ite_pos (by omega) ?_)))
    rw [e, wrap_nat i (by omega)]
    exact Ev.bind (sameInts_self _ (h2 _ (List.getElem_mem hi))) (Ev.ite_pos rfl ih)
theorem samePoints_self (L : List S56) (h : L.length ≤ 1048576) : Ev (fun k => laws_samePoints.f k L L) true := by
  unfold laws_samePoints.f
  refine Ev.ite_pos rfl ?_
  refine Ev.loop (fun i k => laws_samePoints.l0 k L L i) L.length true ?_ ?_ 0 (by omega)
  · exact Ev.step (fun k => laws_samePoints.l0.eq_2 ..) (Ev.ite_neg (by omega) (Ev.now _))
  · intro i hi ih
    refine Ev.step (fun k => laws_samePoints.l0.eq_2 ..) (Ev.ite_pos (by omega) (Ev.ite_pos (by omega) (Ev.ite_pos (by omega) (Ev.ite_neg (by simp) ?_))))
    rw [wrap_nat i (by omega)]
    exact ih
end Go.Proofs.Ytoajlmlobaccdaa.Pure
namespace Go.Proofs.Ytoajlmlobaccdaa.Pure
set_option linter.unusedSimpArgs false
set_option linter.unusedVariables false
open Go.RowKit Go.Proofs.YtoajlmlobaccdaaW.PrintWords Go.Proofs.Ytoajlmlobaccdaa.P Go.Proofs.Ytoajlmlobaccdaa.Pl Go.Proofs.Ytoajlmlobaccdaa.Rk
theorem FnPure (l0 : List Int) (h0 : l0.length ≤ 9223372036854775807) (_ : ∀ y ∈ l0, (Lit.int .u8 y).wf = true) : ∃ k, laws_FnPure.f k l0 = some true := by
  refine Ev.rounds (g := fun k => laws_FnPure.f k l0) ?_
  unfold laws_FnPure.f laws_big.f
  refine Ev.bind0 rfl ?_
  by_cases hb : (l0.length : Int) > 1048576
  · exact Ev.ite_pos (decide_eq_true hb) (Ev.now _)
  obtain ⟨⟨n, w⟩, e1, hw, _⟩ := DrawIsWiring_ok l0 (by omega)
  obtain ⟨ps, e2, hp, _⟩ := DrawArePoints_ok l0 (by omega)
  have hw' : w.length ≤ 15 := hw
  obtain ⟨⟨t, ok⟩, ht, eS, eI⟩ := turn_both n w
  have ht' : t.length ≤ 16 := ht
  obtain ⟨a, ha, ha2, aS, aI⟩ := swaps_both n w
  obtain ⟨p, hp2, pS, pI⟩ := sort_both ps (by omega) (areP ps) (spec_ArePoints_ev ps (by omega)) (impl_ArePoints_ev ps (by omega)) (fun h => by have := areP_len h; omega)
  obtain ⟨c, hc, hc2, cS, cI⟩ := cellTable_both n w
  have hs : smallP t a p c = true := by
    unfold smallP
    simp only [Bool.and_eq_true, decide_eq_true_eq, List.all_eq_true]
    exact ⟨by omega, by omega, fun l hl => by have := ha2 l hl; omega, by omega, by omega, fun l hl => by have := hc2 l hl; omega⟩
  refine Ev.ite_neg (by simpa using hb) (Ev.bind e1 (Ev.bind e2 (Ev.ite_pos ⟨by show w.length ≤ 100000; omega, by omega⟩ (Ev.bind eI (Ev.bind aI (Ev.bind pI (Ev.bind cI (Ev.ite_pos hs ?_))))))))
  refine Ev.bind eS (Ev.bind (sameInts_self w (by omega)) (Ev.bind (samePoints_self ps (by omega)) (Ev.bind (sameInts_self t (by omega)) (Ev.bind aS (Ev.bind (sameLists_self a (by omega) (fun l hl => by have := ha2 l hl; omega)) ?_)))))
  exact Ev.bind pS (Ev.bind (samePoints_self p (by omega)) (Ev.bind cS (Ev.bind (sameLists_self c (by omega) (fun l hl => by have := hc2 l hl; omega)) (Ev.ite_pos (by simp) (Ev.now _)))))
end Go.Proofs.Ytoajlmlobaccdaa.Pure
