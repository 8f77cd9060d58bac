/- What the law FnExactParallelClasses reaches, part 7: functions as plain Lean functions with the proofs that their calls come to them, and plain lemmas over these. Put together by a program (wip/pack.py). -/
import Derived.Test.YteblnjoljbdjjaaKFnExactParallelClassesb
import Derived.Test.YteblnjoljbdjjaaKFnExactParallelClassesf
import Derived.Test.YteblnjoljbdjjaaKFnExactParallelClassesa
import Derived.Test.YteblnjoljbdjjaaKFnExactParallelClassesc
import Derived.Test.YteblnjoljbdjjaaKFnExactParallelClassese
namespace Go.Proofs.Yteblnjoljbdjjaa.Pure
set_option linter.unusedSimpArgs false
set_option linter.unusedVariables false
open Go.RowKit Go.Proofs.YteblnjoljbdjjaaW.PrintWords Go.Proofs.Yteblnjoljbdjjaa.P Go.Proofs.Yteblnjoljbdjjaa.Pl
theorem rd_ltP (l : List Int) (i : Nat) (h : i < l.length) : rd l (i : Int) = l[i] := by
  unfold rd
  rw [Int.toNat_natCast, getD_lt _ _ _ h]
theorem put_down (S : List Int) (x : Int) (hS : S.length ≤ 1000) : ∀ p : Nat, p ≤ S.length → Ev (fun k => spec_l16Put.l0 k S x (p : Nat)) (S.take (posR ltI x S p) ++ x :: S.drop (posR ltI x S p))
  | 0, _ => by
    refine Ev.step (fun k => spec_l16Put.l0.eq_2 ..) (Ev.ite_neg (by omega) (Ev.bind0 rfl (Ev.ite_pos (by omega) (Ev.ite_pos (by omega) (Ev.bind0 rfl (Ev.ite_pos (by simp; omega) (Ev.bind0 rfl ?_)))))))
    refine Ev.bind0 rfl (Ev.ite_pos (by simp) (Ev.bind0 rfl (Ev.ite_pos (by simp; omega) (Ev.const ?_))))
    simp [posR]
  | p + 1, hp => by
    have hpl : p < S.length := by omega
    have hw : wrap64 (((p + 1 : Nat) : Int) - 1) = (p : Int) := by rw [wrap_in (by omega) (by omega)]; omega
    have hr : rd S (p : Int) = S[p]! := by rw [rd_ltP S p hpl, getElem!_pos S p hpl]
    unfold posR
    refine Ev.step (fun k => spec_l16Put.l0.eq_2 ..) (Ev.ite_pos (by omega) ?_)
    rw [hw]
    refine Ev.ite_pos (by omega) (Ev.ite_pos (by omega) ?_)
    rw [hr]
    by_cases hb : x < S[p]!
    · rw [if_pos (show ltI x S[p]! = true from decide_eq_true hb)]
      exact Ev.ite_pos hb (put_down S x hS p (by omega))
    · rw [if_neg (show ¬ ltI x S[p]! = true by unfold ltI; rw [decide_eq_true_eq]; exact hb)]
      refine Ev.ite_neg (by omega) (Ev.bind0 rfl (Ev.ite_pos (by omega) (Ev.ite_pos (by omega) (Ev.bind0 rfl (Ev.ite_pos (by simp; omega) (Ev.bind0 rfl ?_))))))
      refine Ev.bind0 rfl (Ev.ite_pos (by simp; omega) (Ev.bind0 rfl (Ev.ite_pos (by simp; omega) (Ev.const ?_))))
      simp
theorem l16Put_ev (S : List Int) (x : Int) (hS : S.length ≤ 1000) : Ev (fun k => spec_l16Put.f k S x) (insR ltI x S) := put_down S x hS S.length (Nat.le_refl _)
abbrev LLine := S107
abbrev ILine := S104
def toL (x : LLine) : ILine := ⟨x.f0, x.f1, x.f2⟩
theorem szLineS_eq (l : List LLine) (a : Int) (h0 : 0 ≤ a) (h1 : a ≤ 1048576) (hl : l.length ≤ 9223372036854775807) : laws_szLineS.f l a = some (if a < l.length then -1 else a - l.length) := by
  unfold laws_szLineS.f
  rw [wrap_in (by omega) (by omega)]
  by_cases h : a < (l.length : Int)
  · rw [if_pos h, if_pos (by omega)]
  · rw [if_neg h, if_neg (by omega)]
theorem toLineS_ev (l : List LLine) (hl : l.length ≤ 1048576) : Ev (fun k => laws_toLineS.f k l) (l.map toL) := by
  have hm : (l.map toL).length = l.length := List.length_map ..
  have key := Ev.loop (fun i k => laws_toLineS.l0 k l ((l.map toL).take i ++ List.replicate (l.length - i) z104) i) l.length (l.map toL) ?_ ?_ 0 (by omega)
  · unfold laws_toLineS.f
    simp only [Int.toNat_natCast]
    exact Ev.ite_pos (by omega) (Ev.ite_pos (by omega) (by simpa using key))
  · refine Ev.step (fun k => laws_toLineS.l0.eq_2 ..) ?_
    refine Ev.ite_neg (by omega) (Ev.const ?_)
    rw [List.take_of_length_le (by omega)]
    simp
  · intro i hi ih
    refine Ev.step (fun k => laws_toLineS.l0.eq_2 ..) ?_
    refine Ev.ite_pos (by omega) (Ev.ite_pos (by omega) ?_)
    refine Ev.bind0 rfl ?_
    refine Ev.ite_pos (by simp; omega) ?_
    rw [wrap_nat i (by omega)]
    have hx : (⟨(rd_T107 l i).f0, (rd_T107 l i).f1, (rd_T107 l i).f2⟩ : ILine) = (l.map toL)[i]'(by omega) := by
      simp only [List.getElem_map, toL, rd_T107, Int.toNat_natCast]
      rw [getD_lt _ _ _ hi]
    have hs := fill_set (l.map toL) z104 l.length i hm hi
    rw [← hs, ← hx] at ih
    exact ih
theorem eqLine_self (a b c : Int) : laws_eqLine.f a b c a b c = some true := by
  unfold laws_eqLine.f
  simp
theorem eqLineS_self (l : List ILine) (hl : l.length ≤ 1048576) : Ev (fun k => laws_eqLineS.f k l l) true := by
  unfold laws_eqLineS.f
  refine Ev.ite_pos rfl ?_
  refine Ev.loop (fun i k => laws_eqLineS.l0 k l l i) l.length true ?_ ?_ 0 (by omega)
  · refine Ev.step (fun k => laws_eqLineS.l0.eq_2 ..) ?_
    exact Ev.ite_neg (by omega) (Ev.now _)
  · intro i hi ih
    refine Ev.step (fun k => laws_eqLineS.l0.eq_2 ..) ?_
    refine Ev.ite_pos (by omega) (Ev.ite_pos (by omega) (Ev.ite_pos (by omega) ?_))
    refine Ev.bind0 (eqLine_self _ _ _) ?_
    refine Ev.ite_pos rfl ?_
    rw [wrap_nat i (by omega)]
    exact ih
abbrev rdL (l : List ILine) (i : Nat) : ILine := rd_T104 l (i : Int)
def inB (x : Int) : Bool := decide (-20 ≤ x ∧ x ≤ 20)
def farB (m : ILine) : Bool := !(inB m.f0 && inB m.f1 && inB m.f2) || (m.f0 == 0 && m.f1 == 0)
def sameB (a b : ILine) : Bool := decide (wrap64 (a.f0 * b.f1) = wrap64 (a.f1 * b.f0)) && (decide (wrap64 (a.f0 * b.f2) = wrap64 (a.f2 * b.f0)) && decide (wrap64 (a.f1 * b.f2) = wrap64 (a.f2 * b.f1)))
theorem sameB_comm (a b : ILine) : sameB a b = sameB b a := by
  have h : ∀ x y z w : Int, decide (wrap64 (x * y) = wrap64 (z * w)) = decide (wrap64 (w * z) = wrap64 (y * x)) := by
    intro x y z w
    rw [Int.mul_comm w z, Int.mul_comm y x]
    exact decide_eq_decide.mpr eq_comm
  unfold sameB
  rw [h a.f0 b.f1, h a.f0 b.f2, h a.f1 b.f2]
def okL (l : List ILine) (i : Nat) : Bool := !(farB (rdL l i)) && !((List.range i).any fun j => sameB (rdL l i) (rdL l j))
def areFrom (l : List ILine) (i : Nat) : Bool := ((List.range l.length).drop i).all (okL l) && decide (1 ≤ l.length ∧ l.length ≤ 6)
def areL (l : List ILine) : Bool := areFrom l 0
theorem range_drop (n i : Nat) (h : i < n) : (List.range n).drop i = i :: (List.range n).drop (i + 1) := by
  rw [List.drop_eq_getElem_cons (by simpa using h)]
  simp
theorem areFrom_step (l : List ILine) (i : Nat) (h : i < l.length) : areFrom l i = (okL l i && areFrom l (i + 1)) := by
  unfold areFrom
  rw [range_drop _ _ h, List.all_cons, Bool.and_assoc]
theorem same_eq (a b : ILine) : spec_l24Same.f a.f0 a.f1 a.f2 b.f0 b.f1 b.f2 = some (sameB a b) := by
  unfold spec_l24Same.f sameB
  by_cases h1 : wrap64 (a.f0 * b.f1) = wrap64 (a.f1 * b.f0)
  · rw [if_pos h1]
    by_cases h2 : wrap64 (a.f0 * b.f2) = wrap64 (a.f2 * b.f0)
    · rw [if_pos h2]
      simp [h1, h2]
      rfl
    · rw [if_neg h2]
      simp [h2]
  · rw [if_neg h1]
    simp [h1]
theorem isame_eq (a b : ILine) : impl_areSame.f a.f0 a.f1 a.f2 b.f0 b.f1 b.f2 = some (sameB a b) := same_eq a b
theorem rd_take (l : List ILine) (n j : Nat) (h : j < n) : rdL (l.take n) j = rdL l j := by
  simp only [rdL, rd_T104, Int.toNat_natCast]
  simp [List.getD_eq_getElem?_getD, h]
theorem contains_ev (l : List ILine) (n : Nat) (hn : n ≤ l.length) (hl : l.length ≤ 9223372036854775806) (m : ILine) :
    Ev (fun k => slices_ContainsFunc_Simpl_Line_impl_Line_impl_AreLines_1.f k (l.take n) m.f0 m.f1 m.f2) ((List.range n).any fun j => sameB m (rdL l j)) := by
  have hlen : (l.take n).length = n := by rw [List.length_take]; omega
  have key : ∀ d i, i + d = n → ∃ r, Ev (fun k => slices_IndexFunc_Simpl_Line_impl_Line_impl_AreLines_1.l0 k (l.take n) n i m.f0 m.f1 m.f2) r ∧ decide (r ≥ 0) = ((List.range n).drop i).any fun j => sameB m (rdL l j) := by
    intro d
    induction d with
    | zero =>
      intro i hi
      obtain rfl : i = n := by omega
      refine ⟨-1, Ev.step (fun k => slices_IndexFunc_Simpl_Line_impl_Line_impl_AreLines_1.l0.eq_2 ..) (Ev.ite_neg (by omega) (Ev.now _)), ?_⟩
      rw [List.drop_of_length_le (by simp)]
      rfl
    | succ d ih =>
      intro i hi
      obtain ⟨r, hr, he⟩ := ih (i + 1) (by omega)
      rw [range_drop n i (by omega), List.any_cons]
      have hs : impl_AreLines_1.f (rdL (l.take n) i).f0 (rdL (l.take n) i).f1 (rdL (l.take n) i).f2 m.f0 m.f1 m.f2 = some (sameB m (rdL l i)) := by
        unfold impl_AreLines_1.f
        rw [isame_eq, rd_take l n i (by omega)]
        rfl
      by_cases hb : sameB m (rdL l i) = true
      · refine ⟨i, Ev.step (fun k => slices_IndexFunc_Simpl_Line_impl_Line_impl_AreLines_1.l0.eq_2 ..) (Ev.ite_pos (by omega) (Ev.ite_pos (by omega) (Ev.ite_pos (by omega) (Ev.bind0 hs (Ev.ite_pos hb (Ev.now _)))))), ?_⟩
        rw [hb]
        simp
      · refine ⟨r, Ev.step (fun k => slices_IndexFunc_Simpl_Line_impl_Line_impl_AreLines_1.l0.eq_2 ..) (Ev.ite_pos (by omega) (Ev.ite_pos (by omega) (Ev.ite_pos (by omega) (Ev.bind0 hs (Ev.ite_neg hb ?_))))), ?_⟩
        · rw [wrap_nat i (by omega)]
          exact hr
        · rw [he, Bool.eq_false_iff.mpr hb, Bool.false_or]
  obtain ⟨r, hr, he⟩ := key n 0 (by omega)
  unfold slices_ContainsFunc_Simpl_Line_impl_Line_impl_AreLines_1.f slices_IndexFunc_Simpl_Line_impl_Line_impl_AreLines_1.f
  rw [hlen]
  refine Ev.bind hr (Ev.const ?_)
  rw [he, List.drop_zero]
theorem l1In_eq (x a b : Int) : spec_l1In.f x a b = some (decide (a ≤ x ∧ x ≤ b)) := by
  unfold spec_l1In.f
  by_cases h : x ≥ a
  · rw [if_pos h]
    simp [h]
  · rw [if_neg h]
    simp [show ¬ a ≤ x by omega]
theorem isFar_eq (x b : Int) (hb : 0 ≤ b ∧ b ≤ 1000000) : impl_isFar.f x b = some (!decide (-b ≤ x ∧ x ≤ b)) := by
  unfold impl_isFar.f
  rw [wrap_in (by omega) (by omega)]
  by_cases h : x < -b
  · rw [if_pos h]
    simp [show ¬ -b ≤ x by omega]
  · rw [if_neg h]
    by_cases h2 : x ≤ b
    · simp [h2, show -b ≤ x by omega, show ¬ x > b by omega]
    · simp [h2, show x > b by omega]
theorem spec_j1_ev (l : List ILine) (hl : l.length ≤ 1048576) (i : Nat) (hi : i < l.length) (r : Bool) (h : Ev (fun k => spec_AreLines.l0 k l ((i + 1 : Nat) : Int)) r) (b : Bool) :
    Ev (fun k => spec_AreLines.j1 k l i b (rdL l i).f0 (rdL l i).f1 (rdL l i).f2) (!b && !((List.range i).any fun j => sameB (rdL l i) (rdL l j)) && r) := by
  refine Ev.step (fun k => spec_AreLines.j1.eq_2 ..) ?_
  cases b with
  | true => exact Ev.ite_pos rfl (Ev.now _)
  | false =>
    refine Ev.ite_neg (by simp) ?_
    have key := Ev.loop_to (fun j k => spec_AreLines.l1 k l i j (rdL l i).f0 (rdL l i).f1 (rdL l i).f2) i (fun j => !(((List.range i).drop j).any fun j => sameB (rdL l i) (rdL l j)) && r) ?_ ?_ 0 (by omega)
    · simpa using key
    · refine Ev.step (fun k => spec_AreLines.l1.eq_2 ..) (Ev.ite_neg (by omega) ?_)
      rw [wrap_nat i (by omega), List.drop_of_length_le (by simp)]
      simpa using h
    · intro j hj ih
      refine Ev.step (fun k => spec_AreLines.l1.eq_2 ..) (Ev.ite_pos (by omega) (Ev.ite_pos (by omega) (Ev.ite_pos (by omega) (Ev.bind0 (same_eq (rdL l j) (rdL l i)) ?_))))
      rw [range_drop i j hj, List.any_cons, sameB_comm (rdL l i) (rdL l j)]
      by_cases hb : sameB (rdL l j) (rdL l i) = true
      · rw [hb]
        exact Ev.ite_pos rfl (Ev.now _)
      · rw [Bool.eq_false_iff.mpr hb, Bool.false_or, wrap_nat j (by omega)]
        exact Ev.ite_neg (by simp) ih
theorem impl_j1_ev (l : List ILine) (hl : l.length ≤ 1048576) (i : Nat) (hi : i < l.length) (r : Bool) (h : Ev (fun k => impl_AreLines.l0 k l l l.length ((i + 1 : Nat) : Int)) r) (b : Bool) :
    Ev (fun k => impl_AreLines.j1 k l i l l.length i b (rdL l i).f0 (rdL l i).f1 (rdL l i).f2) (!b && !((List.range i).any fun j => sameB (rdL l i) (rdL l j)) && r) := by
  refine Ev.step (fun k => impl_AreLines.j1.eq_2 ..) ?_
  cases b with
  | true => exact Ev.ite_pos rfl (Ev.now _)
  | false =>
    refine Ev.ite_neg (by simp) (Ev.ite_pos (by omega) (Ev.ite_pos (by omega) ?_))
    rw [Int.toNat_natCast, wrap_nat i (by omega)]
    refine Ev.bind (contains_ev l i (by omega) (by omega) (rdL l i)) ?_
    by_cases hb : ((List.range i).any fun j => sameB (rdL l i) (rdL l j)) = true
    · rw [hb]
      exact Ev.ite_pos rfl (Ev.now _)
    · rw [Bool.eq_false_iff.mpr hb]
      exact Ev.ite_neg (by simp) h
theorem farB_of (m : ILine) : farB m = (!inB m.f0 || !inB m.f1 || !inB m.f2 || (m.f0 == 0 && m.f1 == 0)) := by
  unfold farB
  rw [Bool.not_and, Bool.not_and]
theorem spec_AreLines_ev (l : List ILine) (hl : l.length ≤ 1048576) : Ev (fun k => spec_AreLines.f k l) (areL l) := by
  unfold spec_AreLines.f areL
  refine Ev.loop_to (fun i k => spec_AreLines.l0 k l i) l.length (areFrom l) ?_ ?_ 0 (by omega)
  · refine Ev.step (fun k => spec_AreLines.l0.eq_2 ..) (Ev.ite_neg (by omega) (Ev.bind0 (l1In_eq ..) (Ev.const ?_)))
    unfold areFrom
    rw [List.drop_of_length_le (by simp)]
    simp only [List.all_nil, Bool.true_and, Option.some.injEq]
    exact decide_eq_decide.mpr (by omega)
  · intro i hi ih
    rw [areFrom_step l i hi]
    unfold okL
    refine Ev.step (fun k => spec_AreLines.l0.eq_2 ..) (Ev.ite_pos (by omega) (Ev.ite_pos (by omega) ?_))
    have hj := spec_j1_ev l hl i hi _ ih
    rw [farB_of]
    refine Ev.bind0 (l1In_eq ..) ?_
    change Ev (fun k => if inB (rdL l i).f0 = true then _ else _) _
    cases h0 : inB (rdL l i).f0 with
    | false => exact Ev.ite_neg (by simp) (by simpa using hj true)
    | true =>
      refine Ev.ite_pos rfl (Ev.bind0 (l1In_eq ..) ?_)
      change Ev (fun k => if inB (rdL l i).f1 = true then _ else _) _
      cases h1 : inB (rdL l i).f1 with
      | false => exact Ev.ite_neg (by simp) (by simpa using hj true)
      | true =>
        refine Ev.ite_pos rfl (Ev.bind0 (l1In_eq ..) ?_)
        change Ev (fun k => if inB (rdL l i).f2 = true then _ else _) _
        cases h2 : inB (rdL l i).f2 with
        | false => exact Ev.ite_neg (by simp) (by simpa using hj true)
        | true =>
          refine Ev.ite_pos rfl ?_
          by_cases hz : (rdL l i).f0 = 0
          · exact Ev.ite_pos hz (by simpa [hz] using hj ((rdL l i).f1 == 0))
          · exact Ev.ite_neg hz (by simpa [show ((rdL l i).f0 == 0) = false from beq_eq_false_iff_ne.mpr hz] using hj false)
theorem impl_AreLines_ev (l : List ILine) (hl : l.length ≤ 1048576) : Ev (fun k => impl_AreLines.f k l) (areL l) := by
  unfold impl_AreLines.f areL
  refine Ev.loop_to (fun i k => impl_AreLines.l0 k l l l.length i) l.length (areFrom l) ?_ ?_ 0 (by omega)
  · refine Ev.step (fun k => impl_AreLines.l0.eq_2 ..) (Ev.ite_neg (by omega) ?_)
    unfold areFrom
    rw [List.drop_of_length_le (by simp)]
    by_cases h1 : (l.length : Int) ≥ 1
    · refine Ev.ite_pos h1 (Ev.const ?_)
      simp only [List.all_nil, Bool.true_and, Option.some.injEq]
      exact decide_eq_decide.mpr (by omega)
    · refine Ev.ite_neg h1 (Ev.const ?_)
      simp only [List.all_nil, Bool.true_and, Option.some.injEq]
      exact (decide_eq_false (by omega)).symm
  · intro i hi ih
    rw [areFrom_step l i hi]
    unfold okL
    refine Ev.step (fun k => impl_AreLines.l0.eq_2 ..) (Ev.ite_pos (by omega) (Ev.ite_pos (by omega) (Ev.ite_pos (by omega) ?_)))
    have hj := impl_j1_ev l hl i hi _ ih
    rw [farB_of]
    refine Ev.bind0 (isFar_eq _ _ (by omega)) ?_
    change Ev (fun k => if (!inB (rdL l i).f0) = true then _ else _) _
    cases h0 : inB (rdL l i).f0 with
    | false => exact Ev.ite_pos rfl (by simpa using hj true)
    | true =>
      refine Ev.ite_neg (by simp) (Ev.bind0 (isFar_eq _ _ (by omega)) ?_)
      change Ev (fun k => if (!inB (rdL l i).f1) = true then _ else _) _
      cases h1 : inB (rdL l i).f1 with
      | false => exact Ev.ite_pos rfl (by simpa using hj true)
      | true =>
        refine Ev.ite_neg (by simp) (Ev.bind0 (isFar_eq _ _ (by omega)) ?_)
        change Ev (fun k => if (!inB (rdL l i).f2) = true then _ else _) _
        cases h2 : inB (rdL l i).f2 with
        | false => exact Ev.ite_pos rfl (by simpa using hj true)
        | true =>
          refine Ev.ite_neg (by simp) ?_
          by_cases hz : (rdL l i).f0 = 0
          · exact Ev.ite_pos hz (by simpa [hz] using hj ((rdL l i).f1 == 0))
          · exact Ev.ite_neg hz (by simpa [show ((rdL l i).f0 == 0) = false from beq_eq_false_iff_ne.mpr hz] using hj false)
theorem areL_bounds {l : List ILine} (h : areL l = true) : l.length ≤ 6 ∧ ∀ i, i < l.length → (-20 ≤ (rdL l i).f0 ∧ (rdL l i).f0 ≤ 20) ∧ (-20 ≤ (rdL l i).f1 ∧ (rdL l i).f1 ≤ 20) ∧ (-20 ≤ (rdL l i).f2 ∧ (rdL l i).f2 ≤ 20) := by
  unfold areL areFrom at h
  rw [Bool.and_eq_true, List.drop_zero, List.all_eq_true, decide_eq_true_eq] at h
  refine ⟨h.2.2, fun i hi => ?_⟩
  have h1 := h.1 i (by simpa using hi)
  unfold okL farB inB at h1
  simp only [Bool.and_eq_true, Bool.not_eq_true', Bool.or_eq_false_iff, Bool.not_eq_false', decide_eq_true_eq] at h1
  exact ⟨h1.1.1.1.1, h1.1.1.1.2, h1.1.1.2⟩
theorem markL_from : ∀ (d i : Nat) (x : List ILine) (c : Nat), i + d = x.length → x.length ≤ 1048576 → c ≤ 100000000 - 3 * d → ∃ M, Ev (fun k => laws_markLineS.l0 k x (c : Int) (i : Nat)) (((c + 3 * d : Nat) : Int), M)
  | 0, i, x, c, hi, hx, hc => ⟨x, Ev.step (fun k => laws_markLineS.l0.eq_2 ..) (Ev.ite_neg (by omega) (Ev.now _))⟩
  | d + 1, i, x, c, hi, hx, hc => by
    have w1 : wrap64 ((c : Int) + 1) = ((c + 1 : Nat) : Int) := wrap_nat c (by omega)
    have w2 : wrap64 (((c + 1 : Nat) : Int) + 1) = ((c + 2 : Nat) : Int) := wrap_nat (c + 1) (by omega)
    have w3 : wrap64 (((c + 2 : Nat) : Int) + 1) = ((c + 3 : Nat) : Int) := wrap_nat (c + 2) (by omega)
    have key : ∀ y : List ILine, y.length = x.length → ∃ M, Ev (fun k => laws_markLineS.l0 k y ((c + 3 : Nat) : Int) ((i + 1 : Nat) : Int)) (((c + 3 * (d + 1) : Nat) : Int), M) := fun y hy => by
      obtain ⟨M, hM⟩ := markL_from d (i + 1) y (c + 3) (by omega) (by omega) (by omega)
      rw [show c + 3 + 3 * d = c + 3 * (d + 1) by omega] at hM
      exact ⟨M, hM⟩
    have hst := key (((x.set (i : Int).toNat ⟨(c : Int), (rd_T104 x i).f1, (rd_T104 x i).f2⟩).set (i : Int).toNat ⟨(rd_T104 (x.set (i : Int).toNat ⟨(c : Int), (rd_T104 x i).f1, (rd_T104 x i).f2⟩) i).f0, ((c + 1 : Nat) : Int), (rd_T104 (x.set (i : Int).toNat ⟨(c : Int), (rd_T104 x i).f1, (rd_T104 x i).f2⟩) i).f2⟩).set (i : Int).toNat ⟨(rd_T104 ((x.set (i : Int).toNat ⟨(c : Int), (rd_T104 x i).f1, (rd_T104 x i).f2⟩).set (i : Int).toNat ⟨(rd_T104 (x.set (i : Int).toNat ⟨(c : Int), (rd_T104 x i).f1, (rd_T104 x i).f2⟩) i).f0, ((c + 1 : Nat) : Int), (rd_T104 (x.set (i : Int).toNat ⟨(c : Int), (rd_T104 x i).f1, (rd_T104 x i).f2⟩) i).f2⟩) i).f0, (rd_T104 ((x.set (i : Int).toNat ⟨(c : Int), (rd_T104 x i).f1, (rd_T104 x i).f2⟩).set (i : Int).toNat ⟨(rd_T104 (x.set (i : Int).toNat ⟨(c : Int), (rd_T104 x i).f1, (rd_T104 x i).f2⟩) i).f0, ((c + 1 : Nat) : Int), (rd_T104 (x.set (i : Int).toNat ⟨(c : Int), (rd_T104 x i).f1, (rd_T104 x i).f2⟩) i).f2⟩) i).f1, ((c + 2 : Nat) : Int)⟩) (by simp)
    obtain ⟨M, hM⟩ := hst
    refine ⟨M, Ev.step (fun k => laws_markLineS.l0.eq_2 ..) (Ev.ite_pos (by omega) (Ev.ite_pos (by omega) ?_))⟩
    rw [w1, w2, w3, wrap_nat i (by omega)]
    exact Ev.bind0 rfl (Ev.bind0 rfl hM)
theorem markLineS_ev (l : List ILine) (hl : l.length ≤ 1048576) : ∃ M, Ev (fun k => laws_markLineS.f k l 1) (((1 + 3 * l.length : Nat) : Int), M) := markL_from l.length 0 l 1 (by omega) hl (by omega)
theorem rd_ltZ (l : List Int) (i : Nat) (h : i < l.length) : rd l (i : Int) = l[i] := by
  unfold rd
  rw [Int.toNat_natCast, getD_lt _ _ _ h]
theorem eqIntS_selfZ (l : List Int) (hl : l.length ≤ 1048576) : Ev (fun k => laws_eqIntS.f k l l) true := by
  unfold laws_eqIntS.f
  refine Ev.ite_pos rfl ?_
  refine Ev.loop (fun i k => laws_eqIntS.l0 k l l i) l.length true ?_ ?_ 0 (by omega)
  · refine Ev.step (fun k => laws_eqIntS.l0.eq_2 ..) ?_
    exact Ev.ite_neg (by omega) (Ev.now _)
  · intro i hi ih
    refine Ev.step (fun k => laws_eqIntS.l0.eq_2 ..) ?_
    refine Ev.ite_pos (by omega) (Ev.ite_pos (by omega) (Ev.ite_pos (by omega) (Ev.ite_pos rfl ?_)))
    rw [wrap_nat i (by omega)]
    exact ih
def marksF (c n : Nat) : List Int := (List.range n).map fun i => ((c + i : Nat) : Int)
theorem marksF_length (c n : Nat) : (marksF c n).length = n := by simp [marksF]
theorem rd_marksF (c n i : Nat) (h : i < n) : rd (marksF c n) (i : Int) = ((c + i : Nat) : Int) := by
  rw [rd_ltZ _ _ (by rw [marksF_length]; exact h)]
  simp [marksF]
theorem marksF_set (l : List Int) (c n i : Nat) (hl : l.length = n) (hi : i < n) : (marksF c i ++ l.drop i).set i ((c + i : Nat) : Int) = marksF c (i + 1) ++ l.drop (i + 1) := by
  have h0 : (marksF c i).length = i := marksF_length c i
  rw [List.set_append_right _ _ (by omega), h0, Nat.sub_self, List.drop_eq_getElem_cons (by omega), List.set_cons_zero]
  simp [marksF, List.range_succ]
theorem markIntS_from (l : List Int) (c : Nat) (hc : c ≤ 100000000) (hl : l.length ≤ 1048576) : Ev (fun k => laws_markIntS.f k l c) (((c + l.length : Nat) : Int), marksF c l.length) := by
  have key := Ev.loop (fun i k => laws_markIntS.l0 k (marksF c i ++ l.drop i) ((c + i : Nat) : Int) i) l.length (((c + l.length : Nat) : Int), marksF c l.length) ?_ ?_ 0 (by omega)
  · unfold laws_markIntS.f
    simpa [marksF] using key
  · refine Ev.step (fun k => laws_markIntS.l0.eq_2 ..) ?_
    refine Ev.ite_neg (by simp [marksF_length]) (Ev.const ?_)
    simp
  · intro i hi ih
    refine Ev.step (fun k => laws_markIntS.l0.eq_2 ..) ?_
    refine Ev.ite_pos (by simp [marksF_length]; omega) (Ev.ite_pos (by omega) ?_)
    rw [wrap_nat i (by omega), wrap_nat (c + i) (by omega), Int.toNat_natCast, marksF_set l c l.length i rfl hi]
    exact ih
theorem heldIntS_from (c n : Nat) (hc : c ≤ 100000000) (hl : n ≤ 1048576) : Ev (fun k => laws_heldIntS.f k (marksF c n) c) ((c + n : Nat) : Int) := by
  have key := Ev.loop (fun i k => laws_heldIntS.l0 k (marksF c n) ((c + i : Nat) : Int) i) n ((c + n : Nat) : Int) ?_ ?_ 0 (by omega)
  · exact key
  · refine Ev.step (fun k => laws_heldIntS.l0.eq_2 ..) ?_
    exact Ev.ite_neg (by simp [marksF_length]) (Ev.now _)
  · intro i hi ih
    refine Ev.step (fun k => laws_heldIntS.l0.eq_2 ..) ?_
    refine Ev.ite_pos (by simp [marksF_length]; omega) (Ev.ite_pos (by omega) (Ev.ite_pos (rd_marksF c n i hi) ?_))
    rw [wrap_nat i (by omega), wrap_nat (c + i) (by omega)]
    exact ih
end Go.Proofs.Yteblnjoljbdjjaa.Pure
namespace Go.Proofs.Yteblnjoljbdjjaa.Pure
set_option linter.unusedSimpArgs false
set_option linter.unusedVariables false
open Go.RowKit Go.Proofs.YteblnjoljbdjjaaW.PrintWords Go.Proofs.Yteblnjoljbdjjaa.P Go.Proofs.Yteblnjoljbdjjaa.Pl Go.Proofs.Yteblnjoljbdjjaa.Rk
def parB (a b : ILine) : Bool := (wrap64 (a.f0 * b.f1)) == (wrap64 (a.f1 * b.f0))
theorem par_eq (a b : ILine) : spec_l24Parallel.f a.f0 a.f1 a.f2 b.f0 b.f1 b.f2 = some (parB a b) := rfl
theorem ipar_eq (a b : ILine) : impl_areParallel.f a.f0 a.f1 a.f2 b.f0 b.f1 b.f2 = some (parB a b) := rfl
theorem containsP_ev (l : List ILine) (n : Nat) (hn : n ≤ l.length) (hl : l.length ≤ 9223372036854775806) (m : ILine) :
    Ev (fun k => slices_ContainsFunc_Simpl_Line_impl_Line_impl_ParallelClasses_1.f k (l.take n) m.f0 m.f1 m.f2) ((List.range n).any fun j => parB m (rdL l j)) := by
  have hlen : (l.take n).length = n := by rw [List.length_take]; omega
  have key : ∀ d i, i + d = n → ∃ r, Ev (fun k => slices_IndexFunc_Simpl_Line_impl_Line_impl_ParallelClasses_1.l0 k (l.take n) n i m.f0 m.f1 m.f2) r ∧ decide (r ≥ 0) = ((List.range n).drop i).any fun j => parB m (rdL l j) := by
    intro d
    induction d with
    | zero =>
      intro i hi
      obtain rfl : i = n := by omega
      refine ⟨-1, Ev.step (fun k => slices_IndexFunc_Simpl_Line_impl_Line_impl_ParallelClasses_1.l0.eq_2 ..) (Ev.ite_neg (by omega) (Ev.now _)), ?_⟩
      rw [List.drop_of_length_le (by simp)]
      rfl
    | succ d ih =>
      intro i hi
      obtain ⟨r, hr, he⟩ := ih (i + 1) (by omega)
      rw [range_drop n i (by omega), List.any_cons]
      have hs : impl_ParallelClasses_1.f (rdL (l.take n) i).f0 (rdL (l.take n) i).f1 (rdL (l.take n) i).f2 m.f0 m.f1 m.f2 = some (parB m (rdL l i)) := by
        unfold impl_ParallelClasses_1.f
        rw [ipar_eq, rd_take l n i (by omega)]
        rfl
      by_cases hb : parB m (rdL l i) = true
      · refine ⟨i, Ev.step (fun k => slices_IndexFunc_Simpl_Line_impl_Line_impl_ParallelClasses_1.l0.eq_2 ..) (Ev.ite_pos (by omega) (Ev.ite_pos (by omega) (Ev.ite_pos (by omega) (Ev.bind0 hs (Ev.ite_pos hb (Ev.now _)))))), ?_⟩
        rw [hb]
        simp
      · refine ⟨r, Ev.step (fun k => slices_IndexFunc_Simpl_Line_impl_Line_impl_ParallelClasses_1.l0.eq_2 ..) (Ev.ite_pos (by omega) (Ev.ite_pos (by omega) (Ev.ite_pos (by omega) (Ev.bind0 hs (Ev.ite_neg hb ?_))))), ?_⟩
        · rw [wrap_nat i (by omega)]
          exact hr
        · rw [he, Bool.eq_false_iff.mpr hb, Bool.false_or]
  obtain ⟨r, hr, he⟩ := key n 0 (by omega)
  unfold slices_ContainsFunc_Simpl_Line_impl_Line_impl_ParallelClasses_1.f slices_IndexFunc_Simpl_Line_impl_Line_impl_ParallelClasses_1.f
  rw [hlen]
  refine Ev.bind hr (Ev.const ?_)
  rw [he, List.drop_zero]
def cntP (l : List ILine) (i : Nat) : Nat → Nat
  | 0 => 0
  | m + 1 => cntP l i m + if parB (rdL l i) (rdL l m) = true then 1 else 0
theorem iteP (c : Prop) [Decidable c] : (if c then 1 else 0 : Nat) ≤ 1 := by split <;> omega
theorem cntP_le (l : List ILine) (i : Nat) : ∀ m, cntP l i m ≤ m
  | 0 => Nat.le_refl _
  | m + 1 => by
    unfold cntP
    exact Nat.add_le_add (cntP_le l i m) (iteP _)
def flP (l : List ILine) (i : Nat) : Nat → Bool
  | 0 => true
  | m + 1 => flP l i m && (!parB (rdL l i) (rdL l m) || decide (i ≤ m))
theorem flP_spec (l : List ILine) (i : Nat) : ∀ m, flP l i m = !((List.range (min m i)).any fun j => parB (rdL l i) (rdL l j))
  | 0 => by simp [flP]
  | m + 1 => by
    rw [flP, flP_spec l i m]
    by_cases h : i ≤ m
    · rw [decide_eq_true h, Bool.or_true, Bool.and_true, show min (m + 1) i = min m i by omega]
    · rw [decide_eq_false h, Bool.or_false, show min m i = m by omega, show min (m + 1) i = m + 1 by omega, List.range_succ, List.any_append]
      simp [Bool.not_or]
def clsP (l : List ILine) : Nat → Nat → List Int
  | 0, _ => []
  | d + 1, i => if flP l i l.length = true then (cntP l i l.length : Nat) :: clsP l d (i + 1) else clsP l d (i + 1)
theorem clsP_le (l : List ILine) : ∀ d i, (clsP l d i).length ≤ d
  | 0, _ => Nat.le_refl _
  | d + 1, i => by
    unfold clsP
    have := clsP_le l d (i + 1)
    split
    · rw [List.length_cons]; omega
    · omega
theorem spec_inner (l : List ILine) (hl : l.length ≤ 6) (S : List Int) (i : Nat) (hi : i < l.length) (R : List Int)
    (h : Ev (fun k => if flP l i l.length = true then ((spec_l16Put.f k S (cntP l i l.length : Nat)).bind fun t => (spec_ParallelClasses.l0 k l t (wrap64 ((i : Int) + 1)))) else (spec_ParallelClasses.l0 k l S (wrap64 ((i : Int) + 1)))) R) :
    Ev (fun k => spec_ParallelClasses.l1 k l S i 0 true 0) R := by
  refine Ev.loop (fun m k => spec_ParallelClasses.l1 k l S i (cntP l i m : Nat) (flP l i m) (m : Nat)) l.length R ?_ ?_ 0 (by omega)
  · exact Ev.step (fun k => spec_ParallelClasses.l1.eq_2 ..) (Ev.ite_neg (by omega) h)
  · intro m hm ih
    have hc := cntP_le l i m
    rw [cntP, flP] at ih
    refine Ev.step (fun k => spec_ParallelClasses.l1.eq_2 ..) (Ev.ite_pos (by omega) (Ev.ite_pos (by omega) (Ev.ite_pos (by omega) (Ev.ite_pos (by omega) (Ev.bind0 (par_eq (rdL l i) (rdL l m)) ?_)))))
    rw [wrap_nat m (by omega)]
    cases hp : parB (rdL l i) (rdL l m) with
    | true =>
      rw [hp, if_pos rfl, Bool.not_true, Bool.false_or] at ih
      refine Ev.ite_pos rfl ?_
      rw [wrap_nat _ (by omega)]
      cases hf : flP l i m with
      | true =>
        rw [hf, Bool.true_and] at ih
        refine Ev.ite_pos rfl ?_
        rw [show decide ((m : Int) ≥ (i : Int)) = decide (i ≤ m) from decide_eq_decide.mpr (by omega)]
        exact ih
      | false =>
        rw [hf, Bool.false_and] at ih
        exact Ev.ite_neg (by simp) ih
    | false =>
      rw [hp, if_neg (by simp), Bool.not_false, Bool.true_or, Bool.and_true, Nat.add_zero] at ih
      exact Ev.ite_neg (by simp) ih
theorem spec_cls (l : List ILine) (hl : l.length ≤ 6) : ∀ d i, i + d = l.length → ∀ S : List Int, S.length + d ≤ 6 → Ev (fun k => spec_ParallelClasses.l0 k l S (i : Nat)) (insS ltI S (clsP l d i))
  | 0, i, hi, S, hS => Ev.step (fun k => spec_ParallelClasses.l0.eq_2 ..) (Ev.ite_neg (by omega) (Ev.now _))
  | d + 1, i, hi, S, hS => by
    refine Ev.step (fun k => spec_ParallelClasses.l0.eq_2 ..) (Ev.ite_pos (by omega) (spec_inner l hl S i (by omega) _ ?_))
    rw [wrap_nat i (by omega), clsP]
    cases hf : flP l i l.length with
    | true =>
      rw [if_pos rfl, insS]
      exact Ev.ite_pos rfl (Ev.bind (l16Put_ev S _ (by omega)) (spec_cls l hl d (i + 1) (by omega) _ (by rw [insR_length]; omega)))
    | false =>
      rw [if_neg (by simp)]
      exact Ev.ite_neg (by simp) (spec_cls l hl d (i + 1) (by omega) S (by omega))
theorem impl_inner (l : List ILine) (hl : l.length ≤ 6) (S : List Int) (hS : S.length ≤ 100) (i : Nat) (hi : i < l.length) (R : List Int)
    (h : Ev (fun k => if flP l i l.length = true then (impl_ParallelClasses.l0 k l (S ++ [((cntP l i l.length : Nat) : Int)]) l (l.length : Int) ((i + 1 : Nat) : Int)) else (impl_ParallelClasses.l0 k l S l (l.length : Int) ((i + 1 : Nat) : Int))) R) :
    Ev (fun k => impl_ParallelClasses.l1 k l S i 0 l (l.length : Int) i l (l.length : Int) 0 (rdL l i).f0 (rdL l i).f1 (rdL l i).f2) R := by
  refine Ev.loop (fun m k => impl_ParallelClasses.l1 k l S i (cntP l i m : Nat) l (l.length : Int) i l (l.length : Int) (m : Nat) (rdL l i).f0 (rdL l i).f1 (rdL l i).f2) l.length R ?_ ?_ 0 (by omega)
  · refine Ev.step (fun k => impl_ParallelClasses.l1.eq_2 ..) (Ev.ite_neg (by omega) (Ev.ite_pos (by omega) (Ev.ite_pos (by omega) ?_)))
    rw [Int.toNat_natCast, wrap_nat i (by omega)]
    refine Ev.bind (containsP_ev l i (by omega) (by omega) (rdL l i)) ?_
    rw [flP_spec, show min l.length i = i by omega] at h
    cases ha : (List.range i).any fun j => parB (rdL l i) (rdL l j) with
    | true =>
      rw [ha] at h
      exact Ev.ite_pos rfl (by simpa using h)
    | false =>
      rw [ha] at h
      exact Ev.ite_neg (by simp) (Ev.ite_pos (by omega) (by simpa using h))
  · intro m hm ih
    have hc := cntP_le l i m
    rw [cntP] at ih
    refine Ev.step (fun k => impl_ParallelClasses.l1.eq_2 ..) (Ev.ite_pos (by omega) (Ev.ite_pos (by omega) (Ev.ite_pos (by omega) (Ev.bind0 (ipar_eq (rdL l i) (rdL l m)) ?_))))
    rw [wrap_nat m (by omega)]
    cases hp : parB (rdL l i) (rdL l m) with
    | true =>
      rw [hp, if_pos rfl] at ih
      refine Ev.ite_pos rfl ?_
      rw [wrap_nat _ (by omega)]
      exact ih
    | false =>
      rw [hp, if_neg (by simp), Nat.add_zero] at ih
      exact Ev.ite_neg (by simp) ih
theorem impl_cls (l : List ILine) (hl : l.length ≤ 6) : ∀ d i, i + d = l.length → ∀ S : List Int, S.length + d ≤ 6 → Ev (fun k => impl_ParallelClasses.l0 k l S l (l.length : Int) (i : Nat)) ((S ++ clsP l d i).mergeSort fun x y => decide (x ≤ y))
  | 0, i, hi, S, hS => by
    refine Ev.step (fun k => impl_ParallelClasses.l0.eq_2 ..) (Ev.ite_neg (by omega) (Ev.bind0 (a := (S ++ clsP l 0 i).mergeSort fun x y => decide (x ≤ y)) ?_ (Ev.now _)))
    unfold slices_Sort_Sint_int.f
    rw [if_pos (by omega), clsP, List.append_nil]
  | d + 1, i, hi, S, hS => by
    refine Ev.step (fun k => impl_ParallelClasses.l0.eq_2 ..) (Ev.ite_pos (by omega) (Ev.ite_pos (by omega) (Ev.ite_pos (by omega) (impl_inner l hl S (by omega) i (by omega) _ ?_))))
    rw [clsP]
    cases hf : flP l i l.length with
    | true =>
      rw [if_pos rfl]
      have h := impl_cls l hl d (i + 1) (by omega) (S ++ [((cntP l i l.length : Nat) : Int)]) (by rw [List.length_append, List.length_singleton]; omega)
      rw [List.append_assoc] at h
      exact Ev.ite_pos rfl h
    | false =>
      rw [if_neg (by simp)]
      exact Ev.ite_neg (by simp) (impl_cls l hl d (i + 1) (by omega) S (by omega))
theorem classes_both (l : List ILine) (hl : l.length ≤ 1048576) : ∃ L : List Int, L.length ≤ 1000 ∧ Ev (fun k => spec_ParallelClasses.f k l) L ∧ Ev (fun k => impl_ParallelClasses.f k l) L := by
  have hS := spec_AreLines_ev l hl
  have hI := impl_AreLines_ev l hl
  unfold spec_ParallelClasses.f impl_ParallelClasses.f
  cases hA : areL l with
  | false =>
    rw [hA] at hS hI
    exact ⟨[], by simp, Ev.bind0 rfl (Ev.bind hS (Ev.ite_neg (by simp) (Ev.now _))), Ev.bind hI (Ev.ite_neg (by simp) (Ev.now _))⟩
  | true =>
    rw [hA] at hS hI
    obtain ⟨h6, _⟩ := areL_bounds hA
    have h1 := spec_cls l h6 l.length 0 (by omega) [] (by simp; omega)
    have h2 := impl_cls l h6 l.length 0 (by omega) [] (by simp; omega)
    rw [insS_mergeSort] at h1
    refine ⟨_, ?_, Ev.bind0 rfl (Ev.bind hS (Ev.ite_pos rfl h1)), Ev.bind hI (Ev.ite_pos rfl h2)⟩
    rw [List.length_mergeSort]
    have := clsP_le l l.length 0
    omega
theorem FnExactParallelClasses (l0 : List LLine) (h0 : l0.length ≤ 9223372036854775807) (_ : ∀ y ∈ l0, Q107 y) : ∃ k, laws_FnExactParallelClasses.f k l0 = some true := by
  refine Ev.rounds (g := fun k => laws_FnExactParallelClasses.f k l0) ?_
  unfold laws_FnExactParallelClasses.f
  refine Ev.bind0 (szLineS_eq l0 1048576 (by omega) (by omega) h0) ?_
  by_cases hs : 1048576 < (l0.length : Int)
  · rw [if_pos hs]
    exact Ev.ite_pos (by omega) (Ev.now _)
  rw [if_neg hs]
  refine Ev.ite_neg (by omega) ?_
  have e0 := toLineS_ev l0 (by omega)
  have hl : (l0.map toL).length ≤ 1048576 := by simp; omega
  obtain ⟨L, hL, h1, h2⟩ := classes_both (l0.map toL) hl
  have e1 := eqIntS_selfZ L (by omega)
  have e2 := markIntS_from L 1 (by omega) (by omega)
  have e3 := heldIntS_from 1 L.length (by omega) (by omega)
  obtain ⟨M, hM⟩ := markLineS_ev (l0.map toL) hl
  refine Ev.bind e0 (Ev.bind h1 (Ev.bind e0 (Ev.bind h2 (Ev.bind e1 (Ev.ite_pos rfl (Ev.bind e0 (Ev.bind (eqLineS_self _ hl) (Ev.ite_pos rfl (Ev.bind hM (Ev.ite_neg (by omega) (Ev.bind e1 ?_)))))))))))
  exact Ev.step (fun k => laws_FnExactParallelClasses.j0.eq_2 ..) (Ev.ite_neg (by simp) (Ev.bind e2 (Ev.bind e3 (Ev.ite_neg (by omega) (Ev.ite_pos rfl (Ev.bind e0 (Ev.bind h2 (Ev.bind e1 (Ev.ite_pos rfl (Ev.bind e3 (Ev.ite_neg (by omega) (Ev.ite_pos rfl (Ev.now _)))))))))))))
end Go.Proofs.Yteblnjoljbdjjaa.Pure
