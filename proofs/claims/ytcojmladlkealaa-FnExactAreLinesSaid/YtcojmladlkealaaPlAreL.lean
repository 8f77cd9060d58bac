/- AreLines in plain words, and that the program's and the reference's both come to it. -/
import Derived.Test.YtcojmladlkealaaPFSpecAreLines
import Derived.Test.YtcojmladlkealaaPFImplAreLines
import Derived.Test.YtcojmladlkealaaPlLines
namespace Go.Proofs.Ytcojmladlkealaa.Pure
open Go.RowKit Go.Proofs.YtcojmladlkealaaW.PrintWords Go.Proofs.Ytcojmladlkealaa.P Go.Proofs.Ytcojmladlkealaa.Pl
abbrev rdL (l : List ILine) (i : Nat) : ILine := rd_T41 l (i : Int)
def inB (x : Int) : Bool := decide (-20 ≤ x ∧ x ≤ 20)
def farB (m : ILine) : Bool := !(inB m.f0 && inB m.f1 && inB m.f2) || (m.f0 == 0 && m.f1 == 0)
def sameB (a b : ILine) : Bool := decide (wrap64 (a.f0 * b.f1) = wrap64 (a.f1 * b.f0)) && (decide (wrap64 (a.f0 * b.f2) = wrap64 (a.f2 * b.f0)) && decide (wrap64 (a.f1 * b.f2) = wrap64 (a.f2 * b.f1)))
theorem sameB_comm (a b : ILine) : sameB a b = sameB b a := by
  have h : ∀ x y z w : Int, decide (wrap64 (x * y) = wrap64 (z * w)) = decide (wrap64 (w * z) = wrap64 (y * x)) := by
    intro x y z w
    rw [Int.mul_comm w z, Int.mul_comm y x]
    exact decide_eq_decide.mpr eq_comm
  unfold sameB
  rw [h a.f0 b.f1, h a.f0 b.f2, h a.f1 b.f2]
/-- Is line i right, and none of those ahead of it? -/
def okL (l : List ILine) (i : Nat) : Bool := !(farB (rdL l i)) && !((List.range i).any fun j => sameB (rdL l i) (rdL l j))
def areFrom (l : List ILine) (i : Nat) : Bool := ((List.range l.length).drop i).all (okL l) && decide (1 ≤ l.length ∧ l.length ≤ 6)
def areL (l : List ILine) : Bool := areFrom l 0
theorem range_drop (n i : Nat) (h : i < n) : (List.range n).drop i = i :: (List.range n).drop (i + 1) := by
  rw [List.drop_eq_getElem_cons (by simpa using h)]
  simp
theorem areFrom_step (l : List ILine) (i : Nat) (h : i < l.length) : areFrom l i = (okL l i && areFrom l (i + 1)) := by
  unfold areFrom
  rw [range_drop _ _ h, List.all_cons, Bool.and_assoc]
theorem same_eq (a b : ILine) : spec_l24Same.f a.f0 a.f1 a.f2 b.f0 b.f1 b.f2 = some (sameB a b) := by
  unfold spec_l24Same.f sameB
  by_cases h1 : wrap64 (a.f0 * b.f1) = wrap64 (a.f1 * b.f0)
  · rw [if_pos h1]
    by_cases h2 : wrap64 (a.f0 * b.f2) = wrap64 (a.f2 * b.f0)
    · rw [if_pos h2]
      simp [h1, h2]
      rfl
    · rw [if_neg h2]
      simp [h2]
  · rw [if_neg h1]
    simp [h1]
theorem isame_eq (a b : ILine) : impl_areSame.f a.f0 a.f1 a.f2 b.f0 b.f1 b.f2 = some (sameB a b) := same_eq a b
theorem rd_take (l : List ILine) (n j : Nat) (h : j < n) : rdL (l.take n) j = rdL l j := by
  simp only [rdL, rd_T41, Int.toNat_natCast]
  simp [List.getD_eq_getElem?_getD, h]
theorem contains_ev (l : List ILine) (n : Nat) (hn : n ≤ l.length) (hl : l.length ≤ 9223372036854775806) (m : ILine) :
    Ev (fun k => slices_ContainsFunc_Simpl_Line_impl_Line_impl_AreLines_1.f k (l.take n) m.f0 m.f1 m.f2) ((List.range n).any fun j => sameB m (rdL l j)) := by
  have hlen : (l.take n).length = n := by rw [List.length_take]; omega
  have key : ∀ d i, i + d = n → ∃ r, Ev (fun k => slices_IndexFunc_Simpl_Line_impl_Line_impl_AreLines_1.l0 k (l.take n) n i m.f0 m.f1 m.f2) r ∧ decide (r ≥ 0) = ((List.range n).drop i).any fun j => sameB m (rdL l j) := by
    intro d
    induction d with
    | zero =>
      intro i hi
      obtain rfl : i = n := by omega
      refine ⟨-1, Ev.step (fun k => slices_IndexFunc_Simpl_Line_impl_Line_impl_AreLines_1.l0.eq_2 ..) (Ev.ite_neg (by omega) (Ev.now _)), ?_⟩
      rw [List.drop_of_length_le (by simp)]
      rfl
    | succ d ih =>
      intro i hi
      obtain ⟨r, hr, he⟩ := ih (i + 1) (by omega)
      rw [range_drop n i (by omega), List.any_cons]
      have hs : impl_AreLines_1.f (rdL (l.take n) i).f0 (rdL (l.take n) i).f1 (rdL (l.take n) i).f2 m.f0 m.f1 m.f2 = some (sameB m (rdL l i)) := by
        unfold impl_AreLines_1.f
        rw [isame_eq, rd_take l n i (by omega)]
        rfl
      by_cases hb : sameB m (rdL l i) = true
      · refine ⟨i, Ev.step (fun k => slices_IndexFunc_Simpl_Line_impl_Line_impl_AreLines_1.l0.eq_2 ..) (Ev.ite_pos (by omega) (Ev.ite_pos (by omega) (Ev.ite_pos (by omega) (Ev.bind0 hs (Ev.ite_pos hb (Ev.now _)))))), ?_⟩
        rw [hb]
        simp
      · refine ⟨r, Ev.step (fun k => slices_IndexFunc_Simpl_Line_impl_Line_impl_AreLines_1.l0.eq_2 ..) (Ev.ite_pos (by omega) (Ev.ite_pos (by omega) (Ev.ite_pos (by omega) (Ev.bind0 hs (Ev.ite_neg hb ?_))))), ?_⟩
        · rw [wrap_nat i (by omega)]
          exact hr
        · rw [he, Bool.eq_false_iff.mpr hb, Bool.false_or]
  obtain ⟨r, hr, he⟩ := key n 0 (by omega)
  unfold slices_ContainsFunc_Simpl_Line_impl_Line_impl_AreLines_1.f slices_IndexFunc_Simpl_Line_impl_Line_impl_AreLines_1.f
  rw [hlen]
  refine Ev.bind hr (Ev.const ?_)
  rw [he, List.drop_zero]
theorem l1In_eq (x a b : Int) : spec_l1In.f x a b = some (decide (a ≤ x ∧ x ≤ b)) := by
  unfold spec_l1In.f
  by_cases h : x ≥ a
  · rw [if_pos h]
    simp [h]
  · rw [if_neg h]
    simp [show ¬ a ≤ x by omega]
theorem isFar_eq (x b : Int) (hb : 0 ≤ b ∧ b ≤ 1000000) : impl_isFar.f x b = some (!decide (-b ≤ x ∧ x ≤ b)) := by
  unfold impl_isFar.f
  rw [wrap_in (by omega) (by omega)]
  by_cases h : x < -b
  · rw [if_pos h]
    simp [show ¬ -b ≤ x by omega]
  · rw [if_neg h]
    by_cases h2 : x ≤ b
    · simp [h2, show -b ≤ x by omega, show ¬ x > b by omega]
    · simp [h2, show x > b by omega]
/-- What the reference does from line i on, once it is known whether line i is far. -/
theorem spec_j1_ev (l : List ILine) (hl : l.length ≤ 1048576) (i : Nat) (hi : i < l.length) (r : Bool) (h : Ev (fun k => spec_AreLines.l0 k l ((i + 1 : Nat) : Int)) r) (b : Bool) :
    Ev (fun k => spec_AreLines.j1 k l i b (rdL l i).f0 (rdL l i).f1 (rdL l i).f2) (!b && !((List.range i).any fun j => sameB (rdL l i) (rdL l j)) && r) := by
  refine Ev.step (fun k => spec_AreLines.j1.eq_2 ..) ?_
  cases b with
  | true => exact Ev.ite_pos rfl (Ev.now _)
  | false =>
    refine Ev.ite_neg (by simp) ?_
    have key := Ev.loop_to (fun j k => spec_AreLines.l1 k l i j (rdL l i).f0 (rdL l i).f1 (rdL l i).f2) i (fun j => !(((List.range i).drop j).any fun j => sameB (rdL l i) (rdL l j)) && r) ?_ ?_ 0 (by omega)
    · simpa using key
    · refine Ev.step (fun k => spec_AreLines.l1.eq_2 ..) (Ev.ite_neg (by omega) ?_)
      rw [wrap_nat i (by omega), List.drop_of_length_le (by simp)]
      simpa using h
    · intro j hj ih
      refine Ev.step (fun k => spec_AreLines.l1.eq_2 ..) (Ev.ite_pos (by omega) (Ev.ite_pos (by omega) (Ev.ite_pos (by omega) (Ev.bind0 (same_eq (rdL l j) (rdL l i)) ?_))))
      rw [range_drop i j hj, List.any_cons, sameB_comm (rdL l i) (rdL l j)]
      by_cases hb : sameB (rdL l j) (rdL l i) = true
      · rw [hb]
        exact Ev.ite_pos rfl (Ev.now _)
      · rw [Bool.eq_false_iff.mpr hb, Bool.false_or, wrap_nat j (by omega)]
        exact Ev.ite_neg (by simp) ih
theorem impl_j1_ev (l : List ILine) (hl : l.length ≤ 1048576) (i : Nat) (hi : i < l.length) (r : Bool) (h : Ev (fun k => impl_AreLines.l0 k l l l.length ((i + 1 : Nat) : Int)) r) (b : Bool) :
    Ev (fun k => impl_AreLines.j1 k l i l l.length i b (rdL l i).f0 (rdL l i).f1 (rdL l i).f2) (!b && !((List.range i).any fun j => sameB (rdL l i) (rdL l j)) && r) := by
  refine Ev.step (fun k => impl_AreLines.j1.eq_2 ..) ?_
  cases b with
  | true => exact Ev.ite_pos rfl (Ev.now _)
  | false =>
    refine Ev.ite_neg (by simp) (Ev.ite_pos (by omega) (Ev.ite_pos (by omega) ?_))
    rw [Int.toNat_natCast, wrap_nat i (by omega)]
    refine Ev.bind (contains_ev l i (by omega) (by omega) (rdL l i)) ?_
    by_cases hb : ((List.range i).any fun j => sameB (rdL l i) (rdL l j)) = true
    · rw [hb]
      exact Ev.ite_pos rfl (Ev.now _)
    · rw [Bool.eq_false_iff.mpr hb]
      exact Ev.ite_neg (by simp) h
theorem farB_of (m : ILine) : farB m = (!inB m.f0 || !inB m.f1 || !inB m.f2 || (m.f0 == 0 && m.f1 == 0)) := by
  unfold farB
  rw [Bool.not_and, Bool.not_and]
theorem spec_AreLines_ev (l : List ILine) (hl : l.length ≤ 1048576) : Ev (fun k => spec_AreLines.f k l) (areL l) := by
  unfold spec_AreLines.f areL
  refine Ev.loop_to (fun i k => spec_AreLines.l0 k l i) l.length (areFrom l) ?_ ?_ 0 (by omega)
  · refine Ev.step (fun k => spec_AreLines.l0.eq_2 ..) (Ev.ite_neg (by omega) (Ev.bind0 (l1In_eq ..) (Ev.const ?_)))
    unfold areFrom
    rw [List.drop_of_length_le (by simp)]
    simp only [List.all_nil, Bool.true_and, Option.some.injEq]
    exact decide_eq_decide.mpr (by omega)
  · intro i hi ih
    rw [areFrom_step l i hi]
    unfold okL
    refine Ev.step (fun k => spec_AreLines.l0.eq_2 ..) (Ev.ite_pos (by omega) (Ev.ite_pos (by omega) ?_))
    have hj := spec_j1_ev l hl i hi _ ih
    rw [farB_of]
    refine Ev.bind0 (l1In_eq ..) ?_
    change Ev (fun k => if inB (rdL l i).f0 = true then _ else _) _
    cases h0 : inB (rdL l i).f0 with
    | false => exact Ev.ite_neg (by simp) (by simpa using hj true)
    | true =>
      refine Ev.ite_pos rfl (Ev.bind0 (l1In_eq ..) ?_)
      change Ev (fun k => if inB (rdL l i).f1 = true then _ else _) _
      cases h1 : inB (rdL l i).f1 with
      | false => exact Ev.ite_neg (by simp) (by simpa using hj true)
      | true =>
        refine Ev.ite_pos rfl (Ev.bind0 (l1In_eq ..) ?_)
        change Ev (fun k => if inB (rdL l i).f2 = true then _ else _) _
        cases h2 : inB (rdL l i).f2 with
        | false => exact Ev.ite_neg (by simp) (by simpa using hj true)
        | true =>
          refine Ev.ite_pos rfl ?_
          by_cases hz : (rdL l i).f0 = 0
          · exact Ev.ite_pos hz (by simpa [hz] using hj ((rdL l i).f1 == 0))
          · exact Ev.ite_neg hz (by simpa [show ((rdL l i).f0 == 0) = false from beq_eq_false_iff_ne.mpr hz] using hj false)
theorem impl_AreLines_ev (l : List ILine) (hl : l.length ≤ 1048576) : Ev (fun k => impl_AreLines.f k l) (areL l) := by
  unfold impl_AreLines.f areL
  refine Ev.loop_to (fun i k => impl_AreLines.l0 k l l l.length i) l.length (areFrom l) ?_ ?_ 0 (by omega)
  · refine Ev.step (fun k => impl_AreLines.l0.eq_2 ..) (Ev.ite_neg (by omega) ?_)
    unfold areFrom
    rw [List.drop_of_length_le (by simp)]
    by_cases h1 : (l.length : Int) ≥ 1
    · refine Ev.ite_pos h1 (Ev.const ?_)
      simp only [List.all_nil, Bool.true_and, Option.some.injEq]
      exact decide_eq_decide.mpr (by omega)
    · refine Ev.ite_neg h1 (Ev.const ?_)
      simp only [List.all_nil, Bool.true_and, Option.some.injEq]
      exact (decide_eq_false (by omega)).symm
  · intro i hi ih
    rw [areFrom_step l i hi]
    unfold okL
    refine Ev.step (fun k => impl_AreLines.l0.eq_2 ..) (Ev.ite_pos (by omega) (Ev.ite_pos (by omega) (Ev.ite_pos (by omega) ?_)))
    have hj := impl_j1_ev l hl i hi _ ih
    rw [farB_of]
    refine Ev.bind0 (isFar_eq _ _ (by omega)) ?_
    change Ev (fun k => if (!inB (rdL l i).f0) = true then _ else _) _
    cases h0 : inB (rdL l i).f0 with
    | false => exact Ev.ite_pos rfl (by simpa using hj true)
    | true =>
      refine Ev.ite_neg (by simp) (Ev.bind0 (isFar_eq _ _ (by omega)) ?_)
      change Ev (fun k => if (!inB (rdL l i).f1) = true then _ else _) _
      cases h1 : inB (rdL l i).f1 with
      | false => exact Ev.ite_pos rfl (by simpa using hj true)
      | true =>
        refine Ev.ite_neg (by simp) (Ev.bind0 (isFar_eq _ _ (by omega)) ?_)
        change Ev (fun k => if (!inB (rdL l i).f2) = true then _ else _) _
        cases h2 : inB (rdL l i).f2 with
        | false => exact Ev.ite_pos rfl (by simpa using hj true)
        | true =>
          refine Ev.ite_neg (by simp) ?_
          by_cases hz : (rdL l i).f0 = 0
          · exact Ev.ite_pos hz (by simpa [hz] using hj ((rdL l i).f1 == 0))
          · exact Ev.ite_neg hz (by simpa [show ((rdL l i).f0 == 0) = false from beq_eq_false_iff_ne.mpr hz] using hj false)
theorem areL_bounds {l : List ILine} (h : areL l = true) : l.length ≤ 6 ∧ ∀ i, i < l.length → (-20 ≤ (rdL l i).f0 ∧ (rdL l i).f0 ≤ 20) ∧ (-20 ≤ (rdL l i).f1 ∧ (rdL l i).f1 ≤ 20) ∧ (-20 ≤ (rdL l i).f2 ∧ (rdL l i).f2 ≤ 20) := by
  unfold areL areFrom at h
  rw [Bool.and_eq_true, List.drop_zero, List.all_eq_true, decide_eq_true_eq] at h
  refine ⟨h.2.2, fun i hi => ?_⟩
  have h1 := h.1 i (by simpa using hi)
  unfold okL farB inB at h1
  simp only [Bool.and_eq_true, Bool.not_eq_true', Bool.or_eq_false_iff, Bool.not_eq_false', decide_eq_true_eq] at h1
  exact ⟨h1.1.1.1.1, h1.1.1.1.2, h1.1.1.2⟩
end Go.Proofs.Ytcojmladlkealaa.Pure
