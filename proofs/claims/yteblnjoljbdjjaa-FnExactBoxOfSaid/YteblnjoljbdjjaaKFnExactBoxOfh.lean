/- What the law FnExactBoxOf reaches, part 8: functions as plain Lean functions with the proofs that their calls come to them, and plain lemmas over these. Put together by a program (wip/pack.py). -/
import Derived.Test.YteblnjoljbdjjaaKFnExactBoxOfc
import Derived.Test.YteblnjoljbdjjaaKFnExactBoxOfg
import Derived.Test.YteblnjoljbdjjaaKFnExactBoxOfa
import Derived.Test.YteblnjoljbdjjaaKFnExactBoxOfd
import Derived.Test.YteblnjoljbdjjaaKFnExactBoxOfe
namespace Go.Proofs.Yteblnjoljbdjjaa.Pure
set_option linter.unusedSimpArgs false
set_option linter.unusedVariables false
open Go.RowKit Go.Proofs.YteblnjoljbdjjaaW.PrintWords Go.Proofs.Yteblnjoljbdjjaa.P Go.Proofs.Yteblnjoljbdjjaa.Pl
abbrev T3 := S122
def tri : Nat → List T3
  | 3 => [⟨0, 1, 2⟩]
  | 4 => [⟨0, 1, 2⟩, ⟨0, 1, 3⟩, ⟨0, 2, 3⟩, ⟨1, 2, 3⟩]
  | 5 => [⟨0, 1, 2⟩, ⟨0, 1, 3⟩, ⟨0, 1, 4⟩, ⟨0, 2, 3⟩, ⟨0, 2, 4⟩, ⟨0, 3, 4⟩, ⟨1, 2, 3⟩, ⟨1, 2, 4⟩, ⟨1, 3, 4⟩, ⟨2, 3, 4⟩]
  | 6 => [⟨0, 1, 2⟩, ⟨0, 1, 3⟩, ⟨0, 1, 4⟩, ⟨0, 1, 5⟩, ⟨0, 2, 3⟩, ⟨0, 2, 4⟩, ⟨0, 2, 5⟩, ⟨0, 3, 4⟩, ⟨0, 3, 5⟩, ⟨0, 4, 5⟩, ⟨1, 2, 3⟩, ⟨1, 2, 4⟩, ⟨1, 2, 5⟩, ⟨1, 3, 4⟩, ⟨1, 3, 5⟩, ⟨1, 4, 5⟩, ⟨2, 3, 4⟩, ⟨2, 3, 5⟩, ⟨2, 4, 5⟩, ⟨3, 4, 5⟩]
  | 7 => [⟨0, 1, 2⟩, ⟨0, 1, 3⟩, ⟨0, 1, 4⟩, ⟨0, 1, 5⟩, ⟨0, 1, 6⟩, ⟨0, 2, 3⟩, ⟨0, 2, 4⟩, ⟨0, 2, 5⟩, ⟨0, 2, 6⟩, ⟨0, 3, 4⟩, ⟨0, 3, 5⟩, ⟨0, 3, 6⟩, ⟨0, 4, 5⟩, ⟨0, 4, 6⟩, ⟨0, 5, 6⟩, ⟨1, 2, 3⟩, ⟨1, 2, 4⟩, ⟨1, 2, 5⟩, ⟨1, 2, 6⟩, ⟨1, 3, 4⟩, ⟨1, 3, 5⟩, ⟨1, 3, 6⟩, ⟨1, 4, 5⟩, ⟨1, 4, 6⟩, ⟨1, 5, 6⟩, ⟨2, 3, 4⟩, ⟨2, 3, 5⟩, ⟨2, 3, 6⟩, ⟨2, 4, 5⟩, ⟨2, 4, 6⟩, ⟨2, 5, 6⟩, ⟨3, 4, 5⟩, ⟨3, 4, 6⟩, ⟨3, 5, 6⟩, ⟨4, 5, 6⟩]
  | _ => []
theorem tri_some : ∀ n : Nat, n ≤ 7 → impl_triplesOf.f 500 n = some (tri n)
  | 0, _ => by kernel_rfl
  | 1, _ => by kernel_rfl
  | 2, _ => by kernel_rfl
  | 3, _ => by kernel_rfl
  | 4, _ => by kernel_rfl
  | 5, _ => by kernel_rfl
  | 6, _ => by kernel_rfl
  | 7, _ => by kernel_rfl
  | n + 8, h => absurd h (by omega)
theorem triplesOf_ev (n : Nat) (h : n ≤ 7) : Ev (fun k => impl_triplesOf.f k n) (tri n) := Ev.of (impl_triplesOf.mono _) (tri_some n h)
def okT (n : Nat) (t : T3) : Bool := decide (0 ≤ t.f0 ∧ t.f0 < t.f1 ∧ t.f1 < t.f2 ∧ t.f2 < n)
theorem tri_ok (n : Nat) (h : n ≤ 7) : (tri n).all (okT n) = true := by
  have : (List.range 8).all (fun n => (tri n).all (okT n)) = true := by decide +kernel
  rw [List.all_eq_true] at this
  exact this n (by simp; omega)
def put3 (l : List Int) (t : T3) (v : Int) : List Int := chiSet l t.f0 t.f1 t.f2 v
def fill (v : Nat → Int) : List T3 → Nat → List Int → List Int
  | [], _, l => l
  | t :: ts, m, l => fill v ts (m + 1) (put3 l t (v m))
def par (t : T3) (x y z : Int) : Option Bool :=
  if (x = t.f0 ∧ y = t.f1 ∧ z = t.f2) ∨ (x = t.f1 ∧ y = t.f2 ∧ z = t.f0) ∨ (x = t.f2 ∧ y = t.f0 ∧ z = t.f1) then some true
  else if (x = t.f0 ∧ y = t.f2 ∧ z = t.f1) ∨ (x = t.f2 ∧ y = t.f1 ∧ z = t.f0) ∨ (x = t.f1 ∧ y = t.f0 ∧ z = t.f2) then some false else none
def src : List T3 → Nat → Int → Int → Int → Option (Nat × Bool)
  | [], _, _, _, _ => none
  | t :: ts, m, x, y, z => (src ts (m + 1) x y z).or ((par t x y z).map fun b => (m, b))
def sval (v : Nat → Int) (o : Int) : Option (Nat × Bool) → Int
  | some (m, true) => v m
  | some (m, false) => wrap64 (-v m)
  | none => o
def sgn (x : Int) : Int := if x < 0 then -1 else if x > 0 then 1 else 0
theorem signOf_eq (x : Int) : impl_signOf.f x = some (sgn x) := by
  unfold impl_signOf.f cmp_Compare_int.f cmp_isNaN_int.f sgn
  simp only [bne_self_eq_false, Option.bind_some, Bool.false_eq_true, if_false]
  by_cases h : x < 0
  · simp [h]
  · by_cases h2 : x > 0
    · simp [h, h2]
    · simp [h, h2]
def nearB (b : Int) (p : Pt) : Bool := decide (-b ≤ p.f0 ∧ p.f0 ≤ b) && decide (-b ≤ p.f1 ∧ p.f1 ≤ b)
def areaP (a b c : Pt) : Int := wrap64 ((wrap64 ((wrap64 (b.f0 - a.f0)) * (wrap64 (c.f1 - a.f1)))) - (wrap64 ((wrap64 (b.f1 - a.f1)) * (wrap64 (c.f0 - a.f0)))))
theorem range_dropP (n i : Nat) (h : i < n) : (List.range n).drop i = i :: (List.range n).drop (i + 1) := by
  rw [List.drop_eq_getElem_cons (by simpa using h)]
  simp
theorem l1In_p (x a b : Int) : spec_l1In.f x a b = some (decide (a ≤ x ∧ x ≤ b)) := by
  unfold spec_l1In.f
  by_cases h : x ≥ a
  · rw [if_pos h]
    simp [h]
  · rw [if_neg h]
    simp [show ¬ a ≤ x by omega]
theorem isFar_p (x b : Int) (hb : 0 ≤ b ∧ b ≤ 1000000) : impl_isFar.f x b = some (!decide (-b ≤ x ∧ x ≤ b)) := by
  unfold impl_isFar.f
  rw [wrap_in (by omega) (by omega)]
  by_cases h : x < -b
  · rw [if_pos h]
    simp [show ¬ -b ≤ x by omega]
  · rw [if_neg h]
    by_cases h2 : x ≤ b
    · simp [h2, show -b ≤ x by omega, show ¬ x > b by omega]
    · simp [h2, show x > b by omega]
theorem fits_eq (p : Pt) (b : Int) (hb : 0 ≤ b ∧ b ≤ 1000000) : spec_l2Fits.f p.f0 p.f1 b = some (nearB b p) := by
  unfold spec_l2Fits.f nearB
  rw [wrap_in (by omega) (by omega), l1In_p, l1In_p]
  by_cases h : -b ≤ p.f0 ∧ p.f0 ≤ b
  · simp [h]
  · simp [h]
theorem near1_eq (p : Pt) (b : Int) (hb : 0 ≤ b ∧ b ≤ 1000000) : impl_areNear_1.f p.f0 p.f1 b = some (!nearB b p) := by
  unfold impl_areNear_1.f nearB
  rw [isFar_p _ _ hb, isFar_p _ _ hb]
  by_cases h : -b ≤ p.f0 ∧ p.f0 ≤ b
  · simp [h]
  · simp [h]
def nearAll (b : Int) (l : List Pt) : Bool := (List.range l.length).all fun i => nearB b (rdP l i)
theorem areNear_ev (b : Int) (hb : 0 ≤ b ∧ b ≤ 1000000) (l : List Pt) (hl : l.length ≤ 1048576) : Ev (fun k => impl_areNear.f k b l) (nearAll b l) := by
  have key : ∀ d i, i + d = l.length → ∃ r, Ev (fun k => slices_IndexFunc_Simpl_Point_impl_Point_impl_areNear_1.l0 k l l.length i b) r ∧ decide (r ≥ 0) = !((List.range l.length).drop i).all fun j => nearB b (rdP l j) := by
    intro d
    induction d with
    | zero =>
      intro i hi
      refine ⟨-1, Ev.step (fun k => slices_IndexFunc_Simpl_Point_impl_Point_impl_areNear_1.l0.eq_2 ..) (Ev.ite_neg (by omega) (Ev.now _)), ?_⟩
      rw [List.drop_of_length_le (by simp; omega)]
      rfl
    | succ d ih =>
      intro i hi
      obtain ⟨r, hr, he⟩ := ih (i + 1) (by omega)
      rw [range_dropP _ i (by omega), List.all_cons]
      cases hn : nearB b (rdP l i) with
      | false =>
        refine ⟨i, Ev.step (fun k => slices_IndexFunc_Simpl_Point_impl_Point_impl_areNear_1.l0.eq_2 ..) (Ev.ite_pos (by omega) (Ev.ite_pos (by omega) (Ev.ite_pos (by omega) (Ev.bind0 (near1_eq _ _ hb) (Ev.ite_pos (by rw [hn]; rfl) (Ev.now _)))))), ?_⟩
        simp
      | true =>
        refine ⟨r, Ev.step (fun k => slices_IndexFunc_Simpl_Point_impl_Point_impl_areNear_1.l0.eq_2 ..) (Ev.ite_pos (by omega) (Ev.ite_pos (by omega) (Ev.ite_pos (by omega) (Ev.bind0 (near1_eq _ _ hb) (Ev.ite_neg (by rw [hn]; decide) ?_))))), ?_⟩
        · rw [wrap_nat i (by omega)]
          exact hr
        · rw [he, Bool.true_and]
  obtain ⟨r, hr, he⟩ := key l.length 0 (by omega)
  unfold impl_areNear.f slices_ContainsFunc_Simpl_Point_impl_Point_impl_areNear_1.f slices_IndexFunc_Simpl_Point_impl_Point_impl_areNear_1.f
  refine Ev.bind (Ev.bind hr (Ev.now _)) (Ev.const ?_)
  rw [he, List.drop_zero, Bool.not_not]
  rfl
theorem TurnOf_ev (a b c : Pt) (ha : nearB 50 a = true) (hb : nearB 50 b = true) (hc : nearB 50 c = true) : Ev (fun k => impl_TurnOf.f k a.f0 a.f1 b.f0 b.f1 c.f0 c.f1) (sgn (areaP a b c)) := by
  unfold impl_TurnOf.f
  have h := areNear_ev 1000 (by omega) [a, b, c] (by simp)
  have e : nearAll 1000 [a, b, c] = true := by
    unfold nearB at ha hb hc
    simp only [Bool.and_eq_true, decide_eq_true_eq] at ha hb hc
    simp only [nearAll, List.length_cons, List.length_nil, List.range_succ, List.range_zero, List.nil_append, List.cons_append, List.all_cons, List.all_nil, Bool.and_true, Bool.and_eq_true]
    refine ⟨?_, ?_, ?_⟩
    · show nearB 1000 a = true
      unfold nearB
      simp only [Bool.and_eq_true, decide_eq_true_eq]
      omega
    · show nearB 1000 b = true
      unfold nearB
      simp only [Bool.and_eq_true, decide_eq_true_eq]
      omega
    · show nearB 1000 c = true
      unfold nearB
      simp only [Bool.and_eq_true, decide_eq_true_eq]
      omega
  rw [e] at h
  exact Ev.bind h (Ev.ite_pos rfl (Ev.bind0 rfl (Ev.bind0 (signOf_eq _) (Ev.now _))))
theorem sgn_zero (x : Int) : sgn x = 0 ↔ x = 0 := by
  unfold sgn
  split
  · omega
  · split <;> omega
def bentT (l : List Pt) (t : T3) : Bool := areaP (rd_T72 l t.f0) (rd_T72 l t.f1) (rd_T72 l t.f2) != 0
def bent (l : List Pt) (k j i : Nat) : Bool := areaP (rdP l k) (rdP l j) (rdP l i) != 0
def areP (l : List Pt) : Bool := decide (3 ≤ l.length ∧ l.length ≤ 7) && (nearAll 50 l && (tri l.length).all (bentT l))
theorem nearAll_at {b : Int} {l : List Pt} (h : nearAll b l = true) (i : Nat) (hi : i < l.length) : nearB b (rdP l i) = true := by
  unfold nearAll at h
  rw [List.all_eq_true] at h
  exact h i (by simpa using hi)
theorem impl_ArePoints_ev (l : List Pt) (hl : l.length ≤ 1048576) : Ev (fun k => impl_ArePoints.f k l) (areP l) := by
  unfold impl_ArePoints.f areP
  have no : Ev (fun k => impl_ArePoints.j0 k l true) false := Ev.step (fun k => impl_ArePoints.j0.eq_2 ..) (Ev.ite_pos rfl (Ev.now _))
  by_cases h3 : (l.length : Int) < 3
  · rw [show decide (3 ≤ l.length ∧ l.length ≤ 7) = false from decide_eq_false (by omega), Bool.false_and]
    exact Ev.ite_pos h3 no
  refine Ev.ite_neg h3 ?_
  by_cases h7 : (l.length : Int) > 7
  · rw [show decide (3 ≤ l.length ∧ l.length ≤ 7) = false from decide_eq_false (by omega), Bool.false_and]
    exact Ev.ite_pos h7 no
  refine Ev.ite_neg h7 (Ev.bind (areNear_ev 50 (by omega) l hl) ?_)
  rw [show decide (3 ≤ l.length ∧ l.length ≤ 7) = true from decide_eq_true (by omega), Bool.true_and]
  cases hn : nearAll 50 l with
  | false => exact no
  | true =>
    rw [Bool.true_and]
    refine Ev.step (fun k => impl_ArePoints.j0.eq_2 ..) (Ev.ite_neg (by simp) (Ev.bind (triplesOf_ev l.length (by omega)) ?_))
    have h35 : (tri l.length).length ≤ 1000 := by
      have : (List.range 8).all (fun n => decide ((tri n).length ≤ 1000)) = true := by decide +kernel
      rw [List.all_eq_true] at this
      simpa using this l.length (by simp; omega)
    have key := Ev.loop_to (fun i k => impl_ArePoints.l0 k l (tri l.length) (tri l.length).length i) (tri l.length).length (fun i => ((tri l.length).drop i).all (bentT l)) ?_ ?_ 0 (by omega)
    · simpa using key
    · refine Ev.step (fun k => impl_ArePoints.l0.eq_2 ..) (Ev.ite_neg (by omega) (Ev.const ?_))
      rw [List.drop_of_length_le (by omega)]
      rfl
    · intro i hi ih
      have ht := tri_ok l.length (by omega)
      rw [List.all_eq_true] at ht
      have ht := ht _ (List.getElem_mem hi)
      rw [List.drop_eq_getElem_cons hi, List.all_cons]
      refine Ev.step (fun k => impl_ArePoints.l0.eq_2 ..) (Ev.ite_pos (by omega) (Ev.ite_pos (by omega) (Ev.ite_pos (by omega) ?_)))
      have hr : rd_T122 (tri l.length) (i : Int) = (tri l.length)[i] := by
        unfold rd_T122
        rw [Int.toNat_natCast, getD_lt _ _ _ hi]
      rw [hr]
      generalize (tri l.length)[i] = t at ht ⊢
      unfold okT at ht
      rw [decide_eq_true_eq] at ht
      refine Ev.ite_pos (by omega) (Ev.ite_pos (by omega) (Ev.ite_pos (by omega) (Ev.ite_pos (by omega) (Ev.ite_pos (by omega) (Ev.ite_pos (by omega) ?_)))))
      have hnear : ∀ x : Int, 0 ≤ x → x < (l.length : Int) → nearB 50 (rd_T72 l x) = true := by
        intro x h0 h1
        obtain ⟨x, rfl⟩ := Int.eq_ofNat_of_zero_le h0
        exact nearAll_at hn x (by omega)
      refine Ev.bind (TurnOf_ev _ _ _ (hnear t.f0 (by omega) (by omega)) (hnear t.f1 (by omega) (by omega)) (hnear t.f2 (by omega) (by omega))) ?_
      rw [wrap_nat i (by omega)]
      by_cases hz : areaP (rd_T72 l t.f0) (rd_T72 l t.f1) (rd_T72 l t.f2) = 0
      · rw [show bentT l t = false by unfold bentT; simpa using hz, Bool.false_and]
        exact Ev.ite_pos ((sgn_zero _).mpr hz) (Ev.now _)
      · rw [show bentT l t = true by unfold bentT; simpa using hz, Bool.true_and]
        exact Ev.ite_neg (fun h => hz ((sgn_zero _).mp h)) ih
def okPt (l : List Pt) (i : Nat) : Bool := nearB 50 (rdP l i) && (List.range i).all fun j => (List.range j).all fun k => bent l k j i
theorem spec_loop_p (l : List Pt) (hl : l.length ≤ 1048576) : Ev (fun k => spec_ArePoints.l0 k l ((0 : Nat) : Int)) ((List.range l.length).all (okPt l)) := by
  have key := Ev.loop_to (fun i k => spec_ArePoints.l0 k l i) l.length (fun i => ((List.range l.length).drop i).all (okPt l)) ?_ ?_ 0 (by omega)
  · simpa using key
  · refine Ev.step (fun k => spec_ArePoints.l0.eq_2 ..) (Ev.ite_neg (by omega) (Ev.const ?_))
    rw [List.drop_of_length_le (by simp)]
    rfl
  · intro i hi ih
    rw [range_dropP _ i hi, List.all_cons, show okPt l i = (nearB 50 (rdP l i) && (List.range i).all fun j => (List.range j).all fun k => bent l k j i) from rfl]
    refine Ev.step (fun k => spec_ArePoints.l0.eq_2 ..) (Ev.ite_pos (by omega) (Ev.ite_pos (by omega) (Ev.bind0 (fits_eq _ 50 (by omega)) ?_)))
    cases hn : nearB 50 (rdP l i) with
    | false => exact Ev.ite_neg (by simp) (Ev.now _)
    | true =>
      refine Ev.ite_pos rfl ?_
      rw [Bool.true_and]
      have key1 := Ev.loop_to (fun j k => spec_ArePoints.l1 k l i j) i (fun j => (((List.range i).drop j).all fun j => (List.range j).all fun k => bent l k j i) && ((List.range l.length).drop (i + 1)).all (okPt l)) ?_ ?_ 0 (by omega)
      · simpa using key1
      · refine Ev.step (fun k => spec_ArePoints.l1.eq_2 ..) (Ev.ite_neg (by omega) ?_)
        rw [List.drop_of_length_le (by simp), wrap_nat i (by omega)]
        simpa using ih
      · intro j hj ih1
        rw [range_dropP _ j hj, List.all_cons]
        refine Ev.step (fun k => spec_ArePoints.l1.eq_2 ..) (Ev.ite_pos (by omega) ?_)
        have key2 := Ev.loop_to (fun m k => spec_ArePoints.l2 k l i j m) j (fun m => (((List.range j).drop m).all fun k => bent l k j i) && ((((List.range i).drop (j + 1)).all fun j => (List.range j).all fun k => bent l k j i) && ((List.range l.length).drop (i + 1)).all (okPt l))) ?_ ?_ 0 (by omega)
        · rw [Bool.and_assoc]
          simpa using key2
        · refine Ev.step (fun k => spec_ArePoints.l2.eq_2 ..) (Ev.ite_neg (by omega) ?_)
          rw [List.drop_of_length_le (by simp), wrap_nat j (by omega)]
          simpa using ih1
        · intro m hm ih2
          rw [range_dropP _ m hm, List.all_cons]
          refine Ev.step (fun k => spec_ArePoints.l2.eq_2 ..) (Ev.ite_pos (by omega) (Ev.ite_pos (by omega) (Ev.ite_pos (by omega) (Ev.ite_pos (by omega) (Ev.ite_pos (by omega) (Ev.ite_pos (by omega) (Ev.ite_pos (by omega) (Ev.bind0 (a := areaP (rdP l m) (rdP l j) (rdP l i)) rfl ?_))))))))
          rw [wrap_nat m (by omega)]
          by_cases hz : areaP (rdP l m) (rdP l j) (rdP l i) = 0
          · rw [show bent l m j i = false by unfold bent; simpa using hz, Bool.false_and, Bool.false_and]
            exact Ev.ite_pos hz (Ev.now _)
          · rw [show bent l m j i = true by unfold bent; simpa using hz, Bool.true_and]
            exact Ev.ite_neg hz ih2
theorem all_in : (List.range 8).all (fun n => (List.range n).all fun i => (List.range i).all fun j => (List.range j).all fun k => (tri n).any fun t => t.f0 == (k : Int) && t.f1 == (j : Int) && t.f2 == (i : Int)) = true := by decide +kernel
theorem tri_in (n i j k : Nat) (hn : n ≤ 7) (hi : i < n) (hj : j < i) (hk : k < j) : ∃ t ∈ tri n, t = (⟨k, j, i⟩ : T3) := by
  have h := all_in
  rw [List.all_eq_true] at h
  have h := h n (by simp; omega)
  rw [List.all_eq_true] at h
  have h := h i (by simpa using hi)
  rw [List.all_eq_true] at h
  have h := h j (by simpa using hj)
  rw [List.all_eq_true] at h
  have h := h k (by simpa using hk)
  obtain ⟨t, ht, he⟩ := List.any_eq_true.mp h
  refine ⟨t, ht, ?_⟩
  simp only [Bool.and_eq_true, beq_iff_eq] at he
  obtain ⟨a, b, c⟩ := t
  obtain ⟨⟨rfl, rfl⟩, rfl⟩ := he
  rfl
theorem areP_eq (l : List Pt) (h : 3 ≤ l.length ∧ l.length ≤ 7) : (List.range l.length).all (okPt l) = (nearAll 50 l && (tri l.length).all (bentT l)) := by
  rw [Bool.eq_iff_iff, Bool.and_eq_true, List.all_eq_true, List.all_eq_true]
  unfold nearAll
  rw [List.all_eq_true]
  constructor
  · intro g
    constructor
    · intro i hi
      have := g i hi
      unfold okPt at this
      rw [Bool.and_eq_true] at this
      exact this.1
    · intro t ht
      have hk := tri_ok l.length h.2
      rw [List.all_eq_true] at hk
      have hk := hk t ht
      obtain ⟨a, b, c⟩ := t
      unfold okT at hk
      rw [decide_eq_true_eq] at hk
      dsimp only at hk
      obtain ⟨a, rfl⟩ := Int.eq_ofNat_of_zero_le hk.1
      obtain ⟨b, rfl⟩ := Int.eq_ofNat_of_zero_le (show 0 ≤ b by omega)
      obtain ⟨c, rfl⟩ := Int.eq_ofNat_of_zero_le (show 0 ≤ c by omega)
      have := g c (by simp; omega)
      unfold okPt at this
      rw [Bool.and_eq_true, List.all_eq_true] at this
      have := this.2 b (by simp; omega)
      rw [List.all_eq_true] at this
      have := this a (by simp; omega)
      unfold bent at this
      unfold bentT
      exact this
  · rintro ⟨g1, g2⟩ i hi
    unfold okPt
    rw [Bool.and_eq_true, List.all_eq_true]
    refine ⟨g1 i hi, fun j hj => ?_⟩
    rw [List.all_eq_true]
    intro k hk
    rw [List.mem_range] at hi hj hk
    obtain ⟨t, ht, e⟩ := tri_in l.length i j k h.2 hi hj hk
    have g := g2 t ht
    rw [e] at g
    unfold bentT at g
    unfold bent
    exact g
theorem spec_ArePoints_ev (l : List Pt) (hl : l.length ≤ 1048576) : Ev (fun k => spec_ArePoints.f k l) (areP l) := by
  unfold spec_ArePoints.f areP
  refine Ev.bind0 (l1In_p ..) ?_
  by_cases h : 3 ≤ l.length ∧ l.length ≤ 7
  · rw [show decide (3 ≤ l.length ∧ l.length ≤ 7) = true from decide_eq_true h, Bool.true_and, ← areP_eq l h]
    exact Ev.ite_pos (decide_eq_true (by omega)) (spec_loop_p l hl)
  · rw [show decide (3 ≤ l.length ∧ l.length ≤ 7) = false from decide_eq_false h, Bool.false_and]
    exact Ev.ite_neg (by simp; omega) (Ev.now _)
theorem areP_len {l : List Pt} (h : areP l = true) : 3 ≤ l.length ∧ l.length ≤ 7 := by
  unfold areP at h
  rw [Bool.and_eq_true, decide_eq_true_eq] at h
  exact h.1
theorem rd_ltZ (l : List Int) (i : Nat) (h : i < l.length) : rd l (i : Int) = l[i] := by
  unfold rd
  rw [Int.toNat_natCast, getD_lt _ _ _ h]
theorem eqIntS_selfZ (l : List Int) (hl : l.length ≤ 1048576) : Ev (fun k => laws_eqIntS.f k l l) true := by
  unfold laws_eqIntS.f
  refine Ev.ite_pos rfl ?_
  refine Ev.loop (fun i k => laws_eqIntS.l0 k l l i) l.length true ?_ ?_ 0 (by omega)
  · refine Ev.step (fun k => laws_eqIntS.l0.eq_2 ..) ?_
    exact Ev.ite_neg (by omega) (Ev.now _)
  · intro i hi ih
    refine Ev.step (fun k => laws_eqIntS.l0.eq_2 ..) ?_
    refine Ev.ite_pos (by omega) (Ev.ite_pos (by omega) (Ev.ite_pos (by omega) (Ev.ite_pos rfl ?_)))
    rw [wrap_nat i (by omega)]
    exact ih
def marksF (c n : Nat) : List Int := (List.range n).map fun i => ((c + i : Nat) : Int)
theorem marksF_length (c n : Nat) : (marksF c n).length = n := by simp [marksF]
theorem rd_marksF (c n i : Nat) (h : i < n) : rd (marksF c n) (i : Int) = ((c + i : Nat) : Int) := by
  rw [rd_ltZ _ _ (by rw [marksF_length]; exact h)]
  simp [marksF]
theorem marksF_set (l : List Int) (c n i : Nat) (hl : l.length = n) (hi : i < n) : (marksF c i ++ l.drop i).set i ((c + i : Nat) : Int) = marksF c (i + 1) ++ l.drop (i + 1) := by
  have h0 : (marksF c i).length = i := marksF_length c i
  rw [List.set_append_right _ _ (by omega), h0, Nat.sub_self, List.drop_eq_getElem_cons (by omega), List.set_cons_zero]
  simp [marksF, List.range_succ]
theorem markIntS_from (l : List Int) (c : Nat) (hc : c ≤ 100000000) (hl : l.length ≤ 1048576) : Ev (fun k => laws_markIntS.f k l c) (((c + l.length : Nat) : Int), marksF c l.length) := by
  have key := Ev.loop (fun i k => laws_markIntS.l0 k (marksF c i ++ l.drop i) ((c + i : Nat) : Int) i) l.length (((c + l.length : Nat) : Int), marksF c l.length) ?_ ?_ 0 (by omega)
  · unfold laws_markIntS.f
    simpa [marksF] using key
  · refine Ev.step (fun k => laws_markIntS.l0.eq_2 ..) ?_
    refine Ev.ite_neg (by simp [marksF_length]) (Ev.const ?_)
    simp
  · intro i hi ih
    refine Ev.step (fun k => laws_markIntS.l0.eq_2 ..) ?_
    refine Ev.ite_pos (by simp [marksF_length]; omega) (Ev.ite_pos (by omega) ?_)
    rw [wrap_nat i (by omega), wrap_nat (c + i) (by omega), Int.toNat_natCast, marksF_set l c l.length i rfl hi]
    exact ih
theorem heldIntS_from (c n : Nat) (hc : c ≤ 100000000) (hl : n ≤ 1048576) : Ev (fun k => laws_heldIntS.f k (marksF c n) c) ((c + n : Nat) : Int) := by
  have key := Ev.loop (fun i k => laws_heldIntS.l0 k (marksF c n) ((c + i : Nat) : Int) i) n ((c + n : Nat) : Int) ?_ ?_ 0 (by omega)
  · exact key
  · refine Ev.step (fun k => laws_heldIntS.l0.eq_2 ..) ?_
    exact Ev.ite_neg (by simp [marksF_length]) (Ev.now _)
  · intro i hi ih
    refine Ev.step (fun k => laws_heldIntS.l0.eq_2 ..) ?_
    refine Ev.ite_pos (by simp [marksF_length]; omega) (Ev.ite_pos (by omega) (Ev.ite_pos (rd_marksF c n i hi) ?_))
    rw [wrap_nat i (by omega), wrap_nat (c + i) (by omega)]
    exact ih
end Go.Proofs.Yteblnjoljbdjjaa.Pure
namespace Go.Proofs.Yteblnjoljbdjjaa.Pure
set_option linter.unusedSimpArgs false
set_option linter.unusedVariables false
open Go.RowKit Go.Proofs.YteblnjoljbdjjaaW.PrintWords Go.Proofs.Yteblnjoljbdjjaa.P Go.Proofs.Yteblnjoljbdjjaa.Pl Go.Proofs.Yteblnjoljbdjjaa.Rk
theorem l1Min_eqB (a b : Int) : spec_l1Min.f a b = some (mn a b) := by
  unfold spec_l1Min.f mn
  (repeat' split) <;> first | rfl | (exact congrArg some (by omega)) | (exfalso; omega)
theorem l1Max_eqB (a b : Int) : spec_l1Max.f a b = some (mx a b) := by
  unfold spec_l1Max.f mx
  (repeat' split) <;> first | rfl | (exact congrArg some (by omega)) | (exfalso; omega)
def bxL (l : List Pt) : Nat → List Int
  | 0 => [(rdP l 0).f0, (rdP l 0).f1, (rdP l 0).f0, (rdP l 0).f1]
  | i + 1 => [mn (rd (bxL l i) 0) (rdP l i).f0, mn (rd (bxL l i) 1) (rdP l i).f1, mx (rd (bxL l i) 2) (rdP l i).f0, mx (rd (bxL l i) 3) (rdP l i).f1]
theorem bxL_one (l : List Pt) : bxL l 1 = bxL l 0 := by
  have h1 : ∀ a : Int, mn a a = a := fun a => by unfold mn; rw [if_neg (by omega)]
  have h2 : ∀ a : Int, mx a a = a := fun a => by unfold mx; rw [if_neg (by omega)]
  show [mn (rdP l 0).f0 (rdP l 0).f0, mn (rdP l 0).f1 (rdP l 0).f1, mx (rdP l 0).f0 (rdP l 0).f0, mx (rdP l 0).f1 (rdP l 0).f1] = _
  rw [h1, h1, h2, h2]
  rfl
theorem bxL_length (l : List Pt) (i : Nat) : (bxL l i).length = 4 := by
  cases i <;> rfl
theorem bx_set (l : List Pt) (i : Nat) (L : List Int) (h : bxL l i = L) : (((L.set (0 : Int).toNat (mn (rd L 0) (rdP l i).f0)).set (1 : Int).toNat (mn (rd L 1) (rdP l i).f1)).set (2 : Int).toNat (mx (rd L 2) (rdP l i).f0)).set (3 : Int).toNat (mx (rd L 3) (rdP l i).f1) = bxL l (i + 1) := by
  have hl := bxL_length l i
  rw [h] at hl
  match L, hl with
  | [a, b, c, d], _ =>
    rw [bxL, h]
    rfl
theorem impl_bx (l : List Pt) (hl : l.length ≤ 1048576) : Ev (fun k => impl_BoxOf.l0 k (bxL l 0) l (l.length : Int) ((0 : Nat) : Int)) (bxL l l.length) := by
  refine Ev.loop (fun (i : Nat) k => impl_BoxOf.l0 k (bxL l i) l (l.length : Int) (i : Int)) l.length (bxL l l.length) ?_ ?_ 0 (by omega)
  · exact Ev.step (fun k => impl_BoxOf.l0.eq_2 ..) (Ev.ite_neg (by omega) (Ev.now _))
  · intro i hi ih
    have h4 := bxL_length l i
    rw [← bx_set l i (bxL l i) rfl] at ih
    refine Ev.step (fun k => impl_BoxOf.l0.eq_2 ..) ?_
    rw [wrap_nat i (by omega)]
    exact Ev.ite_pos (by omega) (Ev.ite_pos (by omega) (Ev.ite_pos (by omega) (Ev.ite_pos (by omega) (Ev.ite_pos (by omega) (Ev.ite_pos (by omega) (Ev.ite_pos (by omega) ih))))))
theorem spec_bx (l : List Pt) (hl : l.length ≤ 1048576) (h1 : 1 ≤ l.length) : Ev (fun k => spec_BoxOf.l0 k l (bxL l 1) ((1 : Nat) : Int)) (bxL l l.length) := by
  refine Ev.loop (fun (i : Nat) k => spec_BoxOf.l0 k l (if i = 0 then bxL l 1 else bxL l i) (if i = 0 then 1 else (i : Int))) l.length (bxL l l.length) ?_ ?_ 1 h1
  · rw [if_neg (by omega), if_neg (by omega)]
    exact Ev.step (fun k => spec_BoxOf.l0.eq_2 ..) (Ev.ite_neg (by omega) (Ev.now _))
  · intro i hi ih
    by_cases h0 : i = 0
    · subst h0
      exact ih
    rw [if_neg (by omega), if_neg (by omega)] at ih
    rw [if_neg h0, if_neg h0]
    have h4 := bxL_length l i
    have hs := bx_set l i (bxL l i) rfl
    generalize bxL l i = L at h4 hs ⊢
    match L, h4 with
    | [a, b, c, d], _ =>
      refine Ev.step (fun k => spec_BoxOf.l0.eq_2 ..) ?_
      rw [wrap_nat i (by omega)]
      refine Ev.ite_pos (by omega) (Ev.ite_pos (by simp) (Ev.ite_pos (by omega) (Ev.bind0 (l1Min_eqB _ _) (Ev.bind0 rfl (Ev.ite_pos (by simp) (Ev.bind0 (l1Min_eqB _ _) (Ev.bind0 rfl (Ev.ite_pos (by simp) (Ev.bind0 (l1Max_eqB _ _) (Ev.bind0 rfl (Ev.ite_pos (by simp) (Ev.bind0 (l1Max_eqB _ _) ?_))))))))))))
      rw [← hs] at ih
      exact ih
theorem box_both (l : List Pt) (hl : l.length ≤ 1048576) : ∃ L : List Int, L.length ≤ 1000 ∧ Ev (fun k => spec_BoxOf.f k l) L ∧ Ev (fun k => impl_BoxOf.f k l) L := by
  have hS := spec_ArePoints_ev l hl
  have hI := impl_ArePoints_ev l hl
  unfold spec_BoxOf.f impl_BoxOf.f
  cases h : areP l with
  | false =>
    rw [h] at hS hI
    exact ⟨[], by simp, Ev.bind hS (Ev.ite_neg (by simp) (Ev.now _)), Ev.bind hI (Ev.ite_neg (by simp) (Ev.now _))⟩
  | true =>
    rw [h] at hS hI
    have h3 := (areP_len h).1
    have k1 := spec_bx l hl (by omega)
    rw [bxL_one] at k1
    exact ⟨bxL l l.length, by rw [bxL_length]; omega, Ev.bind hS (Ev.ite_pos rfl (Ev.ite_pos (by omega) k1)), Ev.bind hI (Ev.ite_pos rfl (Ev.ite_pos (by omega) (impl_bx l hl)))⟩
theorem FnExactBoxOf (l0 : List LPt) (h0 : l0.length ≤ 9223372036854775807) (_ : ∀ y ∈ l0, Q75 y) : ∃ k, laws_FnExactBoxOf.f k l0 = some true := by
  refine Ev.rounds (g := fun k => laws_FnExactBoxOf.f k l0) ?_
  unfold laws_FnExactBoxOf.f
  refine Ev.bind0 (szPointS_eq l0 1048576 (by omega) (by omega) h0) ?_
  by_cases hs : 1048576 < (l0.length : Int)
  · rw [if_pos hs]
    exact Ev.ite_pos (by omega) (Ev.now _)
  rw [if_neg hs]
  refine Ev.ite_neg (by omega) ?_
  have e0 := toPointS_ev l0 (by omega)
  have hl : (l0.map toP).length ≤ 1048576 := by simp; omega
  obtain ⟨L, hL, h1, h2⟩ := box_both (l0.map toP) hl
  have e1 := eqIntS_selfZ L (by omega)
  have e2 := markIntS_from L 1 (by omega) (by omega)
  have e3 := heldIntS_from 1 L.length (by omega) (by omega)
  have hM := markPointS_ev (l0.map toP) hl
  refine Ev.bind e0 (Ev.bind h1 (Ev.bind e0 (Ev.bind h2 (Ev.bind e1 (Ev.ite_pos rfl (Ev.bind e0 (Ev.bind (eqPointS_self _ hl) (Ev.ite_pos rfl (Ev.bind hM (Ev.ite_neg (by dsimp only; omega) (Ev.bind e1 ?_)))))))))))
  exact Ev.step (fun k => laws_FnExactBoxOf.j0.eq_2 ..) (Ev.ite_neg (by simp) (Ev.bind e2 (Ev.bind e3 (Ev.ite_neg (by omega) (Ev.ite_pos rfl (Ev.bind e0 (Ev.bind h2 (Ev.bind e1 (Ev.ite_pos rfl (Ev.bind e3 (Ev.ite_neg (by omega) (Ev.ite_pos rfl (Ev.now _)))))))))))))
end Go.Proofs.Yteblnjoljbdjjaa.Pure
