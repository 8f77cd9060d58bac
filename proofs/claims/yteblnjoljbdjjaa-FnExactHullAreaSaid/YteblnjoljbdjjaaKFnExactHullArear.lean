/- What the law FnExactHullArea reaches, part 18: functions as plain Lean functions with the proofs that their calls come to them, and plain lemmas over these. Put together by a program (wip/pack.py). -/
import Derived.Test.YteblnjoljbdjjaaKFnExactHullAreao
import Derived.Test.YteblnjoljbdjjaaKFnExactHullAreai
import Derived.Test.YteblnjoljbdjjaaKFnExactHullAreaj
import Derived.Test.YteblnjoljbdjjaaKFnExactHullAreap
import Derived.Test.YteblnjoljbdjjaaKFnExactHullAreaq
namespace Go.Proofs.Yteblnjoljbdjjaa.Pure
set_option linter.unusedSimpArgs false
set_option linter.unusedVariables false
open Go.RowKit Go.Proofs.YteblnjoljbdjjaaW.PrintWords Go.Proofs.Yteblnjoljbdjjaa.P Go.Proofs.Yteblnjoljbdjjaa.Pl
def exL (l : List Pt) : List Nat := (List.range l.length).filter (extB l)
def exI (l : List Pt) : List Int := (exL l).map fun i : Nat => (i : Int)
def elsH (A : Nat) : List Int := ((List.range 7).filter fun i => has A i).map fun i : Nat => (i : Int)
theorem all_elsH : (List.range 128).all (fun A => impl_elementsOf.f 70 (A : Int) == some (elsH A)) = true := by decide +kernel
theorem elsH_ev (A : Nat) (hA : A < 128) : Ev (fun k => impl_elementsOf.f k (A : Int)) (elsH A) := by
  have h := all_elsH
  rw [List.all_eq_true] at h
  exact Ev.of (impl_elementsOf.mono _) (eq_of_beq (h A (by simpa using hA)))
theorem elsH_ex {l : List Pt} (h : areP l = true) : elsH (exN (extB l) l.length) = exI l := by
  have h7 := (areP_len h).2
  unfold elsH exI exL
  congr 1
  rw [show 7 = l.length + (7 - l.length) by omega, List.range_add, List.filter_append]
  have e1 : ((List.range (7 - l.length)).map fun x => l.length + x).filter (fun i => has (exN (extB l) l.length : Int) i) = [] := by
    rw [List.filter_eq_nil_iff]
    intro a ha
    obtain ⟨j, hj, rfl⟩ := List.mem_map.1 ha
    rw [List.mem_range] at hj
    rw [has_exN _ _ h7 _ (by omega), decide_eq_false (by omega)]
    simp
  rw [e1, List.append_nil]
  apply List.filter_congr
  intro a ha
  rw [List.mem_range] at ha
  rw [has_exN _ _ h7 a (by omega), decide_eq_true ha, Bool.true_and]
theorem exL_mem {l : List Pt} (h : areP l = true) (a : Nat) : a ∈ exL l ↔ a < l.length ∧ Ext l a := by
  unfold exL
  rw [List.mem_filter, List.mem_range]
  constructor
  · rintro ⟨h1, h2⟩
    exact ⟨h1, (extB_iff h a h1).1 h2⟩
  · rintro ⟨h1, h2⟩
    exact ⟨h1, (extB_iff h a h1).2 h2⟩
def its (it : Nat → Nat) (m : Nat) : List Int := (List.range m).map fun j => (it j : Int)
theorem its_length (it : Nat → Nat) (m : Nat) : (its it m).length = m := by unfold its; rw [List.length_map, List.length_range]
theorem its_snoc (it : Nat → Nat) (m : Nat) : its it m ++ [(it m : Int)] = its it (m + 1) := by
  unfold its
  rw [List.range_succ, List.map_append]
  rfl
theorem rd_its (it : Nat → Nat) (m i : Nat) (hi : i < m) : rd (its it m) (i : Int) = (it i : Int) := by
  unfold rd
  rw [Int.toNat_natCast, getD_lt _ _ _ (by rw [its_length]; exact hi)]
  unfold its
  rw [List.getElem_map, List.getElem_range]
theorem rd_exI (l : List Pt) (i : Nat) (hi : i < (exL l).length) : rd (exI l) (i : Int) = ((exL l)[i] : Int) := by
  unfold rd exI
  rw [Int.toNat_natCast, getD_lt _ _ _ (by rw [List.length_map]; exact hi), List.getElem_map]
theorem cyc_len {l : List Pt} (h : areP l = true) (it : Nat → Nat) (m : Nat) (hC : Cyc l it m) : (exL l).length = m := by
  have hp : ((List.range m).map it).Perm (exL l) := by
    have hnd : (exL l).Nodup := List.nodup_range.filter _
    rw [List.perm_ext_iff_of_nodup hC.2.2.1 hnd]
    intro a
    rw [exL_mem h]
    constructor
    · intro g
      obtain ⟨i, _, rfl⟩ := List.mem_map.1 g
      exact ⟨(hC.2.2.2 i).1, (hC.2.2.2 i).2.1⟩
    · rintro ⟨h1, h2⟩
      obtain ⟨i, hi, e⟩ := cyc_cover h it m hC a h1 h2
      exact List.mem_map.2 ⟨i, List.mem_range.2 hi, e⟩
  rw [← hp.length_eq, List.length_map, List.length_range]
theorem cnt_zero (n : Nat) (s : ByteArray) (i k : Nat) : ∀ m, cnt n s i k m = 0 ↔ ∀ j, j < m → sg n s i k j ≠ 1 := by
  intro m
  induction m with
  | zero => simp [cnt]
  | succ m ih =>
    rw [cnt_succ]
    constructor
    · intro g j hj
      by_cases e : sg n s i k m = 1
      · rw [if_pos e] at g
        omega
      · rw [if_neg e] at g
        by_cases e2 : j = m
        · rw [e2]
          exact e
        · exact ih.1 (by omega) j (by omega)
    · intro g
      rw [if_neg (g m (by omega)), ih.2 (fun j hj => g j (by omega))]
theorem sg_sO0 {l : List Pt} (h : areP l = true) (x y z : Nat) (hx : x < l.length) (hy : y < l.length) (hz : z < l.length) (e : x = y ∨ y = z ∨ x = z) : sg l.length (sO l) x y z = 0 :=
  sg_same l.length (areP_len h).2 (sO l) x y z (by have := (areP_len h).2; omega) (by have := (areP_len h).2; omega) (by have := (areP_len h).2; omega) e
theorem cnt_suc {l : List Pt} (h : areP l = true) (p w : Nat) (hp : p < l.length) (hw : w < l.length) (hne : w ≠ p) : cnt l.length (sO l) w p l.length = 0 ↔ Suc l p w := by
  rw [cnt_zero]
  constructor
  · intro g
    refine ⟨hw, hne, fun k hk hkp hkw => ?_⟩
    have a := g k hk
    rw [sg_sO h w p k hw hp hk hne (Ne.symm hkp) (Ne.symm hkw)] at a
    have b := sx_pm h w p k hw hp hk hne (Ne.symm hkp) (Ne.symm hkw)
    have c1 := sx_cyc l w p k
    have c2 := sx_alt l p w k
    omega
  · intro g j hj
    by_cases e1 : j = w
    · rw [e1, sg_sO0 h w p w hw hp hw (Or.inr (Or.inr rfl))]
      omega
    by_cases e2 : j = p
    · rw [e2, sg_sO0 h w p p hw hp hp (Or.inr (Or.inl rfl))]
      omega
    have a := g.2.2 j hj e2 e1
    rw [sg_sO h w p j hw hp hj hne (Ne.symm e2) (Ne.symm e1)]
    have c1 := sx_cyc l w p j
    have c2 := sx_alt l p w j
    omega
theorem impl_hull_ev {l : List Pt} (h : areP l = true) (it : Nat → Nat) (m : Nat) (hC : Cyc l it m) (h0 : rd (exI l) 0 = (it 0 : Int)) : Ev (fun k => impl_chi_hull.f k (tab l.length (sO l))) (its it m) := by
  have h7 := (areP_len h).2
  have hl := tab_length l.length (sO l)
  have hn := tab_n l.length (sO l)
  have hm := cyc_len h it m hC
  obtain ⟨f1, _, f3⟩ := full_atX l.length h7
  have hEl : (exI l).length = m := by unfold exI; rw [List.length_map, hm]
  have hm7 : m ≤ 7 := by
    have := List.length_filter_le (extB l) (List.range l.length)
    rw [List.length_range] at this
    unfold exL at hm
    omega
  have h1 := hC.1
  unfold impl_chi_hull.f
  rw [hn]
  refine Ev.ite_pos (by omega) (Ev.bind0 f1 (Ev.bind (impl_ext_ev h) (Ev.bind (elsH_ev _ (by have := exN_lt (extB l) l.length; omega)) ?_)))
  rw [elsH_ex h]
  refine Ev.ite_pos (by omega) ?_
  rw [h0]
  refine Ev.loop (fun (i : Nat) k => impl_chi_hull.l0 k (tab l.length (sO l)) (exI l) (its it (i + 1))) (m - 1) (its it m) ?_ ?_ 0 (by omega)
  · rw [show m - 1 + 1 = m by omega]
    refine Ev.step (fun k => impl_chi_hull.l0.eq_2 ..) (Ev.ite_neg (by rw [its_length]; omega) (Ev.now _))
  · intro i hi ih
    have hw : wrap64 (((its it (i + 1)).length : Int) - 1) = (i : Int) := by
      rw [its_length, wrap_in (by omega) (by omega)]
      omega
    obtain ⟨c1, c2, c3⟩ := hC.2.2.2 i
    refine Ev.step (fun k => impl_chi_hull.l0.eq_2 ..) (Ev.ite_pos (by rw [its_length]; omega) ?_)
    rw [hw]
    refine Ev.ite_pos (by omega) (Ev.ite_pos (by rw [its_length]; omega) ?_)
    rw [rd_its it (i + 1) i (by omega)]
    refine Srch.of (fun (j : Nat) k => impl_chi_hull.l1 k (tab l.length (sO l)) (exI l) (its it (i + 1)) (it i : Int) (exI l) ((exI l).length : Int) (j : Int)) m (fun j => decide (rd (exI l) (j : Int) = (it (i + 1) : Int))) (its it m) 0 (by omega) ?_ (its it m) (fun _ => rfl) ?_
    · intro j _ hj r g1 g2
      have hj' : j < (exL l).length := by omega
      rw [rd_exI l j hj'] at g1 g2
      have hmem := (exL_mem h _).1 (List.getElem_mem hj')
      refine Ev.step (fun k => impl_chi_hull.l1.eq_2 ..) (Ev.ite_pos (by omega) (Ev.ite_pos (by omega) (Ev.ite_pos (by omega) ?_)))
      rw [rd_exI l j hj', wrap_nat j (by omega)]
      generalize (exL l)[j] = w at g1 g2 hmem ⊢
      by_cases e : w = it i
      · refine Ev.ite_pos (by omega) (g2 ?_)
        rw [decide_eq_false_iff_not]
        intro g
        have := c3.2.1
        omega
      refine Ev.ite_neg (by omega) (Ev.bind (impl_left_ev l.length h7 (sO l) w (it i) hmem.1 c1) ?_)
      by_cases e2 : w = it (i + 1)
      · subst e2
        have hc := (cnt_suc h (it i) (it (i + 1)) c1 hmem.1 e).2 c3
        rw [g1 (by simp)]
        refine Ev.ite_pos (by omega) (Ev.ite_pos (by rw [its_length]; omega) ?_)
        rw [its_snoc]
        exact ih
      · refine Ev.ite_neg ?_ (g2 (by rw [decide_eq_false_iff_not]; omega))
        intro g
        exact e2 (suc_uniq h _ _ _ ((cnt_suc h (it i) w c1 hmem.1 e).1 (by omega)) c3)
    · intro g
      exfalso
      rw [List.drop_zero, List.any_eq_false] at g
      obtain ⟨d1, d2, _⟩ := hC.2.2.2 (i + 1)
      obtain ⟨j, hj, e⟩ := List.getElem_of_mem ((exL_mem h _).2 ⟨d1, d2⟩)
      have := g j (by rw [List.mem_range]; omega)
      rw [rd_exI l j hj, e] at this
      simp at this
theorem spec_left_suc {l : List Pt} (h : areP l = true) (p w : Nat) (hp : p < l.length) (hw : w < l.length) (hne : w ≠ p) : ∃ b, Ev (fun k => spec_l6Left.f k (l.length : Int) (sO l) ((2 ^ l.length - 1 : Nat) : Int) p w) b ∧ (b = true ↔ Suc l p w) := by
  have h7 := (areP_len h).2
  refine ⟨!((List.range l.length).drop 0).any (fun k => decide (k ≠ p) && decide (k ≠ w) && decide (sx l p w k < 0)), ?_, ?_⟩
  · unfold spec_l6Left.f
    have key := Srch.of (fun (i : Nat) k => spec_l6Left.l0 k ((2 ^ l.length - 1 : Nat) : Int) p w (i : Int) (l.length : Int) (sO l)) l.length (fun k => decide (k ≠ p) && decide (k ≠ w) && decide (sx l p w k < 0)) false 0 (by omega) ?_
    · have g := key.ans (w := true) (Ev.step (fun k => spec_l6Left.l0.eq_2 ..) (Ev.ite_neg (by omega) (Ev.now _)))
      cases hh : ((List.range l.length).drop 0).any (fun k => decide (k ≠ p) && decide (k ≠ w) && decide (sx l p w k < 0)) <;> rw [hh] at g <;> exact g
    · intro i _ hi r g1 g2
      refine Ev.step (fun k => spec_l6Left.l0.eq_2 ..) (Ev.ite_pos (by omega) ?_)
      rw [wrap_nat i (by omega)]
      by_cases e1 : i = p
      · exact Ev.ite_pos (by omega) (g2 (by simp [e1]))
      refine Ev.ite_neg (by omega) ?_
      by_cases e2 : i = w
      · exact Ev.ite_pos (by omega) (g2 (by simp [e2]))
      refine Ev.ite_neg (by omega) (Ev.bind0 (l6Has_eq _ i (by omega)) ?_)
      rw [((less_at l.length p h7 hp).2.2 i hi).2]
      refine Ev.ite_pos rfl (Ev.bind (l3At_ev l.length h7 (sO l) (sO_size l) p w i hp hw hi (Ne.symm hne) (Ne.symm e2) (Ne.symm e1)) ?_)
      rw [sg_sO h p w i hp hw hi (Ne.symm hne) (Ne.symm e2) (Ne.symm e1)]
      by_cases g : sx l p w i < 0
      · rw [g1 (by simp [e1, e2, g])]
        exact Ev.ite_pos g (Ev.now _)
      · exact Ev.ite_neg g (g2 (by simp [g]))
  · rw [Bool.not_eq_true', List.drop_zero, List.any_eq_false]
    constructor
    · intro g
      refine ⟨hw, hne, fun k hk hkp hkw => ?_⟩
      have a := g k (List.mem_range.2 hk)
      rw [decide_eq_true hkp, decide_eq_true hkw] at a
      have a : ¬ sx l p w k < 0 := by simpa using a
      have b := sx_pm h p w k hp hw hk (Ne.symm hne) (Ne.symm hkw) (Ne.symm hkp)
      omega
    · intro g k hk
      rw [List.mem_range] at hk
      by_cases e1 : k = p
      · simp [e1]
      by_cases e2 : k = w
      · simp [e2]
      have a := g.2.2 k hk e1 e2
      rw [decide_eq_false (show ¬ sx l p w k < 0 by omega)]
      simp
theorem spec_hull_ev {l : List Pt} (h : areP l = true) (it : Nat → Nat) (m : Nat) (hC : Cyc l it m) (h0 : rd (exI l) 0 = (it 0 : Int)) : Ev (fun k => spec_HullOf.f k (l.length : Int) (sO l)) (its it m) := by
  have h7 := (areP_len h).2
  have hm := cyc_len h it m hC
  obtain ⟨_, f2, f3⟩ := full_atX l.length h7
  have hml : m ≤ l.length := by
    have := List.length_filter_le (extB l) (List.range l.length)
    rw [List.length_range] at this
    unfold exL at hm
    omega
  have h1 := hC.1
  have hu : IntKind.u64.wrap (l.length : Int) = (l.length : Int) := u64_nat l.length (by omega)
  have hA := spec_IsAcyclic_ev (l.length : Int) (sO l)
  rw [isA_sO h] at hA
  have hhas : ∀ i, i < l.length → has (exN (extB l) l.length : Int) i = extB l i := fun i hi => by rw [has_exN _ _ h7 i (by omega), decide_eq_true hi, Bool.true_and]
  unfold spec_HullOf.f
  refine Ev.bind0 rfl (Ev.bind hA (Ev.ite_pos rfl (Ev.ite_pos (by omega) ?_)))
  rw [f2]
  refine Ev.bind (spec_ext_ev h) ?_
  -- the first extreme point
  have hfirst : ∀ j, j < it 0 → extB l j = false := by
    intro j hj
    cases hx : extB l j with
    | false => rfl
    | true =>
      exfalso
      have hlen : 0 < (exL l).length := by omega
      have e0 := rd_exI l 0 hlen
      have e0 : rd (exI l) 0 = ((exL l)[0] : Int) := e0
      rw [h0] at e0
      have hjm : j ∈ exL l := by
        unfold exL
        rw [List.mem_filter, List.mem_range]
        exact ⟨by have := (hC.2.2.2 0).1; omega, hx⟩
      obtain ⟨q, hq, e⟩ := List.getElem_of_mem hjm
      have hs : (exL l).Pairwise (· < ·) := List.pairwise_lt_range.filter _
      by_cases q0 : q = 0
      · subst q0
        omega
      · have := List.pairwise_iff_getElem.1 hs 0 q hlen hq (by omega)
        omega
  have hext : ∀ i, extB l (it i) = true := fun i => (extB_iff h _ (hC.2.2.2 i).1).2 (hC.2.2.2 i).2.1
  -- one round of the walk
  have round : ∀ i, i < m → ∀ r, Ev (fun k => if 0 < ((its it (i + 1)).length : Int) then (if (it (i + 1) : Int) = rd (its it (i + 1)) 0 then some (its it (i + 1)) else (if (it (i + 1) : Int) < 0 then some (its it (i + 1)) else spec_HullOf.l1 k (its it (i + 1)) ((2 ^ l.length - 1 : Nat) : Int) (exN (extB l) l.length : Int) (it (i + 1) : Int) (wrap64 ((i : Int) + 1)) (l.length : Int) (sO l))) else none) r →
      Ev (fun k => spec_HullOf.l1 k (its it i) ((2 ^ l.length - 1 : Nat) : Int) (exN (extB l) l.length : Int) (it i : Int) (i : Int) (l.length : Int) (sO l)) r := by
    intro i hi r hfin
    obtain ⟨c1, c2, c3⟩ := hC.2.2.2 i
    refine Ev.step (fun k => spec_HullOf.l1.eq_2 ..) (Ev.ite_pos (by omega) (Ev.ite_pos (by rw [its_length]; omega) ?_))
    rw [its_snoc]
    refine Ev.loop (fun (j : Nat) k => spec_HullOf.l2 k (its it (i + 1)) ((2 ^ l.length - 1 : Nat) : Int) (exN (extB l) l.length : Int) (it i : Int) (i : Int) (if it (i + 1) < j then (it (i + 1) : Int) else -1) (j : Int) (l.length : Int) (sO l)) l.length r ?_ ?_ 0 (by omega)
    · refine Ev.step (fun k => spec_HullOf.l2.eq_2 ..) (Ev.ite_neg (by omega) ?_)
      rw [if_pos c3.1]
      exact hfin
    · intro j hj ih
      refine Ev.step (fun k => spec_HullOf.l2.eq_2 ..) (Ev.ite_pos (by omega) ?_)
      rw [wrap_nat j (by omega)]
      by_cases e : j = it (i + 1)
      · subst e
        rw [if_pos (by omega)] at ih
        obtain ⟨b, hb, hi2⟩ := spec_left_suc h (it i) (it (i + 1)) c1 c3.1 c3.2.1
        rw [hi2.2 c3] at hb
        refine Ev.ite_neg (by have := c3.2.1; omega) (Ev.bind0 (l6Has_eq _ _ (by omega)) ?_)
        rw [hhas _ hj, hext]
        exact Ev.ite_pos rfl (Ev.bind hb (Ev.ite_pos rfl ih))
      · have hih : Ev (fun k => spec_HullOf.l2 k (its it (i + 1)) ((2 ^ l.length - 1 : Nat) : Int) (exN (extB l) l.length : Int) (it i : Int) (i : Int) (if it (i + 1) < j then (it (i + 1) : Int) else -1) ((j + 1 : Nat) : Int) (l.length : Int) (sO l)) r := by
          by_cases g : it (i + 1) < j
          · rw [if_pos g]
            rw [if_pos (by omega)] at ih
            exact ih
          · rw [if_neg g]
            rw [if_neg (by omega)] at ih
            exact ih
        by_cases e2 : j = it i
        · exact Ev.ite_pos (by omega) hih
        refine Ev.ite_neg (by omega) (Ev.bind0 (l6Has_eq _ _ (by omega)) ?_)
        rw [hhas _ hj]
        cases hx : extB l j with
        | false => exact Ev.ite_neg (by simp) hih
        | true =>
          obtain ⟨b, hb, hi2⟩ := spec_left_suc h (it i) j c1 hj e2
          have hbf : b = false := by
            cases b with
            | false => rfl
            | true => exact absurd (suc_uniq h _ _ _ (hi2.1 rfl) c3) e
          rw [hbf] at hb
          exact Ev.ite_pos rfl (Ev.bind hb (Ev.ite_neg (by simp) hih))
  refine Ev.loop (fun (j : Nat) k => spec_HullOf.l0 k [] ((2 ^ l.length - 1 : Nat) : Int) (exN (extB l) l.length : Int) (j : Int) (l.length : Int) (sO l)) (it 0) (its it m) ?_ ?_ 0 (by omega)
  · obtain ⟨c1, c2, c3⟩ := hC.2.2.2 0
    refine Ev.step (fun k => spec_HullOf.l0.eq_2 ..) (Ev.bind0 (l6Has_eq _ (it 0) (by omega)) ?_)
    rw [hhas _ c1, hext]
    refine Ev.ite_pos rfl ?_
    refine Ev.loop (fun (i : Nat) k => spec_HullOf.l1 k (its it i) ((2 ^ l.length - 1 : Nat) : Int) (exN (extB l) l.length : Int) (it i : Int) (i : Int) (l.length : Int) (sO l)) (m - 1) (its it m) ?_ ?_ 0 (by omega)
    · refine round (m - 1) (by omega) _ ?_
      rw [show m - 1 + 1 = m by omega]
      refine Ev.ite_pos (by rw [its_length]; omega) (Ev.ite_pos ?_ (Ev.now _))
      rw [hC.2.1]
      exact (rd_its it m 0 (by omega)).symm
    · intro i hi ih
      refine round i (by omega) _ (Ev.ite_pos (by rw [its_length]; omega) (Ev.ite_neg ?_ (Ev.ite_neg (by omega) ?_)))
      · rw [show rd (its it (i + 1)) 0 = (it 0 : Int) from rd_its it (i + 1) 0 (by omega)]
        intro e
        have := List.pairwise_iff_getElem.1 hC.2.2.1 0 (i + 1) (by simp; omega) (by simp; omega) (by omega)
        rw [List.getElem_map, List.getElem_map, List.getElem_range, List.getElem_range] at this
        exact this (by omega)
      · rw [wrap_nat i (by omega)]
        exact ih
  · intro j hj ih
    have c1 := (hC.2.2.2 0).1
    refine Ev.step (fun k => spec_HullOf.l0.eq_2 ..) (Ev.bind0 (l6Has_eq _ j (by omega)) ?_)
    rw [hhas j (by omega), hfirst j hj, wrap_nat j (by omega)]
    exact Ev.ite_neg (by simp) ih
def arS (l : List Pt) (it : Nat → Nat) : Nat → Int
  | 0 => 0
  | i + 1 => wrap64 ((wrap64 (arS l it i + (wrap64 (((rdP l (it i)).f0) * ((rdP l (it (i + 1))).f1))))) - (wrap64 (((rdP l (it i)).f1) * ((rdP l (it (i + 1))).f0))))
theorem next_at (it : Nat → Nat) (m i : Nat) (hm : it m = it 0) (hi : i < m) (h7 : m ≤ 7) : ∃ q : Nat, Int.tmod (wrap64 ((i : Int) + 1)) (m : Int) = (q : Int) ∧ q < m ∧ it q = it (i + 1) := by
  rw [wrap_nat i (by omega)]
  refine ⟨(i + 1) % m, rfl, Nat.mod_lt _ (by omega), ?_⟩
  by_cases e : i + 1 = m
  · rw [e, Nat.mod_self, hm]
  · rw [Nat.mod_eq_of_lt (by omega)]
theorem spec_area_ev {l : List Pt} (h : areP l = true) (it : Nat → Nat) (m : Nat) (hC : Cyc l it m) (h7 : m ≤ 7) : Ev (fun k => spec_HullArea.l0 k l (its it m) 0 0) (arS l it m) := by
  refine Ev.loop (fun (i : Nat) k => spec_HullArea.l0 k l (its it m) (arS l it i) (i : Int)) m (arS l it m) ?_ ?_ 0 (by omega)
  · exact Ev.step (fun k => spec_HullArea.l0.eq_2 ..) (Ev.ite_neg (by rw [its_length]; omega) (Ev.now _))
  · intro i hi ih
    obtain ⟨q, q1, q2, q3⟩ := next_at it m i hC.2.1 hi h7
    have c1 := (hC.2.2.2 i).1
    have c2 := (hC.2.2.2 q).1
    refine Ev.step (fun k => spec_HullArea.l0.eq_2 ..) ?_
    rw [its_length, q1, rd_its it m i hi, rd_its it m q q2, wrap_nat i (by omega), q3]
    rw [q3] at c2
    exact Ev.ite_pos (by omega) (Ev.ite_pos (by omega) (Ev.ite_pos (by omega) (Ev.ite_pos (by omega) (Ev.ite_neg (by omega) (Ev.ite_pos (by omega) (Ev.ite_pos (by omega) (Ev.ite_pos (by omega) (Ev.ite_pos (by omega) ih))))))))
def ptsH (l : List Pt) (it : Nat → Nat) (m : Nat) : List Pt := (List.range m).map fun j => rdP l (it j)
theorem ptsH_length (l : List Pt) (it : Nat → Nat) (m : Nat) : (ptsH l it m).length = m := by unfold ptsH; rw [List.length_map, List.length_range]
theorem rd_ptsH (l : List Pt) (it : Nat → Nat) (m i : Nat) (hi : i < m) : rdP (ptsH l it m) i = rdP l (it i) := by
  rw [rdP_lt _ i (by rw [ptsH_length]; exact hi)]
  unfold ptsH
  rw [List.getElem_map, List.getElem_range]
theorem impl_pts_ev {l : List Pt} (h : areP l = true) (hl : l.length ≤ 1048576) (it : Nat → Nat) (m : Nat) (hC : Cyc l it m) (h7 : m ≤ 7) (h0 : rd (exI l) 0 = (it 0 : Int)) : Ev (fun k => impl_hullPoints.f k l) (ptsH l it m) := by
  have hS := impl_SignsOf_ev l hl
  rw [if_pos h] at hS
  unfold impl_hullPoints.f
  refine Ev.bind hS (Ev.bind (tableOf_ev l.length (areP_len h).2 (sO l) (sO_size l)) (Ev.bind (impl_hull_ev h it m hC h0) ?_))
  refine Ev.loop (fun (i : Nat) k => impl_hullPoints.l0 k l (ptsH l it i) (its it m) ((its it m).length : Int) (i : Int)) m (ptsH l it m) ?_ ?_ 0 (by omega)
  · exact Ev.step (fun k => impl_hullPoints.l0.eq_2 ..) (Ev.ite_neg (by rw [its_length]; omega) (Ev.now _))
  · intro i hi ih
    have c1 := (hC.2.2.2 i).1
    refine Ev.step (fun k => impl_hullPoints.l0.eq_2 ..) ?_
    rw [rd_its it m i hi, its_length, wrap_nat i (by omega), ptsH_length]
    refine Ev.ite_pos (by omega) (Ev.ite_pos (by omega) (Ev.ite_pos (by omega) (Ev.ite_pos (by omega) (Ev.ite_pos (by omega) (Ev.ite_pos (by omega) ?_)))))
    have e : ptsH l it i ++ [(⟨(rdP l (it i)).f0, (rdP l (it i)).f1⟩ : Pt)] = ptsH l it (i + 1) := by
      unfold ptsH
      rw [List.range_succ, List.map_append]
      rfl
    rw [its_length] at ih
    rw [← e] at ih
    exact ih
theorem impl_area_ev {l : List Pt} (h : areP l = true) (it : Nat → Nat) (m : Nat) (hC : Cyc l it m) (h7 : m ≤ 7) : Ev (fun k => impl_HullArea.l0 k (ptsH l it m) 0 (ptsH l it m) ((ptsH l it m).length : Int) 0) (arS l it m) := by
  refine Ev.loop (fun (i : Nat) k => impl_HullArea.l0 k (ptsH l it m) (arS l it i) (ptsH l it m) ((ptsH l it m).length : Int) (i : Int)) m (arS l it m) ?_ ?_ 0 (by omega)
  · exact Ev.step (fun k => impl_HullArea.l0.eq_2 ..) (Ev.ite_neg (by rw [ptsH_length]; omega) (Ev.now _))
  · intro i hi ih
    obtain ⟨q, q1, q2, q3⟩ := next_at it m i hC.2.1 hi h7
    refine Ev.step (fun k => impl_HullArea.l0.eq_2 ..) ?_
    rw [ptsH_length] at ih ⊢
    have r1 : rd_T72 (ptsH l it m) (i : Int) = rdP l (it i) := rd_ptsH l it m i hi
    have r2 : rd_T72 (ptsH l it m) (q : Int) = rdP l (it q) := rd_ptsH l it m q q2
    rw [q3] at r2
    rw [q1, r1, r2, wrap_nat i (by omega)]
    exact Ev.ite_pos (by omega) (Ev.ite_pos (by omega) (Ev.ite_pos (by omega) (Ev.ite_neg (by omega) (Ev.ite_pos (by omega) (Ev.ite_pos (by omega) ih)))))
theorem area_both (l : List Pt) (hl : l.length ≤ 1048576) : ∃ v, Ev (fun k => spec_HullArea.f k l) v ∧ Ev (fun k => impl_HullArea.f k l) v := by
  have hS := spec_SignsOf_ev l hl
  have hI := impl_ArePoints_ev l hl
  unfold spec_HullArea.f impl_HullArea.f
  cases h : areP l with
  | false =>
    rw [h, if_neg (by simp)] at hS
    rw [h] at hI
    exact ⟨-1, Ev.bind hS (Ev.ite_neg (by simp) (Ev.now _)), Ev.bind hI (Ev.ite_neg (by simp) (Ev.now _))⟩
  | true =>
    rw [if_pos h] at hS
    rw [h] at hI
    obtain ⟨v, hv, hE⟩ := ext_ex h
    have hlen : 0 < (exL l).length := List.length_pos_of_mem ((exL_mem h v).2 ⟨hv, hE⟩)
    have hm0 := (exL_mem h _).1 (List.getElem_mem hlen)
    obtain ⟨it, m, hC, h0⟩ := cyc_ex h _ hm0.1 hm0.2
    have hz : rd (exI l) 0 = (it 0 : Int) := by
      rw [h0]
      exact rd_exI l 0 hlen
    have h7 : m ≤ 7 := by
      have h1 := cyc_len h it m hC
      have h2 := (areP_len h).2
      have := List.length_filter_le (extB l) (List.range l.length)
      rw [List.length_range] at this
      unfold exL at h1
      omega
    exact ⟨arS l it m, Ev.bind hS (Ev.ite_pos rfl (Ev.bind (spec_hull_ev h it m hC hz) (spec_area_ev h it m hC h7))), Ev.bind hI (Ev.ite_pos rfl (Ev.bind (impl_pts_ev h hl it m hC h7 hz) (impl_area_ev h it m hC h7)))⟩
end Go.Proofs.Yteblnjoljbdjjaa.Pure
namespace Go.Proofs.Yteblnjoljbdjjaa.Pure
set_option linter.unusedSimpArgs false
set_option linter.unusedVariables false
open Go.RowKit Go.Proofs.YteblnjoljbdjjaaW.PrintWords Go.Proofs.Yteblnjoljbdjjaa.P Go.Proofs.Yteblnjoljbdjjaa.Pl Go.Proofs.Yteblnjoljbdjjaa.Rk
theorem FnExactHullArea (l0 : List LPt) (h0 : l0.length ≤ 9223372036854775807) (_ : ∀ y ∈ l0, Q75 y) : ∃ k, laws_FnExactHullArea.f k l0 = some true := by
  refine Ev.rounds (g := fun k => laws_FnExactHullArea.f k l0) ?_
  unfold laws_FnExactHullArea.f
  refine Ev.bind0 (szPointS_eq l0 1048576 (by omega) (by omega) h0) ?_
  by_cases hs : 1048576 < (l0.length : Int)
  · rw [if_pos hs]
    exact Ev.ite_pos (by omega) (Ev.now _)
  rw [if_neg hs]
  refine Ev.ite_neg (by omega) ?_
  have e1 := toPointS_ev l0 (by omega)
  have hl : (l0.map toP).length ≤ 1048576 := by simp; omega
  obtain ⟨v, hS, hI⟩ := area_both (l0.map toP) hl
  exact Ev.bind e1 (Ev.bind hS (Ev.bind e1 (Ev.bind hI (Ev.ite_pos rfl (Ev.bind e1 (Ev.bind (eqPointS_self _ hl) (Ev.ite_pos rfl (Ev.now _))))))))
end Go.Proofs.Yteblnjoljbdjjaa.Pure
