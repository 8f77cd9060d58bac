/- AddFirst: the program's and the reference's answer are one, for every number and every row. No condition. -/
import Derived.Test.YtcojmladlkealaaPFLawsFnExactAddFirst
import Derived.Test.YtcojmladlkealaaPlAdd
import Derived.Test.YtcojmladlkealaaPlInts
import Derived.Test.YtcojmladlkealaaRk
namespace Go.Proofs.Ytcojmladlkealaa.Pure
open Go.RowKit Go.Proofs.YtcojmladlkealaaW.PrintWords Go.Proofs.Ytcojmladlkealaa.P Go.Proofs.Ytcojmladlkealaa.Pl Go.Proofs.Ytcojmladlkealaa.Rk
/-- AddFirst in plain words. -/
def addF (n : Int) (w : List Int) : List Int × Bool := if isW n w = true ∧ n ≠ 6 then ((upTo n.toNat).reverse ++ w.map (fun p => wrap64 (p + 1)), true) else ([], false)
theorem addF_length (n : Int) (w : List Int) : (addF n w).1.length ≤ 100 := by
  unfold addF
  by_cases h : isW n w = true ∧ n ≠ 6
  · obtain ⟨h3, h6, hl⟩ := isW_bounds h.1
    rw [if_pos h]
    simp [upTo_length]
    omega
  · rw [if_neg h]
    simp
theorem map_take_succ (w : List Int) (i : Nat) (h : i < w.length) (acc : List Int) : acc ++ (w.take i).map (fun p => wrap64 (p + 1)) ++ [wrap64 (rd w (i : Int) + 1)] = acc ++ (w.take (i + 1)).map (fun p => wrap64 (p + 1)) := by
  rw [List.take_succ_eq_append_getElem h, List.map_append, List.append_assoc]
  unfold rd
  rw [Int.toNat_natCast, getD_lt _ _ _ h]
  rfl
theorem spec_l1_ev (w acc : List Int) (hw : w.length ≤ 1000) (ha : acc.length ≤ 1000) : Ev (fun k => spec_AddFirst.l1 k w acc 0) (acc ++ w.map (fun p => wrap64 (p + 1)), true) := by
  have key := Ev.loop (fun i k => spec_AddFirst.l1 k w (acc ++ (w.take i).map (fun p => wrap64 (p + 1))) i) w.length (acc ++ w.map (fun p => wrap64 (p + 1)), true) ?_ ?_ 0 (by omega)
  · simpa using key
  · refine Ev.step (fun k => spec_AddFirst.l1.eq_2 ..) ?_
    refine Ev.ite_neg (by omega) (Ev.const ?_)
    rw [List.take_length]
  · intro i hi ih
    refine Ev.step (fun k => spec_AddFirst.l1.eq_2 ..) ?_
    refine Ev.ite_pos (by omega) (Ev.ite_pos (by omega) (Ev.ite_pos (by simp; omega) ?_))
    rw [wrap_nat i (by omega), map_take_succ w i hi acc]
    exact ih
theorem spec_l0_ev (w : List Int) (r : List Int × Bool) : ∀ m : Nat, m ≤ 1000 → ∀ acc : List Int, acc.length + m ≤ 2000 → Ev (fun k => spec_AddFirst.l1 k w (acc ++ (upTo m).reverse) 0) r → Ev (fun k => spec_AddFirst.l0 k w acc ((m : Int) - 1)) r := by
  intro m
  induction m with
  | zero =>
    intro _ acc _ h
    refine Ev.step (fun k => spec_AddFirst.l0.eq_2 ..) ?_
    exact Ev.ite_neg (by omega) (by simpa [upTo] using h)
  | succ m ih =>
    intro hm acc ha h
    refine Ev.step (fun k => spec_AddFirst.l0.eq_2 ..) ?_
    have e : ((m + 1 : Nat) : Int) - 1 = (m : Int) := by omega
    rw [e, wrap_in (n := (m : Int) - 1) (by omega) (by omega)]
    refine Ev.ite_pos (by omega) (Ev.ite_pos (by omega) ?_)
    refine ih (by omega) _ (by simp; omega) ?_
    rw [upTo_succ, List.reverse_append] at h
    simpa using h
theorem impl_l0_ev (w acc : List Int) (hw : w.length ≤ 1000) (ha : acc.length ≤ 1000) : Ev (fun k => impl_AddFirst.l0 k acc w w.length 0) (acc ++ w.map (fun p => wrap64 (p + 1)), true) := by
  have key := Ev.loop (fun i k => impl_AddFirst.l0 k (acc ++ (w.take i).map (fun p => wrap64 (p + 1))) w w.length i) w.length (acc ++ w.map (fun p => wrap64 (p + 1)), true) ?_ ?_ 0 (by omega)
  · simpa using key
  · refine Ev.step (fun k => impl_AddFirst.l0.eq_2 ..) ?_
    refine Ev.ite_neg (by omega) (Ev.const ?_)
    rw [List.take_length]
  · intro i hi ih
    refine Ev.step (fun k => impl_AddFirst.l0.eq_2 ..) ?_
    refine Ev.ite_pos (by omega) (Ev.ite_pos (by omega) (Ev.ite_pos (by omega) (Ev.ite_pos (by simp; omega) ?_)))
    rw [wrap_nat i (by omega), map_take_succ w i hi acc]
    exact ih
theorem spec_AddFirst_ev (n : Int) (w : List Int) : Ev (fun k => spec_AddFirst.f k n w) (addF n w) := by
  unfold spec_AddFirst.f addF
  refine Ev.bind (spec_IsWiring_ev n w) ?_
  by_cases hw : isW n w = true
  · obtain ⟨h3, h6, hl⟩ := isW_bounds hw
    rw [hw]
    refine Ev.ite_pos rfl (Ev.step (fun k => spec_AddFirst.j0.eq_2 ..) ?_)
    by_cases h : n = 6
    · rw [if_neg (by simp [h])]
      exact Ev.ite_pos (by simp [h]) (Ev.now _)
    · rw [if_pos ⟨rfl, h⟩]
      obtain ⟨m, rfl⟩ := Int.eq_ofNat_of_zero_le (show 0 ≤ n by omega)
      rw [wrap_in (n := (m : Int) - 1) (by omega) (by omega), Int.toNat_natCast]
      refine Ev.ite_neg (by simpa using h) (spec_l0_ev w _ m (by omega) [] (by simp; omega) ?_)
      rw [List.nil_append]
      exact spec_l1_ev w _ (by omega) (by simp [upTo_length]; omega)
  · rw [if_neg (fun h => hw h.1)]
    exact Ev.ite_neg hw (Ev.step (fun k => spec_AddFirst.j0.eq_2 ..) (Ev.ite_pos rfl (Ev.now _)))
theorem impl_AddFirst_ev (n : Int) (w : List Int) : Ev (fun k => impl_AddFirst.f k n w) (addF n w) := by
  unfold impl_AddFirst.f addF
  refine Ev.bind (impl_IsWiring_ev n w) ?_
  by_cases hw : isW n w = true
  · obtain ⟨h3, h6, hl⟩ := isW_bounds hw
    rw [hw]
    refine Ev.ite_pos rfl (Ev.step (fun k => impl_AddFirst.j0.eq_2 ..) ?_)
    by_cases h : n = 6
    · rw [if_neg (by simp [h])]
      exact Ev.ite_pos (by simp [h]) (Ev.now _)
    · rw [if_pos ⟨rfl, h⟩]
      obtain ⟨m, rfl⟩ := Int.eq_ofNat_of_zero_le (show 0 ≤ n by omega)
      rw [Int.toNat_natCast]
      refine Ev.ite_neg (by simpa using h) (Ev.bind (taken_ev m (by omega) (by omega)) ?_)
      exact impl_l0_ev w _ (by omega) (by simp [upTo_length]; omega)
  · rw [if_neg (fun h => hw h.1)]
    exact Ev.ite_neg hw (Ev.step (fun k => impl_AddFirst.j0.eq_2 ..) (Ev.ite_pos rfl (Ev.now _)))
theorem FnExactAddFirst (a0 : Int) (l1 : List Int) (_ : I64 a0) (h1 : l1.length ≤ 9223372036854775807) (_ : ∀ y ∈ l1, (Lit.int .i64 y).wf = true) : ∃ k, laws_FnExactAddFirst.f k a0 l1 = some true := by
  refine Ev.rounds (g := fun k => laws_FnExactAddFirst.f k a0 l1) ?_
  unfold laws_FnExactAddFirst.f
  by_cases hs : (l1.length : Int) > 1048576
  · exact Ev.ite_pos hs (Ev.now _)
  refine Ev.ite_neg hs ?_
  have e1 := toIntS_ev l1 (by omega)
  have eS := spec_AddFirst_ev a0 l1
  have eI := impl_AddFirst_ev a0 l1
  have hR := addF_length a0 l1
  generalize addF a0 l1 = R at eS eI hR
  have eR := eqIntS_self R.1 (by omega)
  refine Ev.bind e1 (Ev.bind eS (Ev.bind e1 (Ev.bind eI (Ev.bind eR (Ev.ite_pos rfl ?_)))))
  refine Ev.step (fun k => laws_FnExactAddFirst.j0.eq_2 ..) ?_
  refine Ev.ite_neg (by simp) (Ev.bind e1 (Ev.bind (eqIntS_self l1 (by omega)) (Ev.ite_pos rfl (Ev.bind (markIntS_ev l1 (by omega)) (Ev.ite_neg (by dsimp only; omega) (Ev.bind eR (Ev.ite_pos rfl ?_)))))))
  refine Ev.step (fun k => laws_FnExactAddFirst.j1.eq_2 ..) ?_
  refine Ev.ite_neg (by simp) (Ev.bind (markIntS_ev R.1 (by omega)) (Ev.bind (heldIntS_ev _ (by omega)) (Ev.ite_neg (by omega) (Ev.ite_pos rfl (Ev.bind e1 (Ev.bind eI (Ev.bind eR (Ev.ite_pos rfl ?_))))))))
  refine Ev.step (fun k => laws_FnExactAddFirst.j2.eq_2 ..) ?_
  exact Ev.ite_neg (by simp) (Ev.bind (heldIntS_ev _ (by omega)) (Ev.ite_neg (by omega) (Ev.ite_pos rfl (Ev.now _))))
end Go.Proofs.Ytcojmladlkealaa.Pure
