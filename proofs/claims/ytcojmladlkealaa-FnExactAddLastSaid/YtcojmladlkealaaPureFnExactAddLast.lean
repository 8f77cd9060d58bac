/- AddLast: the program's and the reference's answer are one, for every number and every row. No condition. -/
import Derived.Test.YtcojmladlkealaaPFLawsFnExactAddLast
import Derived.Test.YtcojmladlkealaaPlAdd
import Derived.Test.YtcojmladlkealaaPlInts
import Derived.Test.YtcojmladlkealaaRk
namespace Go.Proofs.Ytcojmladlkealaa.Pure
open Go.RowKit Go.Proofs.YtcojmladlkealaaW.PrintWords Go.Proofs.Ytcojmladlkealaa.P Go.Proofs.Ytcojmladlkealaa.Pl Go.Proofs.Ytcojmladlkealaa.Rk
/-- AddLast in plain words. -/
def addL (n : Int) (w : List Int) : List Int × Bool := if isW n w = true ∧ n ≠ 6 then (w ++ (upTo n.toNat).reverse, true) else ([], false)
theorem addL_length (n : Int) (w : List Int) : (addL n w).1.length ≤ 100 := by
  unfold addL
  by_cases h : isW n w = true ∧ n ≠ 6
  · obtain ⟨h3, h6, hl⟩ := isW_bounds h.1
    rw [if_pos h]
    simp [upTo_length]
    omega
  · rw [if_neg h]
    simp
theorem spec_l0_ev : ∀ m : Nat, m ≤ 1000 → ∀ acc : List Int, acc.length + m ≤ 2000 → Ev (fun k => spec_AddLast.l0 k acc ((m : Int) - 1)) (acc ++ (upTo m).reverse, true) := by
  intro m
  induction m with
  | zero =>
    intro _ acc _
    refine Ev.step (fun k => spec_AddLast.l0.eq_2 ..) ?_
    exact Ev.ite_neg (by omega) (Ev.const (by simp [upTo]))
  | succ m ih =>
    intro hm acc ha
    refine Ev.step (fun k => spec_AddLast.l0.eq_2 ..) ?_
    have e : ((m + 1 : Nat) : Int) - 1 = (m : Int) := by omega
    rw [e, wrap_in (n := (m : Int) - 1) (by omega) (by omega)]
    refine Ev.ite_pos (by omega) (Ev.ite_pos (by omega) ?_)
    have h := ih (by omega) (acc ++ [(m : Int)]) (by simp; omega)
    rw [upTo_succ, List.reverse_append]
    simpa using h
theorem spec_AddLast_ev (n : Int) (w : List Int) : Ev (fun k => spec_AddLast.f k n w) (addL n w) := by
  unfold spec_AddLast.f addL
  refine Ev.bind (spec_IsWiring_ev n w) ?_
  by_cases hw : isW n w = true
  · obtain ⟨h3, h6, hl⟩ := isW_bounds hw
    rw [hw]
    refine Ev.ite_pos rfl (Ev.step (fun k => spec_AddLast.j0.eq_2 ..) ?_)
    by_cases h : n = 6
    · rw [if_neg (by simp [h])]
      exact Ev.ite_pos (by simp [h]) (Ev.now _)
    · rw [if_pos ⟨rfl, h⟩]
      obtain ⟨m, rfl⟩ := Int.eq_ofNat_of_zero_le (show 0 ≤ n by omega)
      rw [wrap_in (n := (m : Int) - 1) (by omega) (by omega), Int.toNat_natCast]
      refine Ev.ite_neg (by simpa using h) (Ev.bind0 rfl (Ev.ite_pos (by simp; omega) ?_))
      exact spec_l0_ev m (by omega) _ (by simp; omega)
  · rw [if_neg (fun h => hw h.1)]
    exact Ev.ite_neg hw (Ev.step (fun k => spec_AddLast.j0.eq_2 ..) (Ev.ite_pos rfl (Ev.now _)))
theorem impl_AddLast_ev (n : Int) (w : List Int) : Ev (fun k => impl_AddLast.f k n w) (addL n w) := by
  unfold impl_AddLast.f addL
  refine Ev.bind (impl_IsWiring_ev n w) ?_
  by_cases hw : isW n w = true
  · obtain ⟨h3, h6, hl⟩ := isW_bounds hw
    rw [hw]
    refine Ev.ite_pos rfl (Ev.step (fun k => impl_AddLast.j0.eq_2 ..) ?_)
    by_cases h : n = 6
    · rw [if_neg (by simp [h])]
      exact Ev.ite_pos (by simp [h]) (Ev.now _)
    · rw [if_pos ⟨rfl, h⟩]
      obtain ⟨m, rfl⟩ := Int.eq_ofNat_of_zero_le (show 0 ≤ n by omega)
      rw [Int.toNat_natCast]
      refine Ev.ite_neg (by simpa using h) (Ev.bind0 (a := w) (by unfold slices_Clone_Sint_int.f; simp; omega) (Ev.bind (taken_ev m (by omega) (by omega)) ?_))
      exact Ev.ite_pos (by simp [upTo_length]; omega) (Ev.now _)
  · rw [if_neg (fun h => hw h.1)]
    exact Ev.ite_neg hw (Ev.step (fun k => impl_AddLast.j0.eq_2 ..) (Ev.ite_pos rfl (Ev.now _)))
theorem FnExactAddLast (a0 : Int) (l1 : List Int) (_ : I64 a0) (h1 : l1.length ≤ 9223372036854775807) (_ : ∀ y ∈ l1, (Lit.int .i64 y).wf = true) : ∃ k, laws_FnExactAddLast.f k a0 l1 = some true := by
  refine Ev.rounds (g := fun k => laws_FnExactAddLast.f k a0 l1) ?_
  unfold laws_FnExactAddLast.f
  by_cases hs : (l1.length : Int) > 1048576
  · exact Ev.ite_pos hs (Ev.now _)
  refine Ev.ite_neg hs ?_
  have e1 := toIntS_ev l1 (by omega)
  have eS := spec_AddLast_ev a0 l1
  have eI := impl_AddLast_ev a0 l1
  have hR := addL_length a0 l1
  generalize addL a0 l1 = R at eS eI hR
  have eR := eqIntS_self R.1 (by omega)
  refine Ev.bind e1 (Ev.bind eS (Ev.bind e1 (Ev.bind eI (Ev.bind eR (Ev.ite_pos rfl ?_)))))
  refine Ev.step (fun k => laws_FnExactAddLast.j0.eq_2 ..) ?_
  refine Ev.ite_neg (by simp) (Ev.bind e1 (Ev.bind (eqIntS_self l1 (by omega)) (Ev.ite_pos rfl (Ev.bind (markIntS_ev l1 (by omega)) (Ev.ite_neg (by dsimp only; omega) (Ev.bind eR (Ev.ite_pos rfl ?_)))))))
  refine Ev.step (fun k => laws_FnExactAddLast.j1.eq_2 ..) ?_
  refine Ev.ite_neg (by simp) (Ev.bind (markIntS_ev R.1 (by omega)) (Ev.bind (heldIntS_ev _ (by omega)) (Ev.ite_neg (by omega) (Ev.ite_pos rfl (Ev.bind e1 (Ev.bind eI (Ev.bind eR (Ev.ite_pos rfl ?_))))))))
  refine Ev.step (fun k => laws_FnExactAddLast.j2.eq_2 ..) ?_
  exact Ev.ite_neg (by simp) (Ev.bind (heldIntS_ev _ (by omega)) (Ev.ite_neg (by omega) (Ev.ite_pos rfl (Ev.now _))))
end Go.Proofs.Ytcojmladlkealaa.Pure
