/- EqualLines: the program's and the reference's answer are one, at every pair of lists of lines. No condition. -/
import Derived.Test.YtcojmladlkealaaPFLawsFnExactEqualLines
import Derived.Test.YtcojmladlkealaaPlLines
import Derived.Test.YtcojmladlkealaaRq
namespace Go.Proofs.Ytcojmladlkealaa.Pure
open Go.RowKit Go.Proofs.YtcojmladlkealaaW.PrintWords Go.Proofs.Ytcojmladlkealaa.P Go.Proofs.Ytcojmladlkealaa.Pl
theorem equal_both (l m : List ILine) (hl : l.length ≤ 1048576) : ∃ b, Ev (fun k => spec_EqualLines.f k l m) b ∧ Ev (fun k => impl_EqualLines.f k l m) b := by
  unfold spec_EqualLines.f impl_EqualLines.f slices_Equal_Simpl_Line_impl_Line.f
  by_cases h : (l.length : Int) = (m.length : Int)
  · simp only [if_pos h]
    have key := Ev.loop2 (fun i k => spec_EqualLines.l0 k l m i) (fun i k => slices_Equal_Simpl_Line_impl_Line.l0 k l m l.length i) l.length ?_ ?_ 0 (by omega)
    · obtain ⟨r, h1, h2⟩ := key
      exact ⟨r, h1, Ev.bind h2 (Ev.now _)⟩
    · refine ⟨true, Ev.step (fun k => spec_EqualLines.l0.eq_2 ..) (Ev.ite_neg (by omega) (Ev.now _)), Ev.step (fun k => slices_Equal_Simpl_Line_impl_Line.l0.eq_2 ..) (Ev.ite_neg (by omega) (Ev.now _))⟩
    · intro i hi ⟨r, h1, h2⟩
      rw [← wrap_nat i (by omega)] at h1 h2
      by_cases ht : (!(((rd_T41 l i).f0) == ((rd_T41 m i).f0)) || (!(((rd_T41 l i).f1) == ((rd_T41 m i).f1)) || (!(((rd_T41 l i).f2) == ((rd_T41 m i).f2))))) = true
      · exact ⟨false, Ev.step (fun k => spec_EqualLines.l0.eq_2 ..) (Ev.ite_pos (by omega) (Ev.ite_pos (by omega) (Ev.ite_pos (by omega) (Ev.ite_pos ht (Ev.now _))))),
          Ev.step (fun k => slices_Equal_Simpl_Line_impl_Line.l0.eq_2 ..) (Ev.ite_pos (by omega) (Ev.ite_pos (by omega) (Ev.ite_pos (by omega) (Ev.ite_pos (by omega) (Ev.ite_pos ht (Ev.now _))))))⟩
      · exact ⟨r, Ev.step (fun k => spec_EqualLines.l0.eq_2 ..) (Ev.ite_pos (by omega) (Ev.ite_pos (by omega) (Ev.ite_pos (by omega) (Ev.ite_neg ht h1)))),
          Ev.step (fun k => slices_Equal_Simpl_Line_impl_Line.l0.eq_2 ..) (Ev.ite_pos (by omega) (Ev.ite_pos (by omega) (Ev.ite_pos (by omega) (Ev.ite_pos (by omega) (Ev.ite_neg ht h2)))))⟩
  · simp only [if_neg h]
    exact ⟨false, Ev.now _, Ev.bind (Ev.now _) (Ev.now _)⟩
theorem FnExactEqualLines (l0 l1 : List LLine) (h0 : l0.length ≤ 9223372036854775807) (_ : ∀ y ∈ l0, Q38 y) (h1 : l1.length ≤ 9223372036854775807) (_ : ∀ y ∈ l1, Q38 y) : ∃ k, laws_FnExactEqualLines.f k l0 l1 = some true := by
  refine Ev.rounds (g := fun k => laws_FnExactEqualLines.f k l0 l1) ?_
  unfold laws_FnExactEqualLines.f
  refine Ev.bind0 (szLineS_eq l0 1048576 (by omega) (by omega) h0) ?_
  by_cases hs : 1048576 < (l0.length : Int)
  · rw [if_pos hs]
    exact Ev.ite_pos (by omega) (Ev.now _)
  rw [if_neg hs]
  refine Ev.ite_neg (by omega) ?_
  refine Ev.bind0 (szLineS_eq l1 _ (by omega) (by omega) h1) ?_
  by_cases hs1 : 1048576 - (l0.length : Int) < (l1.length : Int)
  · rw [if_pos hs1]
    exact Ev.ite_pos (by omega) (Ev.now _)
  rw [if_neg hs1]
  refine Ev.ite_neg (by omega) ?_
  have e0 := toLineS_ev l0 (by omega)
  have e1 := toLineS_ev l1 (by omega)
  obtain ⟨b, hb, hb'⟩ := equal_both (l0.map toL) (l1.map toL) (by simp; omega)
  refine Ev.bind e0 (Ev.bind e1 (Ev.bind hb (Ev.bind e0 (Ev.bind e1 (Ev.bind hb' ?_)))))
  refine Ev.ite_neg (by simp) ?_
  refine Ev.bind e0 (Ev.bind (eqLineS_self _ (by simp; omega)) (Ev.ite_pos rfl ?_))
  exact Ev.bind e1 (Ev.bind (eqLineS_self _ (by simp; omega)) (Ev.ite_pos rfl (Ev.now _)))
end Go.Proofs.Ytcojmladlkealaa.Pure
