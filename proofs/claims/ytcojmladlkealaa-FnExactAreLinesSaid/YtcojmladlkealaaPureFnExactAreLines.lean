/- AreLines: the program's and the reference's answer are one, at every list of lines. No condition. -/
import Derived.Test.YtcojmladlkealaaPFLawsFnExactAreLines
import Derived.Test.YtcojmladlkealaaPlAreL
import Derived.Test.YtcojmladlkealaaRq
namespace Go.Proofs.Ytcojmladlkealaa.Pure
open Go.RowKit Go.Proofs.YtcojmladlkealaaW.PrintWords Go.Proofs.Ytcojmladlkealaa.P Go.Proofs.Ytcojmladlkealaa.Pl Go.Proofs.Ytcojmladlkealaa.Rk
theorem FnExactAreLines (l0 : List LLine) (h0 : l0.length ≤ 9223372036854775807) (_ : ∀ y ∈ l0, Q38 y) : ∃ k, laws_FnExactAreLines.f k l0 = some true := by
  refine Ev.rounds (g := fun k => laws_FnExactAreLines.f k l0) ?_
  unfold laws_FnExactAreLines.f
  refine Ev.bind0 (szLineS_eq l0 1048576 (by omega) (by omega) h0) ?_
  by_cases hs : 1048576 < (l0.length : Int)
  · rw [if_pos hs]
    exact Ev.ite_pos (by omega) (Ev.now _)
  rw [if_neg hs]
  refine Ev.ite_neg (by omega) ?_
  have e0 := toLineS_ev l0 (by omega)
  have hl : (l0.map toL).length ≤ 1048576 := by simp; omega
  refine Ev.bind e0 (Ev.bind (spec_AreLines_ev _ hl) (Ev.bind e0 (Ev.bind (impl_AreLines_ev _ hl) ?_)))
  refine Ev.ite_neg (by simp) ?_
  exact Ev.bind e0 (Ev.bind (eqLineS_self _ hl) (Ev.ite_pos rfl (Ev.now _)))
end Go.Proofs.Ytcojmladlkealaa.Pure
