/- What the laws' own helpers over lines come to: sizes, copies, equality. Plain lemmas over the printed functions. -/
import Derived.Test.YtcojmladlkealaaPFLawsSzLineS
import Derived.Test.YtcojmladlkealaaPFLawsToLineS
import Derived.Test.YtcojmladlkealaaPFLawsEqLineS
import Derived.Test.YtcojmladlkealaaPl
namespace Go.Proofs.Ytcojmladlkealaa.Pure
open Go.RowKit Go.Proofs.YtcojmladlkealaaW.PrintWords Go.Proofs.Ytcojmladlkealaa.P Go.Proofs.Ytcojmladlkealaa.Pl
abbrev LLine := S38
abbrev ILine := S41
def toL (x : LLine) : ILine := ⟨x.f0, x.f1, x.f2⟩
theorem szLineS_eq (l : List LLine) (a : Int) (h0 : 0 ≤ a) (h1 : a ≤ 1048576) (hl : l.length ≤ 9223372036854775807) : laws_szLineS.f l a = some (if a < l.length then -1 else a - l.length) := by
  unfold laws_szLineS.f
  rw [wrap_in (by omega) (by omega)]
  by_cases h : a < (l.length : Int)
  · rw [if_pos h, if_pos (by omega)]
  · rw [if_neg h, if_neg (by omega)]
theorem toLineS_ev (l : List LLine) (hl : l.length ≤ 1048576) : Ev (fun k => laws_toLineS.f k l) (l.map toL) := by
  have hm : (l.map toL).length = l.length := List.length_map ..
  have key := Ev.loop (fun i k => laws_toLineS.l0 k l ((l.map toL).take i ++ List.replicate (l.length - i) z41) i) l.length (l.map toL) ?_ ?_ 0 (by omega)
  · unfold laws_toLineS.f
    simp only [Int.toNat_natCast]
    exact Ev.ite_pos (by omega) (Ev.ite_pos (by omega) (by simpa using key))
  · refine Ev.step (fun k => laws_toLineS.l0.eq_2 ..) ?_
    refine Ev.ite_neg (by omega) (Ev.const ?_)
    rw [List.take_of_length_le (by omega)]
    simp
  · intro i hi ih
    refine Ev.step (fun k => laws_toLineS.l0.eq_2 ..) ?_
    refine Ev.ite_pos (by omega) (Ev.ite_pos (by omega) ?_)
    refine Ev.bind0 rfl ?_
    refine Ev.ite_pos (by simp; omega) ?_
    rw [wrap_nat i (by omega)]
    have hx : (⟨(rd_T38 l i).f0, (rd_T38 l i).f1, (rd_T38 l i).f2⟩ : ILine) = (l.map toL)[i]'(by omega) := by
      simp only [List.getElem_map, toL, rd_T38, Int.toNat_natCast]
      rw [getD_lt _ _ _ hi]
    have hs := fill_set (l.map toL) z41 l.length i hm hi
    rw [← hs, ← hx] at ih
    exact ih
theorem eqLine_self (a b c : Int) : laws_eqLine.f a b c a b c = some true := by
  unfold laws_eqLine.f
  simp
theorem eqLineS_self (l : List ILine) (hl : l.length ≤ 1048576) : Ev (fun k => laws_eqLineS.f k l l) true := by
  unfold laws_eqLineS.f
  refine Ev.ite_pos rfl ?_
  refine Ev.loop (fun i k => laws_eqLineS.l0 k l l i) l.length true ?_ ?_ 0 (by omega)
  · refine Ev.step (fun k => laws_eqLineS.l0.eq_2 ..) ?_
    exact Ev.ite_neg (by omega) (Ev.now _)
  · intro i hi ih
    refine Ev.step (fun k => laws_eqLineS.l0.eq_2 ..) ?_
    refine Ev.ite_pos (by omega) (Ev.ite_pos (by omega) (Ev.ite_pos (by omega) ?_))
    refine Ev.bind0 (eqLine_self _ _ _) ?_
    refine Ev.ite_pos rfl ?_
    rw [wrap_nat i (by omega)]
    exact ih
end Go.Proofs.Ytcojmladlkealaa.Pure
