/- What the laws' own helpers over rows of whole numbers come to: copies, equality, marks. Plain lemmas over the printed functions. -/
import Derived.Test.YtcojmladlkealaaPFLawsToIntS
import Derived.Test.YtcojmladlkealaaPFLawsEqIntS
import Derived.Test.YtcojmladlkealaaPFLawsMarkIntS
import Derived.Test.YtcojmladlkealaaPFLawsHeldIntS
import Derived.Test.YtcojmladlkealaaPl
namespace Go.Proofs.Ytcojmladlkealaa.Pure
open Go.RowKit Go.Proofs.YtcojmladlkealaaW.PrintWords Go.Proofs.Ytcojmladlkealaa.P Go.Proofs.Ytcojmladlkealaa.Pl
theorem rd_lt (l : List Int) (i : Nat) (h : i < l.length) : rd l (i : Int) = l[i] := by
  unfold rd
  rw [Int.toNat_natCast, getD_lt _ _ _ h]
theorem toIntS_ev (l : List Int) (hl : l.length ≤ 1048576) : Ev (fun k => laws_toIntS.f k l) l := by
  have key := Ev.loop (fun i k => laws_toIntS.l0 k l (l.take i ++ List.replicate (l.length - i) 0) i) l.length l ?_ ?_ 0 (by omega)
  · unfold laws_toIntS.f
    simp only [Int.toNat_natCast]
    exact Ev.ite_pos (by omega) (Ev.ite_pos (by omega) (by simpa using key))
  · refine Ev.step (fun k => laws_toIntS.l0.eq_2 ..) ?_
    refine Ev.ite_neg (by omega) (Ev.const ?_)
    simp
  · intro i hi ih
    refine Ev.step (fun k => laws_toIntS.l0.eq_2 ..) ?_
    refine Ev.ite_pos (by omega) (Ev.ite_pos (by omega) (Ev.ite_pos (by simp; omega) ?_))
    rw [wrap_nat i (by omega), Int.toNat_natCast, rd_lt l i hi, fill_set l 0 l.length i rfl hi]
    exact ih
theorem eqIntS_self (l : List Int) (hl : l.length ≤ 1048576) : Ev (fun k => laws_eqIntS.f k l l) true := by
  unfold laws_eqIntS.f
  refine Ev.ite_pos rfl ?_
  refine Ev.loop (fun i k => laws_eqIntS.l0 k l l i) l.length true ?_ ?_ 0 (by omega)
  · refine Ev.step (fun k => laws_eqIntS.l0.eq_2 ..) ?_
    exact Ev.ite_neg (by omega) (Ev.now _)
  · intro i hi ih
    refine Ev.step (fun k => laws_eqIntS.l0.eq_2 ..) ?_
    refine Ev.ite_pos (by omega) (Ev.ite_pos (by omega) (Ev.ite_pos (by omega) (Ev.ite_pos rfl ?_)))
    rw [wrap_nat i (by omega)]
    exact ih
/-- The marks 1, 2, .. -/
def marks (n : Nat) : List Int := (List.range n).map fun i => ((i + 1 : Nat) : Int)
theorem marks_length (n : Nat) : (marks n).length = n := by simp [marks]
theorem rd_marks (n i : Nat) (h : i < n) : rd (marks n) (i : Int) = ((i + 1 : Nat) : Int) := by
  rw [rd_lt _ _ (by rw [marks_length]; exact h)]
  simp [marks]
theorem marks_set (l : List Int) (n i : Nat) (hl : l.length = n) (hi : i < n) : (marks i ++ l.drop i).set i ((i + 1 : Nat) : Int) = marks (i + 1) ++ l.drop (i + 1) := by
  have h0 : (marks i).length = i := marks_length i
  rw [List.set_append_right _ _ (by omega), h0, Nat.sub_self, List.drop_eq_getElem_cons (by omega), List.set_cons_zero]
  simp [marks, List.range_succ]
theorem markIntS_ev (l : List Int) (hl : l.length ≤ 1048576) : Ev (fun k => laws_markIntS.f k l 1) (((l.length + 1 : Nat) : Int), marks l.length) := by
  have key := Ev.loop (fun i k => laws_markIntS.l0 k (marks i ++ l.drop i) ((i + 1 : Nat) : Int) i) l.length (((l.length + 1 : Nat) : Int), marks l.length) ?_ ?_ 0 (by omega)
  · unfold laws_markIntS.f
    simpa [marks] using key
  · refine Ev.step (fun k => laws_markIntS.l0.eq_2 ..) ?_
    refine Ev.ite_neg (by simp [marks_length]) (Ev.const ?_)
    simp
  · intro i hi ih
    refine Ev.step (fun k => laws_markIntS.l0.eq_2 ..) ?_
    refine Ev.ite_pos (by simp [marks_length]; omega) (Ev.ite_pos (by omega) ?_)
    rw [wrap_nat i (by omega), wrap_nat (i + 1) (by omega), Int.toNat_natCast, marks_set l l.length i rfl hi]
    exact ih
theorem heldIntS_ev (n : Nat) (hl : n ≤ 1048576) : Ev (fun k => laws_heldIntS.f k (marks n) 1) ((n + 1 : Nat) : Int) := by
  have key := Ev.loop (fun i k => laws_heldIntS.l0 k (marks n) ((i + 1 : Nat) : Int) i) n ((n + 1 : Nat) : Int) ?_ ?_ 0 (by omega)
  · exact key
  · refine Ev.step (fun k => laws_heldIntS.l0.eq_2 ..) ?_
    exact Ev.ite_neg (by simp [marks_length]) (Ev.now _)
  · intro i hi ih
    refine Ev.step (fun k => laws_heldIntS.l0.eq_2 ..) ?_
    refine Ev.ite_pos (by simp [marks_length]; omega) (Ev.ite_pos (by omega) (Ev.ite_pos (rd_marks n i hi) ?_))
    rw [wrap_nat i (by omega), wrap_nat (i + 1) (by omega)]
    exact ih
end Go.Proofs.Ytcojmladlkealaa.Pure
