/- What the law FnExactChangedBy reaches, part 13: functions as plain Lean functions with the proofs that their calls come to them, and plain lemmas over these. Put together by a program (wip/pack.py). -/
import Derived.Test.YtajogmlblknfdaaKFnExactChangedByj
import Derived.Test.YtajogmlblknfdaaKFnExactChangedByl
import Derived.Test.YtajogmlblknfdaaKFnExactChangedByk
namespace Go.Proofs.Ytajogmlblknfdaa.Pure
set_option linter.unusedSimpArgs false
set_option linter.unusedVariables false
open Go.RowKit Go.Proofs.YtajogmlblknfdaaW.PrintWords Go.Proofs.Ytajogmlblknfdaa.P Go.Proofs.Ytajogmlblknfdaa.Pl
theorem rd_ltZ (l : List Int) (i : Nat) (h : i < l.length) : rd l (i : Int) = l[i] := by
  unfold rd
  rw [Int.toNat_natCast, getD_lt _ _ _ h]
theorem eqIntS_selfZ (l : List Int) (hl : l.length ≤ 1048576) : Ev (fun k => laws_eqIntS.f k l l) true := by
  unfold laws_eqIntS.f
  refine Ev.ite_pos rfl ?_
  refine Ev.loop (fun i k => laws_eqIntS.l0 k l l i) l.length true ?_ ?_ 0 (by omega)
  · refine Ev.step (fun k => laws_eqIntS.l0.eq_2 ..) ?_
    exact Ev.ite_neg (by omega) (Ev.now _)
  · intro i hi ih
    refine Ev.step (fun k => laws_eqIntS.l0.eq_2 ..) ?_
    refine Ev.ite_pos (by omega) (Ev.ite_pos (by omega) (Ev.ite_pos (by omega) (Ev.ite_pos rfl ?_)))
    rw [wrap_nat i (by omega)]
    exact ih
def smallSS (L : List (List Int)) : Prop := L.length ≤ 1000 ∧ ∀ l ∈ L, l.length ≤ 1000
theorem rdLL (L : List (List Int)) (j : Nat) (h : j < L.length) : rd_L3 L (j : Int) = L[j] := by
  unfold rd_L3
  rw [Int.toNat_natCast, getD_lt _ _ _ h]
theorem eqIntSS_self (L : List (List Int)) (hL : smallSS L) : Ev (fun k => laws_eqIntSS.f k L L) true := by
  have h1 := hL.1
  unfold laws_eqIntSS.f
  refine Ev.ite_pos rfl ?_
  refine Ev.loop (fun i k => laws_eqIntSS.l0 k L L i) L.length true ?_ ?_ 0 (by omega)
  · exact Ev.step (fun k => laws_eqIntSS.l0.eq_2 ..) (Ev.ite_neg (by omega) (Ev.now _))
  · intro i hi ih
    refine Ev.step (fun k => laws_eqIntSS.l0.eq_2 ..) (Ev.ite_pos (by omega) (Ev.ite_pos (by omega) (Ev.ite_pos (by omega) ?_)))
    rw [rdLL L i hi, wrap_nat i (by omega)]
    have h2 := hL.2 _ (List.getElem_mem hi)
    exact Ev.bind (eqIntS_selfZ _ (by omega)) (Ev.ite_pos rfl ih)
def marksF (c n : Nat) : List Int := (List.range n).map fun i => ((c + i : Nat) : Int)
theorem marksF_length (c n : Nat) : (marksF c n).length = n := by simp [marksF]
theorem rd_marksF (c n i : Nat) (h : i < n) : rd (marksF c n) (i : Int) = ((c + i : Nat) : Int) := by
  rw [rd_ltZ _ _ (by rw [marksF_length]; exact h)]
  simp [marksF]
theorem marksF_set (l : List Int) (c n i : Nat) (hl : l.length = n) (hi : i < n) : (marksF c i ++ l.drop i).set i ((c + i : Nat) : Int) = marksF c (i + 1) ++ l.drop (i + 1) := by
  have h0 : (marksF c i).length = i := marksF_length c i
  rw [List.set_append_right _ _ (by omega), h0, Nat.sub_self, List.drop_eq_getElem_cons (by omega), List.set_cons_zero]
  simp [marksF, List.range_succ]
theorem markIntS_from (l : List Int) (c : Nat) (hc : c ≤ 100000000) (hl : l.length ≤ 1048576) : Ev (fun k => laws_markIntS.f k l c) (((c + l.length : Nat) : Int), marksF c l.length) := by
  have key := Ev.loop (fun i k => laws_markIntS.l0 k (marksF c i ++ l.drop i) ((c + i : Nat) : Int) i) l.length (((c + l.length : Nat) : Int), marksF c l.length) ?_ ?_ 0 (by omega)
  · unfold laws_markIntS.f
    simpa [marksF] using key
  · refine Ev.step (fun k => laws_markIntS.l0.eq_2 ..) ?_
    refine Ev.ite_neg (by simp [marksF_length]) (Ev.const ?_)
    simp
  · intro i hi ih
    refine Ev.step (fun k => laws_markIntS.l0.eq_2 ..) ?_
    refine Ev.ite_pos (by simp [marksF_length]; omega) (Ev.ite_pos (by omega) ?_)
    rw [wrap_nat i (by omega), wrap_nat (c + i) (by omega), Int.toNat_natCast, marksF_set l c l.length i rfl hi]
    exact ih
theorem heldIntS_from (c n : Nat) (hc : c ≤ 100000000) (hl : n ≤ 1048576) : Ev (fun k => laws_heldIntS.f k (marksF c n) c) ((c + n : Nat) : Int) := by
  have key := Ev.loop (fun i k => laws_heldIntS.l0 k (marksF c n) ((c + i : Nat) : Int) i) n ((c + n : Nat) : Int) ?_ ?_ 0 (by omega)
  · exact key
  · refine Ev.step (fun k => laws_heldIntS.l0.eq_2 ..) ?_
    exact Ev.ite_neg (by simp [marksF_length]) (Ev.now _)
  · intro i hi ih
    refine Ev.step (fun k => laws_heldIntS.l0.eq_2 ..) ?_
    refine Ev.ite_pos (by simp [marksF_length]; omega) (Ev.ite_pos (by omega) (Ev.ite_pos (rd_marksF c n i hi) ?_))
    rw [wrap_nat i (by omega), wrap_nat (c + i) (by omega)]
    exact ih
def MK : Nat → List (List Int) → List (List Int)
  | _, [] => []
  | c, l :: L => marksF c l.length :: MK (c + l.length) L
def tot : List (List Int) → Nat
  | [] => 0
  | l :: L => l.length + tot L
theorem MK_length : ∀ (L : List (List Int)) (c : Nat), (MK c L).length = L.length := by
  intro L
  induction L with
  | nil => intro c; rfl
  | cons l L ih => intro c; rw [MK, List.length_cons, ih, List.length_cons]
theorem tot_le : ∀ (L : List (List Int)), (∀ l ∈ L, l.length ≤ 1000) → tot L ≤ 1000 * L.length := by
  intro L
  induction L with
  | nil => intro _; simp [tot]
  | cons l L ih =>
    intro h
    have h1 := ih (fun x hx => h x (List.mem_cons_of_mem _ hx))
    have h2 := h l List.mem_cons_self
    rw [tot, List.length_cons]
    omega
theorem markSS_go : ∀ (L D : List (List Int)) (c : Nat), c + tot L ≤ 10000000 → D.length + L.length ≤ 1000 → (∀ l ∈ L, l.length ≤ 1000) → Ev (fun k => laws_markIntSS.l0 k (D ++ L) c D.length) (((c + tot L : Nat) : Int), D ++ MK c L) := by
  intro L
  induction L with
  | nil =>
    intro D c hc hD _
    refine Ev.step (fun k => laws_markIntSS.l0.eq_2 ..) (Ev.ite_neg (by simp) (Ev.const ?_))
    simp [tot, MK]
  | cons l L ih =>
    intro D c hc hD hl
    rw [tot] at hc
    rw [List.length_cons] at hD
    have h2 := hl l List.mem_cons_self
    refine Ev.step (fun k => laws_markIntSS.l0.eq_2 ..) (Ev.ite_pos (by simp; omega) (Ev.ite_pos (by omega) ?_))
    have hg : (D ++ l :: L).getD ((D.length : Nat) : Int).toNat [] = l := by
      rw [Int.toNat_natCast, List.getD_eq_getElem?_getD, List.getElem?_append_right (by omega), Nat.sub_self]
      rfl
    rw [hg]
    refine Ev.bind (markIntS_from l c (by omega) (by omega)) ?_
    have h := ih (D ++ [marksF c l.length]) (c + l.length) (by omega) (by rw [List.length_append]; simp; omega) (fun x hx => hl x (List.mem_cons_of_mem _ hx))
    have e1 : (D ++ l :: L).set ((D.length : Nat) : Int).toNat (marksF c l.length) = (D ++ [marksF c l.length]) ++ L := by
      rw [Int.toNat_natCast, List.set_append_right _ _ (by omega), Nat.sub_self, List.set_cons_zero, List.append_assoc]
      rfl
    dsimp only
    rw [e1, wrap_nat D.length (by omega)]
    have e2 : (D ++ [marksF c l.length]).length = D.length + 1 := by simp
    rw [e2] at h
    rw [show c + tot (l :: L) = c + l.length + tot L by rw [tot]; omega, show D ++ MK c (l :: L) = (D ++ [marksF c l.length]) ++ MK (c + l.length) L by rw [MK, List.append_assoc]; rfl]
    exact h
theorem heldSS_go : ∀ (L D : List (List Int)) (c : Nat), c + tot L ≤ 10000000 → D.length + L.length ≤ 1000 → (∀ l ∈ L, l.length ≤ 1000) → Ev (fun k => laws_heldIntSS.l0 k (D ++ MK c L) c D.length) ((c + tot L : Nat) : Int) := by
  intro L
  induction L with
  | nil =>
    intro D c hc hD _
    refine Ev.step (fun k => laws_heldIntSS.l0.eq_2 ..) (Ev.ite_neg (by simp [MK]) (Ev.const ?_))
    simp [tot]
  | cons l L ih =>
    intro D c hc hD hl
    rw [tot] at hc
    rw [List.length_cons] at hD
    have h2 := hl l List.mem_cons_self
    rw [MK]
    refine Ev.step (fun k => laws_heldIntSS.l0.eq_2 ..) (Ev.ite_pos (by simp; omega) (Ev.ite_pos (by omega) ?_))
    have hg : rd_L3 (D ++ marksF c l.length :: MK (c + l.length) L) ((D.length : Nat) : Int) = marksF c l.length := by
      unfold rd_L3
      rw [Int.toNat_natCast, List.getD_eq_getElem?_getD, List.getElem?_append_right (by omega), Nat.sub_self]
      rfl
    rw [hg]
    refine Ev.bind (heldIntS_from c l.length (by omega) (by omega)) (Ev.ite_neg (by omega) ?_)
    have h := ih (D ++ [marksF c l.length]) (c + l.length) (by omega) (by rw [List.length_append]; simp; omega) (fun x hx => hl x (List.mem_cons_of_mem _ hx))
    rw [wrap_nat D.length (by omega)]
    have e2 : (D ++ [marksF c l.length]).length = D.length + 1 := by simp
    rw [e2, List.append_assoc] at h
    rw [show c + tot (l :: L) = c + l.length + tot L by rw [tot]; omega]
    exact h
theorem markSS_ev (L : List (List Int)) (hL : smallSS L) : Ev (fun k => laws_markIntSS.f k L 1) (((1 + tot L : Nat) : Int), MK 1 L) := by
  have h := tot_le L hL.2
  have h1 := hL.1
  unfold laws_markIntSS.f
  exact markSS_go L [] 1 (by omega) (by simpa using h1) hL.2
theorem heldSS_ev (L : List (List Int)) (hL : smallSS L) : Ev (fun k => laws_heldIntSS.f k (MK 1 L) 1) ((1 + tot L : Nat) : Int) := by
  have h := tot_le L hL.2
  have h1 := hL.1
  unfold laws_heldIntSS.f
  exact heldSS_go L [] 1 (by omega) (by simpa using h1) hL.2
end Go.Proofs.Ytajogmlblknfdaa.Pure
namespace Go.Proofs.Ytajogmlblknfdaa.Pure
set_option linter.unusedSimpArgs false
set_option linter.unusedVariables false
open Go.RowKit Go.Proofs.YtajogmlblknfdaaW.PrintWords Go.Proofs.Ytajogmlblknfdaa.P Go.Proofs.Ytajogmlblknfdaa.Pl Go.Proofs.Ytajogmlblknfdaa.Rk
theorem FnExactChangedBy (l0 : List LPt) (a1 : Int) (s2 : LPt) (h0 : l0.length ≤ 9223372036854775807) (_ : ∀ y ∈ l0, Q24 y) (_ : I64 a1) (_ : Q24 s2) : ∃ k, laws_FnExactChangedBy.f k l0 a1 s2.f0 s2.f1 = some true := by
  refine Ev.rounds (g := fun k => laws_FnExactChangedBy.f k l0 a1 s2.f0 s2.f1) ?_
  unfold laws_FnExactChangedBy.f
  refine Ev.bind0 (szPointS_eq l0 1048576 (by omega) (by omega) h0) ?_
  by_cases hs : 1048576 < (l0.length : Int)
  · rw [if_pos hs]
    exact Ev.ite_pos (by omega) (Ev.now _)
  rw [if_neg hs]
  refine Ev.ite_neg (by omega) ?_
  have e1 := toPointS_ev l0 (by omega)
  have hl : (l0.map toP).length ≤ 1048576 := by simp; omega
  obtain ⟨L, hL, eS, eI⟩ := changed_both (l0.map toP) hl a1 (toP s2)
  have eR := eqIntSS_self L hL
  refine Ev.bind e1 (Ev.bind0 rfl (Ev.bind eS (Ev.bind e1 (Ev.bind0 rfl (Ev.bind eI (Ev.bind eR (Ev.ite_pos rfl ?_)))))))
  refine Ev.bind e1 (Ev.bind (eqPointS_self _ hl) (Ev.ite_pos rfl (Ev.bind (markPointS_ev _ hl) (Ev.ite_neg (by dsimp only; omega) (Ev.bind eR ?_)))))
  refine Ev.step (fun k => laws_FnExactChangedBy.j0.eq_2 ..) ?_
  refine Ev.ite_neg (by simp) (Ev.bind (markSS_ev L hL) (Ev.ite_pos (MK_length L 1).symm (Ev.bind (heldSS_ev L hL) (Ev.ite_neg (by omega) (Ev.ite_pos rfl ?_)))))
  exact Ev.bind e1 (Ev.bind0 rfl (Ev.bind eI (Ev.bind eR (Ev.ite_pos rfl (Ev.bind (heldSS_ev L hL) (Ev.ite_neg (by omega) (Ev.ite_pos rfl (Ev.now _))))))))
end Go.Proofs.Ytajogmlblknfdaa.Pure
