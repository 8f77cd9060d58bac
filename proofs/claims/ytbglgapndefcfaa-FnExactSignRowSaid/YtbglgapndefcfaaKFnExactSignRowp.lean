/- What the law FnExactSignRow reaches, part 16: functions as plain Lean functions with the proofs that their calls come to them, and plain lemmas over these. Put together by a program (wip/pack.py). -/
import Derived.Test.YtbglgapndefcfaaKFnExactSignRown
import Derived.Test.YtbglgapndefcfaaKFnExactSignRowl
import Derived.Test.YtbglgapndefcfaaKFnExactSignRowo
namespace Go.Proofs.Ytbglgapndefcfaa.Pure
set_option linter.unusedSimpArgs false
set_option linter.unusedVariables false
open Go.RowKit Go.Proofs.YtbglgapndefcfaaW.PrintWords Go.Proofs.Ytbglgapndefcfaa.P Go.Proofs.Ytbglgapndefcfaa.Pl Go.Proofs.Ytbglgapndefcfaa.Rk
def in3 (a b c i : Nat) : Bool := i == a || (i == b || i == c)
def up (out : List Int) (a b c n i : Nat) : List Int := (List.range n).map fun j : Nat => if (decide (j < i) && in3 a b c j) = true then wrap64 (rd out (j : Int) + 1) else rd out (j : Int)
def up3 (out : List Int) (a b c n : Nat) : List Int := up out a b c n n
theorem up_len (out : List Int) (a b c n i : Nat) : (up out a b c n i).length = n := by simp [up]
theorem rd_up (out : List Int) (a b c n i j : Nat) (h : j < n) : rd (up out a b c n i) (j : Int) = if (decide (j < i) && in3 a b c j) = true then wrap64 (rd out (j : Int) + 1) else rd out (j : Int) := by
  unfold rd
  rw [Int.toNat_natCast, getD_lt _ _ _ (by rw [up_len]; exact h)]
  simp [up, rd]
theorem ext_rd (l m : List Int) (h : l.length = m.length) (hr : ∀ i, i < l.length → rd l (i : Int) = rd m (i : Int)) : l = m := by
  apply List.ext_getElem h
  intro i h1 h2
  have := hr i h1
  rwa [rd_ltZ l i h1, rd_ltZ m i h2] at this
theorem up_zero (out : List Int) (a b c n : Nat) (h : out.length = n) : up out a b c n 0 = out := by
  apply ext_rd
  · rw [up_len, h]
  · intro i hi
    rw [up_len] at hi
    rw [rd_up _ _ _ _ _ _ _ hi]
    simp
theorem up_yes (out : List Int) (a b c n i : Nat) (hi : i < n) (h : in3 a b c i = true) : (up out a b c n i).set i (wrap64 (rd (up out a b c n i) (i : Int) + 1)) = up out a b c n (i + 1) := by
  apply ext_rd
  · rw [List.length_set, up_len, up_len]
  · intro j hj
    rw [List.length_set, up_len] at hj
    rw [rd_set _ _ _ _ (by rw [up_len]; exact hi), rd_up _ _ _ _ _ (i + 1) j hj]
    by_cases e : i = j
    · subst e
      rw [if_pos rfl, rd_up _ _ _ _ _ _ _ hi, if_neg (by simp), if_pos (by simp [h])]
    · rw [if_neg e, rd_up _ _ _ _ _ i j hj]
      by_cases e2 : j < i
      · rw [decide_eq_true e2, decide_eq_true (show j < i + 1 by omega)]
      · rw [decide_eq_false e2, decide_eq_false (show ¬ j < i + 1 by omega)]
theorem up_no (out : List Int) (a b c n i : Nat) (h : in3 a b c i = false) : up out a b c n i = up out a b c n (i + 1) := by
  apply ext_rd
  · rw [up_len, up_len]
  · intro j hj
    rw [up_len] at hj
    rw [rd_up _ _ _ _ _ _ j hj, rd_up _ _ _ _ _ _ j hj]
    by_cases e : i = j
    · subst e
      rw [h]
      simp
    · by_cases e2 : j < i
      · rw [decide_eq_true e2, decide_eq_true (show j < i + 1 by omega)]
      · rw [decide_eq_false e2, decide_eq_false (show ¬ j < i + 1 by omega)]
theorem three (out : List Int) (a b c n : Nat) (hl : out.length = n) (hab : a < b) (hbc : b < c) (hc : c < n) :
    ((out.set a (wrap64 (rd out (a : Int) + 1))).set b (wrap64 (rd (out.set a (wrap64 (rd out (a : Int) + 1))) (b : Int) + 1))).set c (wrap64 (rd ((out.set a (wrap64 (rd out (a : Int) + 1))).set b (wrap64 (rd (out.set a (wrap64 (rd out (a : Int) + 1))) (b : Int) + 1))) (c : Int) + 1)) = up3 out a b c n := by
  have e1 : ∀ j : Nat, rd (out.set a (wrap64 (rd out (a : Int) + 1))) (j : Int) = if a = j then wrap64 (rd out (a : Int) + 1) else rd out (j : Int) := fun j => rd_set _ _ _ _ (by omega)
  generalize hx : out.set a (wrap64 (rd out (a : Int) + 1)) = X at e1 ⊢
  have lx : X.length = n := by rw [← hx, List.length_set, hl]
  have e2 : ∀ j : Nat, rd (X.set b (wrap64 (rd X (b : Int) + 1))) (j : Int) = if b = j then wrap64 (rd X (b : Int) + 1) else rd X (j : Int) := fun j => rd_set _ _ _ _ (by omega)
  generalize hy : X.set b (wrap64 (rd X (b : Int) + 1)) = Y at e2 ⊢
  have ly : Y.length = n := by rw [← hy, List.length_set, lx]
  apply ext_rd
  · rw [List.length_set, ly]
    exact (up_len ..).symm
  · intro j hj
    rw [List.length_set, ly] at hj
    unfold up3
    rw [rd_set _ _ _ _ (by omega), rd_up _ _ _ _ _ _ j hj, decide_eq_true hj, Bool.true_and, e2 c, e2 j, e1 b, e1 c, e1 j]
    unfold in3
    by_cases h1 : j = a
    · subst h1
      rw [if_neg (by omega), if_neg (by omega), if_pos rfl, if_pos (by simp)]
    · by_cases h2 : j = b
      · subst h2
        rw [if_neg (by omega), if_pos rfl, if_neg (by omega), if_pos (by simp)]
      · by_cases h3 : j = c
        · subst h3
          rw [if_pos rfl, if_neg (by omega), if_neg (by omega), if_pos (by simp)]
        · rw [if_neg (by omega), if_neg (by omega), if_neg (by omega), if_neg (by simp [h1, h2, h3])]
def upL (n : Nat) (out : List Int) : List (List Int) → List Int
  | [] => out
  | l :: L => upL n (up3 out (rd l 0).toNat (rd l 1).toNat (rd l 2).toNat n) L
theorem upL_len (n : Nat) : ∀ (L : List (List Int)) (out : List Int), out.length = n → (upL n out L).length = n := by
  intro L
  induction L with
  | nil => intro out h; exact h
  | cons l L ih => intro out h; exact ih _ (up_len ..)
theorem mut_mem (fl : Bool) (n : Nat) (hn : n ≤ 7) (s : ByteArray) (l : List Int) (h : l ∈ mutR fl n s) : ∃ a b c : Nat, a < b ∧ b < c ∧ c < n ∧ l = [(a : Int), b, c] := by
  unfold mutR at h
  rw [List.mem_flatMap] at h
  obtain ⟨t, ht, h⟩ := h
  obtain ⟨m, hm, rfl⟩ := List.getElem_of_mem ht
  obtain ⟨a, b, c, h1, h2, h3, e⟩ := tri_nat n hn m hm
  rw [e] at h
  unfold itemT at h
  split at h
  · rw [List.mem_singleton] at h
    exact ⟨a, b, c, h1, h2, h3, h⟩
  · cases h
theorem rdLs (L : List (List Int)) (j : Nat) (h : j < L.length) : rd_L1 L (j : Int) = L[j] := by
  unfold rd_L1
  rw [Int.toNat_natCast, getD_lt _ _ _ h]
theorem rdLi (L : List (List Int)) (j : Nat) (h : j < L.length) : rd_L1 L (j : Int) = L[j] := by
  unfold rd_L1
  rw [Int.toNat_natCast, getD_lt _ _ _ h]
theorem spec_rows (n : Nat) (h7 : n ≤ 7) (L : List (List Int)) (hL : L.length ≤ 1000) (ht : ∀ l ∈ L, ∃ a b c : Nat, a < b ∧ b < c ∧ c < n ∧ l = [(a : Int), b, c]) : ∀ d i, i + d = L.length → ∀ out : List Int, out.length = n → Ev (fun k => spec_SignRow.l0 k out L (i : Nat)) (upL n out (L.drop i)) := by
  intro d
  induction d with
  | zero =>
    intro i hi out ho
    rw [List.drop_of_length_le (by omega)]
    exact Ev.step (fun k => spec_SignRow.l0.eq_2 ..) (Ev.ite_neg (by omega) (Ev.now _))
  | succ d ih =>
    intro i hi out ho
    have hil : i < L.length := by omega
    obtain ⟨a, b, c, h1, h2, h3, e⟩ := ht _ (List.getElem_mem hil)
    have ih := ih (i + 1) (by omega) _ (up_len out a b c n n)
    rw [List.drop_eq_getElem_cons hil, upL, e]
    rw [show (rd [(a : Int), b, c] 0).toNat = a from rfl, show (rd [(a : Int), b, c] 1).toNat = b from rfl, show (rd [(a : Int), b, c] 2).toNat = c from rfl]
    have r0 : rd [(a : Int), b, c] 0 = a := rfl
    have r1 : rd [(a : Int), b, c] 1 = b := rfl
    have r2 : rd [(a : Int), b, c] 2 = c := rfl
    have w1 : wrap64 (0 + 1) = 1 := wrap_in (by omega) (by omega)
    have w2 : wrap64 (1 + 1) = 2 := wrap_in (by omega) (by omega)
    have w3 : wrap64 (2 + 1) = 3 := wrap_in (by omega) (by omega)
    refine Ev.step (fun k => spec_SignRow.l0.eq_2 ..) (Ev.ite_pos (by omega) ?_)
    refine Ev.step (fun k => spec_SignRow.l1.eq_2 ..) (Ev.ite_pos (by omega) (Ev.ite_pos (by omega) (Ev.ite_pos (by omega) (Ev.ite_pos (by omega) ?_))))
    rw [rdLs L i hil, e, r0, w1, Int.toNat_natCast]
    refine Ev.ite_pos (by simp) (Ev.ite_pos (by omega) (Ev.ite_pos (by omega) ?_))
    refine Ev.step (fun k => spec_SignRow.l1.eq_2 ..) (Ev.ite_pos (by omega) (Ev.ite_pos (by omega) (Ev.ite_pos (by omega) (Ev.ite_pos (by omega) ?_))))
    rw [rdLs L i hil, e, r1, w2, Int.toNat_natCast]
    refine Ev.ite_pos (by simp) (Ev.ite_pos (by omega) (Ev.ite_pos (by rw [List.length_set]; omega) ?_))
    refine Ev.step (fun k => spec_SignRow.l1.eq_2 ..) (Ev.ite_pos (by omega) (Ev.ite_pos (by omega) (Ev.ite_pos (by omega) (Ev.ite_pos (by omega) ?_))))
    rw [rdLs L i hil, e, r2, w3, Int.toNat_natCast]
    refine Ev.ite_pos (by simp) (Ev.ite_pos (by omega) (Ev.ite_pos (by rw [List.length_set, List.length_set]; omega) ?_))
    refine Ev.step (fun k => spec_SignRow.l1.eq_2 ..) (Ev.ite_neg (by omega) ?_)
    rw [wrap_nat i (by omega), three out a b c n ho h1 h2 h3]
    exact ih
theorem any3 (a b c i : Nat) : ((List.range 3).any fun j => (i : Int) == rd [(a : Int), b, c] j) = in3 a b c i := by
  have e : ∀ x : Nat, ((i : Int) == (x : Int)) = (i == x) := fun x => by
    rw [Bool.eq_iff_iff, beq_iff_eq, beq_iff_eq]
    omega
  rw [show List.range 3 = [0, 1, 2] from rfl]
  simp only [List.any_cons, List.any_nil, Bool.or_false]
  rw [show rd [(a : Int), b, c] ((0 : Nat) : Int) = a from rfl, show rd [(a : Int), b, c] ((1 : Nat) : Int) = b from rfl, show rd [(a : Int), b, c] ((2 : Nat) : Int) = c from rfl, e, e, e]
  rfl
theorem impl_rows (n : Nat) (h7 : n ≤ 7) (L : List (List Int)) (hL : L.length ≤ 1000) (ht : ∀ l ∈ L, ∃ a b c : Nat, a < b ∧ b < c ∧ c < n ∧ l = [(a : Int), b, c]) : ∀ d i, i + d = L.length → ∀ out : List Int, out.length = n → Ev (fun k => impl_SignRow.l0 k out L (L.length : Int) (i : Nat)) (upL n out (L.drop i)) := by
  intro d
  induction d with
  | zero =>
    intro i hi out ho
    rw [List.drop_of_length_le (by omega)]
    exact Ev.step (fun k => impl_SignRow.l0.eq_2 ..) (Ev.ite_neg (by omega) (Ev.now _))
  | succ d ih =>
    intro i hi out ho
    have hil : i < L.length := by omega
    obtain ⟨a, b, c, h1, h2, h3, e⟩ := ht _ (List.getElem_mem hil)
    have ih := ih (i + 1) (by omega) _ (up_len out a b c n n)
    rw [List.drop_eq_getElem_cons hil, upL, e]
    rw [show (rd [(a : Int), b, c] 0).toNat = a from rfl, show (rd [(a : Int), b, c] 1).toNat = b from rfl, show (rd [(a : Int), b, c] 2).toNat = c from rfl]
    refine Ev.step (fun k => impl_SignRow.l0.eq_2 ..) (Ev.ite_pos (by omega) (Ev.ite_pos (by omega) (Ev.ite_pos (by omega) ?_)))
    rw [rdLi L i hil, e, ho]
    have key := Ev.loop (fun j k => impl_SignRow.l1 k (up out a b c n j) [(a : Int), b, c] L L.length i n (j : Nat)) n (upL n (up3 out a b c n) (L.drop (i + 1))) ?_ ?_ 0 (by omega)
    · rw [up_zero out a b c n ho] at key
      exact key
    · refine Ev.step (fun k => impl_SignRow.l1.eq_2 ..) (Ev.ite_neg (by omega) ?_)
      rw [wrap_nat i (by omega)]
      exact ih
    · intro j hj ihj
      have hC : Ev (fun k => slices_Contains_Sint_int.f k [(a : Int), b, c] (j : Int)) ((List.range 3).any fun i => (j : Int) == rd [(a : Int), b, c] i) := containsI_ev [(a : Int), b, c] 3 (by simp) (by simp) (j : Int)
      rw [any3] at hC
      refine Ev.step (fun k => impl_SignRow.l1.eq_2 ..) (Ev.ite_pos (by omega) (Ev.bind hC ?_))
      rw [wrap_nat j (by omega)]
      cases h : in3 a b c j with
      | true =>
        refine Ev.ite_pos rfl (Ev.ite_pos (by omega) (Ev.ite_pos (by rw [up_len]; omega) ?_))
        rw [Int.toNat_natCast, up_yes out a b c n j hj h]
        exact ihj
      | false =>
        rw [← up_no out a b c n j h] at ihj
        exact Ev.ite_neg (by simp) ihj
theorem row_both (n : Int) (s : ByteArray) : ∃ L : List Int, L.length ≤ 1000 ∧ Ev (fun k => spec_SignRow.f k n s) L ∧ Ev (fun k => impl_SignRow.f k n s) L := by
  have hS := spec_IsMatroid_ev n s
  have hI := impl_IsMatroid_ev n s
  unfold spec_SignRow.f impl_SignRow.f
  cases hM : isM n s with
  | false =>
    rw [hM] at hS hI
    exact ⟨[], by simp, Ev.bind hS (Ev.ite_neg (by simp) (Ev.now _)), Ev.bind hI (Ev.ite_neg (by simp) (Ev.now _))⟩
  | true =>
    rw [hM] at hS hI
    obtain ⟨h3, h7, hs, _⟩ := isS_bounds (isM_S hM)
    obtain ⟨m, rfl⟩ := Int.eq_ofNat_of_zero_le (show 0 ≤ n by omega)
    rw [Int.toNat_natCast] at hs
    have h7' : m ≤ 7 := by omega
    have hlen := (mutR_small false m h7' s).2
    have ht := fun l hl => mut_mem false m h7' s l hl
    have hMO : Ev (fun k => impl_MutationsOf.f k m s) (mutR false m s) := by
      unfold impl_MutationsOf.f
      exact Ev.bind hI (Ev.ite_pos rfl (Ev.bind (impl_mutM_ev m h7' s (isM_S hM)) (Ev.now _)))
    have k1 := spec_rows m h7' (mutR false m s) (by omega) ht (mutR false m s).length 0 (by omega) (List.replicate m 0) (by simp)
    have k2 := impl_rows m h7' (mutR false m s) (by omega) ht (mutR false m s).length 0 (by omega) (List.replicate m 0) (by simp)
    rw [Int.toNat_natCast]
    refine ⟨upL m (List.replicate m 0) ((mutR false m s).drop 0), by rw [upL_len m _ _ (by simp)]; omega, Ev.bind hS (Ev.ite_pos rfl (Ev.ite_pos (by omega) (Ev.ite_pos (by omega) (Ev.bind (spec_l18_ev m h7' s hs false) k1)))), Ev.bind hI (Ev.ite_pos rfl (Ev.ite_pos (by omega) (Ev.ite_pos (by omega) (Ev.bind hMO k2))))⟩
theorem FnExactSignRow (s0 : S23) (hq : Q23 s0) : ∃ k, laws_FnExactSignRow.f k s0.f0 s0.f1 = some true := by
  refine Ev.rounds (g := fun k => laws_FnExactSignRow.f k s0.f0 s0.f1) ?_
  unfold laws_FnExactSignRow.f
  refine Ev.bind0 (szSigns_eqO _ _ 1048576 (by omega) (by omega) hq.2) ?_
  by_cases hs : 1048576 < (s0.f1.size : Int)
  · rw [if_pos hs]
    exact Ev.ite_pos (by omega) (Ev.now _)
  rw [if_neg hs]
  refine Ev.ite_neg (by omega) ?_
  obtain ⟨L, hL, h1, h2⟩ := row_both s0.f0 s0.f1
  have e1 := eqIntS_selfZ L (by omega)
  have e2 := markIntS_from L 1 (by omega) (by omega)
  have e3 := heldIntS_from 1 L.length (by omega) (by omega)
  exact Ev.bind0 rfl (Ev.bind h1 (Ev.bind0 rfl (Ev.bind h2 (Ev.bind e1 (Ev.ite_pos rfl (Ev.bind e2 (Ev.bind e3 (Ev.ite_neg (by omega) (Ev.ite_pos rfl (Ev.bind0 rfl (Ev.bind h2 (Ev.bind e1 (Ev.ite_pos rfl (Ev.bind e3 (Ev.ite_neg (by omega) (Ev.ite_pos rfl (Ev.now _)))))))))))))))))
end Go.Proofs.Ytbglgapndefcfaa.Pure
