/- What the law FnExactIsCover reaches, part 12: functions as plain Lean functions with the proofs that their calls come to them, and plain lemmas over these. Put together by a program (wip/pack.py). -/
import Derived.Test.YtajogmlblknfdaaDoorKFnExactIsCoverk
namespace Go.Proofs.YtajogmlblknfdaaDoor.Pure
set_option linter.unusedSimpArgs false
set_option linter.unusedVariables false
open Go.RowKit Go.Proofs.YtajogmlblknfdaaDoorW.PrintWords Go.Proofs.YtajogmlblknfdaaDoor.P Go.Proofs.YtajogmlblknfdaaDoor.Pl Go.Proofs.YtajogmlblknfdaaDoor.Rk
def yL (t : ByteArray) (a b c d : Int) : List Int := [bt t a, bt t b, bt t c, bt t d]
def circ (n : Nat) (s : ByteArray) (a b c d : Int) : ByteArray := circT (sg n s b c d) (sg n s a c d) (sg n s a b d) (sg n s a b c)
def free (n : Nat) (s t : ByteArray) (a b c d : Int) : Bool := !(decide ((circ n s a b c d).toList = (strOfNums (yL t a b c d)).toList) || decide ((circ n s a b c d).toList = (strOfNums (oppL (strOfNums (yL t a b c d)))).toList))
def freeQ (n : Nat) (s t : ByteArray) (q : Q4) : Bool := free n s t q.f0 q.f1 q.f2 q.f3
def covT (n : Nat) (s t : ByteArray) : Bool := (quad n).all (freeQ n s t)
theorem yL_size (t : ByteArray) (a b c d : Int) : (strOfNums (yL t a b c d)).size = 4 := by rw [strOfNums_size]; rfl
theorem impl_cov_ev (n : Nat) (hn : n ≤ 7) (s : ByteArray) (hs : s.size = (tri n).length) (t : ByteArray) (ht : t.size = n) : Ev (fun k => impl_IsCover.j0 k t false n s) (covT n s t) := by
  have hl := tab_length n s
  obtain ⟨hq, hq1⟩ := quad_ok n hn
  rw [List.all_eq_true] at hq
  refine Ev.step (fun k => impl_IsCover.j0.eq_2 ..) (Ev.ite_neg (by simp) (Ev.bind (tableOf_ev n hn s hs) (Ev.bind (quadsOf_ev n hn) ?_)))
  have key := Ev.loop_to (fun i k => impl_IsCover.l0 k t (tab n s) (quad n) (quad n).length i) (quad n).length (fun i => ((quad n).drop i).all (freeQ n s t)) ?_ ?_ 0 (by omega)
  · unfold covT
    simpa using key
  · refine Ev.step (fun k => impl_IsCover.l0.eq_2 ..) (Ev.ite_neg (by omega) (Ev.const ?_))
    rw [List.drop_of_length_le (by omega)]
    rfl
  · intro i hi ih
    have hr : rd_T44 (quad n) (i : Int) = (quad n)[i] := by
      unfold rd_T44
      rw [Int.toNat_natCast, getD_lt _ _ _ hi]
    have hqi := hq _ (List.getElem_mem hi)
    rw [List.drop_eq_getElem_cons hi, List.all_cons]
    refine Ev.step (fun k => impl_IsCover.l0.eq_2 ..) (Ev.ite_pos (by omega) (Ev.ite_pos (by omega) (Ev.ite_pos (by omega) ?_)))
    rw [hr, wrap_nat i (by omega)]
    generalize (quad n)[i] = q at hqi ⊢
    obtain ⟨a, b, c, d⟩ := q
    unfold okQ at hqi
    rw [decide_eq_true_eq] at hqi
    dsimp only at hqi
    obtain ⟨a, rfl⟩ := Int.eq_ofNat_of_zero_le hqi.1
    obtain ⟨b, rfl⟩ := Int.eq_ofNat_of_zero_le (show 0 ≤ b by omega)
    obtain ⟨c, rfl⟩ := Int.eq_ofNat_of_zero_le (show 0 ≤ c by omega)
    obtain ⟨d, rfl⟩ := Int.eq_ofNat_of_zero_le (show 0 ≤ d by omega)
    dsimp only
    refine Ev.ite_pos (by omega) (Ev.ite_pos (by omega) (Ev.ite_pos (by omega) (Ev.ite_pos (by omega) (Ev.ite_pos (by omega) (Ev.ite_pos (by omega) (Ev.ite_pos (by omega) (Ev.ite_pos (by omega) (Ev.bind0 (a := yL t a b c d) rfl ?_))))))))
    refine Ev.bind (impl_circuit_ev n hn s a b c d (by omega) (by omega) (by omega) (by omega)) ?_
    have hy := yL_size t a b c d
    rw [show freeQ n s t (⟨a, b, c, d⟩ : Q4) = free n s t a b c d from rfl]
    unfold free circ
    generalize circT (sg n s b c d) (sg n s a c d) (sg n s a b d) (sg n s a b c) = C
    by_cases h1 : C.toList = (strOfNums (yL t a b c d)).toList
    · rw [decide_eq_true h1]
      exact Ev.ite_pos h1 (Ev.now _)
    · rw [decide_eq_false h1]
      refine Ev.ite_neg h1 (Ev.bind0 (a := strOfNums (oppL (strOfNums (yL t a b c d)))) (by unfold impl_opposite.f; rw [if_pos (by omega)]) ?_)
      by_cases h2 : C.toList = (strOfNums (oppL (strOfNums (yL t a b c d)))).toList
      · rw [decide_eq_true h2]
        exact Ev.ite_pos h2 (Ev.now _)
      · rw [decide_eq_false h2]
        exact Ev.ite_neg h2 (by simpa using ih)
section
variable (n : Nat) (s t : ByteArray)
def g4 (a b c d : Nat) : Bool := free n s t a b c d
def g3 (a b c : Nat) : Bool := ((List.range n).drop (c + 1)).all (g4 n s t a b c)
def g2 (a b : Nat) : Bool := ((List.range n).drop (b + 1)).all (g3 n s t a b)
def g1 (a : Nat) : Bool := ((List.range n).drop (a + 1)).all (g2 n s t a)
end
theorem cov_eq (n : Nat) (hn : n ≤ 7) (s t : ByteArray) : (List.range n).all (g1 n s t) = covT n s t := by
  unfold covT
  rw [← listC_eq n hn]
  unfold listC
  rw [List.drop_zero, List.all_flatMap]
  simp only [List.all_flatMap, List.all_map]
  rfl
theorem four (t : ByteArray) (a b c d : Nat) (ha : a < t.size) (hb : b < t.size) (hc : c < t.size) (hd : d < t.size) : ((t.extract a (a + 1) ++ t.extract b (b + 1)) ++ t.extract c (c + 1)) ++ t.extract d (d + 1) = strOfNums (yL t a b c d) := by
  rw [ext1 t a ha, ext1 t b hb, ext1 t c hc, ext1 t d hd]
  rfl
theorem cov_y (t : ByteArray) (hA : allC t = true) (a b c d : Nat) (ha : a < t.size) (hb : b < t.size) (hc : c < t.size) (hd : d < t.size) : cov (strOfNums (yL t a b c d)) = true := by
  have hb2 : ∀ x : Int, x = 43 ∨ x = 45 ∨ x = 48 → inC x = true := by
    intro x h
    unfold inC
    rcases h with h | h | h <;> rw [h] <;> rfl
  have hbt : ∀ j : Nat, j < 4 → bt (strOfNums (yL t a b c d)) (j : Int) = 43 ∨ bt (strOfNums (yL t a b c d)) (j : Int) = 45 ∨ bt (strOfNums (yL t a b c d)) (j : Int) = 48 := by
    have h1 := allC_at hA a ha
    have h2 := allC_at hA b hb
    have h3 := allC_at hA c hc
    have h4 := allC_at hA d hd
    unfold yL
    intro j hj
    have : j = 0 ∨ j = 1 ∨ j = 2 ∨ j = 3 := by omega
    rcases h1 with h1 | h1 | h1 <;> rcases h2 with h2 | h2 | h2 <;> rcases h3 with h3 | h3 | h3 <;> rcases h4 with h4 | h4 | h4 <;> rw [h1, h2, h3, h4] <;> rcases this with rfl | rfl | rfl | rfl <;> decide
  unfold cov allC
  rw [yL_size, Bool.and_eq_true, List.all_eq_true]
  refine ⟨fun j hj => hb2 _ (hbt j (by simpa using hj)), rfl⟩
theorem spec_cov_ev (n : Nat) (hn : n ≤ 7) (s : ByteArray) (hs : s.size = (tri n).length) (t : ByteArray) (ht : t.size = n) (hA : allC t = true) : Ev (fun k => spec_IsCover.j0 k t false n s) (covT n s t) := by
  rw [← cov_eq n hn s t]
  refine Ev.step (fun k => spec_IsCover.j0.eq_2 ..) (Ev.ite_neg (by simp) ?_)
  have key := loopA (fun a k => spec_IsCover.l0 k t a n s) n (g1 n s t) true 0 (by omega) ?_ ?_
  · simpa using key
  · exact Ev.step (fun k => spec_IsCover.l0.eq_2 ..) (Ev.ite_neg (by omega) (Ev.now _))
  · intro a _ ha h0
    have key1 := loopA (fun b k => spec_IsCover.l1 k t a b n s) n (g2 n s t a) (((List.range n).drop (a + 1)).all (g1 n s t) && true) (a + 1) (by omega) ?_ ?_
    · refine Ev.step (fun k => spec_IsCover.l0.eq_2 ..) (Ev.ite_pos (by omega) ?_)
      rw [wrap_nat a (by omega)]
      exact key1
    · refine Ev.step (fun k => spec_IsCover.l1.eq_2 ..) (Ev.ite_neg (by omega) ?_)
      rw [wrap_nat a (by omega)]
      exact h0
    · intro b hab hb h1
      have key2 := loopA (fun c k => spec_IsCover.l2 k t a b c n s) n (g3 n s t a b) (((List.range n).drop (b + 1)).all (g2 n s t a) && (((List.range n).drop (a + 1)).all (g1 n s t) && true)) (b + 1) (by omega) ?_ ?_
      · refine Ev.step (fun k => spec_IsCover.l1.eq_2 ..) (Ev.ite_pos (by omega) ?_)
        rw [wrap_nat b (by omega)]
        exact key2
      · refine Ev.step (fun k => spec_IsCover.l2.eq_2 ..) (Ev.ite_neg (by omega) ?_)
        rw [wrap_nat b (by omega)]
        exact h1
      · intro c hbc hc h2
        have key3 := loopA (fun d k => spec_IsCover.l3 k t a b c d n s) n (g4 n s t a b c) (((List.range n).drop (c + 1)).all (g3 n s t a b) && (((List.range n).drop (b + 1)).all (g2 n s t a) && (((List.range n).drop (a + 1)).all (g1 n s t) && true))) (c + 1) (by omega) ?_ ?_
        · refine Ev.step (fun k => spec_IsCover.l2.eq_2 ..) (Ev.ite_pos (by omega) ?_)
          rw [wrap_nat c (by omega)]
          exact key3
        · refine Ev.step (fun k => spec_IsCover.l3.eq_2 ..) (Ev.ite_neg (by omega) ?_)
          rw [wrap_nat c (by omega)]
          exact h2
        · intro d hcd hd h3
          have hO := oppS_ev (strOfNums (yL t a b c d)) (by rw [yL_size]; omega)
          unfold oppS at hO
          rw [if_pos (cov_y t hA a b c d (by omega) (by omega) (by omega) (by omega))] at hO
          have e1 : ∀ x : UInt8, (⟨#[x]⟩ : ByteArray).size = 1 := fun x => rfl
          refine Ev.step (fun k => spec_IsCover.l3.eq_2 ..) (Ev.ite_pos (by omega) (Ev.bind (spec_circuit_ev n hn s hs a b c d (by omega) (by omega) (by omega) (by omega)) ?_))
          rw [wrap_nat a (by omega), wrap_nat b (by omega), wrap_nat c (by omega), wrap_nat d (by omega)]
          simp only [Int.toNat_natCast]
          rw [four t a b c d (by omega) (by omega) (by omega) (by omega)]
          refine Ev.ite_pos (by omega) (Ev.ite_pos (by omega) (Ev.ite_pos (by omega) (Ev.ite_pos (by omega) (Ev.ite_pos (by omega) (Ev.ite_pos (by omega) (Ev.ite_pos (by simp only [ByteArray.size_extract]; omega) ?_))))))
          refine Ev.ite_pos (by omega) (Ev.ite_pos (by omega) (Ev.ite_pos (by omega) (Ev.ite_pos (by simp only [ByteArray.size_append, ByteArray.size_extract]; omega) ?_)))
          refine Ev.ite_pos (by omega) (Ev.ite_pos (by omega) (Ev.ite_pos (by omega) (Ev.ite_pos (by simp only [ByteArray.size_append, ByteArray.size_extract]; omega) ?_)))
          rw [show g4 n s t a b c d = free n s t a b c d from rfl]
          unfold free circ
          generalize circT (sg n s b c d) (sg n s a c d) (sg n s a b d) (sg n s a b c) = C
          by_cases h1 : C.toList = (strOfNums (yL t a b c d)).toList
          · rw [decide_eq_true h1]
            exact Ev.ite_pos h1 (Ev.now _)
          · rw [decide_eq_false h1]
            refine Ev.ite_neg h1 (Ev.bind hO ?_)
            by_cases h2 : C.toList = (strOfNums (oppL (strOfNums (yL t a b c d)))).toList
            · rw [decide_eq_true h2]
              exact Ev.ite_pos h2 (Ev.now _)
            · rw [decide_eq_false h2]
              exact Ev.ite_neg h2 (by simpa using h3)
def cutP : ByteArray := ⟨#[43, 45]⟩
def allP (t : ByteArray) : Bool := (List.range t.size).all fun j => !(bt t (j : Int) == 48)
theorem all_inP : (List.range 256).all (fun x => inSet cutP.data.toList (x : Int) == (inC (x : Int) && !((x : Int) == 48))) = true := by decide +kernel
theorem inP_eq (s : ByteArray) (i : Int) : inSet cutP.data.toList (bt s i) = (inC (bt s i) && !(bt s i == 48)) := by
  obtain ⟨h0, h1⟩ := bt_range s i
  obtain ⟨n, hn⟩ := Int.eq_ofNat_of_zero_le h0
  rw [hn]
  have h := all_inP
  rw [List.all_eq_true] at h
  exact eq_of_beq (h n (by simp; omega))
theorem allP_eq (t : ByteArray) : allIn cutP.data.toList t = (allC t && allP t) := by
  rw [Bool.eq_iff_iff, Bool.and_eq_true, allIn_iff]
  unfold allC allP
  rw [List.all_eq_true, List.all_eq_true]
  constructor
  · intro h
    refine ⟨fun j hj => ?_, fun j hj => ?_⟩
    · have := h j (by simpa using hj)
      rw [inP_eq, Bool.and_eq_true] at this
      exact this.1
    · have := h j (by simpa using hj)
      rw [inP_eq, Bool.and_eq_true] at this
      exact this.2
  · intro h j hj
    rw [inP_eq, Bool.and_eq_true]
    exact ⟨h.1 j (by simpa using hj), h.2 j (by simpa using hj)⟩
theorem whole_ev (t : ByteArray) (h : t.size ≤ 1048576) : Ev (fun k => spec_l20Whole.f k t) (allP t) := by
  unfold spec_l20Whole.f allP
  have key := loopA (fun i k => spec_l20Whole.l0 k t (i : Nat)) t.size (fun j => !(bt t (j : Int) == 48)) true 0 (by omega) ?_ ?_
  · simpa using key
  · exact Ev.step (fun k => spec_l20Whole.l0.eq_2 ..) (Ev.ite_neg (by omega) (Ev.now _))
  · intro i _ hi ih
    refine Ev.step (fun k => spec_l20Whole.l0.eq_2 ..) (Ev.ite_pos (by omega) (Ev.ite_pos (by omega) ?_))
    rw [wrap_nat i (by omega)]
    by_cases c : bt t (i : Int) = 48
    · rw [c]
      exact Ev.ite_pos rfl (Ev.now _)
    · rw [beq_eq_false_iff_ne.mpr c]
      exact Ev.ite_neg c ih
theorem cover_both (n : Int) (s t : ByteArray) (h : t.size ≤ 1048576) : ∃ v, Ev (fun k => spec_IsCover.f k n s t) v ∧ Ev (fun k => impl_IsCover.f k n s t) v := by
  have hS := spec_IsMatroid_ev n s
  have hI := impl_IsMatroid_ev n s
  have nS : Ev (fun k => spec_IsCover.j0 k t true n s) false := Ev.step (fun k => spec_IsCover.j0.eq_2 ..) (Ev.ite_pos rfl (Ev.now _))
  have nI : Ev (fun k => impl_IsCover.j0 k t true n s) false := Ev.step (fun k => impl_IsCover.j0.eq_2 ..) (Ev.ite_pos rfl (Ev.now _))
  unfold spec_IsCover.f impl_IsCover.f
  cases hM : isM n s with
  | false =>
    rw [hM] at hS hI
    exact ⟨false, Ev.bind hS (Ev.ite_neg (by simp) nS), Ev.bind hI (Ev.ite_neg (by simp) nI)⟩
  | true =>
    rw [hM] at hS hI
    have hSS : isS n s = true := by
      unfold isM at hM
      rw [Bool.and_eq_true] at hM
      exact hM.1
    obtain ⟨h3, h7, hs, _⟩ := isS_bounds hSS
    have hF := l20Fits_ev t h
    have hW := whole_ev t h
    obtain ⟨r, hT, hTe⟩ := Trim_ev t cutP (by decide) (by decide) h
    rw [allP_eq] at hTe
    have hne : (r.toList != ([] : List UInt8)) = !(allC t && allP t) := by
      rw [← hTe]
      rfl
    by_cases e : (t.size : Int) = n
    · have h77 : t.size ≤ 7 := by omega
      have hcv : cov t = allC t := by
        unfold cov
        rw [decide_eq_true h77, Bool.and_true]
      rw [hcv] at hF
      have en : ((t.size : Int) != n) = false := bne_eq_false_iff_eq.mpr e
      subst e
      rw [Int.toNat_natCast] at hs
      cases c1 : allC t with
      | false =>
        rw [c1] at hF hne
        refine ⟨false, Ev.bind hS (Ev.ite_pos rfl (Ev.bind hF (Ev.ite_neg (by simp) nS))), Ev.bind hI (Ev.ite_pos rfl (Ev.ite_pos rfl (Ev.bind hT ?_)))⟩
        rw [hne]
        exact nI
      | true =>
        rw [c1] at hF hne
        cases c2 : allP t with
        | false =>
          rw [c2] at hW hne
          refine ⟨false, Ev.bind hS (Ev.ite_pos rfl (Ev.bind hF (Ev.ite_pos rfl (Ev.bind hW (Ev.ite_neg (by simp) nS))))), Ev.bind hI (Ev.ite_pos rfl (Ev.ite_pos rfl (Ev.bind hT ?_)))⟩
          rw [hne]
          exact nI
        | true =>
          rw [c2] at hW hne
          refine ⟨covT t.size s t, Ev.bind hS (Ev.ite_pos rfl (Ev.bind hF (Ev.ite_pos rfl (Ev.bind hW (Ev.ite_pos rfl ?_))))), Ev.bind hI (Ev.ite_pos rfl (Ev.ite_pos rfl (Ev.bind hT ?_)))⟩
          · rw [en]
            exact spec_cov_ev t.size h77 s hs t rfl c1
          · rw [hne]
            exact impl_cov_ev t.size h77 s hs t rfl
    · have en : ((t.size : Int) != n) = true := bne_iff_ne.mpr e
      refine ⟨false, Ev.bind hS (Ev.ite_pos rfl ?_), Ev.bind hI (Ev.ite_pos rfl (Ev.ite_neg e nI))⟩
      refine Ev.bind hF ?_
      cases cov t with
      | false => exact Ev.ite_neg (by simp) nS
      | true =>
        refine Ev.ite_pos rfl (Ev.bind hW ?_)
        cases allP t with
        | false => exact Ev.ite_neg (by simp) nS
        | true =>
          refine Ev.ite_pos rfl ?_
          rw [en]
          exact nS
theorem szSigns_eqC (n : Int) (s : ByteArray) (a : Int) (h0 : 0 ≤ a) (h1 : a ≤ 1048576) (hl : s.size ≤ 9223372036854775807) : laws_szSigns.f n s a = some (if a < s.size then -1 else a - s.size) := by
  unfold laws_szSigns.f
  rw [wrap_in (by omega) (by omega)]
  by_cases h : a < (s.size : Int)
  · rw [if_pos h, if_pos (by omega)]
  · rw [if_neg h, if_neg (by omega)]
theorem FnExactIsCover (s0 : S29) (a1 : ByteArray) (hq : Q29 s0) (_ : a1.size ≤ 9223372036854775807) : ∃ k, laws_FnExactIsCover.f k s0.f0 s0.f1 a1 = some true := by
  refine Ev.rounds (g := fun k => laws_FnExactIsCover.f k s0.f0 s0.f1 a1) ?_
  unfold laws_FnExactIsCover.f
  by_cases h1 : (a1.size : Int) > 1048576
  · exact Ev.ite_pos h1 (Ev.now _)
  refine Ev.ite_neg h1 (Ev.bind0 (szSigns_eqC _ _ 1048576 (by omega) (by omega) hq.2) ?_)
  by_cases hs : 1048576 < (s0.f1.size : Int)
  · rw [if_pos hs]
    exact Ev.ite_pos (by omega) (Ev.now _)
  rw [if_neg hs]
  refine Ev.ite_neg (by omega) ?_
  obtain ⟨v, k1, k2⟩ := cover_both s0.f0 s0.f1 a1 (by omega)
  exact Ev.bind0 rfl (Ev.bind k1 (Ev.bind0 rfl (Ev.bind k2 (Ev.ite_neg (by simp) (Ev.now _)))))
end Go.Proofs.YtajogmlblknfdaaDoor.Pure
