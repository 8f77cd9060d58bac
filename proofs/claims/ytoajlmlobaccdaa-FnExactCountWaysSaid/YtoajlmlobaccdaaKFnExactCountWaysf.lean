/- What the law FnExactCountWays reaches, part 6: functions as plain Lean functions with the proofs that their calls come to them, and plain lemmas over these. Put together by a program (wip/pack.py). -/
import Derived.Test.YtoajlmlobaccdaaKFnExactCountWaysa
import Derived.Test.YtoajlmlobaccdaaKFnExactCountWayse
namespace Go.Proofs.Ytoajlmlobaccdaa.Pure
set_option linter.unusedSimpArgs false
set_option linter.unusedVariables false
open Go.RowKit Go.Proofs.YtoajlmlobaccdaaW.PrintWords Go.Proofs.Ytoajlmlobaccdaa.P Go.Proofs.Ytoajlmlobaccdaa.Pl
theorem rd_lt' (l : List Int) (i : Nat) (h : i < l.length) : rd l (i : Int) = l[i] := by
  unfold rd
  rw [show (i : Int).toNat = i by omega, List.getD_eq_getElem?_getD, List.getElem?_eq_getElem h]
  rfl
theorem cellsL_count (q : Int) : ∀ (w : List Int) (k f : Int), (cellsL q k f w).length = 1 + w.countP (fun p => decide (p + 1 = q))
  | [], k, f => rfl
  | p :: w, k, f => by
    unfold cellsL
    by_cases h : p + 1 = q
    · rw [if_pos h, List.length_cons, cellsL_count q w, List.countP_cons_of_pos (by simpa using h)]; omega
    · rw [if_neg h, cellsL_count q w, List.countP_cons_of_neg (by simpa using h)]
theorem runW_range : ∀ (w l r : List Int), runW l w = some r → ∀ p ∈ w, 0 ≤ p ∧ p ≤ (l.length : Int) - 2
  | [], _, _, _, p, hp => by cases hp
  | x :: w, l, r, hr, p, hp => by
    unfold runW at hr
    by_cases ho : okAt l x
    · rw [if_pos ho] at hr
      rcases List.mem_cons.1 hp with rfl | hp
      · exact ⟨ho.1, ho.2.1⟩
      · have := runW_range w (swp l x) r hr p hp
        rwa [swp_length] at this
    · rw [if_neg ho] at hr
      cases hr
def inM (M : Int) (l : List Int) : Prop := ∀ x ∈ l, 0 ≤ x ∧ x ≤ M
theorem rowS_bound (a : Int × Int) (M : Int) (h0 : 0 ≤ M) : ∀ (B : List (Int × Int)) (ways : List Int), inM M ways → 0 ≤ rowS a B ways ∧ rowS a B ways ≤ B.length * M
  | [], ways, h => by
    unfold rowS
    simp
  | b :: B, [], h => by
    have e : (0 : Int) ≤ ((b :: B).length : Int) * M := Int.mul_nonneg (by omega) h0
    unfold rowS
    exact ⟨Int.le_refl _, e⟩
  | b :: B, x :: xs, h => by
    obtain ⟨h1, h2⟩ := rowS_bound a M h0 B xs (fun y hy => h y (List.mem_cons_of_mem _ hy))
    obtain ⟨h3, h4⟩ := h x List.mem_cons_self
    have e : ((b :: B).length : Int) * M = B.length * M + M := by rw [List.length_cons, Int.natCast_add, Int.add_mul]; simp
    unfold rowS
    rw [e]
    constructor <;> (split <;> omega)
theorem rd_last (done : List Int) (acc : Int) : rd (done ++ [acc]) ((done.length : Nat) : Int) = acc := by unfold rd; simp [List.getD_eq_getElem?_getD]
theorem set_last (done : List Int) (acc v : Int) : (done ++ [acc]).set done.length v = done ++ [v] := by
  rw [List.set_append_right (h := Nat.le_refl _)]
  simp
theorem drop_cons_of {l : List Int} {i : Nat} (h : i < l.length) : ∃ x, l.drop i = x :: l.drop (i + 1) ∧ rd l (i : Int) = x := ⟨_, drop_rd l i h, rfl⟩
theorem next_loop (w : List Int) (hw : w.length ≤ 100) (P : Int) (hP : 1 ≤ P ∧ P ≤ 100) (hwr : ∀ p ∈ w, 0 ≤ p ∧ p ≤ 100) (ways : List Int) (M : Int) (hM : inM M ways) (hM0 : 0 ≤ M ∧ M ≤ 1000000000000) (hwl : ways.length ≤ 1000) :
    ∀ d i, i + d = w.length → ∀ (done : List Int) (acc : Int) (from_ : Nat) (met : Bool), done.length ≤ i → 0 ≤ acc → acc ≤ i * M → ways.length = from_ + (1 + (w.drop i).countP (fun p => decide (p + 1 = P))) →
      Ev (fun k => spec_l17Next.l0 k w P ways (done ++ [acc]) from_ met i) (done ++ specW (P - 1) (ways.drop from_) met acc (w.drop i)) := by
  intro d
  induction d with
  | zero =>
    intro i hi done acc from_ met hd h0 h1 hl
    have hf : from_ < ways.length := by omega
    obtain ⟨x, ex, er⟩ := drop_cons_of hf
    have hx := hM x (by have h2 : x ∈ ways.drop from_ := by rw [ex]; exact List.mem_cons_self
                        exact List.mem_of_mem_drop h2)
    have hiM : (i : Int) * M ≤ 100 * M := Int.mul_le_mul_of_nonneg_right (by omega) hM0.1
    have e2 : wrap64 (((done ++ [acc]).length : Int) - 1) = ((done.length : Nat) : Int) := by rw [List.length_append, List.length_singleton, wrap_in (by omega) (by omega)]; omega
    rw [List.drop_of_length_le (show w.length ≤ i by omega)]
    refine Ev.step (fun k => spec_l17Next.l0.eq_2 ..) (Ev.ite_pos (by omega) ?_)
    cases met with
    | true =>
      refine Ev.ite_pos rfl (Ev.step (fun k => spec_l17Next.j1.eq_2 ..) (Ev.ite_pos (by omega) (Ev.const ?_)))
      simp [specW]
    | false =>
      rw [e2]
      refine Ev.ite_neg (by simp) (Ev.ite_pos (by omega) (Ev.ite_pos (by simp; omega) (Ev.ite_pos (by omega) (Ev.ite_pos (by omega) (Ev.step (fun k => spec_l17Next.j1.eq_2 ..) (Ev.ite_pos (by omega) (Ev.const ?_)))))))
      rw [rd_last, er, show ((done.length : Nat) : Int).toNat = done.length by omega, set_last, wrap_in (by omega) (by omega), ex]
      simp [specW]
  | succ d ih =>
    intro i hi done acc from_ met hd h0 h1 hl
    have hf : from_ < ways.length := by omega
    obtain ⟨x, ex, er⟩ := drop_cons_of hf
    have hx := hM x (by have h2 : x ∈ ways.drop from_ := by rw [ex]; exact List.mem_cons_self
                        exact List.mem_of_mem_drop h2)
    have hiM : (i : Int) * M ≤ 100 * M := Int.mul_le_mul_of_nonneg_right (by omega) hM0.1
    have hiM1 : ((i + 1 : Nat) : Int) * M = i * M + M := by rw [Int.natCast_add, Int.add_mul]; simp
    have e2 : wrap64 (((done ++ [acc]).length : Int) - 1) = ((done.length : Nat) : Int) := by rw [List.length_append, List.length_singleton, wrap_in (by omega) (by omega)]; omega
    have ed := drop_rd w i (by omega)
    have hp := hwr (rd w (i : Int)) (by have h2 : rd w (i : Int) ∈ w.drop i := by rw [ed]; exact List.mem_cons_self
                                        exact List.mem_of_mem_drop h2)
    rw [ed] at hl ⊢
    obtain ⟨acc2, ha2⟩ : ∃ a2, a2 = if met = true then acc else acc + x := ⟨_, rfl⟩
    have hb2 : 0 ≤ acc2 ∧ acc2 ≤ ((i + 1 : Nat) : Int) * M := by rw [ha2, hiM1]; split <;> omega
    have eS : specW (P - 1) (ways.drop from_) met acc (rd w (i : Int) :: w.drop (i + 1)) = if rd w (i : Int) = P - 1 then specW (P - 1) (ways.drop (from_ + 1)) false acc2 (w.drop (i + 1)) else if rd w (i : Int) + 1 = P - 1 then acc2 :: specW (P - 1) (ways.drop from_) false 0 (w.drop (i + 1)) else specW (P - 1) (ways.drop from_) true acc2 (w.drop (i + 1)) := by
      rw [specW, ex, List.headD_cons, List.tail_cons, ha2]
    rw [eS]
    -- behind the first question
    suffices key : Ev (fun k => spec_l17Next.j1 k w P ways (done ++ [acc2]) from_ true i) (done ++ if rd w (i : Int) = P - 1 then specW (P - 1) (ways.drop (from_ + 1)) false acc2 (w.drop (i + 1)) else if rd w (i : Int) + 1 = P - 1 then acc2 :: specW (P - 1) (ways.drop from_) false 0 (w.drop (i + 1)) else specW (P - 1) (ways.drop from_) true acc2 (w.drop (i + 1))) by
      refine Ev.step (fun k => spec_l17Next.l0.eq_2 ..) (Ev.ite_pos (by omega) ?_)
      cases met with
      | true =>
        rw [if_pos rfl] at ha2
        rw [← ha2]
        exact Ev.ite_pos rfl key
      | false =>
        rw [if_neg (by simp)] at ha2
        rw [e2]
        refine Ev.ite_neg (by simp) (Ev.ite_pos (by omega) (Ev.ite_pos (by simp; omega) (Ev.ite_pos (by omega) (Ev.ite_pos (by omega) ?_))))
        rw [rd_last, er, show ((done.length : Nat) : Int).toNat = done.length by omega, set_last, wrap_in (by omega) (by omega), ← ha2]
        exact key
    rw [show (fun k => spec_l17Next.j1 k w P ways (done ++ [acc2]) from_ true i) = (fun k => spec_l17Next.j1 k w P ways (done ++ [acc2]) from_ true i) from rfl]
    refine Ev.step (fun k => spec_l17Next.j1.eq_2 ..) (Ev.ite_neg (by omega) (Ev.ite_pos (by omega) (Ev.ite_pos (by omega) ?_)))
    rw [wrap_in (n := P - 1) (by omega) (by omega), wrap_in (n := P - 2) (by omega) (by omega)]
    by_cases g1 : rd w (i : Int) = P - 1
    · rw [List.countP_cons_of_pos (by simp; omega)] at hl
      rw [if_pos g1]
      refine Ev.ite_pos g1 (Ev.ite_neg (by omega) ?_)
      rw [wrap_nat from_ (by omega), wrap_nat i (by omega)]
      exact ih (i + 1) (by omega) done acc2 (from_ + 1) false (by omega) hb2.1 hb2.2 (by omega)
    · rw [List.countP_cons_of_neg (by simp; omega)] at hl
      rw [if_neg g1]
      refine Ev.ite_neg g1 ?_
      by_cases g2 : rd w (i : Int) = P - 2
      · rw [if_pos (by omega)]
        refine Ev.ite_pos g2 (Ev.ite_pos (by rw [List.length_append, List.length_singleton]; omega) ?_)
        rw [wrap_nat i (by omega)]
        have h := ih (i + 1) (by omega) (done ++ [acc2]) 0 from_ false (by rw [List.length_append, List.length_singleton]; omega) (Int.le_refl _) (Int.mul_nonneg (by omega) hM0.1) (by omega)
        have e9 : ∀ X : List Int, done ++ [acc2] ++ X = done ++ acc2 :: X := fun X => by simp
        rw [← e9 (specW (P - 1) (ways.drop from_) false 0 (w.drop (i + 1)))]
        exact h
      · rw [if_neg (by omega)]
        refine Ev.ite_neg g2 ?_
        rw [wrap_nat i (by omega)]
        exact ih (i + 1) (by omega) done acc2 from_ true (by omega) hb2.1 hb2.2 (by omega)
theorem addH_zero : ∀ l : List Int, addH 0 l = l
  | [] => rfl
  | x :: l => by show (0 + x) :: l = x :: l; rw [Int.zero_add]
def lev (w : List Int) (q : Int) : List (Int × Int) := cellsL q 0 (-1) w
theorem next_ev (w : List Int) (hw : w.length ≤ 100) (P : Int) (hP : 1 ≤ P ∧ P ≤ 100) (hwr : ∀ p ∈ w, 0 ≤ p ∧ p ≤ 100) (ways : List Int) (M : Int) (hM : inM M ways) (hM0 : 0 ≤ M ∧ M ≤ 1000000000000) (hl : ways.length = (lev w P).length) :
    Ev (fun k => spec_l17Next.f k w P ways) (nextW (lev w (P - 1)) (lev w P) ways) := by
  have hc := cellsL_count P w 0 (-1)
  have hle : w.countP (fun p => decide (p + 1 = P)) ≤ w.length := List.countP_le_length
  have hl' : ways.length = 1 + w.countP (fun p => decide (p + 1 = P)) := hl.trans hc
  have h := next_loop w hw P hP hwr ways M hM hM0 (by omega) w.length 0 (by omega) [] 0 0 false (Nat.le_refl _) (Int.le_refl _) (by simp) (by rw [List.drop_zero]; omega)
  have e := specW_eq (P - 1) w 0 (-1) (-1) ways false 0 (by omega) (by omega) (by rw [show P - 1 + 1 = P by omega]; exact hl)
  rw [show P - 1 + 1 = P by omega] at e
  simp only [Bool.false_eq_true, if_false, Int.sub_zero, addH_zero] at e
  unfold spec_l17Next.f
  rw [List.nil_append, List.drop_zero, List.drop_zero, e] at h
  exact h
def wv (n : Nat) (w : List Int) : Nat → List Int
  | 0 => [1]
  | j + 1 => nextW (lev w ((n - (j + 1) : Nat) : Int)) (lev w ((n - j : Nat) : Int)) (wv n w j)
theorem wv_facts (n : Nat) (w : List Int) (hw : w.length ≤ 15) (hwr : ∀ p ∈ w, 0 ≤ p ∧ p ≤ (n : Int) - 2) : ∀ j, j ≤ n → (wv n w j).length = (lev w ((n - j : Nat) : Int)).length ∧ inM (16 ^ j) (wv n w j)
  | 0, _ => by
    constructor
    · unfold lev
      rw [cellsL_count, List.countP_eq_zero.2 (fun p hp => by have := hwr p hp; simp; omega)]
      rfl
    · intro x hx
      simp [wv] at hx
      subst hx
      decide
  | j + 1, hj => by
    obtain ⟨h1, h2⟩ := wv_facts n w hw hwr j (by omega)
    constructor
    · unfold wv nextW; rw [List.length_map]
    · intro x hx
      unfold wv nextW at hx
      obtain ⟨a, _, rfl⟩ := List.mem_map.1 hx
      have hp : (0 : Int) ≤ 16 ^ j := Int.pow_nonneg (by decide)
      obtain ⟨b1, b2⟩ := rowS_bound a (16 ^ j) hp (lev w ((n - j : Nat) : Int)) (wv n w j) h2
      have hc : (lev w ((n - j : Nat) : Int)).length ≤ 16 := by
        unfold lev
        have := cellsL_len ((n - j : Nat) : Int) w 0 (-1)
        omega
      have hm : ((lev w ((n - j : Nat) : Int)).length : Int) * 16 ^ j ≤ 16 * 16 ^ j := Int.mul_le_mul_of_nonneg_right (by omega) hp
      rw [Int.pow_succ, Int.mul_comm (16 ^ j) 16]
      omega
theorem pow16 (j : Nat) (hj : j ≤ 6) : (0 : Int) ≤ 16 ^ j ∧ (16 : Int) ^ j ≤ 1000000000 := by
  have : j = 0 ∨ j = 1 ∨ j = 2 ∨ j = 3 ∨ j = 4 ∨ j = 5 ∨ j = 6 := by omega
  rcases this with rfl | rfl | rfl | rfl | rfl | rfl | rfl <;> decide
def waysR (n : Int) (w : List Int) : Int := if isW n w = true then rd (wv n.toNat w n.toNat) 0 else -1
theorem spec_loop_ways (n : Nat) (hn : n ≤ 6) (w : List Int) (hw : w.length ≤ 15) (hwr : ∀ p ∈ w, 0 ≤ p ∧ p ≤ (n : Int) - 2) : ∀ d j, j + d = n → Ev (fun k => spec_CountWays.l0 k w (wv n w j) ((n - j : Nat) : Int)) (rd (wv n w n) 0)
  | 0, j, hj => by
    obtain rfl : j = n := by omega
    refine Ev.step (fun k => spec_CountWays.l0.eq_2 ..) (Ev.ite_neg (by omega) (Ev.ite_pos ?_ (Ev.now _)))
    rw [(wv_facts j w hw hwr j (Nat.le_refl _)).1]
    unfold lev
    rw [cellsL_count]
    omega
  | d + 1, j, hj => by
    obtain ⟨f1, f2⟩ := wv_facts n w hw hwr j (by omega)
    have hp := pow16 j (by omega)
    refine Ev.step (fun k => spec_CountWays.l0.eq_2 ..) (Ev.ite_pos (by omega) (Ev.bind (next_ev w (by omega) _ (by omega) (fun p hp => by have := hwr p hp; omega) _ _ f2 ⟨hp.1, by omega⟩ f1) ?_))
    rw [wrap_in (by omega) (by omega), show ((n - j : Nat) : Int) - 1 = ((n - (j + 1) : Nat) : Int) by omega]
    exact spec_loop_ways n hn w hw hwr d (j + 1) (by omega)
theorem spec_ways_ev (n : Int) (w : List Int) : Ev (fun k => spec_CountWays.f k n w) (waysR n w) := by
  unfold spec_CountWays.f waysR
  refine Ev.bind (spec_IsWiring_ev n w) ?_
  by_cases h : isW n w = true
  · rw [if_pos h]
    obtain ⟨h3, h6, hl⟩ := isW_bounds h
    obtain ⟨r, hr⟩ := runW_of n w h
    obtain ⟨m, rfl⟩ : ∃ m : Nat, n = m := ⟨n.toNat, by omega⟩
    rw [show (m : Int).toNat = m by omega] at *
    have hwr := runW_range w (upTo m) r hr
    rw [upTo_length] at hwr
    exact Ev.ite_pos h (spec_loop_ways m (by omega) w hl hwr m 0 (by omega))
  · rw [if_neg h]
    exact Ev.ite_neg h (Ev.now _)
theorem mx_max (a b : Int) : mx a b = max a b := by unfold mx; split <;> omega
theorem mn_min (a b : Int) : mn a b = min a b := by unfold mn; split <;> omega
theorem getD_map_ft (L : List Cel) (i : Nat) (h : i < L.length) : (L.map ft)[i]? = some ((rd_T101 L (i : Int)).f2, (rd_T101 L (i : Int)).f3) := by
  rw [List.getElem?_map, List.getElem?_eq_getElem h]
  unfold rd_T101
  rw [show (i : Int).toNat = i by omega, List.getD_eq_getElem?_getD, List.getElem?_eq_getElem h]
  rfl
theorem ovl_iff (a b : Int × Int) : (ovl a b = true) ↔ mx a.1 b.1 < mn a.2 b.2 := by unfold ovl; rw [decide_eq_true_eq, mx_max, mn_min]
theorem sum_ev (L : List (List Cel)) (ways : List Int) (p : Int) (A Bc : List Cel) (i : Nat) (c : Cel) (x37 : Int) (M r : Int) (hM : inM M ways) (hM0 : 0 ≤ M ∧ M ≤ 1000000000000) (hl : ways.length = Bc.length) (hB : Bc.length ≤ 1000) :
    ∀ d j, j + d = Bc.length → ∀ next : List Int, i < next.length → 0 ≤ rd next (i : Int) → rd next (i : Int) ≤ j * M →
      Ev (fun k => impl_CountWays.l1 k L ways p (next.set i (rd next (i : Int) + rowS (ft c) ((Bc.map ft).drop j) (ways.drop j))) A x37 (wrap64 ((i : Int) + 1))) r →
      Ev (fun k => impl_CountWays.l2 k L ways p next i A x37 i Bc (Bc.length : Int) j c.f0 c.f1 c.f2 c.f3 c.f4) r := by
  intro d
  induction d with
  | zero =>
    intro j hj next hi h0 h1 h
    refine Ev.step (fun k => impl_CountWays.l2.eq_2 ..) (Ev.ite_neg (by omega) ?_)
    have e : next.set i (rd next (i : Int) + rowS (ft c) ((Bc.map ft).drop j) (ways.drop j)) = next := by
      rw [List.drop_of_length_le (by rw [List.length_map]; omega)]
      unfold rowS
      simp only [Int.add_zero]
      rw [rd_lt' next i hi]
      exact List.set_getElem_self hi
    rw [e] at h
    exact h
  | succ d ih =>
    intro j hj next hi h0 h1 h
    have hjl : j < Bc.length := by omega
    have hjM : (j : Int) * M ≤ 1000 * M := Int.mul_le_mul_of_nonneg_right (by omega) hM0.1
    have hj1 : ((j + 1 : Nat) : Int) * M = j * M + M := by rw [Int.natCast_add, Int.add_mul]; simp
    obtain ⟨x, ex, er⟩ := drop_cons_of (show j < ways.length by omega)
    have hx := hM x (by have h2 : x ∈ ways.drop j := by rw [ex]; exact List.mem_cons_self
                        exact List.mem_of_mem_drop h2)
    have eb : (Bc.map ft).drop j = ((rd_T101 Bc (j : Int)).f2, (rd_T101 Bc (j : Int)).f3) :: (Bc.map ft).drop (j + 1) := by
      have hm : j < (Bc.map ft).length := by rw [List.length_map]; omega
      rw [List.drop_eq_getElem_cons hm]
      congr 1
      have := getD_map_ft Bc j hjl
      rw [List.getElem?_eq_getElem hm] at this
      exact Option.some.inj this
    rw [eb, ex] at h
    refine Ev.step (fun k => impl_CountWays.l2.eq_2 ..) (Ev.ite_pos (by omega) (Ev.ite_pos (by omega) (Ev.ite_pos (by omega) ?_)))
    by_cases g : mx c.f2 (rd_T101 Bc (j : Int)).f2 < mn c.f3 (rd_T101 Bc (j : Int)).f3
    · refine Ev.ite_pos g (Ev.ite_pos (by omega) (Ev.ite_pos (by omega) (Ev.ite_pos (by omega) ?_)))
      rw [er, wrap_in (by omega) (by omega), wrap_nat j (by omega), show (i : Int).toNat = i by omega]
      have e1 : rd (next.set i (rd next (i : Int) + x)) (i : Int) = rd next (i : Int) + x := by rw [rd_lt' _ _ (by rw [List.length_set]; exact hi)]; simp
      refine ih (j + 1) (by omega) (next.set i (rd next (i : Int) + x)) (by rw [List.length_set]; exact hi) (by rw [e1]; omega) (by rw [e1, hj1]; omega) ?_
      rw [e1, List.set_set]
      unfold rowS at h
      rw [if_pos ((ovl_iff (ft c) ((rd_T101 Bc (j : Int)).f2, (rd_T101 Bc (j : Int)).f3)).2 g), ← Int.add_assoc] at h
      exact h
    · refine Ev.ite_neg g ?_
      rw [wrap_nat j (by omega)]
      refine ih (j + 1) (by omega) next hi h0 (by rw [hj1]; omega) ?_
      unfold rowS at h
      rw [if_neg (fun h2 => g ((ovl_iff (ft c) ((rd_T101 Bc (j : Int)).f2, (rd_T101 Bc (j : Int)).f3)).1 h2)), Int.zero_add] at h
      exact h
theorem next_set (f : Int × Int → Int) (A : List (Int × Int)) (i : Nat) (h : i < A.length) (v : Int) (hv : ∀ a, A[i]? = some a → v = f a) :
    ((A.take i).map f ++ List.replicate (A.length - i) 0).set i v = (A.take (i + 1)).map f ++ List.replicate (A.length - (i + 1)) 0 := by
  have e1 : ((A.take i).map f).length = i := by rw [List.length_map, List.length_take]; omega
  have hv' := hv A[i] (List.getElem?_eq_getElem h)
  rw [List.set_append_right (h := by omega), e1, Nat.sub_self, show A.length - i = (A.length - (i + 1)) + 1 by omega, List.replicate_succ, List.set_cons_zero, List.take_succ_eq_append_getElem h, List.map_append, List.map_singleton, hv', List.append_assoc]
  rfl
theorem rd_next (f : Int × Int → Int) (A : List (Int × Int)) (i : Nat) (h : i < A.length) : rd ((A.take i).map f ++ List.replicate (A.length - i) 0) (i : Int) = 0 := by
  have e1 : ((A.take i).map f).length = i := by rw [List.length_map, List.length_take]; omega
  unfold rd
  rw [show (i : Int).toNat = i by omega, List.getD_eq_getElem?_getD, List.getElem?_append_right (by omega), e1, Nat.sub_self, show A.length - i = (A.length - (i + 1)) + 1 by omega, List.replicate_succ]
  rfl
theorem level_ev (L : List (List Cel)) (ways : List Int) (p : Nat) (hp : p + 1 < L.length) (hp6 : p ≤ 1000) (A Bc : List Cel) (eB : rd_L11 L ((p : Int) + 1) = Bc) (M r : Int) (hM : inM M ways) (hM0 : 0 ≤ M ∧ M ≤ 1000000000000) (hl : ways.length = Bc.length) (hB : Bc.length ≤ 1000) (hA : A.length ≤ 1000)
    (h : Ev (fun k => impl_CountWays.l0 k L (nextW (A.map ft) (Bc.map ft) ways) (wrap64 ((p : Int) - 1))) r) :
    ∀ d i, i + d = A.length → Ev (fun k => impl_CountWays.l1 k L ways p (((A.map ft).take i).map (fun a => rowS a (Bc.map ft) ways) ++ List.replicate (A.length - i) 0) A (A.length : Int) i) r
  | 0, i, hi => by
    refine Ev.step (fun k => impl_CountWays.l1.eq_2 ..) (Ev.ite_neg (by omega) ?_)
    have e : ((A.map ft).take i).map (fun a => rowS a (Bc.map ft) ways) ++ List.replicate (A.length - i) 0 = nextW (A.map ft) (Bc.map ft) ways := by
      rw [List.take_of_length_le (by rw [List.length_map]; omega), show A.length - i = 0 by omega]
      simp [nextW]
    rw [e]
    exact h
  | d + 1, i, hi => by
    have hiA : i < A.length := by omega
    have hm : i < (A.map ft).length := by rw [List.length_map]; exact hiA
    have hlen : (((A.map ft).take i).map (fun a => rowS a (Bc.map ft) ways) ++ List.replicate (A.length - i) 0).length = A.length := by
      rw [List.length_append, List.length_map, List.length_take, List.length_replicate, List.length_map]; omega
    have e0 := rd_next (fun a => rowS a (Bc.map ft) ways) (A.map ft) i hm
    rw [List.length_map] at e0
    refine Ev.step (fun k => impl_CountWays.l1.eq_2 ..) (Ev.ite_pos (by omega) (Ev.ite_pos (by omega) (Ev.ite_pos (by omega) ?_)))
    rw [wrap_in (n := (p : Int) + 1) (by omega) (by omega), eB]
    refine Ev.ite_pos (by omega) (Ev.ite_pos (by omega) ?_)
    refine sum_ev L ways p A Bc i (rd_T101 A (i : Int)) A.length M r hM hM0 hl hB Bc.length 0 (by omega) _ (by rw [hlen]; exact hiA) (by rw [e0]; exact Int.le_refl _) (by rw [e0]; simp) ?_
    rw [e0, Int.zero_add, List.drop_zero, List.drop_zero]
    have e1 := next_set (fun a => rowS a (Bc.map ft) ways) (A.map ft) i hm (rowS (ft (rd_T101 A (i : Int))) (Bc.map ft) ways) (fun a ha => by
      rw [getD_map_ft A i hiA] at ha
      rw [← Option.some.inj ha]
      rfl)
    rw [List.length_map] at e1
    rw [e1, wrap_nat i (by omega)]
    exact level_ev L ways p hp hp6 A Bc eB M r hM hM0 hl hB hA h d (i + 1) (by omega)
theorem impl_loop_ways (n : Nat) (hn : n ≤ 6) (w : List Int) (hw : w.length ≤ 15) (hwr : ∀ p ∈ w, 0 ≤ p ∧ p ≤ (n : Int) - 2) (L : List (List Cel)) (hL : L.length = n + 1) (hr : ∀ q, q ≤ n → (L.getD q []).map ft = cellsL q 0 (-1) w) :
    ∀ d j, j + d = n → Ev (fun k => impl_CountWays.l0 k L (wv n w j) ((n : Int) - 1 - j)) (rd (wv n w n) 0)
  | 0, j, hj => by
    obtain rfl : j = n := by omega
    refine Ev.step (fun k => impl_CountWays.l0.eq_2 ..) (Ev.ite_neg (by omega) (Ev.ite_pos ?_ (Ev.now _)))
    rw [(wv_facts j w hw hwr j (Nat.le_refl _)).1]
    unfold lev
    rw [cellsL_count]
    omega
  | d + 1, j, hj => by
    obtain ⟨f1, f2⟩ := wv_facts n w hw hwr j (by omega)
    have hp := pow16 j (by omega)
    obtain ⟨p, hpn⟩ : ∃ p : Nat, p = n - (j + 1) := ⟨_, rfl⟩
    have ep : (n : Int) - 1 - j = (p : Int) := by omega
    obtain ⟨A, hA⟩ : ∃ A, A = L.getD p [] := ⟨_, rfl⟩
    obtain ⟨Bc, hB⟩ : ∃ B, B = L.getD (p + 1) [] := ⟨_, rfl⟩
    have rA := hr p (by omega)
    have rB := hr (p + 1) (by omega)
    rw [← hA] at rA
    rw [← hB] at rB
    have lA : A.length ≤ 16 := by have h1 := congrArg List.length rA; rw [List.length_map] at h1; have h2 := cellsL_len (p : Int) w 0 (-1); omega
    have lB : Bc.length = (lev w (((p + 1 : Nat)) : Int)).length := by have h1 := congrArg List.length rB; rw [List.length_map] at h1; exact h1
    have lB2 : Bc.length ≤ 16 := by rw [lB]; have h2 := cellsL_len ((p + 1 : Nat) : Int) w 0 (-1); unfold lev; omega
    have eA : rd_L11 L (p : Int) = A := by unfold rd_L11; rw [show (p : Int).toNat = p by omega, hA]
    have eB : rd_L11 L ((p : Int) + 1) = Bc := by unfold rd_L11; rw [show ((p : Int) + 1).toNat = p + 1 by omega, hB]
    rw [ep]
    refine Ev.step (fun k => impl_CountWays.l0.eq_2 ..) (Ev.ite_pos (by omega) (Ev.ite_pos (by omega) (Ev.ite_pos (by omega) ?_)))
    rw [eA]
    refine Ev.ite_pos (by omega) (Ev.ite_pos (by omega) ?_)
    have h := impl_loop_ways n hn w hw hwr L hL hr d (j + 1) (by omega)
    have e5 : wv n w (j + 1) = nextW (A.map ft) (Bc.map ft) (wv n w j) := by
      rw [rA, rB]
      show nextW (lev w ((n - (j + 1) : Nat) : Int)) (lev w ((n - j : Nat) : Int)) (wv n w j) = _
      rw [← hpn, show n - j = p + 1 by omega]
      rfl
    rw [e5, show (n : Int) - 1 - ((j + 1 : Nat) : Int) = (p : Int) - 1 by omega] at h
    have h2 := level_ev L (wv n w j) p (by omega) (by omega) A Bc eB _ (rd (wv n w n) 0) f2 ⟨hp.1, by omega⟩ (by rw [f1, lB]; congr 2; omega) (by omega) (by omega) (by rw [wrap_in (by omega) (by omega)]; exact h) A.length 0 (by omega)
    rw [show ((A.length : Int) : Int).toNat = A.length by omega]
    simpa using h2
theorem impl_ways_ev (n : Int) (w : List Int) : Ev (fun k => impl_CountWays.f k n w) (waysR n w) := by
  unfold impl_CountWays.f waysR
  refine Ev.bind (impl_IsWiring_ev n w) ?_
  by_cases h : isW n w = true
  · rw [if_pos h]
    obtain ⟨h3, h6, hl⟩ := isW_bounds h
    obtain ⟨r, hr⟩ := runW_of n w h
    obtain ⟨c1, c2⟩ := cellsP_rows n w h
    have hC := cellsOf_ev n w h
    obtain ⟨m, rfl⟩ : ∃ m : Nat, n = m := ⟨n.toNat, by omega⟩
    rw [show (m : Int).toNat = m by omega] at *
    have hwr := runW_range w (upTo m) r hr
    rw [upTo_length] at hwr
    refine Ev.ite_pos h (Ev.bind hC ?_)
    rw [wrap_in (by omega) (by omega)]
    have h := impl_loop_ways m (by omega) w hl hwr (cellsP m w) c1 c2 m 0 (by omega)
    rw [show (m : Int) - 1 - ((0 : Nat) : Int) = (m : Int) - 1 by omega] at h
    exact h
  · rw [if_neg h]
    exact Ev.ite_neg h (Ev.now _)
theorem rd_lt (l : List Int) (i : Nat) (h : i < l.length) : rd l (i : Int) = l[i] := by
  unfold rd
  rw [Int.toNat_natCast, getD_lt _ _ _ h]
theorem toIntS_ev (l : List Int) (hl : l.length ≤ 1048576) : Ev (fun k => laws_toIntS.f k l) l := by
  have key := Ev.loop (fun i k => laws_toIntS.l0 k l (l.take i ++ List.replicate (l.length - i) 0) i) l.length l ?_ ?_ 0 (by omega)
  · unfold laws_toIntS.f
    simp only [Int.toNat_natCast]
    exact Ev.ite_pos (by omega) (Ev.ite_pos (by omega) (by simpa using key))
  · refine Ev.step (fun k => laws_toIntS.l0.eq_2 ..) ?_
    refine Ev.ite_neg (by omega) (Ev.const ?_)
    simp
  · intro i hi ih
    refine Ev.step (fun k => laws_toIntS.l0.eq_2 ..) ?_
    refine Ev.ite_pos (by omega) (Ev.ite_pos (by omega) (Ev.ite_pos (by simp; omega) ?_))
    rw [wrap_nat i (by omega), Int.toNat_natCast, rd_lt l i hi, fill_set l 0 l.length i rfl hi]
    exact ih
theorem eqIntS_self (l : List Int) (hl : l.length ≤ 1048576) : Ev (fun k => laws_eqIntS.f k l l) true := by
  unfold laws_eqIntS.f
  refine Ev.ite_pos rfl ?_
  refine Ev.loop (fun i k => laws_eqIntS.l0 k l l i) l.length true ?_ ?_ 0 (by omega)
  · refine Ev.step (fun k => laws_eqIntS.l0.eq_2 ..) ?_
    exact Ev.ite_neg (by omega) (Ev.now _)
  · intro i hi ih
    refine Ev.step (fun k => laws_eqIntS.l0.eq_2 ..) ?_
    refine Ev.ite_pos (by omega) (Ev.ite_pos (by omega) (Ev.ite_pos (by omega) (Ev.ite_pos rfl ?_)))
    rw [wrap_nat i (by omega)]
    exact ih
def marks (n : Nat) : List Int := (List.range n).map fun i => ((i + 1 : Nat) : Int)
end Go.Proofs.Ytoajlmlobaccdaa.Pure
namespace Go.Proofs.Ytoajlmlobaccdaa.Pure
set_option linter.unusedSimpArgs false
set_option linter.unusedVariables false
open Go.RowKit Go.Proofs.YtoajlmlobaccdaaW.PrintWords Go.Proofs.Ytoajlmlobaccdaa.P Go.Proofs.Ytoajlmlobaccdaa.Pl Go.Proofs.Ytoajlmlobaccdaa.Rk
theorem FnExactCountWays (a0 : Int) (l1 : List Int) (_ : I64 a0) (h1 : l1.length ≤ 9223372036854775807) (_ : ∀ y ∈ l1, (Lit.int .i64 y).wf = true) : ∃ k, laws_FnExactCountWays.f k a0 l1 = some true := by
  refine Ev.rounds (g := fun k => laws_FnExactCountWays.f k a0 l1) ?_
  unfold laws_FnExactCountWays.f
  by_cases hs : (l1.length : Int) > 1048576
  · exact Ev.ite_pos hs (Ev.now _)
  refine Ev.ite_neg hs ?_
  have e1 := toIntS_ev l1 (by omega)
  exact Ev.bind e1 (Ev.bind (spec_ways_ev a0 l1) (Ev.bind e1 (Ev.bind (impl_ways_ev a0 l1) (Ev.ite_pos rfl (Ev.bind e1 (Ev.bind (eqIntS_self l1 (by omega)) (Ev.ite_pos rfl (Ev.now _))))))))
end Go.Proofs.Ytoajlmlobaccdaa.Pure
