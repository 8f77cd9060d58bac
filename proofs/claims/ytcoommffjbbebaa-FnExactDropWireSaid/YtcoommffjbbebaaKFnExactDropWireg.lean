/- What the law FnExactDropWire reaches, part 7: functions as plain Lean functions with the proofs that their calls come to them, and plain lemmas over these. Put together by a program (wip/pack.py). -/
import Derived.Test.YtcoommffjbbebaaKFnExactDropWirea
import Derived.Test.YtcoommffjbbebaaKFnExactDropWired
import Derived.Test.YtcoommffjbbebaaKFnExactDropWiref
import Derived.Test.YtcoommffjbbebaaKFnExactDropWireb
namespace Go.Proofs.Ytcoommffjbbebaa.Pure
set_option linter.unusedSimpArgs false
set_option linter.unusedVariables false
open Go.RowKit Go.Proofs.YtcoommffjbbebaaW.PrintWords Go.Proofs.Ytcoommffjbbebaa.P Go.Proofs.Ytcoommffjbbebaa.Pl
def okAt (l : List Int) (p : Int) : Prop := 0 ≤ p ∧ p ≤ (l.length : Int) - 2 ∧ rd l p ≤ rd l (p + 1)
instance (l : List Int) (p : Int) : Decidable (okAt l p) := by unfold okAt; infer_instance
def swp (l : List Int) (p : Int) : List Int := (l.set p.toNat (rd l (p + 1))).set (p + 1).toNat (rd l p)
theorem swp_length (l : List Int) (p : Int) : (swp l p).length = l.length := by simp [swp]
def runW : List Int → List Int → Option (List Int)
  | l, [] => some l
  | l, p :: w => if okAt l p then runW (swp l p) w else none
def upTo (n : Nat) : List Int := (List.range n).map fun i : Nat => (i : Int)
theorem upTo_length (n : Nat) : (upTo n).length = n := by simp [upTo]
theorem upTo_succ (n : Nat) : upTo (n + 1) = upTo n ++ [(n : Int)] := by simp [upTo, List.range_succ]
def isW (n : Int) (w : List Int) : Bool := decide (3 ≤ n ∧ n ≤ 6 ∧ (w.length : Int) = Int.tdiv (n * (n - 1)) 2) && (runW (upTo n.toNat) w).isSome
theorem impl_upTo_ev (n : Nat) (h : n ≤ 1000) : Ev (fun k => impl_upTo.f k n) (upTo n) := by
  have key := Ev.loop (fun i k => impl_upTo.l0 k n (upTo i) i) n (upTo n) ?_ ?_ 0 (by omega)
  · exact key
  · refine Ev.step (fun k => impl_upTo.l0.eq_2 ..) ?_
    exact Ev.ite_neg (by omega) (Ev.now _)
  · intro i hi ih
    refine Ev.step (fun k => impl_upTo.l0.eq_2 ..) ?_
    refine Ev.ite_pos (by omega) (Ev.ite_pos (by rw [upTo_length]; omega) ?_)
    rw [wrap_nat i (by omega), ← upTo_succ]
    exact ih
theorem spec_l12Start_ev (n : Nat) (h : n ≤ 1000) : Ev (fun k => spec_l12Start.f k n) (upTo n) := by
  have key := Ev.loop (fun i k => spec_l12Start.l0 k n (upTo i) i) n (upTo n) ?_ ?_ 0 (by omega)
  · exact key
  · refine Ev.step (fun k => spec_l12Start.l0.eq_2 ..) ?_
    exact Ev.ite_neg (by omega) (Ev.now _)
  · intro i hi ih
    refine Ev.step (fun k => spec_l12Start.l0.eq_2 ..) ?_
    refine Ev.ite_pos (by omega) (Ev.ite_pos (by rw [upTo_length]; omega) ?_)
    rw [wrap_nat i (by omega), ← upTo_succ]
    exact ih
theorem l12Swap_eq (l : List Int) (p : Int) (hl : l.length ≤ 1000) (hn : 2 ≤ l.length) : spec_l12Swap.f l p = some (if okAt l p then (true, swp l p) else (false, l)) := by
  unfold spec_l12Swap.f spec_l1In.f
  rw [wrap_in (n := (l.length : Int) - 2) (by omega) (by omega)]
  by_cases h0 : p ≥ 0
  · rw [if_pos h0]
    by_cases h1 : p ≤ (l.length : Int) - 2
    · have hw : wrap64 (p + 1) = p + 1 := wrap_in (by omega) (by omega)
      simp only [hw, h1, decide_true, Option.bind_some, if_true]
      rw [if_pos (by omega), if_pos (by omega), if_pos (by omega), if_pos (by omega)]
      by_cases h2 : rd l p > rd l (p + 1)
      · rw [if_pos h2, if_neg (by unfold okAt; omega)]
      · rw [if_neg h2, if_pos (by unfold okAt; omega)]
        rfl
    · simp only [h1, decide_false, Option.bind_some]
      rw [if_neg (by simp), if_neg (by unfold okAt; omega)]
  · rw [if_neg h0]
    simp only [Option.bind_some]
    rw [if_neg (by simp), if_neg (by unfold okAt; omega)]
theorem drop_rd (w : List Int) (i : Nat) (h : i < w.length) : w.drop i = rd w (i : Int) :: w.drop (i + 1) := by
  rw [List.drop_eq_getElem_cons h]
  unfold rd
  rw [Int.toNat_natCast, getD_lt _ _ _ h]
theorem spec_loop (w : List Int) (hw : w.length ≤ 1000) : ∀ d i, i + d = w.length → ∀ l : List Int, l.length ≤ 1000 → 2 ≤ l.length → Ev (fun k => spec_IsWiring.l0 k w l i) (runW l (w.drop i)).isSome := by
  intro d
  induction d with
  | zero =>
    intro i hi l _ _
    refine Ev.step (fun k => spec_IsWiring.l0.eq_2 ..) ?_
    rw [List.drop_of_length_le (by omega)]
    exact Ev.ite_neg (by omega) (Ev.now _)
  | succ d ih =>
    intro i hi l hl h2
    refine Ev.step (fun k => spec_IsWiring.l0.eq_2 ..) ?_
    rw [drop_rd w i (by omega)]
    refine Ev.ite_pos (by omega) (Ev.ite_pos (by omega) (Ev.bind0 (l12Swap_eq l _ hl h2) ?_))
    unfold runW
    by_cases ho : okAt l (rd w (i : Int))
    · rw [if_pos ho, if_pos ho, wrap_nat i (by omega)]
      exact Ev.ite_pos rfl (ih (i + 1) (by omega) _ (by rw [swp_length]; exact hl) (by rw [swp_length]; exact h2))
    · rw [if_neg ho, if_neg ho]
      exact Ev.ite_neg (by simp) (Ev.now _)
theorem impl_loop (n : Nat) (hn : 2 ≤ n) (hn6 : n ≤ 1000) (w : List Int) (hw : w.length ≤ 1000) : ∀ d i, i + d = w.length → ∀ l : List Int, l.length = n → Ev (fun k => impl_run_impl_IsWiring_1.l0 k n l w w.length i) (runW l (w.drop i)).isSome := by
  intro d
  induction d with
  | zero =>
    intro i hi l _
    refine Ev.step (fun k => impl_run_impl_IsWiring_1.l0.eq_2 ..) ?_
    rw [List.drop_of_length_le (by omega)]
    exact Ev.ite_neg (by omega) (Ev.now _)
  | succ d ih =>
    intro i hi l hl
    refine Ev.step (fun k => impl_run_impl_IsWiring_1.l0.eq_2 ..) ?_
    rw [drop_rd w i (by omega)]
    generalize rd w (i : Int) = p
    refine Ev.ite_pos (by omega) (Ev.ite_pos (by omega) (Ev.ite_pos (by omega) ?_))
    rw [wrap_in (n := (n : Int) - 2) (by omega) (by omega)]
    unfold runW
    by_cases h0 : p < 0
    · rw [if_neg (by unfold okAt; omega)]
      exact Ev.ite_pos h0 (Ev.now _)
    refine Ev.ite_neg h0 ?_
    by_cases h1 : p > (n : Int) - 2
    · rw [if_neg (by unfold okAt; omega)]
      exact Ev.ite_pos h1 (Ev.now _)
    refine Ev.ite_neg h1 ?_
    rw [wrap_in (n := p + 1) (by omega) (by omega)]
    refine Ev.ite_pos (by omega) (Ev.ite_pos (by omega) (Ev.ite_pos (by omega) (Ev.ite_pos (by omega) ?_)))
    by_cases h2 : rd l p > rd l (p + 1)
    · rw [if_neg (by unfold okAt; omega)]
      exact Ev.ite_pos h2 (Ev.now _)
    refine Ev.ite_neg h2 (Ev.bind0 rfl ?_)
    rw [if_pos (by unfold okAt; omega), wrap_nat i (by omega)]
    exact ih (i + 1) (by omega) _ (by rw [← hl]; exact swp_length l p)
theorem count_small {n : Int} (h3 : 3 ≤ n) (h6 : n ≤ 6) : wrap64 (n * wrap64 (n - 1)) = n * (n - 1) ∧ wrap64 (Int.tdiv (n * (n - 1)) 2) = Int.tdiv (n * (n - 1)) 2 ∧ 0 ≤ Int.tdiv (n * (n - 1)) 2 ∧ Int.tdiv (n * (n - 1)) 2 ≤ 15 := by
  have : n = 3 ∨ n = 4 ∨ n = 5 ∨ n = 6 := by omega
  obtain rfl | rfl | rfl | rfl := this <;> (unfold wrap64; decide)
theorem spec_IsWiring_ev (n : Int) (w : List Int) : Ev (fun k => spec_IsWiring.f k n w) (isW n w) := by
  unfold spec_IsWiring.f isW
  by_cases h3 : n ≥ 3
  · by_cases h6 : n ≤ 6
    · obtain ⟨e1, e2, e3, e4⟩ := count_small h3 h6
      refine Ev.bind0 (a := true) (by unfold spec_l1In.f; rw [if_pos h3]; simp [h6]) (Ev.ite_pos rfl ?_)
      rw [e1, e2]
      refine Ev.step (fun k => spec_IsWiring.j0.eq_2 ..) ?_
      by_cases hc : (w.length : Int) = Int.tdiv (n * (n - 1)) 2
      · rw [show decide (3 ≤ n ∧ n ≤ 6 ∧ (w.length : Int) = Int.tdiv (n * (n - 1)) 2) = true from decide_eq_true ⟨h3, h6, hc⟩, Bool.true_and]
        refine Ev.ite_neg (by simp [hc]) ?_
        obtain ⟨m, rfl⟩ := Int.eq_ofNat_of_zero_le (show 0 ≤ n by omega)
        refine Ev.bind (spec_l12Start_ev m (by omega)) ?_
        exact spec_loop w (by omega) w.length 0 (by omega) (upTo m) (by rw [upTo_length]; omega) (by rw [upTo_length]; omega)
      · rw [show decide (3 ≤ n ∧ n ≤ 6 ∧ (w.length : Int) = Int.tdiv (n * (n - 1)) 2) = false from decide_eq_false (fun h => hc h.2.2), Bool.false_and]
        exact Ev.ite_pos (by simp [hc]) (Ev.now _)
    · rw [show decide (3 ≤ n ∧ n ≤ 6 ∧ (w.length : Int) = Int.tdiv (n * (n - 1)) 2) = false from decide_eq_false (fun h => h6 h.2.1), Bool.false_and]
      refine Ev.bind0 (a := false) (by unfold spec_l1In.f; rw [if_pos h3]; simp [h6]) (Ev.ite_neg (by simp) ?_)
      refine Ev.step (fun k => spec_IsWiring.j0.eq_2 ..) ?_
      exact Ev.ite_pos rfl (Ev.now _)
  · rw [show decide (3 ≤ n ∧ n ≤ 6 ∧ (w.length : Int) = Int.tdiv (n * (n - 1)) 2) = false from decide_eq_false (fun h => h3 h.1), Bool.false_and]
    refine Ev.bind0 (a := false) (by unfold spec_l1In.f; rw [if_neg h3]) (Ev.ite_neg (by simp) ?_)
    refine Ev.step (fun k => spec_IsWiring.j0.eq_2 ..) ?_
    exact Ev.ite_pos rfl (Ev.now _)
theorem impl_IsWiring_ev (n : Int) (w : List Int) : Ev (fun k => impl_IsWiring.f k n w) (isW n w) := by
  unfold impl_IsWiring.f isW
  by_cases h3 : n ≥ 3
  · by_cases h6 : n ≤ 6
    · obtain ⟨e1, e2, e3, e4⟩ := count_small h3 h6
      refine Ev.bind0 (a := true) (by unfold impl_isWires.f; rw [if_pos h3]; simp [h6]) (Ev.ite_pos rfl ?_)
      rw [e1, e2]
      by_cases hc : (w.length : Int) = Int.tdiv (n * (n - 1)) 2
      · rw [show decide (3 ≤ n ∧ n ≤ 6 ∧ (w.length : Int) = Int.tdiv (n * (n - 1)) 2) = true from decide_eq_true ⟨h3, h6, hc⟩, Bool.true_and]
        refine Ev.ite_pos hc ?_
        obtain ⟨m, rfl⟩ := Int.eq_ofNat_of_zero_le (show 0 ≤ n by omega)
        refine Ev.bind (a := (runW (upTo m) w).isSome) ?_ (Ev.now _)
        unfold impl_run_impl_IsWiring_1.f
        refine Ev.bind (impl_upTo_ev m (by omega)) ?_
        exact impl_loop m (by omega) (by omega) w (by omega) w.length 0 (by omega) (upTo m) (upTo_length m)
      · rw [show decide (3 ≤ n ∧ n ≤ 6 ∧ (w.length : Int) = Int.tdiv (n * (n - 1)) 2) = false from decide_eq_false (fun h => hc h.2.2), Bool.false_and]
        exact Ev.ite_neg hc (Ev.now _)
    · rw [show decide (3 ≤ n ∧ n ≤ 6 ∧ (w.length : Int) = Int.tdiv (n * (n - 1)) 2) = false from decide_eq_false (fun h => h6 h.2.1), Bool.false_and]
      refine Ev.bind0 (a := false) (by unfold impl_isWires.f; rw [if_pos h3]; simp [h6]) (Ev.ite_neg (by simp) (Ev.now _))
  · rw [show decide (3 ≤ n ∧ n ≤ 6 ∧ (w.length : Int) = Int.tdiv (n * (n - 1)) 2) = false from decide_eq_false (fun h => h3 h.1), Bool.false_and]
    exact Ev.bind0 (a := false) (by unfold impl_isWires.f; rw [if_neg h3]) (Ev.ite_neg (by simp) (Ev.now _))
theorem isW_bounds {n : Int} {w : List Int} (h : isW n w = true) : 3 ≤ n ∧ n ≤ 6 ∧ w.length ≤ 15 := by
  unfold isW at h
  rw [Bool.and_eq_true, decide_eq_true_eq] at h
  obtain ⟨⟨h3, h6, hc⟩, _⟩ := h
  exact ⟨h3, h6, by have := (count_small h3 h6).2.2.2; omega⟩
def inv : List Int → Nat
  | [] => 0
  | x :: l => l.countP (fun y => decide (y < x)) + inv l
theorem inv_le : ∀ l : List Int, 2 * inv l ≤ l.length * (l.length - 1)
  | [] => by simp [inv]
  | x :: l => by
    have h := inv_le l
    have h1 : l.countP (fun y => decide (y < x)) ≤ l.length := List.countP_le_length
    unfold inv
    rw [List.length_cons, Nat.add_sub_cancel]
    cases hl : l.length with
    | zero => rw [hl] at h h1; omega
    | succ m =>
      rw [hl] at h h1
      rw [Nat.add_sub_cancel] at h
      have e1 : (m + 1 + 1) * (m + 1) = (m + 1) * m + 2 * (m + 1) := by rw [Nat.add_mul (m + 1) 1, Nat.mul_add (m + 1) m 1]; omega
      omega
theorem inv_swap (a b : Int) (hab : a < b) (B : List Int) : ∀ A : List Int, inv (A ++ b :: a :: B) = inv (A ++ a :: b :: B) + 1
  | [] => by
    simp only [List.nil_append, inv, List.countP_cons]
    rw [show decide (a < b) = true from decide_eq_true hab, show decide (b < a) = false from decide_eq_false (by omega)]
    simp
    omega
  | x :: A => by
    have ih := inv_swap a b hab B A
    simp only [List.cons_append, inv, ih, List.countP_append, List.countP_cons]
    omega
def but (i : Int) (l : List Int) : List Int := l.filter fun x => decide (x ≠ i)
theorem inv_but_le (i : Int) : ∀ l : List Int, inv (but i l) ≤ inv l
  | [] => by simp [but]
  | x :: l => by
    have ih := inv_but_le i l
    unfold but at ih ⊢
    rw [List.filter_cons]
    have h1 : (l.filter fun x => decide (x ≠ i)).countP (fun y => decide (y < x)) ≤ l.countP (fun y => decide (y < x)) := List.Sublist.countP_le List.filter_sublist
    split
    · simp only [inv]; omega
    · simp only [inv]; omega
theorem but_count (i x : Int) : ∀ l : List Int, l.Nodup → l.countP (fun y => decide (y < x)) ≤ (but i l).countP (fun y => decide (y < x)) + 1
  | [], _ => by simp
  | y :: l, h => by
    obtain ⟨hy, hl⟩ := List.nodup_cons.1 h
    have ih := but_count i x l hl
    by_cases e : y = i
    · have e1 : but i (y :: l) = l := by
        unfold but
        rw [List.filter_cons, if_neg (by simpa using e)]
        exact List.filter_eq_self.2 fun z hz => by simpa using fun e2 : z = i => hy (e ▸ e2 ▸ hz)
      rw [e1, List.countP_cons]
      split <;> omega
    · have e1 : but i (y :: l) = y :: but i l := by unfold but; rw [List.filter_cons, if_pos (by simpa using e)]
      rw [e1, List.countP_cons, List.countP_cons]
      omega
theorem inv_but (i : Int) : ∀ l : List Int, l.Nodup → inv l ≤ inv (but i l) + (l.length - 1)
  | [], _ => by simp [inv]
  | x :: l, h => by
    obtain ⟨hx, hl⟩ := List.nodup_cons.1 h
    by_cases e : x = i
    · subst e
      have e1 : but x (x :: l) = l := by
        unfold but
        rw [List.filter_cons, if_neg (by simp)]
        exact List.filter_eq_self.2 fun z hz => by simpa using fun e : z = x => hx (e ▸ hz)
      rw [e1, List.length_cons]
      have h1 : l.countP (fun y => decide (y < x)) ≤ l.length := List.countP_le_length
      simp only [inv]
      omega
    · have ih := inv_but i l hl
      have e1 : but i (x :: l) = x :: but i l := by unfold but; rw [List.filter_cons, if_pos (by simpa using e)]
      rw [e1, List.length_cons]
      have hc := but_count i x l hl
      simp only [inv]
      cases l with
      | nil => simp [inv]
      | cons y t => simp only [List.length_cons] at ih ⊢; omega
theorem cutAt (l : List Int) (p : Int) (h : okAt l p) : ∃ A B : List Int, l = A ++ rd l p :: rd l (p + 1) :: B ∧ (A.length : Int) = p ∧ swp l p = A ++ rd l (p + 1) :: rd l p :: B := by
  obtain ⟨h0, h1, h2⟩ := h
  obtain ⟨m, rfl⟩ := Int.eq_ofNat_of_zero_le h0
  have hm : m + 1 < l.length := by omega
  have e0 : rd l (m : Int) = l[m] := by unfold rd; rw [Int.toNat_natCast]; exact getD_lt _ _ _ (by omega)
  have e1 : rd l ((m : Int) + 1) = l[m + 1] := by unfold rd; rw [show ((m : Int) + 1).toNat = m + 1 by omega]; exact getD_lt _ _ _ hm
  have hl : l = l.take m ++ l[m] :: l[m + 1] :: l.drop (m + 2) := by
    rw [← List.drop_eq_getElem_cons hm, ← List.drop_eq_getElem_cons (by omega), List.take_append_drop]
  refine ⟨l.take m, l.drop (m + 2), ?_, ?_, ?_⟩
  · rw [e0, e1]; exact hl
  · rw [List.length_take]; omega
  · unfold swp
    rw [show ((m : Int) + 1).toNat = m + 1 by omega, Int.toNat_natCast, e0, e1]
    generalize l[m] = a at hl ⊢
    generalize l[m + 1] = b at hl ⊢
    have hlt : (l.take m).length = m := by rw [List.length_take]; omega
    conv => lhs; rw [hl]
    rw [List.set_append_right _ _ (by omega), List.set_append_right _ _ (by omega), hlt, Nat.sub_self, show m + 1 - m = 1 by omega]
    rfl
def swL : List Int → List Int → List (List Int)
  | _, [] => []
  | l, p :: w => [rd l p, rd l (p + 1)] :: swL (swp l p) w
def dec1 (i x : Int) : Int := if x > i then x - 1 else x
def outOf (i : Int) (s : List (List Int)) : List (List Int) := (s.filter fun x => !(x.contains i)).map fun x => x.map (dec1 i)
def dropL (i : Int) : List Int → List Int → List Int
  | _, [] => []
  | l, p :: w => if rd l p ≠ i ∧ rd l (p + 1) ≠ i then (p - (if (l.idxOf i : Int) < p then 1 else 0)) :: dropL i (swp l p) w else dropL i (swp l p) w
def fromW : List Int → List (List Int) → Option (List Int)
  | _, [] => some []
  | l, x :: s => if x.length = 2 ∧ rd x 0 < rd x 1 ∧ l.idxOf (rd x 0) + 1 < l.length ∧ rd l ((l.idxOf (rd x 0) : Int) + 1) = rd x 1 then (fromW (swp l (l.idxOf (rd x 0))) s).map ((l.idxOf (rd x 0) : Int) :: ·) else none
def less (i : Int) (l : List Int) : List Int := (but i l).map (dec1 i)
theorem but_append (i : Int) (a b : List Int) : but i (a ++ b) = but i a ++ but i b := by unfold but; rw [List.filter_append]
theorem but_cons_ne {i x : Int} (h : x ≠ i) (l : List Int) : but i (x :: l) = x :: but i l := by unfold but; rw [List.filter_cons, if_pos (by simpa using h)]
theorem but_cons_eq {i x : Int} (h : x = i) (l : List Int) : but i (x :: l) = but i l := by unfold but; rw [List.filter_cons, if_neg (by simpa using h)]
theorem dec1_lt {i x y : Int} (hx : x ≠ i) (hy : y ≠ i) (h : x < y) : dec1 i x < dec1 i y := by unfold dec1; split <;> split <;> omega
theorem dec1_inj {i x y : Int} (hx : x ≠ i) (hy : y ≠ i) (h : dec1 i x = dec1 i y) : x = y := by unfold dec1 at h; split at h <;> split at h <;> omega
theorem swap_nodup {A B : List Int} {a b : Int} (h : (A ++ a :: b :: B).Nodup) : (A ++ b :: a :: B).Nodup :=
  (List.Perm.nodup_iff (List.Perm.append_left A (List.Perm.swap a b B))).2 h
theorem idxOf_mid {A B : List Int} {a : Int} (h : a ∉ A) : (A ++ a :: B).idxOf a = A.length := by
  rw [List.idxOf_append, if_neg h, List.idxOf_cons_self, Nat.zero_add]
theorem but_length_mem {i : Int} : ∀ {A : List Int}, A.Nodup → i ∈ A → (but i A).length + 1 = A.length
  | x :: A, hn, hm => by
    obtain ⟨hx, hA⟩ := List.nodup_cons.1 hn
    by_cases e : x = i
    · subst e
      have : but x A = A := List.filter_eq_self.2 fun z hz => by simpa using fun e : z = x => hx (e ▸ hz)
      rw [but_cons_eq rfl, this, List.length_cons]
    · have := but_length_mem hA ((List.mem_cons.1 hm).resolve_left (fun h => e h.symm))
      rw [but_cons_ne e, List.length_cons, List.length_cons]
      omega
theorem but_not_mem {i : Int} {A : List Int} (h : i ∉ A) : but i A = A := List.filter_eq_self.2 fun z hz => by simpa using fun e : z = i => h (e ▸ hz)
theorem less_step (i : Int) (l : List Int) (p : Int) (h : okAt l p) (hn : l.Nodup) (hi : i ∈ l) :
    (swp l p).Nodup ∧ i ∈ swp l p ∧
    (if rd l p ≠ i ∧ rd l (p + 1) ≠ i then
      rd l p < rd l (p + 1) ∧ ((less i l).idxOf (dec1 i (rd l p)) : Int) = p - (if (l.idxOf i : Int) < p then 1 else 0) ∧ (less i l).idxOf (dec1 i (rd l p)) + 1 < (less i l).length ∧
      rd (less i l) (((less i l).idxOf (dec1 i (rd l p)) : Int) + 1) = dec1 i (rd l (p + 1)) ∧ less i (swp l p) = swp (less i l) ((less i l).idxOf (dec1 i (rd l p))) ∧ inv (but i (swp l p)) = inv (but i l) + 1
     else less i (swp l p) = less i l ∧ inv (but i (swp l p)) = inv (but i l)) ∧ inv (swp l p) = inv l + 1 := by
  obtain ⟨A, B, hl, hA, hs⟩ := cutAt l p h
  obtain ⟨h0, h1, h2⟩ := h
  generalize ha : rd l p = a at *
  generalize hb : rd l (p + 1) = b at *
  rw [hl] at hn hi
  have hns := swap_nodup hn
  have hne : a ≠ b := by
    intro e
    have := (List.nodup_append.1 hn).2.1
    rw [e] at this
    simp at this
  have hab : a < b := by omega
  refine ⟨hs ▸ hns, ?_, ?_, ?_⟩
  · rw [hs]
    simp only [List.mem_append, List.mem_cons] at hi ⊢
    rcases hi with h | h | h | h
    · exact .inl h
    · exact .inr (.inr (.inl h))
    · exact .inr (.inl h)
    · exact .inr (.inr (.inr h))
  · split
    · next hh =>
      obtain ⟨hai, hbi⟩ := hh
      have hAn : A.Nodup := (List.nodup_append.1 hn).1
      have haA : a ∉ A := fun hm => (List.nodup_append.1 hn).2.2 a hm a List.mem_cons_self rfl
      have e0 : less i l = less i A ++ dec1 i a :: dec1 i b :: less i B := by
        rw [hl]; unfold less; rw [but_append, but_cons_ne hai, but_cons_ne hbi, List.map_append]; rfl
      have e1 : less i (swp l p) = less i A ++ dec1 i b :: dec1 i a :: less i B := by
        rw [hs]; unfold less; rw [but_append, but_cons_ne hbi, but_cons_ne hai, List.map_append]; rfl
      have hnot : dec1 i a ∉ less i A := by
        intro hm
        unfold less at hm
        obtain ⟨x, hx, ex⟩ := List.mem_map.1 hm
        have hx2 : x ≠ i := by have := (List.mem_filter.1 hx).2; simpa using this
        exact haA (dec1_inj hx2 hai ex ▸ (List.mem_filter.1 hx).1)
      have ei : (less i l).idxOf (dec1 i a) = (less i A).length := by rw [e0]; exact idxOf_mid hnot
      have hlen : ((less i A).length : Int) = p - (if (l.idxOf i : Int) < p then 1 else 0) := by
        unfold less
        rw [List.length_map]
        by_cases hiA : i ∈ A
        · have e2 := but_length_mem hAn hiA
          have e3 : l.idxOf i < A.length := by rw [hl, List.idxOf_append, if_pos hiA]; exact List.idxOf_lt_length_iff.2 hiA
          rw [if_pos (by omega)]
          omega
        · rw [but_not_mem hiA]
          have e3 : ¬ (l.idxOf i < A.length) := by rw [hl, List.idxOf_append, if_neg hiA]; omega
          rw [if_neg (by omega)]
          omega
      have hllen : (less i l).length = (less i A).length + ((less i B).length + 1 + 1) := by rw [e0, List.length_append]; rfl
      refine ⟨hab, by rw [ei]; exact hlen, by rw [ei, hllen]; omega, ?_, ?_, ?_⟩
      · rw [ei, e0]
        unfold rd
        rw [show (((less i A).length : Int) + 1).toNat = (less i A).length + 1 by omega, List.getD_eq_getElem?_getD, List.getElem?_append_right (by omega), show (less i A).length + 1 - (less i A).length = 1 by omega]
        rfl
      · rw [ei, e1]
        have r0 : rd (less i l) ((less i A).length : Int) = dec1 i a := by
          rw [e0]; unfold rd
          rw [Int.toNat_natCast, List.getD_eq_getElem?_getD, List.getElem?_append_right (by omega), Nat.sub_self]
          rfl
        have r1 : rd (less i l) (((less i A).length : Int) + 1) = dec1 i b := by
          rw [e0]; unfold rd
          rw [show (((less i A).length : Int) + 1).toNat = (less i A).length + 1 by omega, List.getD_eq_getElem?_getD, List.getElem?_append_right (by omega), show (less i A).length + 1 - (less i A).length = 1 by omega]
          rfl
        unfold swp
        rw [r0, r1, show (((less i A).length : Int) + 1).toNat = (less i A).length + 1 by omega, Int.toNat_natCast, e0, List.set_append_right _ _ (by omega), List.set_append_right _ _ (by omega), Nat.sub_self, show (less i A).length + 1 - (less i A).length = 1 by omega]
        rfl
      · rw [hs, hl, but_append, but_append, but_cons_ne hbi, but_cons_ne hai, but_cons_ne hai, but_cons_ne hbi]
        exact inv_swap a b hab _ _
    · next hh =>
      have e : but i (swp l p) = but i l := by
        rw [hs, hl, but_append, but_append]
        congr 1
        by_cases e1 : a = i
        · have e2 : b ≠ i := fun e2 => hne (e1.trans e2.symm)
          rw [but_cons_ne e2, but_cons_eq e1, but_cons_eq e1, but_cons_ne e2]
        · have e2 : b = i := by
            by_cases e2 : b = i
            · exact e2
            · exact absurd ⟨e1, e2⟩ hh
          rw [but_cons_eq e2, but_cons_ne e1, but_cons_ne e1, but_cons_eq e2]
      unfold less
      rw [e]
      exact ⟨rfl, rfl⟩
  · rw [hs, hl]
    exact inv_swap a b hab _ _
theorem drop_run (i : Int) : ∀ (w l r : List Int), runW l w = some r → l.Nodup → i ∈ l →
    fromW (less i l) (outOf i (swL l w)) = some (dropL i l w) ∧ inv r = inv l + w.length ∧ inv (but i r) = inv (but i l) + (dropL i l w).length ∧ r.Nodup ∧ r.length = l.length ∧ (outOf i (swL l w)).length = (dropL i l w).length
  | [], l, r, h, hn, hi => by
    obtain rfl := Option.some.inj h
    simp [fromW, outOf, swL, dropL, hn]
  | p :: w, l, r, h, hn, hi => by
    unfold runW at h
    by_cases ho : okAt l p
    · rw [if_pos ho] at h
      obtain ⟨g1, g2, g3, g4⟩ := less_step i l p ho hn hi
      obtain ⟨i1, i2, i3, i4, i5, i6⟩ := drop_run i w (swp l p) r h g1 g2
      rw [swp_length] at i5
      by_cases hh : rd l p ≠ i ∧ rd l (p + 1) ≠ i
      · rw [if_pos hh] at g3
        obtain ⟨k1, k2, k3, k4, k5, k6⟩ := g3
        have e1 : outOf i (swL l (p :: w)) = [dec1 i (rd l p), dec1 i (rd l (p + 1))] :: outOf i (swL (swp l p) w) := by
          unfold outOf
          rw [swL, List.filter_cons, if_pos (by simp; exact ⟨fun e => hh.1 e.symm, fun e => hh.2 e.symm⟩)]
          rfl
        have e2 : dropL i l (p :: w) = (p - (if (l.idxOf i : Int) < p then 1 else 0)) :: dropL i (swp l p) w := by rw [dropL, if_pos hh]
        refine ⟨?_, by rw [i2, g4, List.length_cons]; omega, by rw [i3, k6, e2, List.length_cons]; omega, i4, i5, by rw [e1, e2, List.length_cons, List.length_cons, i6]⟩
        rw [e1, e2, fromW]
        rw [if_pos ⟨rfl, dec1_lt hh.1 hh.2 k1, k3, k4⟩]
        show Option.map _ (fromW (swp (less i l) ((less i l).idxOf (dec1 i (rd l p)))) _) = _
        rw [← k5, i1, ← k2]
        rfl
      · rw [if_neg hh] at g3
        have e1 : outOf i (swL l (p :: w)) = outOf i (swL (swp l p) w) := by
          unfold outOf
          rw [swL, List.filter_cons, if_neg (by simp; intro e1; exact Decidable.not_not.1 fun e2 => hh ⟨fun e => e1 e.symm, fun e => e2 e.symm⟩)]
        have e2 : dropL i l (p :: w) = dropL i (swp l p) w := by rw [dropL, if_neg hh]
        rw [e1, e2]
        refine ⟨by rw [← g3.1]; exact i1, by rw [i2, g4, List.length_cons]; omega, by rw [i3, g3.2], i4, i5, i6⟩
    · rw [if_neg ho] at h
      cases h
theorem run_mem (i : Int) : ∀ (w l r : List Int), runW l w = some r → l.Nodup → i ∈ l → i ∈ r
  | [], l, r, h, hn, hi => by obtain rfl := Option.some.inj h; exact hi
  | p :: w, l, r, h, hn, hi => by
    unfold runW at h
    by_cases ho : okAt l p
    · rw [if_pos ho] at h
      obtain ⟨g1, g2, _⟩ := less_step i l p ho hn hi
      exact run_mem i w (swp l p) r h g1 g2
    · rw [if_neg ho] at h
      cases h
theorem upTo_facts (n : Nat) (h3 : 3 ≤ n) (h6 : n ≤ 6) (i : Int) (h0 : 0 ≤ i) (hi : i < n) : (upTo n).Nodup ∧ i ∈ upTo n ∧ less i (upTo n) = upTo (n - 1) ∧ inv (upTo n) = 0 := by
  obtain ⟨j, rfl⟩ := Int.eq_ofNat_of_zero_le h0
  have key : ∀ n : Fin 7, 3 ≤ n.val → ∀ j : Fin 6, j.val < n.val → (upTo n.val).Nodup ∧ ((j.val : Nat) : Int) ∈ upTo n.val ∧ less ((j.val : Nat) : Int) (upTo n.val) = upTo (n.val - 1) ∧ inv (upTo n.val) = 0 := by decide +kernel
  exact key ⟨n, by omega⟩ h3 ⟨j, by omega⟩ (by show j < n; omega)
theorem drop_all (n : Nat) (w r : List Int) (h3 : 3 ≤ n) (h6 : n ≤ 6) (hw : runW (upTo n) w = some r) (hl : 2 * w.length = n * (n - 1)) (i : Int) (h0 : 0 ≤ i) (hi : i < n) :
    fromW (upTo (n - 1)) (outOf i (swL (upTo n) w)) = some (dropL i (upTo n) w) ∧ 2 * (dropL i (upTo n) w).length = (n - 1) * (n - 2) ∧ (outOf i (swL (upTo n) w)).length = (dropL i (upTo n) w).length := by
  obtain ⟨f1, f2, f3, f4⟩ := upTo_facts n h3 h6 i h0 hi
  obtain ⟨g1, g2, g3, g4, g5, g6⟩ := drop_run i w (upTo n) r hw f1 f2
  rw [f3] at g1
  refine ⟨g1, ?_, g6⟩
  have e0 : inv (but i (upTo n)) = 0 := by have := inv_but_le i (upTo n); omega
  have ln : (upTo n).length = n := by simp [upTo]
  have lr : r.length = n := by omega
  have b1 := inv_but i r g4
  have hir : i ∈ r := run_mem i w (upTo n) r hw f1 f2
  have b2 := inv_le (but i r)
  have b3 := but_length_mem g4 hir
  have b4 : (but i r).length = n - 1 := by omega
  rw [b4] at b2
  have : n = 3 ∨ n = 4 ∨ n = 5 ∨ n = 6 := by omega
  obtain rfl | rfl | rfl | rfl := this <;> simp at hl b2 b1 ⊢ <;> omega
theorem idx_from (l : List Int) (x : Int) : ∀ i, i < l.length → (l.drop i).idxOf x + i = if rd l (i : Int) = x then i else (l.drop (i + 1)).idxOf x + (i + 1) := by
  intro i hi
  rw [drop_rd l i hi, List.idxOf_cons]
  by_cases h : rd l (i : Int) = x
  · rw [if_pos h]; simp [h]
  · rw [if_neg h]
    have : (rd l (i : Int) == x) = false := by simpa using h
    rw [this]
    simp
    omega
theorem l12Place_idx (l : List Int) (hl : l.length ≤ 1000000) (x : Int) (hx : x ∈ l) : Ev (fun k => spec_l12Place.f k l x) (l.idxOf x : Int) := by
  have key : ∀ d i, i + d = l.length → x ∈ l.drop i → Ev (fun k => spec_l12Place.l0 k l x i) (((l.drop i).idxOf x + i : Nat) : Int) := by
    intro d
    induction d with
    | zero =>
      intro i hi hm
      rw [List.drop_of_length_le (by omega)] at hm
      cases hm
    | succ d ih =>
      intro i hi hm
      rw [idx_from l x i (by omega)]
      refine Ev.step (fun k => spec_l12Place.l0.eq_2 ..) (Ev.ite_pos (by omega) (Ev.ite_pos (by omega) ?_))
      by_cases h : rd l (i : Int) = x
      · rw [if_pos h]
        exact Ev.ite_pos h (Ev.now _)
      · rw [if_neg h]
        refine Ev.ite_neg h ?_
        rw [wrap_nat i (by omega)]
        refine ih (i + 1) (by omega) ?_
        rw [drop_rd l i (by omega)] at hm
        exact (List.mem_cons.1 hm).resolve_left (fun e => h e.symm)
  have h := key l.length 0 (by omega) (by simpa using hx)
  unfold spec_l12Place.f
  simpa using h
theorem index_idx (l : List Int) (hl : l.length ≤ 1000000) (x : Int) (hx : x ∈ l) : Ev (fun k => slices_Index_Sint_int.f k l x) (l.idxOf x : Int) := by
  have key : ∀ d i, i + d = l.length → x ∈ l.drop i → Ev (fun k => slices_Index_Sint_int.l0 k l x (l.length : Int) i) (((l.drop i).idxOf x + i : Nat) : Int) := by
    intro d
    induction d with
    | zero =>
      intro i hi hm
      rw [List.drop_of_length_le (by omega)] at hm
      cases hm
    | succ d ih =>
      intro i hi hm
      rw [idx_from l x i (by omega)]
      refine Ev.step (fun k => slices_Index_Sint_int.l0.eq_2 ..) (Ev.ite_pos (by omega) (Ev.ite_pos (by omega) (Ev.ite_pos (by omega) ?_)))
      by_cases h : rd l (i : Int) = x
      · rw [if_pos h]
        exact Ev.ite_pos h.symm (Ev.now _)
      · rw [if_neg h]
        refine Ev.ite_neg (fun e => h e.symm) ?_
        rw [wrap_nat i (by omega)]
        refine ih (i + 1) (by omega) ?_
        rw [drop_rd l i (by omega)] at hm
        exact (List.mem_cons.1 hm).resolve_left (fun e => h e.symm)
  have := key l.length 0 (by omega) (by simpa using hx)
  unfold slices_Index_Sint_int.f
  simpa using this
theorem wrap01 : wrap64 (0 + 1) = 1 := wrap_in (by omega) (by omega)
theorem wrap12 : wrap64 (1 + 1) = 2 := wrap_in (by omega) (by omega)
theorem contains2_ev (u v x : Int) : Ev (fun k => slices_Contains_Sint_int.f k [u, v] x) (([u, v] : List Int).contains x) := by
  unfold slices_Contains_Sint_int.f slices_Index_Sint_int.f
  by_cases h0 : x = u
  · refine Ev.bind (a := 0) (Ev.step (fun k => slices_Index_Sint_int.l0.eq_2 ..) (Ev.ite_pos (by simp) (Ev.ite_pos (by simp) (Ev.ite_pos (by simp) (Ev.ite_pos (by simpa [rd] using h0) (Ev.now _)))))) (Ev.const ?_)
    simp [h0]
  · by_cases h1 : x = v
    · refine Ev.bind (a := 1) (Ev.step (fun k => slices_Index_Sint_int.l0.eq_2 ..) (Ev.ite_pos (by simp) (Ev.ite_pos (by simp) (Ev.ite_pos (by simp) (Ev.ite_neg (by simpa [rd] using h0) ?_))))) (Ev.const (by simp [h1]))
      rw [wrap01]
      exact Ev.step (fun k => slices_Index_Sint_int.l0.eq_2 ..) (Ev.ite_pos (by simp) (Ev.ite_pos (by simp) (Ev.ite_pos (by simp) (Ev.ite_pos (by simpa [rd] using h1) (Ev.now _)))))
    · refine Ev.bind (a := -1) (Ev.step (fun k => slices_Index_Sint_int.l0.eq_2 ..) (Ev.ite_pos (by simp) (Ev.ite_pos (by simp) (Ev.ite_pos (by simp) (Ev.ite_neg (by simpa [rd] using h0) ?_))))) (Ev.const (by simp [h0, h1]))
      rw [wrap01]
      refine Ev.step (fun k => slices_Index_Sint_int.l0.eq_2 ..) (Ev.ite_pos (by simp) (Ev.ite_pos (by simp) (Ev.ite_pos (by simp) (Ev.ite_neg (by simpa [rd] using h1) ?_))))
      rw [wrap12]
      exact Ev.step (fun k => slices_Index_Sint_int.l0.eq_2 ..) (Ev.ite_neg (by simp) (Ev.now _))
theorem rd_lt (l : List Int) (i : Nat) (h : i < l.length) : rd l (i : Int) = l[i] := by
  unfold rd
  rw [Int.toNat_natCast, getD_lt _ _ _ h]
theorem toIntS_ev (l : List Int) (hl : l.length ≤ 1048576) : Ev (fun k => laws_toIntS.f k l) l := by
  have key := Ev.loop (fun i k => laws_toIntS.l0 k l (l.take i ++ List.replicate (l.length - i) 0) i) l.length l ?_ ?_ 0 (by omega)
  · unfold laws_toIntS.f
    simp only [Int.toNat_natCast]
    exact Ev.ite_pos (by omega) (Ev.ite_pos (by omega) (by simpa using key))
  · refine Ev.step (fun k => laws_toIntS.l0.eq_2 ..) ?_
    refine Ev.ite_neg (by omega) (Ev.const ?_)
    simp
  · intro i hi ih
    refine Ev.step (fun k => laws_toIntS.l0.eq_2 ..) ?_
    refine Ev.ite_pos (by omega) (Ev.ite_pos (by omega) (Ev.ite_pos (by simp; omega) ?_))
    rw [wrap_nat i (by omega), Int.toNat_natCast, rd_lt l i hi, fill_set l 0 l.length i rfl hi]
    exact ih
theorem eqIntS_self (l : List Int) (hl : l.length ≤ 1048576) : Ev (fun k => laws_eqIntS.f k l l) true := by
  unfold laws_eqIntS.f
  refine Ev.ite_pos rfl ?_
  refine Ev.loop (fun i k => laws_eqIntS.l0 k l l i) l.length true ?_ ?_ 0 (by omega)
  · refine Ev.step (fun k => laws_eqIntS.l0.eq_2 ..) ?_
    exact Ev.ite_neg (by omega) (Ev.now _)
  · intro i hi ih
    refine Ev.step (fun k => laws_eqIntS.l0.eq_2 ..) ?_
    refine Ev.ite_pos (by omega) (Ev.ite_pos (by omega) (Ev.ite_pos (by omega) (Ev.ite_pos rfl ?_)))
    rw [wrap_nat i (by omega)]
    exact ih
def marks (n : Nat) : List Int := (List.range n).map fun i => ((i + 1 : Nat) : Int)
theorem marks_length (n : Nat) : (marks n).length = n := by simp [marks]
theorem rd_marks (n i : Nat) (h : i < n) : rd (marks n) (i : Int) = ((i + 1 : Nat) : Int) := by
  rw [rd_lt _ _ (by rw [marks_length]; exact h)]
  simp [marks]
theorem marks_set (l : List Int) (n i : Nat) (hl : l.length = n) (hi : i < n) : (marks i ++ l.drop i).set i ((i + 1 : Nat) : Int) = marks (i + 1) ++ l.drop (i + 1) := by
  have h0 : (marks i).length = i := marks_length i
  rw [List.set_append_right _ _ (by omega), h0, Nat.sub_self, List.drop_eq_getElem_cons (by omega), List.set_cons_zero]
  simp [marks, List.range_succ]
theorem markIntS_ev (l : List Int) (hl : l.length ≤ 1048576) : Ev (fun k => laws_markIntS.f k l 1) (((l.length + 1 : Nat) : Int), marks l.length) := by
  have key := Ev.loop (fun i k => laws_markIntS.l0 k (marks i ++ l.drop i) ((i + 1 : Nat) : Int) i) l.length (((l.length + 1 : Nat) : Int), marks l.length) ?_ ?_ 0 (by omega)
  · unfold laws_markIntS.f
    simpa [marks] using key
  · refine Ev.step (fun k => laws_markIntS.l0.eq_2 ..) ?_
    refine Ev.ite_neg (by simp [marks_length]) (Ev.const ?_)
    simp
  · intro i hi ih
    refine Ev.step (fun k => laws_markIntS.l0.eq_2 ..) ?_
    refine Ev.ite_pos (by simp [marks_length]; omega) (Ev.ite_pos (by omega) ?_)
    rw [wrap_nat i (by omega), wrap_nat (i + 1) (by omega), Int.toNat_natCast, marks_set l l.length i rfl hi]
    exact ih
theorem heldIntS_ev (n : Nat) (hl : n ≤ 1048576) : Ev (fun k => laws_heldIntS.f k (marks n) 1) ((n + 1 : Nat) : Int) := by
  have key := Ev.loop (fun i k => laws_heldIntS.l0 k (marks n) ((i + 1 : Nat) : Int) i) n ((n + 1 : Nat) : Int) ?_ ?_ 0 (by omega)
  · exact key
  · refine Ev.step (fun k => laws_heldIntS.l0.eq_2 ..) ?_
    exact Ev.ite_neg (by simp [marks_length]) (Ev.now _)
  · intro i hi ih
    refine Ev.step (fun k => laws_heldIntS.l0.eq_2 ..) ?_
    refine Ev.ite_pos (by simp [marks_length]; omega) (Ev.ite_pos (by omega) (Ev.ite_pos (rd_marks n i hi) ?_))
    rw [wrap_nat i (by omega), wrap_nat (i + 1) (by omega)]
    exact ih
end Go.Proofs.Ytcoommffjbbebaa.Pure
namespace Go.Proofs.Ytcoommffjbbebaa.Pure
set_option linter.unusedSimpArgs false
set_option linter.unusedVariables false
open Go.RowKit Go.Proofs.YtcoommffjbbebaaW.PrintWords Go.Proofs.Ytcoommffjbbebaa.P Go.Proofs.Ytcoommffjbbebaa.Pl Go.Proofs.Ytcoommffjbbebaa.Rk
def dropR (n : Int) (w : List Int) (i : Int) : List Int × Bool := if isW n w = true ∧ n ≠ 3 ∧ 0 ≤ i ∧ i < n then (dropL i (upTo n.toNat) w, true) else ([], false)
theorem dropL_length (i : Int) : ∀ (w l : List Int), (dropL i l w).length ≤ w.length
  | [], l => Nat.le_refl _
  | p :: w, l => by
    unfold dropL
    have := dropL_length i w (swp l p)
    split <;> simp only [List.length_cons] <;> omega
theorem dropR_length (n : Int) (w : List Int) (i : Int) : (dropR n w i).1.length ≤ 100 := by
  unfold dropR
  by_cases h : isW n w = true ∧ n ≠ 3 ∧ 0 ≤ i ∧ i < n
  · obtain ⟨h3, h6, hl⟩ := isW_bounds h.1
    rw [if_pos h]
    have := dropL_length i w (upTo n.toNat)
    show (dropL i (upTo n.toNat) w).length ≤ 100
    omega
  · rw [if_neg h]
    simp
theorem spec_loopD (w : List Int) (hw : w.length ≤ 1000) (i : Int) : ∀ d j, j + d = w.length → ∀ (l r acc : List Int), runW l (w.drop j) = some r → l.Nodup → i ∈ l → l.length ≤ 1000 → 2 ≤ l.length → acc.length ≤ j → Ev (fun k => spec_DropWire.l0 k w i acc l j) (acc ++ dropL i l (w.drop j), true)
  | 0, j, hj, l, r, acc, hr, hn, hi, hl, h2, ha => by
    refine Ev.step (fun k => spec_DropWire.l0.eq_2 ..) (Ev.ite_neg (by omega) (Ev.const ?_))
    rw [List.drop_of_length_le (by omega)]
    simp [dropL]
  | d + 1, j, hj, l, r, acc, hr, hn, hi, hl, h2, ha => by
    have ed := drop_rd w j (by omega)
    rw [ed] at hr ⊢
    obtain ⟨p, hp⟩ : ∃ p, p = rd w (j : Int) := ⟨_, rfl⟩
    rw [← hp] at hr ⊢
    unfold runW at hr
    by_cases ho : okAt l p
    · rw [if_pos ho] at hr
      obtain ⟨g1, g2, g3, g4⟩ := less_step i l p ho hn hi
      obtain ⟨o1, o2, o3⟩ := ho
      have hw1 : wrap64 (p + 1) = p + 1 := wrap_in (by omega) (by omega)
      have hsw := l12Swap_eq l p hl h2
      rw [if_pos (show okAt l p from ⟨o1, o2, o3⟩)] at hsw
      refine Ev.step (fun k => spec_DropWire.l0.eq_2 ..) (Ev.ite_pos (by omega) (Ev.ite_pos (by omega) (Ev.ite_pos (by rw [← hp]; omega) (Ev.ite_pos (by rw [← hp]; omega) ?_))))
      rw [← hp, hw1]
      by_cases hA : rd l p = i
      · refine Ev.ite_pos hA (Ev.step (fun k => spec_DropWire.j2.eq_2 ..) (Ev.ite_neg (by simp) (Ev.bind0 hsw ?_)))
        rw [wrap_nat j (by omega), dropL, if_neg (fun h => h.1 hA)]
        exact spec_loopD w hw i d (j + 1) (by omega) (swp l p) r acc hr g1 g2 (by rw [swp_length]; exact hl) (by rw [swp_length]; exact h2) (by omega)
      · refine Ev.ite_neg hA (Ev.ite_pos (by omega) (Ev.ite_pos (by omega) ?_))
        by_cases hB : rd l (p + 1) = i
        · refine Ev.step (fun k => spec_DropWire.j2.eq_2 ..) (Ev.ite_neg (by simp [hB]) (Ev.bind0 hsw ?_))
          rw [wrap_nat j (by omega), dropL, if_neg (fun h => h.2 hB)]
          exact spec_loopD w hw i d (j + 1) (by omega) (swp l p) r acc hr g1 g2 (by rw [swp_length]; exact hl) (by rw [swp_length]; exact h2) (by omega)
        · obtain ⟨bt, hbt⟩ : ∃ b : Int, b = if (l.idxOf i : Int) < p then 1 else 0 := ⟨_, rfl⟩
          have hb : bt ≤ 1 ∧ 0 ≤ bt := by rw [hbt]; split <;> omega
          have ed2 : dropL i l (p :: w.drop (j + 1)) = (p - bt) :: dropL i (swp l p) (w.drop (j + 1)) := by rw [dropL, if_pos ⟨hA, hB⟩, hbt]
          refine Ev.step (fun k => spec_DropWire.j2.eq_2 ..) (Ev.ite_pos (by simpa using hB) (Ev.bind (l12Place_idx l (by omega) i hi) (Ev.bind0 (a := bt) ?_ (Ev.ite_pos (by omega) (Ev.bind0 hsw ?_)))))
          · unfold spec_l1Bit.f
            rw [hbt]
            by_cases hlt : (l.idxOf i : Int) < p
            · simp [hlt]
            · simp [hlt]
          · rw [wrap_nat j (by omega), wrap_in (n := p - bt) (by omega) (by omega), ed2]
            have h := spec_loopD w hw i d (j + 1) (by omega) (swp l p) r (acc ++ [p - bt]) hr g1 g2 (by rw [swp_length]; exact hl) (by rw [swp_length]; exact h2) (by rw [List.length_append, List.length_singleton]; omega)
            rw [List.append_assoc] at h
            exact h
    · rw [if_neg ho] at hr
      cases hr
theorem isW_run {n : Nat} {w : List Int} (h : isW n w = true) : ∃ r, runW (upTo n) w = some r ∧ 3 ≤ n ∧ n ≤ 6 ∧ 2 * w.length = n * (n - 1) := by
  unfold isW at h
  rw [Bool.and_eq_true, decide_eq_true_eq, Int.toNat_natCast] at h
  obtain ⟨⟨h3, h6, hc⟩, hr⟩ := h
  obtain ⟨r, hr⟩ := Option.isSome_iff_exists.1 hr
  have : n = 3 ∨ n = 4 ∨ n = 5 ∨ n = 6 := by omega
  refine ⟨r, hr, by omega, by omega, ?_⟩
  obtain rfl | rfl | rfl | rfl := this
  · have : Int.tdiv (((3 : Nat) : Int) * (((3 : Nat) : Int) - 1)) 2 = 3 := by decide
    omega
  · have : Int.tdiv (((4 : Nat) : Int) * (((4 : Nat) : Int) - 1)) 2 = 6 := by decide
    omega
  · have : Int.tdiv (((5 : Nat) : Int) * (((5 : Nat) : Int) - 1)) 2 = 10 := by decide
    omega
  · have : Int.tdiv (((6 : Nat) : Int) * (((6 : Nat) : Int) - 1)) 2 = 15 := by decide
    omega
theorem spec_DropWire_ev (n : Int) (w : List Int) (i : Int) : Ev (fun k => spec_DropWire.f k n w i) (dropR n w i) := by
  unfold spec_DropWire.f dropR
  refine Ev.bind (spec_IsWiring_ev n w) ?_
  by_cases hw : isW n w = true
  · obtain ⟨h3, h6, hl⟩ := isW_bounds hw
    obtain ⟨m, rfl⟩ := Int.eq_ofNat_of_zero_le (show 0 ≤ n by omega)
    obtain ⟨r, hr, _, _, _⟩ := isW_run hw
    rw [hw]
    refine Ev.ite_pos rfl ?_
    by_cases h : (m : Int) = 3
    · rw [if_neg (fun x => x.2.1 h)]
      exact Ev.ite_pos h (Ev.step (fun k => spec_DropWire.j0.eq_2 ..) (Ev.ite_pos rfl (Ev.now _)))
    · refine Ev.ite_neg h ?_
      rw [wrap_in (n := (m : Int) - 1) (by omega) (by omega)]
      refine Ev.bind0 (a := decide (0 ≤ i ∧ i ≤ (m : Int) - 1)) ?_ ?_
      · unfold spec_l1In.f
        by_cases h0 : i ≥ 0
        · rw [if_pos h0]; simp [h0]
        · rw [if_neg h0]; simp [show ¬ 0 ≤ i by omega]
      · by_cases hi : 0 ≤ i ∧ i < m
        · obtain ⟨f1, f2, _, _⟩ := upTo_facts m (by omega) (by omega) i hi.1 hi.2
          rw [if_pos ⟨rfl, h, hi.1, hi.2⟩, Int.toNat_natCast]
          refine Ev.step (fun k => spec_DropWire.j0.eq_2 ..) (Ev.ite_neg (by simp; omega) (Ev.bind (spec_l12Start_ev m (by omega)) ?_))
          have h := spec_loopD w (by omega) i w.length 0 (by omega) (upTo m) r [] (by simpa using hr) f1 f2 (by rw [upTo_length]; omega) (by rw [upTo_length]; omega) (by simp)
          simpa using h
        · rw [if_neg (fun x => hi ⟨x.2.2.1, x.2.2.2⟩)]
          exact Ev.step (fun k => spec_DropWire.j0.eq_2 ..) (Ev.ite_pos (by simp; omega) (Ev.now _))
  · rw [if_neg (fun h => hw h.1)]
    exact Ev.ite_neg hw (Ev.step (fun k => spec_DropWire.j0.eq_2 ..) (Ev.ite_pos rfl (Ev.now _)))
theorem run_sw_ev (n : Nat) (hn : 2 ≤ n) (hn6 : n ≤ 1000) (w : List Int) (hw : w.length ≤ 1000) : ∀ d i, i + d = w.length → ∀ (l r : List Int) (xs : List (List Int)), runW l (w.drop i) = some r → l.length = n → xs.length ≤ i → Ev (fun k => impl_run_sw.l0 k n l xs w w.length i) (true, xs ++ swL l (w.drop i))
  | 0, i, hi, l, r, xs, hr, hl, hx => by
    refine Ev.step (fun k => impl_run_sw.l0.eq_2 ..) (Ev.ite_neg (by omega) (Ev.const ?_))
    rw [List.drop_of_length_le (by omega)]
    simp [swL]
  | d + 1, i, hi, l, r, xs, hr, hl, hx => by
    refine Ev.step (fun k => impl_run_sw.l0.eq_2 ..) ?_
    rw [drop_rd w i (by omega)] at hr ⊢
    generalize rd w (i : Int) = p at hr ⊢
    unfold runW at hr
    by_cases ho : okAt l p
    · rw [if_pos ho] at hr
      obtain ⟨o1, o2, o3⟩ := ho
      refine Ev.ite_pos (by omega) (Ev.ite_pos (by omega) (Ev.ite_pos (by omega) ?_))
      rw [wrap_in (n := (n : Int) - 2) (by omega) (by omega), wrap_in (n := p + 1) (by omega) (by omega)]
      refine Ev.ite_neg (by omega) (Ev.ite_neg (by omega) (Ev.ite_pos (by omega) (Ev.ite_pos (by omega) (Ev.ite_pos (by omega) (Ev.ite_pos (by omega) (Ev.ite_neg (by omega) (Ev.ite_pos (by omega) ?_)))))))
      rw [wrap_nat i (by omega), swL]
      have h := run_sw_ev n hn hn6 w hw d (i + 1) (by omega) (swp l p) r (xs ++ [[rd l p, rd l (p + 1)]]) hr (by rw [swp_length]; exact hl) (by rw [List.length_append, List.length_singleton]; omega)
      rw [List.append_assoc] at h
      exact h
    · rw [if_neg ho] at hr
      cases hr
theorem swL_len : ∀ (w l : List Int), (swL l w).length = w.length
  | [], _ => rfl
  | p :: w, l => by rw [swL, List.length_cons, List.length_cons, swL_len w]
theorem swL_form : ∀ (w l : List Int), (∀ x ∈ l, 0 ≤ x ∧ x ≤ 1000) → ∀ x ∈ swL l w, ∃ u v, x = [u, v] ∧ (0 ≤ u ∧ u ≤ 1000) ∧ (0 ≤ v ∧ v ≤ 1000)
  | [], _, _, x, hx => by cases hx
  | p :: w, l, hb, x, hx => by
    have hr : ∀ q, 0 ≤ rd l q ∧ rd l q ≤ 1000 := fun q => by
      unfold rd
      rcases Nat.lt_or_ge q.toNat l.length with h | h
      · rw [getD_lt _ _ _ h]; exact hb _ (List.getElem_mem h)
      · rw [List.getD_eq_getElem?_getD, List.getElem?_eq_none h]; exact ⟨Int.le_refl _, by decide⟩
    rcases List.mem_cons.1 hx with rfl | hx
    · exact ⟨_, _, rfl, hr p, hr (p + 1)⟩
    · refine swL_form w (swp l p) (fun y hy => ?_) x hx
      unfold swp at hy
      rcases List.mem_or_eq_of_mem_set hy with hy | rfl
      · rcases List.mem_or_eq_of_mem_set hy with hy | rfl
        · exact hb y hy
        · exact hr (p + 1)
      · exact hr p
theorem dropS_ev (i : Int) : ∀ s : List (List Int), (∀ x ∈ s, ∃ u v, x = [u, v] ∧ (0 ≤ u ∧ u ≤ 1000) ∧ (0 ≤ v ∧ v ≤ 1000)) → Ev (fun k => dropS k i s) (outOf i s)
  | [], _ => Ev.now _
  | x :: s, h => by
    obtain ⟨u, v, rfl, hu, hv⟩ := h x List.mem_cons_self
    have ih := dropS_ev i s (fun y hy => h y (List.mem_cons_of_mem _ hy))
    refine Ev.bind (contains2_ev u v i) (Ev.bind ih (Ev.const ?_))
    unfold outOf
    rw [List.filter_cons]
    cases hc : ([u, v] : List Int).contains i with
    | true => simp
    | false =>
      simp only [Bool.not_false, if_true, List.map_cons, Bool.false_eq_true, if_false]
      congr 2
      have e : ∀ z, 0 ≤ z ∧ z ≤ 1000 → decW i z = dec1 i z := fun z hz => by
        unfold decW dec1
        rw [wrap_in (by omega) (by omega)]
      simp [e u hu, e v hv]
theorem rdLL (L : List (List Int)) (j : Nat) (h : j < L.length) : rd_L5 L (j : Int) = L[j] := by
  unfold rd_L5
  rw [Int.toNat_natCast, getD_lt _ _ _ h]
theorem fromW_cons {l : List Int} {x : List Int} {s : List (List Int)} {out : List Int} (h : fromW l (x :: s) = some out) : x.length = 2 ∧ rd x 0 < rd x 1 ∧ l.idxOf (rd x 0) + 1 < l.length ∧ rd l ((l.idxOf (rd x 0) : Int) + 1) = rd x 1 ∧ ∃ o, fromW (swp l (l.idxOf (rd x 0))) s = some o ∧ out = (l.idxOf (rd x 0) : Int) :: o := by
  unfold fromW at h
  split at h
  · next hh =>
    obtain ⟨o, ho, e⟩ := Option.map_eq_some_iff.1 h
    exact ⟨hh.1, hh.2.1, hh.2.2.1, hh.2.2.2, o, ho, e.symm⟩
  · cases h
theorem from_ev (n : Nat) (hn : n ≤ 1000) (S : List (List Int)) (hS : S.length ≤ 1000) : ∀ d j, j + d = S.length → ∀ (l acc out : List Int), fromW l (S.drop j) = some out → l.length = n → acc.length ≤ j → Ev (fun k => impl_WiringFrom.l0 k n l acc S (S.length : Int) j) (acc ++ out, true)
  | 0, j, hj, l, acc, out, h, hl, ha => by
    refine Ev.step (fun k => impl_WiringFrom.l0.eq_2 ..) (Ev.ite_neg (by omega) (Ev.const ?_))
    rw [List.drop_of_length_le (by omega)] at h
    obtain rfl := Option.some.inj h
    simp
  | d + 1, j, hj, l, acc, out, h, hl, ha => by
    rw [List.drop_eq_getElem_cons (by omega)] at h
    obtain ⟨h2, hlt, hp, hx, o, ho, rfl⟩ := fromW_cons h
    refine Ev.step (fun k => impl_WiringFrom.l0.eq_2 ..) (Ev.ite_pos (by omega) (Ev.ite_pos (by omega) (Ev.ite_pos (by omega) ?_)))
    rw [rdLL S j (by omega)]
    generalize S[j] = x at h2 hlt hp hx ho ⊢
    generalize hq : l.idxOf (rd x 0) = q at hp hx ho ⊢
    have hmem : rd x 0 ∈ l := List.idxOf_lt_length_iff.1 (by omega)
    have hidx := index_idx l (by omega) (rd x 0) hmem
    rw [hq] at hidx
    refine Ev.ite_pos (by omega) (Ev.ite_pos (by omega) (Ev.ite_pos (by omega) (Ev.step (fun k => impl_WiringFrom.j2.eq_2 ..) (Ev.ite_pos (by simpa using hlt) (Ev.ite_pos (by omega) (Ev.bind hidx ?_))))))
    rw [wrap_in (n := (n : Int) - 1) (by omega) (by omega), wrap_nat q (by omega), wrap_nat j (by omega)]
    refine Ev.ite_neg (by omega) (Ev.ite_neg (by omega) (Ev.ite_pos (by omega) (Ev.ite_pos (by omega) (Ev.ite_pos (by omega) (Ev.ite_pos (by have e_ : ((q + 1 : Nat) : Int) = (q : Int) + 1 := (by omega); rw [e_]; exact hx) (Ev.ite_pos (by omega) (Ev.ite_pos (by omega) (Ev.ite_pos (by omega) ?_))))))))
    have h := from_ev n hn S hS d (j + 1) (by omega) (swp l (q : Int)) (acc ++ [(q : Int)]) o ho (by rw [swp_length]; exact hl) (by rw [List.length_append, List.length_singleton]; omega)
    rw [List.append_assoc] at h
    exact h
theorem impl_DropWire_ev (n : Int) (w : List Int) (i : Int) : Ev (fun k => impl_DropWire.f k n w i) (dropR n w i) := by
  unfold impl_DropWire.f dropR
  refine Ev.bind (impl_IsWiring_ev n w) ?_
  by_cases hw : isW n w = true
  · obtain ⟨h3, h6, hl⟩ := isW_bounds hw
    obtain ⟨m, rfl⟩ := Int.eq_ofNat_of_zero_le (show 0 ≤ n by omega)
    obtain ⟨r, hr, m3, m6, hlen⟩ := isW_run hw
    rw [hw]
    refine Ev.ite_pos rfl ?_
    by_cases h : (m : Int) = 3
    · rw [if_neg (fun x => x.2.1 h)]
      exact Ev.ite_pos h (Ev.now _)
    · refine Ev.ite_neg h (Ev.bind0 (a := decide (0 ≤ i ∧ i < m)) ?_ ?_)
      · unfold impl_isElement.f
        by_cases h0 : i ≥ 0
        · rw [if_pos h0]; simp [h0]
        · rw [if_neg h0]; simp [show ¬ 0 ≤ i by omega]
      · by_cases hi : 0 ≤ i ∧ i < m
        · rw [if_pos ⟨rfl, h, hi.1, hi.2⟩, Int.toNat_natCast]
          obtain ⟨g1, g2, g3⟩ := drop_all m w r (by omega) (by omega) hr hlen i hi.1 hi.2
          refine Ev.ite_pos (decide_eq_true hi) (Ev.bind (a := swL (upTo m) w) ?_ (Ev.ite_pos (by rw [swL_len]; omega) (Ev.bind (dropS_ev i _ (swL_form w (upTo m) (fun x hx => ?_))) ?_)))
          · unfold impl_SwapsOf.f
            refine Ev.bind (impl_IsWiring_ev (m : Int) w) ?_
            rw [hw]
            refine Ev.ite_pos rfl (Ev.bind (a := (true, swL (upTo m) w)) ?_ (Ev.now _))
            unfold impl_run_sw.f
            refine Ev.bind (impl_upTo_ev m (by omega)) ?_
            have h := run_sw_ev m (by omega) (by omega) w (by omega) w.length 0 (by omega) (upTo m) r [] (by simpa using hr) (upTo_length m) (by simp)
            simpa using h
          · obtain ⟨y, hy, rfl⟩ := List.mem_map.1 hx
            have := List.mem_range.1 hy
            omega
          · have e1 : wrap64 ((m : Int) - 1) = ((m - 1 : Nat) : Int) := by rw [wrap_in (by omega) (by omega)]; omega
            rw [e1]
            unfold impl_WiringFrom.f
            refine Ev.bind0 (a := true) ?_ (Ev.ite_pos rfl (Ev.step (fun k => impl_WiringFrom.j0.eq_2 ..) (Ev.ite_neg ?_ (Ev.bind (impl_upTo_ev (m - 1) (by omega)) ?_))))
            · unfold impl_isWires.f
              rw [if_pos (by omega)]
              simp
              omega
            · rw [g3]
              have : m = 4 ∨ m = 5 ∨ m = 6 := by omega
              generalize (dropL i (upTo m) w).length = L at g2
              obtain rfl | rfl | rfl := this
              · have : L = 3 := by omega
                subst this
                unfold wrap64
                decide
              · have : L = 6 := by omega
                subst this
                unfold wrap64
                decide
              · have : L = 10 := by omega
                subst this
                unfold wrap64
                decide
            · have h := from_ev (m - 1) (by omega) (outOf i (swL (upTo m) w)) (by rw [g3]; have := dropL_length i w (upTo m); omega) _ 0 (Nat.zero_add _) (upTo (m - 1)) [] _ (by simpa using g1) (upTo_length _) (by simp)
              simpa using h
        · rw [if_neg (fun x => hi ⟨x.2.2.1, x.2.2.2⟩)]
          exact Ev.ite_neg (by simpa using hi) (Ev.now _)
  · rw [if_neg (fun h => hw h.1)]
    exact Ev.ite_neg hw (Ev.now _)
theorem FnExactDropWire (a0 : Int) (l1 : List Int) (a2 : Int) (_ : I64 a0) (h1 : l1.length ≤ 9223372036854775807) (_ : ∀ y ∈ l1, (Lit.int .i64 y).wf = true) (_ : I64 a2) : ∃ k, laws_FnExactDropWire.f k a0 l1 a2 = some true := by
  refine Ev.rounds (g := fun k => laws_FnExactDropWire.f k a0 l1 a2) ?_
  unfold laws_FnExactDropWire.f
  by_cases hs : (l1.length : Int) > 1048576
  · exact Ev.ite_pos hs (Ev.now _)
  refine Ev.ite_neg hs ?_
  have e1 := toIntS_ev l1 (by omega)
  have eS := spec_DropWire_ev a0 l1 a2
  have eI := impl_DropWire_ev a0 l1 a2
  have hR := dropR_length a0 l1 a2
  generalize dropR a0 l1 a2 = R at eS eI hR
  have eR := eqIntS_self R.1 (by omega)
  refine Ev.bind e1 (Ev.bind eS (Ev.bind e1 (Ev.bind eI (Ev.bind eR (Ev.ite_pos rfl ?_)))))
  refine Ev.step (fun k => laws_FnExactDropWire.j0.eq_2 ..) ?_
  refine Ev.ite_neg (by simp) (Ev.bind e1 (Ev.bind (eqIntS_self l1 (by omega)) (Ev.ite_pos rfl (Ev.bind (markIntS_ev l1 (by omega)) (Ev.ite_neg (by dsimp only; omega) (Ev.bind eR (Ev.ite_pos rfl ?_)))))))
  refine Ev.step (fun k => laws_FnExactDropWire.j1.eq_2 ..) ?_
  refine Ev.ite_neg (by simp) (Ev.bind (markIntS_ev R.1 (by omega)) (Ev.bind (heldIntS_ev _ (by omega)) (Ev.ite_neg (by omega) (Ev.ite_pos rfl (Ev.bind e1 (Ev.bind eI (Ev.bind eR (Ev.ite_pos rfl ?_))))))))
  refine Ev.step (fun k => laws_FnExactDropWire.j2.eq_2 ..) ?_
  exact Ev.ite_neg (by simp) (Ev.bind (heldIntS_ev _ (by omega)) (Ev.ite_neg (by omega) (Ev.ite_pos rfl (Ev.now _))))
end Go.Proofs.Ytcoommffjbbebaa.Pure
