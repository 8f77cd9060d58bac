/- Wirings in plain words: exchanges in a row of wires, done one after another; and that the program's and the reference's test of a wiring both come to it. -/
import Derived.Test.YtcojmladlkealaaPFSpecIsWiring
import Derived.Test.YtcojmladlkealaaPFImplIsWiring
import Derived.Test.YtcojmladlkealaaPl
namespace Go.Proofs.Ytcojmladlkealaa.Pure
open Go.RowKit Go.Proofs.YtcojmladlkealaaW.PrintWords Go.Proofs.Ytcojmladlkealaa.P Go.Proofs.Ytcojmladlkealaa.Pl
/-- May the wires at p and p + 1 be exchanged? -/
def okAt (l : List Int) (p : Int) : Prop := 0 ≤ p ∧ p ≤ (l.length : Int) - 2 ∧ rd l p ≤ rd l (p + 1)
instance (l : List Int) (p : Int) : Decidable (okAt l p) := by unfold okAt; infer_instance
def swp (l : List Int) (p : Int) : List Int := (l.set p.toNat (rd l (p + 1))).set (p + 1).toNat (rd l p)
theorem swp_length (l : List Int) (p : Int) : (swp l p).length = l.length := by simp [swp]
/-- The wires behind a list of exchanges, if each can be done. -/
def runW : List Int → List Int → Option (List Int)
  | l, [] => some l
  | l, p :: w => if okAt l p then runW (swp l p) w else none
def upTo (n : Nat) : List Int := (List.range n).map fun i : Nat => (i : Int)
theorem upTo_length (n : Nat) : (upTo n).length = n := by simp [upTo]
theorem upTo_succ (n : Nat) : upTo (n + 1) = upTo n ++ [(n : Int)] := by simp [upTo, List.range_succ]
/-- Is it a wiring of n wires? -/
def isW (n : Int) (w : List Int) : Bool := decide (3 ≤ n ∧ n ≤ 6 ∧ (w.length : Int) = Int.tdiv (n * (n - 1)) 2) && (runW (upTo n.toNat) w).isSome
theorem impl_upTo_ev (n : Nat) (h : n ≤ 1000) : Ev (fun k => impl_upTo.f k n) (upTo n) := by
  have key := Ev.loop (fun i k => impl_upTo.l0 k n (upTo i) i) n (upTo n) ?_ ?_ 0 (by omega)
  · exact key
  · refine Ev.step (fun k => impl_upTo.l0.eq_2 ..) ?_
    exact Ev.ite_neg (by omega) (Ev.now _)
  · intro i hi ih
    refine Ev.step (fun k => impl_upTo.l0.eq_2 ..) ?_
    refine Ev.ite_pos (by omega) (Ev.ite_pos (by rw [upTo_length]; omega) ?_)
    rw [wrap_nat i (by omega), ← upTo_succ]
    exact ih
theorem spec_l12Start_ev (n : Nat) (h : n ≤ 1000) : Ev (fun k => spec_l12Start.f k n) (upTo n) := by
  have key := Ev.loop (fun i k => spec_l12Start.l0 k n (upTo i) i) n (upTo n) ?_ ?_ 0 (by omega)
  · exact key
  · refine Ev.step (fun k => spec_l12Start.l0.eq_2 ..) ?_
    exact Ev.ite_neg (by omega) (Ev.now _)
  · intro i hi ih
    refine Ev.step (fun k => spec_l12Start.l0.eq_2 ..) ?_
    refine Ev.ite_pos (by omega) (Ev.ite_pos (by rw [upTo_length]; omega) ?_)
    rw [wrap_nat i (by omega), ← upTo_succ]
    exact ih
theorem l12Swap_eq (l : List Int) (p : Int) (hl : l.length ≤ 1000) (hn : 2 ≤ l.length) : spec_l12Swap.f l p = some (if okAt l p then (true, swp l p) else (false, l)) := by
  unfold spec_l12Swap.f spec_l1In.f
  rw [wrap_in (n := (l.length : Int) - 2) (by omega) (by omega)]
  by_cases h0 : p ≥ 0
  · rw [if_pos h0]
    by_cases h1 : p ≤ (l.length : Int) - 2
    · have hw : wrap64 (p + 1) = p + 1 := wrap_in (by omega) (by omega)
      simp only [hw, h1, decide_true, Option.bind_some, if_true]
      rw [if_pos (by omega), if_pos (by omega), if_pos (by omega), if_pos (by omega)]
      by_cases h2 : rd l p > rd l (p + 1)
      · rw [if_pos h2, if_neg (by unfold okAt; omega)]
      · rw [if_neg h2, if_pos (by unfold okAt; omega)]
        rfl
    · simp only [h1, decide_false, Option.bind_some]
      rw [if_neg (by simp), if_neg (by unfold okAt; omega)]
  · rw [if_neg h0]
    simp only [Option.bind_some]
    rw [if_neg (by simp), if_neg (by unfold okAt; omega)]
theorem drop_rd (w : List Int) (i : Nat) (h : i < w.length) : w.drop i = rd w (i : Int) :: w.drop (i + 1) := by
  rw [List.drop_eq_getElem_cons h]
  unfold rd
  rw [Int.toNat_natCast, getD_lt _ _ _ h]
theorem spec_loop (w : List Int) (hw : w.length ≤ 1000) : ∀ d i, i + d = w.length → ∀ l : List Int, l.length ≤ 1000 → 2 ≤ l.length → Ev (fun k => spec_IsWiring.l0 k w l i) (runW l (w.drop i)).isSome := by
  intro d
  induction d with
  | zero =>
    intro i hi l _ _
    refine Ev.step (fun k => spec_IsWiring.l0.eq_2 ..) ?_
    rw [List.drop_of_length_le (by omega)]
    exact Ev.ite_neg (by omega) (Ev.now _)
  | succ d ih =>
    intro i hi l hl h2
    refine Ev.step (fun k => spec_IsWiring.l0.eq_2 ..) ?_
    rw [drop_rd w i (by omega)]
    refine Ev.ite_pos (by omega) (Ev.ite_pos (by omega) (Ev.bind0 (l12Swap_eq l _ hl h2) ?_))
    unfold runW
    by_cases ho : okAt l (rd w (i : Int))
    · rw [if_pos ho, if_pos ho, wrap_nat i (by omega)]
      exact Ev.ite_pos rfl (ih (i + 1) (by omega) _ (by rw [swp_length]; exact hl) (by rw [swp_length]; exact h2))
    · rw [if_neg ho, if_neg ho]
      exact Ev.ite_neg (by simp) (Ev.now _)
theorem impl_loop (n : Nat) (hn : 2 ≤ n) (hn6 : n ≤ 1000) (w : List Int) (hw : w.length ≤ 1000) : ∀ d i, i + d = w.length → ∀ l : List Int, l.length = n → Ev (fun k => impl_run_impl_IsWiring_1.l0 k n l w w.length i) (runW l (w.drop i)).isSome := by
  intro d
  induction d with
  | zero =>
    intro i hi l _
    refine Ev.step (fun k => impl_run_impl_IsWiring_1.l0.eq_2 ..) ?_
    rw [List.drop_of_length_le (by omega)]
    exact Ev.ite_neg (by omega) (Ev.now _)
  | succ d ih =>
    intro i hi l hl
    refine Ev.step (fun k => impl_run_impl_IsWiring_1.l0.eq_2 ..) ?_
    rw [drop_rd w i (by omega)]
    generalize rd w (i : Int) = p
    refine Ev.ite_pos (by omega) (Ev.ite_pos (by omega) (Ev.ite_pos (by omega) ?_))
    rw [wrap_in (n := (n : Int) - 2) (by omega) (by omega)]
    unfold runW
    by_cases h0 : p < 0
    · rw [if_neg (by unfold okAt; omega)]
      exact Ev.ite_pos h0 (Ev.now _)
    refine Ev.ite_neg h0 ?_
    by_cases h1 : p > (n : Int) - 2
    · rw [if_neg (by unfold okAt; omega)]
      exact Ev.ite_pos h1 (Ev.now _)
    refine Ev.ite_neg h1 ?_
    rw [wrap_in (n := p + 1) (by omega) (by omega)]
    refine Ev.ite_pos (by omega) (Ev.ite_pos (by omega) (Ev.ite_pos (by omega) (Ev.ite_pos (by omega) ?_)))
    by_cases h2 : rd l p > rd l (p + 1)
    · rw [if_neg (by unfold okAt; omega)]
      exact Ev.ite_pos h2 (Ev.now _)
    refine Ev.ite_neg h2 (Ev.bind0 rfl ?_)
    rw [if_pos (by unfold okAt; omega), wrap_nat i (by omega)]
    exact ih (i + 1) (by omega) _ (by rw [← hl]; exact swp_length l p)
theorem count_small {n : Int} (h3 : 3 ≤ n) (h6 : n ≤ 6) : wrap64 (n * wrap64 (n - 1)) = n * (n - 1) ∧ wrap64 (Int.tdiv (n * (n - 1)) 2) = Int.tdiv (n * (n - 1)) 2 ∧ 0 ≤ Int.tdiv (n * (n - 1)) 2 ∧ Int.tdiv (n * (n - 1)) 2 ≤ 15 := by
  have : n = 3 ∨ n = 4 ∨ n = 5 ∨ n = 6 := by omega
  obtain rfl | rfl | rfl | rfl := this <;> (unfold wrap64; decide)
theorem spec_IsWiring_ev (n : Int) (w : List Int) : Ev (fun k => spec_IsWiring.f k n w) (isW n w) := by
  unfold spec_IsWiring.f isW
  by_cases h3 : n ≥ 3
  · by_cases h6 : n ≤ 6
    · obtain ⟨e1, e2, e3, e4⟩ := count_small h3 h6
      refine Ev.bind0 (a := true) (by unfold spec_l1In.f; rw [if_pos h3]; simp [h6]) (Ev.ite_pos rfl ?_)
      rw [e1, e2]
      refine Ev.step (fun k => spec_IsWiring.j0.eq_2 ..) ?_
      by_cases hc : (w.length : Int) = Int.tdiv (n * (n - 1)) 2
      · rw [show decide (3 ≤ n ∧ n ≤ 6 ∧ (w.length : Int) = Int.tdiv (n * (n - 1)) 2) = true from decide_eq_true ⟨h3, h6, hc⟩, Bool.true_and]
        refine Ev.ite_neg (by simp [hc]) ?_
        obtain ⟨m, rfl⟩ := Int.eq_ofNat_of_zero_le (show 0 ≤ n by omega)
        refine Ev.bind (spec_l12Start_ev m (by omega)) ?_
        exact spec_loop w (by omega) w.length 0 (by omega) (upTo m) (by rw [upTo_length]; omega) (by rw [upTo_length]; omega)
      · rw [show decide (3 ≤ n ∧ n ≤ 6 ∧ (w.length : Int) = Int.tdiv (n * (n - 1)) 2) = false from decide_eq_false (fun h => hc h.2.2), Bool.false_and]
        exact Ev.ite_pos (by simp [hc]) (Ev.now _)
    · rw [show decide (3 ≤ n ∧ n ≤ 6 ∧ (w.length : Int) = Int.tdiv (n * (n - 1)) 2) = false from decide_eq_false (fun h => h6 h.2.1), Bool.false_and]
      refine Ev.bind0 (a := false) (by unfold spec_l1In.f; rw [if_pos h3]; simp [h6]) (Ev.ite_neg (by simp) ?_)
      refine Ev.step (fun k => spec_IsWiring.j0.eq_2 ..) ?_
      exact Ev.ite_pos rfl (Ev.now _)
  · rw [show decide (3 ≤ n ∧ n ≤ 6 ∧ (w.length : Int) = Int.tdiv (n * (n - 1)) 2) = false from decide_eq_false (fun h => h3 h.1), Bool.false_and]
    refine Ev.bind0 (a := false) (by unfold spec_l1In.f; rw [if_neg h3]) (Ev.ite_neg (by simp) ?_)
    refine Ev.step (fun k => spec_IsWiring.j0.eq_2 ..) ?_
    exact Ev.ite_pos rfl (Ev.now _)
theorem impl_IsWiring_ev (n : Int) (w : List Int) : Ev (fun k => impl_IsWiring.f k n w) (isW n w) := by
  unfold impl_IsWiring.f isW
  by_cases h3 : n ≥ 3
  · by_cases h6 : n ≤ 6
    · obtain ⟨e1, e2, e3, e4⟩ := count_small h3 h6
      refine Ev.bind0 (a := true) (by unfold impl_isWires.f; rw [if_pos h3]; simp [h6]) (Ev.ite_pos rfl ?_)
      rw [e1, e2]
      by_cases hc : (w.length : Int) = Int.tdiv (n * (n - 1)) 2
      · rw [show decide (3 ≤ n ∧ n ≤ 6 ∧ (w.length : Int) = Int.tdiv (n * (n - 1)) 2) = true from decide_eq_true ⟨h3, h6, hc⟩, Bool.true_and]
        refine Ev.ite_pos hc ?_
        obtain ⟨m, rfl⟩ := Int.eq_ofNat_of_zero_le (show 0 ≤ n by omega)
        refine Ev.bind (a := (runW (upTo m) w).isSome) ?_ (Ev.now _)
        unfold impl_run_impl_IsWiring_1.f
        refine Ev.bind (impl_upTo_ev m (by omega)) ?_
        exact impl_loop m (by omega) (by omega) w (by omega) w.length 0 (by omega) (upTo m) (upTo_length m)
      · rw [show decide (3 ≤ n ∧ n ≤ 6 ∧ (w.length : Int) = Int.tdiv (n * (n - 1)) 2) = false from decide_eq_false (fun h => hc h.2.2), Bool.false_and]
        exact Ev.ite_neg hc (Ev.now _)
    · rw [show decide (3 ≤ n ∧ n ≤ 6 ∧ (w.length : Int) = Int.tdiv (n * (n - 1)) 2) = false from decide_eq_false (fun h => h6 h.2.1), Bool.false_and]
      refine Ev.bind0 (a := false) (by unfold impl_isWires.f; rw [if_pos h3]; simp [h6]) (Ev.ite_neg (by simp) (Ev.now _))
  · rw [show decide (3 ≤ n ∧ n ≤ 6 ∧ (w.length : Int) = Int.tdiv (n * (n - 1)) 2) = false from decide_eq_false (fun h => h3 h.1), Bool.false_and]
    exact Ev.bind0 (a := false) (by unfold impl_isWires.f; rw [if_neg h3]) (Ev.ite_neg (by simp) (Ev.now _))
theorem isW_bounds {n : Int} {w : List Int} (h : isW n w = true) : 3 ≤ n ∧ n ≤ 6 ∧ w.length ≤ 15 := by
  unfold isW at h
  rw [Bool.and_eq_true, decide_eq_true_eq] at h
  obtain ⟨⟨h3, h6, hc⟩, _⟩ := h
  exact ⟨h3, h6, by have := (count_small h3 h6).2.2.2; omega⟩
end Go.Proofs.Ytcojmladlkealaa.Pure
