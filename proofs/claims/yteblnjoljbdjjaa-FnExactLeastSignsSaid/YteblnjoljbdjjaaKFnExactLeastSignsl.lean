/- What the law FnExactLeastSigns reaches, part 12: functions as plain Lean functions with the proofs that their calls come to them, and plain lemmas over these. Put together by a program (wip/pack.py). -/
import Derived.Test.YteblnjoljbdjjaaKFnExactLeastSignsg
import Derived.Test.YteblnjoljbdjjaaKFnExactLeastSignsk
import Derived.Test.YteblnjoljbdjjaaKFnExactLeastSignsh
import Derived.Test.YteblnjoljbdjjaaKFnExactLeastSignsd
import Derived.Test.YteblnjoljbdjjaaKFnExactLeastSignse
import Derived.Test.YteblnjoljbdjjaaKFnExactLeastSignsc
import Derived.Test.YteblnjoljbdjjaaKFnExactLeastSignsj
import Derived.Test.YteblnjoljbdjjaaKFnExactLeastSignsi
import Derived.Sort.Grow
namespace Go.Proofs.Yteblnjoljbdjjaa.Pure
set_option linter.unusedSimpArgs false
set_option linter.unusedVariables false
open Go.RowKit Go.Proofs.YteblnjoljbdjjaaW.PrintWords Go.Proofs.Yteblnjoljbdjjaa.P Go.Proofs.Yteblnjoljbdjjaa.Pl
abbrev T3 := S122
def tri : Nat → List T3
  | 3 => [⟨0, 1, 2⟩]
  | 4 => [⟨0, 1, 2⟩, ⟨0, 1, 3⟩, ⟨0, 2, 3⟩, ⟨1, 2, 3⟩]
  | 5 => [⟨0, 1, 2⟩, ⟨0, 1, 3⟩, ⟨0, 1, 4⟩, ⟨0, 2, 3⟩, ⟨0, 2, 4⟩, ⟨0, 3, 4⟩, ⟨1, 2, 3⟩, ⟨1, 2, 4⟩, ⟨1, 3, 4⟩, ⟨2, 3, 4⟩]
  | 6 => [⟨0, 1, 2⟩, ⟨0, 1, 3⟩, ⟨0, 1, 4⟩, ⟨0, 1, 5⟩, ⟨0, 2, 3⟩, ⟨0, 2, 4⟩, ⟨0, 2, 5⟩, ⟨0, 3, 4⟩, ⟨0, 3, 5⟩, ⟨0, 4, 5⟩, ⟨1, 2, 3⟩, ⟨1, 2, 4⟩, ⟨1, 2, 5⟩, ⟨1, 3, 4⟩, ⟨1, 3, 5⟩, ⟨1, 4, 5⟩, ⟨2, 3, 4⟩, ⟨2, 3, 5⟩, ⟨2, 4, 5⟩, ⟨3, 4, 5⟩]
  | 7 => [⟨0, 1, 2⟩, ⟨0, 1, 3⟩, ⟨0, 1, 4⟩, ⟨0, 1, 5⟩, ⟨0, 1, 6⟩, ⟨0, 2, 3⟩, ⟨0, 2, 4⟩, ⟨0, 2, 5⟩, ⟨0, 2, 6⟩, ⟨0, 3, 4⟩, ⟨0, 3, 5⟩, ⟨0, 3, 6⟩, ⟨0, 4, 5⟩, ⟨0, 4, 6⟩, ⟨0, 5, 6⟩, ⟨1, 2, 3⟩, ⟨1, 2, 4⟩, ⟨1, 2, 5⟩, ⟨1, 2, 6⟩, ⟨1, 3, 4⟩, ⟨1, 3, 5⟩, ⟨1, 3, 6⟩, ⟨1, 4, 5⟩, ⟨1, 4, 6⟩, ⟨1, 5, 6⟩, ⟨2, 3, 4⟩, ⟨2, 3, 5⟩, ⟨2, 3, 6⟩, ⟨2, 4, 5⟩, ⟨2, 4, 6⟩, ⟨2, 5, 6⟩, ⟨3, 4, 5⟩, ⟨3, 4, 6⟩, ⟨3, 5, 6⟩, ⟨4, 5, 6⟩]
  | _ => []
theorem tri_some : ∀ n : Nat, n ≤ 7 → impl_triplesOf.f 500 n = some (tri n)
  | 0, _ => by kernel_rfl
  | 1, _ => by kernel_rfl
  | 2, _ => by kernel_rfl
  | 3, _ => by kernel_rfl
  | 4, _ => by kernel_rfl
  | 5, _ => by kernel_rfl
  | 6, _ => by kernel_rfl
  | 7, _ => by kernel_rfl
  | n + 8, h => absurd h (by omega)
theorem triplesOf_ev (n : Nat) (h : n ≤ 7) : Ev (fun k => impl_triplesOf.f k n) (tri n) := Ev.of (impl_triplesOf.mono _) (tri_some n h)
theorem tri_length (n : Nat) (h : n ≤ 7) : ((tri n).length : Int) = Int.tdiv ((n : Int) * (n - 1) * (n - 2)) 6 := by
  have : (List.range 8).all (fun n => ((tri n).length : Int) == Int.tdiv ((n : Int) * ((n : Int) - 1) * ((n : Int) - 2)) 6) = true := by decide +kernel
  rw [List.all_eq_true] at this
  simpa using this n (by simp; omega)
def okT (n : Nat) (t : T3) : Bool := decide (0 ≤ t.f0 ∧ t.f0 < t.f1 ∧ t.f1 < t.f2 ∧ t.f2 < n)
theorem tri_ok (n : Nat) (h : n ≤ 7) : (tri n).all (okT n) = true := by
  have : (List.range 8).all (fun n => (tri n).all (okT n)) = true := by decide +kernel
  rw [List.all_eq_true] at this
  exact this n (by simp; omega)
def put3 (l : List Int) (t : T3) (v : Int) : List Int := chiSet l t.f0 t.f1 t.f2 v
def fill (v : Nat → Int) : List T3 → Nat → List Int → List Int
  | [], _, l => l
  | t :: ts, m, l => fill v ts (m + 1) (put3 l t (v m))
theorem fill_length (v : Nat → Int) : ∀ ts m l, (fill v ts m l).length = l.length := by
  intro ts
  induction ts with
  | nil => intro m l; rfl
  | cons t ts ih => intro m l; rw [fill, ih]; exact chiSet_length ..
theorem fill_append (v : Nat → Int) : ∀ ts us m l, fill v (ts ++ us) m l = fill v us (m + ts.length) (fill v ts m l) := by
  intro ts
  induction ts with
  | nil => intro us m l; rfl
  | cons t ts ih => intro us m l; rw [List.cons_append, fill, ih, fill, List.length_cons]; congr 1; omega
def par (t : T3) (x y z : Int) : Option Bool :=
  if (x = t.f0 ∧ y = t.f1 ∧ z = t.f2) ∨ (x = t.f1 ∧ y = t.f2 ∧ z = t.f0) ∨ (x = t.f2 ∧ y = t.f0 ∧ z = t.f1) then some true
  else if (x = t.f0 ∧ y = t.f2 ∧ z = t.f1) ∨ (x = t.f2 ∧ y = t.f1 ∧ z = t.f0) ∨ (x = t.f1 ∧ y = t.f0 ∧ z = t.f2) then some false else none
theorem rd_set (l : List Int) (p q : Nat) (v : Int) (h : p < l.length) : rd (l.set p v) q = if p = q then v else rd l q := by
  unfold rd
  rw [Int.toNat_natCast, List.getD_eq_getElem?_getD, List.getD_eq_getElem?_getD, List.getElem?_set]
  by_cases e : p = q
  · subst e
    simp [h]
  · simp [e]
theorem chiA_nat (l : List Int) (x y z : Nat) : chiA l x y z = rd l ((1 + x * 49 + y * 7 + z : Nat) : Int) := by
  unfold chiA
  congr 1
  omega
theorem pos_iff (a b c x y z : Nat) (ha : a < 7) (hb : b < 7) (hc : c < 7) (hx : x < 7) (hy : y < 7) (hz : z < 7) : (1 + a * 49 + b * 7 + c = 1 + x * 49 + y * 7 + z) ↔ (x = a ∧ y = b ∧ z = c) := by
  constructor
  · intro h
    have h1 : c = z := by have := congrArg (· % 7) (show a * 49 + b * 7 + c + 1 = x * 49 + y * 7 + z + 1 by omega); omega
    have h2 : b = y := by subst h1; omega
    exact ⟨by omega, h2.symm, h1.symm⟩
  · rintro ⟨rfl, rfl, rfl⟩
    rfl
theorem chiA_set (l : List Int) (hl : l.length = 344) (a b c : Nat) (ha : a < 7) (hb : b < 7) (hc : c < 7) (ab : a ≠ b) (bc : b ≠ c) (ac : a ≠ c) (v : Int) (x y z : Nat) (hx : x < 7) (hy : y < 7) (hz : z < 7) :
    chiA (chiSet l a b c v) x y z = match par ⟨a, b, c⟩ x y z with | some true => v | some false => wrap64 (-v) | none => chiA l x y z := by
  rw [chiA_nat, chiA_nat]
  unfold chiSet setL par
  simp only [Int.toNat_natCast]
  rw [rd_set _ _ _ _ (by first | (simp only [List.length_set]; omega) | omega), rd_set _ _ _ _ (by first | (simp only [List.length_set]; omega) | omega), rd_set _ _ _ _ (by first | (simp only [List.length_set]; omega) | omega), rd_set _ _ _ _ (by first | (simp only [List.length_set]; omega) | omega), rd_set _ _ _ _ (by first | (simp only [List.length_set]; omega) | omega), rd_set _ _ _ _ (by first | (simp only [List.length_set]; omega) | omega)]
  simp only [pos_iff a b c x y z (by omega) (by omega) (by omega) hx hy hz, pos_iff b c a x y z (by omega) (by omega) (by omega) hx hy hz, pos_iff c a b x y z (by omega) (by omega) (by omega) hx hy hz, pos_iff a c b x y z (by omega) (by omega) (by omega) hx hy hz, pos_iff c b a x y z (by omega) (by omega) (by omega) hx hy hz, pos_iff b a c x y z (by omega) (by omega) (by omega) hx hy hz]
  simp only [Int.natCast_inj]
  clear hl
  generalize rd l ((1 + x * 49 + y * 7 + z : Nat) : Int) = o
  by_cases k0 : x = a ∧ y = b ∧ z = c
  · have := k0
    have n1 : ¬ (x = b ∧ y = c ∧ z = a) := by omega
    have n2 : ¬ (x = c ∧ y = a ∧ z = b) := by omega
    have n3 : ¬ (x = a ∧ y = c ∧ z = b) := by omega
    have n4 : ¬ (x = c ∧ y = b ∧ z = a) := by omega
    have n5 : ¬ (x = b ∧ y = a ∧ z = c) := by omega
    clear this
    simp only [(eq_true k0), (eq_false n1), (eq_false n2), (eq_false n3), (eq_false n4), (eq_false n5), if_true, if_false, or_true, true_or, or_false, false_or]
  by_cases k1 : x = b ∧ y = c ∧ z = a
  · have := k1
    have n2 : ¬ (x = c ∧ y = a ∧ z = b) := by omega
    have n3 : ¬ (x = a ∧ y = c ∧ z = b) := by omega
    have n4 : ¬ (x = c ∧ y = b ∧ z = a) := by omega
    have n5 : ¬ (x = b ∧ y = a ∧ z = c) := by omega
    clear this
    simp only [(eq_false k0), (eq_true k1), (eq_false n2), (eq_false n3), (eq_false n4), (eq_false n5), if_true, if_false, or_true, true_or, or_false, false_or]
  by_cases k2 : x = c ∧ y = a ∧ z = b
  · have := k2
    have n3 : ¬ (x = a ∧ y = c ∧ z = b) := by omega
    have n4 : ¬ (x = c ∧ y = b ∧ z = a) := by omega
    have n5 : ¬ (x = b ∧ y = a ∧ z = c) := by omega
    clear this
    simp only [(eq_false k0), (eq_false k1), (eq_true k2), (eq_false n3), (eq_false n4), (eq_false n5), if_true, if_false, or_true, true_or, or_false, false_or]
  by_cases k3 : x = a ∧ y = c ∧ z = b
  · have := k3
    have n4 : ¬ (x = c ∧ y = b ∧ z = a) := by omega
    have n5 : ¬ (x = b ∧ y = a ∧ z = c) := by omega
    clear this
    simp only [(eq_false k0), (eq_false k1), (eq_false k2), (eq_true k3), (eq_false n4), (eq_false n5), if_true, if_false, or_true, true_or, or_false, false_or]
  by_cases k4 : x = c ∧ y = b ∧ z = a
  · have := k4
    have n5 : ¬ (x = b ∧ y = a ∧ z = c) := by omega
    clear this
    simp only [(eq_false k0), (eq_false k1), (eq_false k2), (eq_false k3), (eq_true k4), (eq_false n5), if_true, if_false, or_true, true_or, or_false, false_or]
  by_cases k5 : x = b ∧ y = a ∧ z = c
  · have := k5
    clear this
    simp only [(eq_false k0), (eq_false k1), (eq_false k2), (eq_false k3), (eq_false k4), (eq_true k5), if_true, if_false, or_true, true_or, or_false, false_or]
  simp only [(eq_false k0), (eq_false k1), (eq_false k2), (eq_false k3), (eq_false k4), (eq_false k5), if_true, if_false, or_true, true_or, or_false, false_or]
theorem chiA_put3 (l : List Int) (hl : l.length = 344) (t : T3) (ht : okT 7 t = true) (v : Int) (x y z : Nat) (hx : x < 7) (hy : y < 7) (hz : z < 7) :
    chiA (put3 l t v) x y z = match par t x y z with | some true => v | some false => wrap64 (-v) | none => chiA l x y z := by
  obtain ⟨a, b, c⟩ := t
  unfold okT at ht
  rw [decide_eq_true_eq] at ht
  obtain ⟨h0, h1, h2, h3⟩ := ht
  dsimp only at h0 h1 h2 h3
  obtain ⟨a, rfl⟩ := Int.eq_ofNat_of_zero_le h0
  obtain ⟨b, rfl⟩ := Int.eq_ofNat_of_zero_le (show 0 ≤ b by omega)
  obtain ⟨c, rfl⟩ := Int.eq_ofNat_of_zero_le (show 0 ≤ c by omega)
  exact chiA_set l hl a b c (by omega) (by omega) (by omega) (by omega) (by omega) (by omega) v x y z hx hy hz
theorem chiN_put3 (l : List Int) (hl : l.length = 344) (t : T3) (v : Int) : chiN (put3 l t v) = chiN l := by
  have h : ∀ (l : List Int) (p : Nat) (u : Int), rd (l.set (1 + p) u) 0 = rd l 0 := by
    intro l p u
    unfold rd
    simp [List.getD_eq_getElem?_getD, List.getElem?_set, show ¬ (1 + p = 0) by omega]
  unfold put3 chiSet setL chiN
  simp only [Nat.add_assoc, h]
def src : List T3 → Nat → Int → Int → Int → Option (Nat × Bool)
  | [], _, _, _, _ => none
  | t :: ts, m, x, y, z => (src ts (m + 1) x y z).or ((par t x y z).map fun b => (m, b))
def sval (v : Nat → Int) (o : Int) : Option (Nat × Bool) → Int
  | some (m, true) => v m
  | some (m, false) => wrap64 (-v m)
  | none => o
theorem chiA_fill (v : Nat → Int) (x y z : Nat) (hx : x < 7) (hy : y < 7) (hz : z < 7) : ∀ (ts : List T3), ts.all (okT 7) = true → ∀ m l, l.length = 344 → chiA (fill v ts m l) x y z = sval v (chiA l x y z) (src ts m x y z) := by
  intro ts
  induction ts with
  | nil => intro _ m l _; rfl
  | cons t ts ih =>
    intro h m l hl
    rw [List.all_cons, Bool.and_eq_true] at h
    rw [fill, ih h.2 (m + 1) _ (by unfold put3; rw [chiSet_length]; exact hl), chiA_put3 l hl t h.1 (v m) x y z hx hy hz, src]
    cases hs : src ts (m + 1) x y z with
    | some p => obtain ⟨q, b⟩ := p; cases b <;> rfl
    | none =>
      cases hp : par t x y z with
      | none => rfl
      | some b => cases b <;> rfl
theorem chiN_fill (v : Nat → Int) : ∀ (ts : List T3) m l, l.length = 344 → chiN (fill v ts m l) = chiN l := by
  intro ts
  induction ts with
  | nil => intro m l _; rfl
  | cons t ts ih => intro m l hl; rw [fill, ih _ _ (by unfold put3; rw [chiSet_length]; exact hl), chiN_put3 l hl]
theorem okT_mono {n : Nat} (h : n ≤ 7) (t : T3) (ht : okT n t = true) : okT 7 t = true := by
  unfold okT at ht ⊢
  rw [decide_eq_true_eq] at ht ⊢
  omega
theorem tri_ok7 (n : Nat) (h : n ≤ 7) : (tri n).all (okT 7) = true := by
  have := tri_ok n h
  rw [List.all_eq_true] at this ⊢
  exact fun t ht => okT_mono h t (this t ht)
theorem chiA_new (n : Int) (x y z : Nat) (hx : x < 7) (hy : y < 7) (hz : z < 7) : chiA (chiNew n) x y z = 0 := by
  rw [chiA_nat, show 1 + x * 49 + y * 7 + z = (x * 49 + y * 7 + z) + 1 by omega]
  unfold rd chiNew
  rw [Int.toNat_natCast, List.getD_cons_succ, List.getD_eq_getElem?_getD, List.getElem?_replicate]
  rw [if_pos (by omega)]
  rfl
def isPM (s : ByteArray) (m : Nat) : Bool := bt s (m : Int) == 43 || bt s (m : Int) == 45
def isS (n : Int) (s : ByteArray) : Bool := decide (3 ≤ n ∧ n ≤ 7 ∧ (s.size : Int) = Int.tdiv (n * (n - 1) * (n - 2)) 6) && (List.range s.size).all (isPM s)
theorem count3 {n : Int} (h3 : 3 ≤ n) (h7 : n ≤ 7) : wrap64 (wrap64 (n * wrap64 (n - 1)) * wrap64 (n - 2)) = n * (n - 1) * (n - 2) ∧ wrap64 (Int.tdiv (n * (n - 1) * (n - 2)) 6) = Int.tdiv (n * (n - 1) * (n - 2)) 6 ∧ 0 ≤ Int.tdiv (n * (n - 1) * (n - 2)) 6 ∧ Int.tdiv (n * (n - 1) * (n - 2)) 6 ≤ 35 := by
  have : n = 3 ∨ n = 4 ∨ n = 5 ∨ n = 6 ∨ n = 7 := by omega
  obtain rfl | rfl | rfl | rfl | rfl := this <;> (unfold wrap64; decide)
theorem range_drop' (n i : Nat) (h : i < n) : (List.range n).drop i = i :: (List.range n).drop (i + 1) := by
  rw [List.drop_eq_getElem_cons (by simpa using h)]
  simp
theorem l1In_is (x a b : Int) : spec_l1In.f x a b = some (decide (a ≤ x ∧ x ≤ b)) := by
  unfold spec_l1In.f
  by_cases h : x ≥ a
  · rw [if_pos h]
    simp [h]
  · rw [if_neg h]
    simp [show ¬ a ≤ x by omega]
theorem spec_AreSigns_ev (n : Int) (s : ByteArray) : Ev (fun k => spec_AreSigns.f k n s) (isS n s) := by
  unfold spec_AreSigns.f isS
  have no : ∀ x, Ev (fun k => spec_AreSigns.j0 k true n x) false := fun x => Ev.step (fun k => spec_AreSigns.j0.eq_2 ..) (Ev.ite_pos rfl (Ev.now _))
  by_cases h : 3 ≤ n ∧ n ≤ 7
  · obtain ⟨e1, e2, e3, e4⟩ := count3 h.1 h.2
    refine Ev.bind0 (l1In_is ..) (Ev.ite_pos (decide_eq_true h) ?_)
    rw [e1, e2]
    by_cases hc : (s.size : Int) = Int.tdiv (n * (n - 1) * (n - 2)) 6
    · rw [show decide (3 ≤ n ∧ n ≤ 7 ∧ (s.size : Int) = Int.tdiv (n * (n - 1) * (n - 2)) 6) = true from decide_eq_true ⟨h.1, h.2, hc⟩, Bool.true_and]
      refine Ev.step (fun k => spec_AreSigns.j0.eq_2 ..) (Ev.ite_neg (by simp [hc]) ?_)
      have key := Ev.loop_to (fun i k => spec_AreSigns.l0 k i n s) s.size (fun i => ((List.range s.size).drop i).all (isPM s)) ?_ ?_ 0 (by omega)
      · simpa using key
      · refine Ev.step (fun k => spec_AreSigns.l0.eq_2 ..) (Ev.ite_neg (by omega) (Ev.const ?_))
        rw [List.drop_of_length_le (by simp)]
        rfl
      · intro i hi ih
        rw [range_drop' _ _ hi, List.all_cons]
        refine Ev.step (fun k => spec_AreSigns.l0.eq_2 ..) (Ev.ite_pos (by omega) (Ev.ite_pos (by omega) ?_))
        rw [wrap_nat i (by omega)]
        rw [show isPM s i = (bt s (i : Int) == 43 || bt s (i : Int) == 45) from rfl]
        by_cases h43 : bt s (i : Int) = 43
        · refine Ev.ite_pos h43 ?_
          simpa [h43] using ih
        · refine Ev.ite_neg h43 ?_
          by_cases h45 : bt s (i : Int) = 45
          · refine Ev.ite_pos h45 ?_
            simpa [h45] using ih
          · refine Ev.ite_neg h45 (Ev.const ?_)
            simp [h43, h45]
    · rw [show decide (3 ≤ n ∧ n ≤ 7 ∧ (s.size : Int) = Int.tdiv (n * (n - 1) * (n - 2)) 6) = false from decide_eq_false (fun q => hc q.2.2), Bool.false_and]
      rw [show ((s.size : Int) != Int.tdiv (n * (n - 1) * (n - 2)) 6) = true by simpa using hc]
      exact no s
  · rw [show decide (3 ≤ n ∧ n ≤ 7 ∧ (s.size : Int) = Int.tdiv (n * (n - 1) * (n - 2)) 6) = false from decide_eq_false (fun q => h ⟨q.1, q.2.1⟩), Bool.false_and]
    exact Ev.bind0 (l1In_is ..) (Ev.ite_neg (by simpa using h) (no s))
theorem impl_AreSigns_ev (n : Int) (s : ByteArray) : Ev (fun k => impl_AreSigns.f k n s) (isS n s) := by
  unfold impl_AreSigns.f isS
  have no : ∀ x, Ev (fun k => impl_AreSigns.j0 k true n x) false := fun x => Ev.step (fun k => impl_AreSigns.j0.eq_2 ..) (Ev.ite_pos rfl (Ev.now _))
  by_cases h3 : n < 3
  · rw [show decide (3 ≤ n ∧ n ≤ 7 ∧ (s.size : Int) = Int.tdiv (n * (n - 1) * (n - 2)) 6) = false from decide_eq_false (fun q => by omega), Bool.false_and]
    exact Ev.ite_pos h3 (no s)
  · refine Ev.ite_neg h3 ?_
    by_cases h7 : n > 7
    · rw [show decide (3 ≤ n ∧ n ≤ 7 ∧ (s.size : Int) = Int.tdiv (n * (n - 1) * (n - 2)) 6) = false from decide_eq_false (fun q => by omega), Bool.false_and]
      exact Ev.ite_pos h7 (no s)
    · refine Ev.ite_neg h7 ?_
      obtain ⟨e1, e2, e3, e4⟩ := count3 (n := n) (by omega) (by omega)
      rw [e1, e2]
      by_cases hc : (s.size : Int) = Int.tdiv (n * (n - 1) * (n - 2)) 6
      · rw [show decide (3 ≤ n ∧ n ≤ 7 ∧ (s.size : Int) = Int.tdiv (n * (n - 1) * (n - 2)) 6) = true from decide_eq_true ⟨by omega, by omega, hc⟩, Bool.true_and]
        refine Ev.step (fun k => impl_AreSigns.j0.eq_2 ..) (Ev.ite_neg (by simp [hc]) ?_)
        have key := Ev.loop_to (fun i k => impl_AreSigns.l0 k i n s) s.size (fun i => ((List.range s.size).drop i).all (isPM s)) ?_ ?_ 0 (by omega)
        · simpa using key
        · refine Ev.step (fun k => impl_AreSigns.l0.eq_2 ..) (Ev.ite_neg (by omega) (Ev.const ?_))
          rw [List.drop_of_length_le (by simp)]
          rfl
        · intro i hi ih
          rw [range_drop' _ _ hi, List.all_cons]
          refine Ev.step (fun k => impl_AreSigns.l0.eq_2 ..) (Ev.ite_pos (by omega) (Ev.ite_pos (by omega) ?_))
          rw [wrap_nat i (by omega)]
          rw [show isPM s i = (bt s (i : Int) == 43 || bt s (i : Int) == 45) from rfl]
          by_cases h43 : bt s (i : Int) = 43
          · refine Ev.ite_pos h43 ?_
            simpa [h43] using ih
          · refine Ev.ite_neg h43 ?_
            by_cases h45 : bt s (i : Int) = 45
            · refine Ev.ite_pos h45 ?_
              simpa [h45] using ih
            · refine Ev.ite_neg h45 (Ev.const ?_)
              simp [h43, h45]
      · rw [show decide (3 ≤ n ∧ n ≤ 7 ∧ (s.size : Int) = Int.tdiv (n * (n - 1) * (n - 2)) 6) = false from decide_eq_false (fun q => hc q.2.2), Bool.false_and]
        rw [show ((s.size : Int) != Int.tdiv (n * (n - 1) * (n - 2)) 6) = true by simpa using hc]
        exact no s
theorem isS_bounds {n : Int} {s : ByteArray} (h : isS n s = true) : 3 ≤ n ∧ n ≤ 7 ∧ s.size = (tri n.toNat).length ∧ s.size ≤ 35 := by
  unfold isS at h
  rw [Bool.and_eq_true, decide_eq_true_eq] at h
  obtain ⟨⟨h3, h7, hc⟩, _⟩ := h
  have hb := (count3 h3 h7).2.2.2
  obtain ⟨m, rfl⟩ := Int.eq_ofNat_of_zero_le (show 0 ≤ n by omega)
  have ht := tri_length m (by omega)
  rw [Int.toNat_natCast]
  exact ⟨h3, h7, by omega, by omega⟩
def sgAt (s : ByteArray) (m : Nat) : Int := if bt s (m : Int) = 45 then -1 else 1
def tab (n : Nat) (s : ByteArray) : List Int := fill (sgAt s) (tri n) 0 (chiNew n)
def sg (n : Nat) (s : ByteArray) (x y z : Int) : Int := sval (sgAt s) 0 (src (tri n) 0 x y z)
theorem tab_length (n : Nat) (s : ByteArray) : (tab n s).length = 344 := by
  unfold tab
  rw [fill_length, chiNew_length]
theorem tab_n (n : Nat) (s : ByteArray) : chiN (tab n s) = n := by
  unfold tab
  rw [chiN_fill _ _ _ _ (chiNew_length _)]
  rfl
theorem tab_at (n : Nat) (hn : n ≤ 7) (s : ByteArray) (x y z : Nat) (hx : x < 7) (hy : y < 7) (hz : z < 7) : chiA (tab n s) x y z = sg n s x y z := by
  unfold tab sg
  rw [chiA_fill _ x y z hx hy hz _ (tri_ok7 n hn) 0 _ (chiNew_length _), chiA_new _ x y z hx hy hz]
theorem tri_at (n : Nat) (hn : n ≤ 7) (i : Nat) (hi : i < (tri n).length) : okT 7 (tri n)[i] = true := by
  have := tri_ok7 n hn
  rw [List.all_eq_true] at this
  exact this _ (List.getElem_mem hi)
theorem rdT_lt (l : List T3) (i : Nat) (h : i < l.length) : rd_T122 l (i : Int) = l[i] := by
  unfold rd_T122
  rw [Int.toNat_natCast, getD_lt _ _ _ h]
theorem tableOf_ev (n : Nat) (hn : n ≤ 7) (s : ByteArray) (hs : s.size = (tri n).length) : Ev (fun k => impl_tableOf.f k n s) (tab n s) := by
  unfold impl_tableOf.f
  refine Ev.bind (triplesOf_ev n hn) ?_
  have h35 : (tri n).length ≤ 1000 := by
    have : (List.range 8).all (fun n => decide ((tri n).length ≤ 1000)) = true := by decide +kernel
    rw [List.all_eq_true] at this
    simpa using this n (by simp; omega)
  have key := Ev.loop (fun i k => impl_tableOf.l0 k (fill (sgAt s) ((tri n).take i) 0 (chiNew n)) (tri n) (tri n).length i n s) (tri n).length (tab n s) ?_ ?_ 0 (by omega)
  · simpa [fill] using key
  · refine Ev.step (fun k => impl_tableOf.l0.eq_2 ..) (Ev.ite_neg (by omega) (Ev.const ?_))
    rw [List.take_length]
    rfl
  · intro i hi ih
    refine Ev.step (fun k => impl_tableOf.l0.eq_2 ..) (Ev.ite_pos (by omega) (Ev.ite_pos (by omega) (Ev.ite_pos (by omega) (Ev.ite_pos (by omega) ?_))))
    have ht := tri_at n hn i hi
    rw [wrap_nat i (by omega), rdT_lt _ i hi]
    rw [List.take_succ_eq_append_getElem hi, fill_append, Nat.zero_add, List.length_take, Nat.min_eq_left (by omega)] at ih
    have hl : (fill (sgAt s) ((tri n).take i) 0 (chiNew n)).length = 344 := by rw [fill_length, chiNew_length]
    generalize fill (sgAt s) ((tri n).take i) 0 (chiNew n) = l at ih hl ⊢
    generalize (tri n)[i] = t at ih ht ⊢
    unfold okT at ht
    rw [decide_eq_true_eq] at ht
    have hset : ∀ v, impl_chi_set.f l t.f0 t.f1 t.f2 v = some (put3 l t v) := by
      intro v
      unfold impl_chi_set.f
      rw [if_pos ⟨hl, by omega, by omega, by omega⟩]
      rfl
    rw [fill, fill] at ih
    unfold sgAt at ih
    by_cases h45 : bt s (i : Int) = 45
    · rw [if_pos h45] at ih
      exact Ev.ite_pos h45 (Ev.bind0 (hset _) ih)
    · rw [if_neg h45] at ih
      exact Ev.ite_neg h45 (Ev.bind0 (hset _) ih)
def srt2 (n x y z p : Int) : Option (Int × Int) := if x > y then (spec_l3Index.f 60 n y x z).map fun m => (m, -p) else (spec_l3Index.f 60 n x y z).map fun m => (m, p)
def srt1 (n x y z p : Int) : Option (Int × Int) := if y > z then srt2 n x z y (-p) else srt2 n x y z p
def srt (n x y z : Int) : Option (Int × Int) := if x > y then srt1 n y x z (-1) else srt1 n x y z 1
def okSrt (n : Nat) (x y z : Nat) : Bool :=
  match srt n x y z, src (tri n) 0 x y z with
  | some (m, p), some (q, b) => m == (q : Int) && decide (q < (tri n).length) && (p == if b then 1 else -1)
  | _, _ => false
theorem all_srt : (List.range 8).all (fun n => (List.range n).all fun x => (List.range n).all fun y => (List.range n).all fun z => x == y || y == z || x == z || okSrt n x y z) = true := by decide +kernel
theorem srt_ok (n x y z : Nat) (hn : n ≤ 7) (hx : x < n) (hy : y < n) (hz : z < n) (h1 : x ≠ y) (h2 : y ≠ z) (h3 : x ≠ z) : okSrt n x y z = true := by
  have h := all_srt
  rw [List.all_eq_true] at h
  have h := h n (by simp; omega)
  rw [List.all_eq_true] at h
  have h := h x (by simpa using hx)
  rw [List.all_eq_true] at h
  have h := h y (by simpa using hy)
  rw [List.all_eq_true] at h
  have h := h z (by simpa using hz)
  simpa [h1, h2, h3] using h
theorem l3Index_ev {n x y z m : Int} (h : spec_l3Index.f 60 n x y z = some m) : Ev (fun k => spec_l3Index.f k n x y z) m := Ev.of (spec_l3Index.mono _ _ _ _) h
def look (s : ByteArray) (m p : Int) : Int := if bt s m = 45 then wrap64 (-p) else p
theorem j1_ev (n x y z p m q : Int) (s : ByteArray) (hp : p = 1 ∨ p = -1) (h : srt2 n x y z p = some (m, q)) (hm : 0 ≤ m) (hs : m < (s.size : Int)) : Ev (fun k => spec_l3At.j1 k x y z p n s) (look s m q) := by
  refine Ev.step (fun k => spec_l3At.j1.eq_2 ..) ?_
  have hw : wrap64 (-p) = -p := wrap_in (by omega) (by omega)
  unfold srt2 at h
  unfold look
  by_cases hxy : x > y
  · rw [if_pos hxy] at h
    obtain ⟨m', h1, h2⟩ := Option.map_eq_some_iff.mp h
    cases h2
    refine Ev.ite_pos hxy (Ev.bind (l3Index_ev h1) (Ev.ite_pos hm (Ev.ite_pos hs ?_)))
    rw [hw]
    by_cases h45 : bt s m = 45
    · exact Ev.ite_pos h45 (Ev.const (by rw [if_pos h45]))
    · exact Ev.ite_neg h45 (Ev.const (by rw [if_neg h45]))
  · rw [if_neg hxy] at h
    obtain ⟨m', h1, h2⟩ := Option.map_eq_some_iff.mp h
    cases h2
    refine Ev.ite_neg hxy (Ev.bind (l3Index_ev h1) (Ev.ite_pos hm (Ev.ite_pos hs ?_)))
    by_cases h45 : bt s m = 45
    · exact Ev.ite_pos h45 (Ev.const (by rw [if_pos h45]))
    · exact Ev.ite_neg h45 (Ev.const (by rw [if_neg h45]))
theorem j0_ev (n x y z p m q : Int) (s : ByteArray) (hp : p = 1 ∨ p = -1) (h : srt1 n x y z p = some (m, q)) (hm : 0 ≤ m) (hs : m < (s.size : Int)) : Ev (fun k => spec_l3At.j0 k x y z p n s) (look s m q) := by
  refine Ev.step (fun k => spec_l3At.j0.eq_2 ..) ?_
  have hw : wrap64 (-p) = -p := wrap_in (by omega) (by omega)
  unfold srt1 at h
  by_cases hyz : y > z
  · rw [if_pos hyz] at h
    rw [hw]
    exact Ev.ite_pos hyz (j1_ev n x z y (-p) m q s (by omega) h hm hs)
  · rw [if_neg hyz] at h
    exact Ev.ite_neg hyz (j1_ev n x y z p m q s hp h hm hs)
theorem l3At_ev (n : Nat) (hn : n ≤ 7) (s : ByteArray) (hs : s.size = (tri n).length) (x y z : Nat) (hx : x < n) (hy : y < n) (hz : z < n) (h1 : x ≠ y) (h2 : y ≠ z) (h3 : x ≠ z) :
    Ev (fun k => spec_l3At.f k n s x y z) (sg n s x y z) := by
  have h := srt_ok n x y z hn hx hy hz h1 h2 h3
  unfold okSrt at h
  unfold spec_l3At.f sg
  cases ha : srt n x y z with
  | none => rw [ha] at h; cases h
  | some mp =>
    obtain ⟨m, p⟩ := mp
    cases hb : src (tri n) 0 x y z with
    | none => rw [ha, hb] at h; cases h
    | some qb =>
      obtain ⟨q, b⟩ := qb
      rw [ha, hb] at h
      simp only [Bool.and_eq_true, beq_iff_eq, decide_eq_true_eq] at h
      obtain ⟨⟨rfl, hq⟩, hp⟩ := h
      have e : sval (sgAt s) 0 (some (q, b)) = look s q p := by
        subst hp
        unfold sval look sgAt
        cases b <;> by_cases h45 : bt s (q : Int) = 45 <;> simp [h45, wrap64]
      rw [e]
      unfold srt at ha
      by_cases hxy : (x : Int) > y
      · rw [if_pos hxy] at ha
        exact Ev.ite_pos hxy (j0_ev n y x z (-1) q p s (by omega) ha (by omega) (by omega))
      · rw [if_neg hxy] at ha
        exact Ev.ite_neg hxy (j0_ev n x y z 1 q p s (by omega) ha (by omega) (by omega))
theorem sg_pm (n : Nat) (hn : n ≤ 7) (s : ByteArray) (x y z : Nat) (hx : x < n) (hy : y < n) (hz : z < n) (h1 : x ≠ y) (h2 : y ≠ z) (h3 : x ≠ z) : sg n s x y z = 1 ∨ sg n s x y z = -1 := by
  have h := srt_ok n x y z hn hx hy hz h1 h2 h3
  unfold okSrt at h
  unfold sg
  cases ha : srt n x y z with
  | none => rw [ha] at h; cases h
  | some mp =>
    cases hb : src (tri n) 0 x y z with
    | none => rw [ha, hb] at h; cases h
    | some qb =>
      obtain ⟨q, b⟩ := qb
      unfold sval sgAt
      cases b <;> by_cases h45 : bt s (q : Int) = 45 <;> simp [h45, wrap64]
theorem rd_takeI (l : List Int) (n j : Nat) (h : j < n) : rd (l.take n) (j : Int) = rd l (j : Int) := by
  unfold rd
  rw [Int.toNat_natCast]
  simp [List.getD_eq_getElem?_getD, h]
theorem containsI_ev (l : List Int) (n : Nat) (hn : n ≤ l.length) (hl : l.length ≤ 1000000) (x : Int) :
    Ev (fun k => slices_Contains_Sint_int.f k (l.take n) x) ((List.range n).any fun j => x == rd l j) := by
  have hlen : (l.take n).length = n := by rw [List.length_take]; omega
  have key : ∀ d i, i + d = n → ∃ r, Ev (fun k => slices_Index_Sint_int.l0 k (l.take n) x n i) r ∧ decide (r ≥ 0) = ((List.range n).drop i).any fun j => x == rd l j := by
    intro d
    induction d with
    | zero =>
      intro i hi
      obtain rfl : i = n := by omega
      refine ⟨-1, Ev.step (fun k => slices_Index_Sint_int.l0.eq_2 ..) (Ev.ite_neg (by omega) (Ev.now _)), ?_⟩
      rw [List.drop_of_length_le (by simp)]
      rfl
    | succ d ih =>
      intro i hi
      obtain ⟨r, hr, he⟩ := ih (i + 1) (by omega)
      rw [range_drop' n i (by omega), List.any_cons]
      by_cases hb : x = rd l (i : Int)
      · refine ⟨i, Ev.step (fun k => slices_Index_Sint_int.l0.eq_2 ..) (Ev.ite_pos (by omega) (Ev.ite_pos (by omega) (Ev.ite_pos (by omega) (Ev.ite_pos (by rw [rd_takeI l n i (by omega)]; exact hb) (Ev.now _))))), ?_⟩
        rw [show (x == rd l (i : Int)) = true by simpa using hb]
        simp
      · refine ⟨r, Ev.step (fun k => slices_Index_Sint_int.l0.eq_2 ..) (Ev.ite_pos (by omega) (Ev.ite_pos (by omega) (Ev.ite_pos (by omega) (Ev.ite_neg (by rw [rd_takeI l n i (by omega)]; exact hb) ?_)))), ?_⟩
        · rw [wrap_nat i (by omega)]
          exact hr
        · rw [he, show (x == rd l (i : Int)) = false by simpa using hb, Bool.false_or]
  obtain ⟨r, hr, he⟩ := key n 0 (by omega)
  unfold slices_Contains_Sint_int.f slices_Index_Sint_int.f
  rw [hlen]
  refine Ev.bind hr (Ev.const ?_)
  rw [he, List.drop_zero]
end Go.Proofs.Yteblnjoljbdjjaa.Pure
namespace Go.Proofs.Yteblnjoljbdjjaa.Pl
set_option linter.unusedSimpArgs false
set_option linter.unusedVariables false
open Go.RowKit Go.Proofs.YteblnjoljbdjjaaW.PrintWords
theorem range_dropS (n i : Nat) (h : i < n) : (List.range n).drop i = i :: (List.range n).drop (i + 1) := by
  rw [List.drop_eq_getElem_cons (by simpa using h)]
  simp
def Srch {ρ : Type} (g : Nat → Nat → Option ρ) (m : Nat) (P : Nat → Bool) (v : ρ) (lo : Nat) : Prop :=
  ∀ r, (((List.range m).drop lo).any P = true → r = v) → (((List.range m).drop lo).any P = false → Ev (g m) r) → Ev (g lo) r
theorem Srch.of {ρ : Type} (g : Nat → Nat → Option ρ) (m : Nat) (P : Nat → Bool) (v : ρ) (lo : Nat) (hlo : lo ≤ m)
    (hstep : ∀ i, lo ≤ i → i < m → ∀ r, (P i = true → r = v) → (P i = false → Ev (g (i + 1)) r) → Ev (g i) r) : Srch g m P v lo := by
  have key : ∀ d i, lo ≤ i → i + d = m → Srch g m P v i := by
    intro d
    induction d with
    | zero =>
      intro i _ hi
      obtain rfl : i = m := by omega
      intro r _ h2
      exact h2 (by rw [List.drop_of_length_le (by simp)]; rfl)
    | succ d ih =>
      intro i hl hi r h1 h2
      rw [range_dropS m i (by omega), List.any_cons] at h1 h2
      refine hstep i hl (by omega) r (fun h => h1 (by rw [h, Bool.true_or])) (fun h => ih (i + 1) (by omega) (by omega) r (fun k => h1 (by rw [k, Bool.or_true])) (fun k => h2 (by rw [h, k]; rfl)))
  exact key (m - lo) lo (Nat.le_refl _) (by omega)
theorem Ev.up {ρ : Type} {f : Int → Nat → Option ρ} {i : Nat} {r : ρ} (hi : i < 1000000) (h : Ev (f ((i + 1 : Nat) : Int)) r) : Ev (f (wrap64 ((i : Int) + 1))) r := by
  rw [wrap_nat i (by omega)]
  exact h
end Go.Proofs.Yteblnjoljbdjjaa.Pl
namespace Go.Proofs.Yteblnjoljbdjjaa.Pure
set_option linter.unusedSimpArgs false
set_option linter.unusedVariables false
open Go.RowKit Go.Proofs.YteblnjoljbdjjaaW.PrintWords Go.Proofs.Yteblnjoljbdjjaa.P Go.Proofs.Yteblnjoljbdjjaa.Pl
def inL (l : List Int) (x : Int) : Bool := (List.range l.length).any fun j : Nat => x == rd l (j : Int)
def nxt (n : Nat) (l : List Int) : List (List Int) := ((List.range n).filter fun i : Nat => !inL l (i : Int)).map fun i : Nat => l ++ [(i : Int)]
def lev (n : Nat) : Nat → List (List Int)
  | 0 => [[]]
  | k + 1 => (lev n k).flatMap (nxt n)
def AN (n : Nat) : List (List Int) := lev n n
theorem nxt_len (n : Nat) (l : List Int) : (nxt n l).length ≤ n := by
  have := List.length_filter_le (fun i : Nat => !inL l (i : Int)) (List.range n)
  simpa [nxt] using this
theorem flat_len (n : Nat) : ∀ L : List (List Int), (L.flatMap (nxt n)).length ≤ L.length * n := by
  intro L
  induction L with
  | nil => simp
  | cons l L ih =>
    have := nxt_len n l
    rw [List.flatMap_cons, List.length_append, List.length_cons, Nat.succ_mul]
    omega
theorem lev_len (n : Nat) (hn : n ≤ 6) : ∀ k, k ≤ 6 → (lev n k).length ≤ 6 ^ k := by
  intro k
  induction k with
  | zero => intro _; simp [lev]
  | succ k ih =>
    intro hk
    have h1 := ih (by omega)
    have h2 := flat_len n (lev n k)
    rw [lev, Nat.pow_succ]
    exact Nat.le_trans h2 (Nat.mul_le_mul h1 hn)
theorem lev_len2 (n : Nat) (hn : n ≤ 6) (k : Nat) (hk : k ≤ 6) : (lev n k).length ≤ 46656 := Nat.le_trans (lev_len n hn k hk) (Nat.le_trans (Nat.pow_le_pow_right (by omega) hk) (by decide))
theorem lev_mem (n : Nat) : ∀ k l, l ∈ lev n k → l.length = k := by
  intro k
  induction k with
  | zero => intro l h; simp [lev] at h; rw [h]; rfl
  | succ k ih =>
    intro l h
    rw [lev, List.mem_flatMap] at h
    obtain ⟨p, hp, h⟩ := h
    unfold nxt at h
    rw [List.mem_map] at h
    obtain ⟨i, _, rfl⟩ := h
    rw [List.length_append, ih p hp]
    rfl
theorem containsAll_ev (l : List Int) (hl : l.length ≤ 1000000) (x : Int) : Ev (fun k => slices_Contains_Sint_int.f k l x) (inL l x) := by
  have h := containsI_ev l l.length (Nat.le_refl _) hl x
  rw [List.take_length] at h
  exact h
theorem rdL (L : List (List Int)) (j : Nat) (h : j < L.length) : rd_L1 L (j : Int) = L[j] := by
  unfold rd_L1
  rw [Int.toNat_natCast, getD_lt _ _ _ h]
theorem nxt_snoc (n i : Nat) (l : List Int) : (((List.range (i + 1)).filter fun i : Nat => !inL l (i : Int)).map fun i : Nat => l ++ [(i : Int)]) = (((List.range i).filter fun i : Nat => !inL l (i : Int)).map fun i : Nat => l ++ [(i : Int)]) ++ if inL l (i : Int) then [] else [l ++ [(i : Int)]] := by
  rw [List.range_succ, List.filter_append, List.map_append]
  congr 1
  cases h : inL l (i : Int) <;> simp [h]
theorem part_len (n i : Nat) (l : List Int) : (((List.range i).filter fun i : Nat => !inL l (i : Int)).map fun i : Nat => l ++ [(i : Int)]).length ≤ i := by
  have := List.length_filter_le (fun i : Nat => !inL l (i : Int)) (List.range i)
  simpa using this
theorem take_flat (n j : Nat) (L : List (List Int)) (h : j < L.length) : (L.take (j + 1)).flatMap (nxt n) = (L.take j).flatMap (nxt n) ++ nxt n L[j] := by
  rw [List.take_succ_eq_append_getElem h, List.flatMap_append]
  simp
theorem allNames_ev (n : Nat) (hn : n ≤ 6) : Ev (fun k => impl_allNames.f k n) (AN n) := by
  unfold impl_allNames.f
  have key := Ev.loop (fun m k => impl_allNames.l0 k n (lev n m) m) n (AN n) ?_ ?_ 0 (by omega)
  · exact key
  · exact Ev.step (fun k => impl_allNames.l0.eq_2 ..) (Ev.ite_neg (by omega) (Ev.now _))
  · intro m hm ih
    have hL := lev_len2 n hn m (by omega)
    have hmem := lev_mem n m
    refine Ev.step (fun k => impl_allNames.l0.eq_2 ..) (Ev.ite_pos (by omega) ?_)
    rw [lev] at ih
    generalize lev n m = L at ih hL hmem ⊢
    have key := Ev.loop (fun j k => impl_allNames.l1 k n m ((L.take j).flatMap (nxt n)) L L.length j) L.length (AN n) ?_ ?_ 0 (by omega)
    · simpa using key
    · refine Ev.step (fun k => impl_allNames.l1.eq_2 ..) (Ev.ite_neg (by omega) ?_)
      rw [List.take_length, wrap_nat m (by omega)]
      exact ih
    · intro j hj ihj
      have hl1 := hmem _ (List.getElem_mem hj)
      have hb := flat_len n (L.take j)
      have hb2 : (L.take j).length * n ≤ 46656 * 6 := Nat.mul_le_mul (by rw [List.length_take]; omega) hn
      refine Ev.step (fun k => impl_allNames.l1.eq_2 ..) (Ev.ite_pos (by omega) (Ev.ite_pos (by omega) (Ev.ite_pos (by omega) ?_)))
      rw [rdL L j hj]
      rw [take_flat n j L hj] at ihj
      generalize L[j] = l at ihj hl1 ⊢
      have key := Ev.loop (fun i k => impl_allNames.l2 k n m ((L.take j).flatMap (nxt n) ++ (((List.range i).filter fun i : Nat => !inL l (i : Int)).map fun i : Nat => l ++ [(i : Int)])) l i L L.length j) n (AN n) ?_ ?_ 0 (by omega)
      · simpa using key
      · refine Ev.step (fun k => impl_allNames.l2.eq_2 ..) (Ev.ite_neg (by omega) ?_)
        rw [wrap_nat j (by omega)]
        exact ihj
      · intro i hi ihi
        have hp := part_len n i l
        rw [nxt_snoc n i l] at ihi
        refine Ev.step (fun k => impl_allNames.l2.eq_2 ..) (Ev.ite_pos (by omega) (Ev.bind (containsAll_ev l (by omega) _) ?_))
        rw [wrap_nat i (by omega)]
        cases hc : inL l (i : Int) with
        | true =>
          rw [hc, if_pos rfl, List.append_nil] at ihi
          exact Ev.ite_pos rfl ihi
        | false =>
          rw [hc, if_neg (by simp), ← List.append_assoc] at ihi
          refine Ev.ite_neg (by simp) (Ev.bind0 (a := l) ?_ (Ev.ite_pos (by omega) (Ev.ite_pos (by rw [List.length_append]; omega) ihi)))
          unfold slices_Clone_Sint_int.f
          simp
          omega
theorem place_ev (l : List Int) (hl : l.length ≤ 1000000) (x : Int) : ∃ r, Ev (fun k => spec_l12Place.f k l x) r ∧ decide (r < 0) = !inL l x := by
  unfold spec_l12Place.f inL
  have key : ∀ d i, i + d = l.length → ∃ r, Ev (fun k => spec_l12Place.l0 k l x i) r ∧ decide (r < 0) = !((List.range l.length).drop i).any fun j : Nat => x == rd l (j : Int) := by
    intro d
    induction d with
    | zero =>
      intro i hi
      refine ⟨-1, Ev.step (fun k => spec_l12Place.l0.eq_2 ..) (Ev.ite_neg (by omega) (Ev.now _)), ?_⟩
      rw [List.drop_of_length_le (by simp; omega)]
      rfl
    | succ d ih =>
      intro i hi
      obtain ⟨r, hr, he⟩ := ih (i + 1) (by omega)
      rw [range_drop' _ i (by omega), List.any_cons]
      by_cases hb : rd l (i : Int) = x
      · refine ⟨i, Ev.step (fun k => spec_l12Place.l0.eq_2 ..) (Ev.ite_pos (by omega) (Ev.ite_pos (by omega) (Ev.ite_pos hb (Ev.now _)))), ?_⟩
        rw [show (x == rd l (i : Int)) = true by simpa using hb.symm]
        simp
      · refine ⟨r, Ev.step (fun k => spec_l12Place.l0.eq_2 ..) (Ev.ite_pos (by omega) (Ev.ite_pos (by omega) (Ev.ite_neg hb ?_))), ?_⟩
        · rw [wrap_nat i (by omega)]
          exact hr
        · rw [he, show (x == rd l (i : Int)) = false by simpa using fun e => hb e.symm, Bool.false_or]
  obtain ⟨r, h1, h2⟩ := key l.length 0 (by omega)
  exact ⟨r, h1, by simpa using h2⟩
theorem orders_ev (n : Nat) (hn : n ≤ 6) : Ev (fun k => spec_l19Orders.f k n) (AN n) := by
  unfold spec_l19Orders.f
  have key := Ev.loop (fun m k => spec_l19Orders.l0 k n (lev n m) m) n (AN n) ?_ ?_ 0 (by omega)
  · exact key
  · exact Ev.step (fun k => spec_l19Orders.l0.eq_2 ..) (Ev.ite_neg (by omega) (Ev.now _))
  · intro m hm ih
    have hL := lev_len2 n hn m (by omega)
    have hmem := lev_mem n m
    refine Ev.step (fun k => spec_l19Orders.l0.eq_2 ..) (Ev.ite_pos (by omega) ?_)
    rw [lev] at ih
    generalize lev n m = L at ih hL hmem ⊢
    have key := Ev.loop (fun j k => spec_l19Orders.l1 k n L m ((L.take j).flatMap (nxt n)) j) L.length (AN n) ?_ ?_ 0 (by omega)
    · simpa using key
    · refine Ev.step (fun k => spec_l19Orders.l1.eq_2 ..) (Ev.ite_neg (by omega) ?_)
      rw [List.take_length, wrap_nat m (by omega)]
      exact ih
    · intro j hj ihj
      have hl1 := hmem _ (List.getElem_mem hj)
      have hb := flat_len n (L.take j)
      have hb2 : (L.take j).length * n ≤ 46656 * 6 := Nat.mul_le_mul (by rw [List.length_take]; omega) hn
      refine Ev.step (fun k => spec_l19Orders.l1.eq_2 ..) (Ev.ite_pos (by omega) ?_)
      rw [take_flat n j L hj] at ihj
      have hrd := rdL L j hj
      generalize L[j] = l at ihj hl1 hrd
      have key := Ev.loop (fun i k => spec_l19Orders.l2 k n L m ((L.take j).flatMap (nxt n) ++ (((List.range i).filter fun i : Nat => !inL l (i : Int)).map fun i : Nat => l ++ [(i : Int)])) j i) n (AN n) ?_ ?_ 0 (by omega)
      · simpa using key
      · refine Ev.step (fun k => spec_l19Orders.l2.eq_2 ..) (Ev.ite_neg (by omega) ?_)
        rw [wrap_nat j (by omega)]
        exact ihj
      · intro i hi ihi
        have hp := part_len n i l
        rw [nxt_snoc n i l] at ihi
        obtain ⟨r, hr, hr2⟩ := place_ev l (by omega) (i : Int)
        refine Ev.step (fun k => spec_l19Orders.l2.eq_2 ..) (Ev.ite_pos (by omega) (Ev.ite_pos (by omega) (Ev.ite_pos (by omega) ?_)))
        rw [hrd, wrap_nat i (by omega)]
        refine Ev.bind hr ?_
        cases hc : inL l (i : Int) with
        | true =>
          rw [hc] at hr2
          rw [hc, if_pos rfl, List.append_nil] at ihi
          exact Ev.ite_neg (by simpa using hr2) ihi
        | false =>
          rw [hc] at hr2
          rw [hc, if_neg (by simp), ← List.append_assoc] at ihi
          refine Ev.ite_pos (by simpa using hr2) (Ev.bind0 rfl (Ev.ite_pos (by simp; omega) (Ev.bind0 rfl (Ev.ite_pos (by simp; omega) (Ev.ite_pos (by rw [List.length_append]; omega) ?_)))))
          rw [List.nil_append]
          exact ihi
def inv (p : List Int) : List Int := (List.range p.length).map fun j : Nat => (p.idxOf (j : Int) : Int)
def okP (n : Nat) (p : List Int) : Bool := (p.length == n && (inv p).length == n) && (List.range n).all fun a => decide (0 ≤ rd p (a : Int) ∧ rd p (a : Int) < n ∧ 0 ≤ rd (inv p) (a : Int) ∧ rd (inv p) (a : Int) < n) && (List.range n).all fun x => decide ((x : Int) = rd p (a : Int)) == decide (rd (inv p) (x : Int) = (a : Int))
theorem all_P : (List.range 7).all (fun n => (AN n).all (okP n)) = true := by decide +kernel
theorem P_at (n : Nat) (hn : n ≤ 6) (p : List Int) (h : p ∈ AN n) : p.length = n ∧ (inv p).length = n ∧ ∀ a, a < n → (0 ≤ rd p (a : Int) ∧ rd p (a : Int) < n ∧ 0 ≤ rd (inv p) (a : Int) ∧ rd (inv p) (a : Int) < n) ∧ ∀ x, x < n → ((x : Int) = rd p (a : Int) ↔ rd (inv p) (x : Int) = (a : Int)) := by
  have g := all_P
  rw [List.all_eq_true] at g
  have g := g n (by simp; omega)
  rw [List.all_eq_true] at g
  have g := g p h
  unfold okP at g
  rw [Bool.and_eq_true, Bool.and_eq_true, beq_iff_eq, beq_iff_eq, List.all_eq_true] at g
  refine ⟨g.1.1, g.1.2, fun a ha => ?_⟩
  have k := g.2 a (by simpa using ha)
  rw [Bool.and_eq_true, decide_eq_true_eq, List.all_eq_true] at k
  refine ⟨k.1, fun x hx => ?_⟩
  exact decide_eq_decide.mp (eq_of_beq (k.2 x (by simpa using hx)))
theorem inv_perm : (List.range 7).all (fun n => ((AN n).map inv).isPerm (AN n)) = true := by decide +kernel
theorem inv_all (n : Nat) (hn : n ≤ 6) : ((AN n).map inv).Perm (AN n) := by
  have g := inv_perm
  rw [List.all_eq_true] at g
  exact List.isPerm_iff.mp (g n (by simp; omega))
theorem inv_mem (n : Nat) (hn : n ≤ 6) (p : List Int) (h : p ∈ AN n) : inv p ∈ AN n := (inv_all n hn).mem_iff.mp (List.mem_map_of_mem h)
end Go.Proofs.Yteblnjoljbdjjaa.Pure
namespace Go.Proofs.Yteblnjoljbdjjaa.P
open Go.RowKit Go.Proofs.YteblnjoljbdjjaaW.PrintWords Go.Proofs.YteblnjoljbdjjaaW.PrintLast Go.Proofs.YteblnjoljbdjjaaW.PrintMore
attribute [local go_sem] ptrOf_slice
attribute [local go_sem] min2_str max2_int min2_int max_two min_two max_three min_three max_four min_four
set_option linter.unusedVariables false
set_option linter.unusedSimpArgs false
def impl_chi_circuit.l0 : Nat → List Int → List Int → Int → Int → Option (ByteArray)
 | 0, _, _, _, _ => none
 | k + 1, x11, x56, x57, x58 => if x58 < x57 then (if 0 ≤ x58 then (if x58 < (x56.length : Int) then (if (rd x56 x58) > 0 then (if x11.length < 140737488355328 then (impl_chi_circuit.l0 k (x11 ++ [43]) x56 x57 (wrap64 (x58 + 1))) else (none)) else (if x11.length < 140737488355328 then (impl_chi_circuit.l0 k (x11 ++ [45]) x56 x57 (wrap64 (x58 + 1))) else (none))) else (none)) else (none)) else (if 0 < (x11.length : Int) then (if (rd x11 0) = 45 then ((impl_opposite.f (strOfNums x11)).bind fun t784 => (some t784)) else (some (strOfNums x11))) else (none))
def impl_chi_circuit.f (k : Nat) (l0 : List Int) (a1 : Int) (a2 : Int) (a3 : Int) (a4 : Int) : Option (ByteArray) := if 344 ≤ (l0.length : Int) then (if 0 ≤ a2 then (if a2 < 7 then (if 0 ≤ a3 then (if a3 < 7 then (if 0 ≤ a4 then (if a4 < 7 then (if 0 ≤ a1 then (if a1 < 7 then ((some (([chiA l0 a2 a3 a4, wrap64 (-(chiA l0 a1 a3 a4)), chiA l0 a1 a2 a4, wrap64 (-(chiA l0 a1 a2 a3))] : List Int) : List Int)).bind fun y773 => (impl_chi_circuit.l0 k ([] : List Int) y773 (y773.length : Int) 0)) else (none)) else (none)) else (none)) else (none)) else (none)) else (none)) else (none)) else (none)) else (none)
def impl_chi_circuit.T2 : Bool × List (List Nat × List Nat) := (true, [([], []), ([], []), ([], []), ([], []), ([0], [0]), ([4], [4]), ([5, 1], [1, 5]), ([6, 2], [2, 6]), ([7, 3], [3, 7]), ([8], [8]), ([], []), ([], []), ([], []), ([], []), ([10], [10]), ([14], [14]), ([15, 11], [11, 15]), ([16, 12], [12, 16]), ([17, 13], [13, 17]), ([18], [18]), ([19], [19]), ([], []), ([], []), ([], []), ([], []), ([21], [21]), ([25], [25]), ([26, 22], [22, 26]), ([27, 23], [23, 27]), ([28, 24], [24, 28]), ([29], [29]), ([], []), ([], []), ([], []), ([], []), ([31], [31]), ([35], [35]), ([36, 32], [32, 36]), ([37, 33], [33, 37]), ([38, 34], [34, 38]), ([39], [39]), ([40], [40]), ([9, 20, 30, 41], [9, 20, 30, 41]), ([42], [42]), ([], [])])
def impl_chi_circuit.B2 : List Nat := [0, 0, 0, 0, 1, 17, 51, 119, 255, 511, 0, 0, 0, 0, 1024, 17408, 52224, 121856, 261120, 523264, 1047552, 0, 0, 0, 0, 2097152, 35651584, 106954752, 249561088, 534773760, 1071644672, 0, 0, 0, 0, 2147483648, 36507222016, 109521666048, 255550554112, 547608330240, 1097364144128, 2196875771904, 4398046511103, 8796093022207, 0]
def impl_chi_split.l0 : Nat → ByteArray → Int → Int → List Int → Int → Int → Option (Int × Int)
 | 0, _, _, _, _, _, _ => none
 | k + 1, x12, x13, x14, x27, x28, x29 => if x29 < x28 then (if 0 ≤ x29 then (if x29 < (x27.length : Int) then (if x29 < (x12.size : Int) then (if (bt x12 x29) = 43 then (if 0 ≤ (rd x27 x29) then (impl_chi_split.l0 k x12 (Go.bits .or .i64 x13 (shl .i64 1 (rd x27 x29))) x14 x27 x28 (wrap64 (x29 + 1))) else (none)) else (if 0 ≤ (rd x27 x29) then (impl_chi_split.l0 k x12 x13 (Go.bits .or .i64 x14 (shl .i64 1 (rd x27 x29))) x27 x28 (wrap64 (x29 + 1))) else (none))) else (none)) else (none)) else (none)) else (some (x13, x14))
def impl_chi_split.f (k : Nat) (l0 : List Int) (a1 : Int) (a2 : Int) (a3 : Int) (a4 : Int) : Option (Int × Int) := (impl_chi_circuit.f k l0 a1 a2 a3 a4).bind fun t1131 => ((some (([a1, a2, a3, a4] : List Int) : List Int)).bind fun y1132 => (impl_chi_split.l0 k t1131 0 0 y1132 (y1132.length : Int) 0))
def spec_l4Circuit.f (k : Nat) (a0_0 : Int) (a0_1 : ByteArray) (a1 : Int) (a2 : Int) (a3 : Int) (a4 : Int) : Option (ByteArray) := (spec_l3At.f k a0_0 a0_1 a2 a3 a4).bind fun t692 => ((spec_l3At.f k a0_0 a0_1 a1 a3 a4).bind fun t693 => ((spec_l3Byte.f (wrap64 ((wrap64 (-t692)) * t693))).bind fun t694 => (if 1 + t694.size ≤ 9223372036854775807 then ((spec_l3At.f k a0_0 a0_1 a1 a2 a4).bind fun t695 => ((spec_l3Byte.f (wrap64 (t692 * t695))).bind fun t696 => (if ((⟨#[43]⟩ : ByteArray) ++ t694).size + t696.size ≤ 9223372036854775807 then ((spec_l3At.f k a0_0 a0_1 a1 a2 a3).bind fun t697 => ((spec_l3Byte.f (wrap64 ((wrap64 (-t692)) * t697))).bind fun t698 => (if (((⟨#[43]⟩ : ByteArray) ++ t694) ++ t696).size + t698.size ≤ 9223372036854775807 then (some ((((⟨#[43]⟩ : ByteArray) ++ t694) ++ t696) ++ t698)) else (none)))) else (none)))) else (none))))
def spec_l4Circuit.T2 : Bool × List (List Nat × List Nat) := (true, [([], []), ([0], [0]), ([], []), ([], []), ([], []), ([], []), ([2, 3, 4, 5], [2, 3, 4, 5]), ([1, 6], [1, 6]), ([7, 6], [7]), ([8], [8]), ([], []), ([], []), ([], []), ([], []), ([], []), ([11, 12, 13, 14, 8], [11, 12, 13, 14]), ([10, 15], [10, 15]), ([16, 15], [16]), ([9, 17], [9, 17]), ([18, 17, 0, 1, 2, 3, 4, 5, 6, 7, 8, 9, 10, 11, 12, 13, 14, 15, 16, 17, 18], [18])])
def spec_l4Circuit.B2 : List Nat := [0, 1, 0, 0, 0, 0, 60, 127, 255, 511, 0, 0, 0, 0, 0, 31231, 65023, 130559, 262143, 524287]
def spec_l5Split.l0 : Nat → List Int → ByteArray → Int → Int → Int → Option (Int × Int)
 | 0, _, _, _, _, _ => none
 | k + 1, x1, x6, x7, x8, x9 => if x9 < 4 then (if 0 ≤ x9 then (if x9 < (x6.size : Int) then (if (bt x6 x9) = 43 then (if x9 < (x1.length : Int) then (if 0 ≤ (IntKind.u64.wrap (rd x1 x9)) then (spec_l5Split.l0 k x1 x6 (wrap64 (x7 + (shl .i64 1 (IntKind.u64.wrap (rd x1 x9))))) x8 (wrap64 (x9 + 1))) else (none)) else (none)) else (if x9 < (x1.length : Int) then (if 0 ≤ (IntKind.u64.wrap (rd x1 x9)) then (spec_l5Split.l0 k x1 x6 x7 (wrap64 (x8 + (shl .i64 1 (IntKind.u64.wrap (rd x1 x9))))) (wrap64 (x9 + 1))) else (none)) else (none))) else (none)) else (none)) else (some (x7, x8))
def spec_l5Split.f (k : Nat) (a0_0 : Int) (a0_1 : ByteArray) (l1 : List Int) : Option (Int × Int) := if 0 < (l1.length : Int) then (if 1 < (l1.length : Int) then (if 2 < (l1.length : Int) then (if 3 < (l1.length : Int) then ((spec_l4Circuit.f k a0_0 a0_1 (rd l1 0) (rd l1 1) (rd l1 2) (rd l1 3)).bind fun t1061 => (spec_l5Split.l0 k l1 t1061 0 0 0)) else (none)) else (none)) else (none)) else (none)
def spec_l5Split.T1 : Bool × List (List Nat × List Nat) := (true, [([], []), ([], []), ([1], [1]), ([2], [2]), ([], []), ([4], [4]), ([5], [5]), ([], []), ([7], [7]), ([8], [8]), ([], []), ([10], [10]), ([11], [11]), ([0, 3, 6, 9, 12], [0, 3, 6, 9, 12]), ([13, 13, 0, 1, 2, 3, 4, 5, 6, 7, 8, 9, 10, 11, 12, 13], [13])])
def spec_l5Split.B1 : List Nat := [0, 0, 2, 6, 0, 16, 48, 0, 128, 384, 0, 1024, 3072, 8191, 16383]
end Go.Proofs.Yteblnjoljbdjjaa.P
namespace Go.Proofs.Yteblnjoljbdjjaa.Pure
set_option linter.unusedSimpArgs false
set_option linter.unusedVariables false
open Go.RowKit Go.Proofs.YteblnjoljbdjjaaW.PrintWords Go.Proofs.Yteblnjoljbdjjaa.P Go.Proofs.Yteblnjoljbdjjaa.Pl
abbrev Q4 := S174
def quad : Nat → List Q4
  | 4 => [⟨0, 1, 2, 3⟩]
  | 5 => [⟨0, 1, 2, 3⟩, ⟨0, 1, 2, 4⟩, ⟨0, 1, 3, 4⟩, ⟨0, 2, 3, 4⟩, ⟨1, 2, 3, 4⟩]
  | 6 => [⟨0, 1, 2, 3⟩, ⟨0, 1, 2, 4⟩, ⟨0, 1, 2, 5⟩, ⟨0, 1, 3, 4⟩, ⟨0, 1, 3, 5⟩, ⟨0, 1, 4, 5⟩, ⟨0, 2, 3, 4⟩, ⟨0, 2, 3, 5⟩, ⟨0, 2, 4, 5⟩, ⟨0, 3, 4, 5⟩, ⟨1, 2, 3, 4⟩, ⟨1, 2, 3, 5⟩, ⟨1, 2, 4, 5⟩, ⟨1, 3, 4, 5⟩, ⟨2, 3, 4, 5⟩]
  | 7 => [⟨0, 1, 2, 3⟩, ⟨0, 1, 2, 4⟩, ⟨0, 1, 2, 5⟩, ⟨0, 1, 2, 6⟩, ⟨0, 1, 3, 4⟩, ⟨0, 1, 3, 5⟩, ⟨0, 1, 3, 6⟩, ⟨0, 1, 4, 5⟩, ⟨0, 1, 4, 6⟩, ⟨0, 1, 5, 6⟩, ⟨0, 2, 3, 4⟩, ⟨0, 2, 3, 5⟩, ⟨0, 2, 3, 6⟩, ⟨0, 2, 4, 5⟩, ⟨0, 2, 4, 6⟩, ⟨0, 2, 5, 6⟩, ⟨0, 3, 4, 5⟩, ⟨0, 3, 4, 6⟩, ⟨0, 3, 5, 6⟩, ⟨0, 4, 5, 6⟩, ⟨1, 2, 3, 4⟩, ⟨1, 2, 3, 5⟩, ⟨1, 2, 3, 6⟩, ⟨1, 2, 4, 5⟩, ⟨1, 2, 4, 6⟩, ⟨1, 2, 5, 6⟩, ⟨1, 3, 4, 5⟩, ⟨1, 3, 4, 6⟩, ⟨1, 3, 5, 6⟩, ⟨1, 4, 5, 6⟩, ⟨2, 3, 4, 5⟩, ⟨2, 3, 4, 6⟩, ⟨2, 3, 5, 6⟩, ⟨2, 4, 5, 6⟩, ⟨3, 4, 5, 6⟩]
  | _ => []
def okQ (n : Nat) (q : Q4) : Bool := decide (0 ≤ q.f0 ∧ q.f0 < q.f1 ∧ q.f1 < q.f2 ∧ q.f2 < q.f3 ∧ q.f3 < n)
def brk (n : Nat) (s : ByteArray) (a b c d e : Int) : Bool :=
  decide (wrap64 (sg n s a b c * sg n s a d e) = wrap64 (sg n s a b e * sg n s a c d)) && (wrap64 (sg n s a b e * sg n s a c d) == wrap64 ((wrap64 (-(sg n s a b d))) * sg n s a c e))
def avoid (a : Int) (q : Q4) : Bool := !(q.f0 == a || q.f1 == a || q.f2 == a || q.f3 == a)
def brkQ (n : Nat) (s : ByteArray) (a : Int) (q : Q4) : Bool := brk n s a q.f0 q.f1 q.f2 q.f3
def anyA (n : Nat) (s : ByteArray) (a : Nat) : Bool := (quad n).any fun q => avoid a q && brkQ n s a q
def anyB (n : Nat) (s : ByteArray) : Bool := (List.range n).any (anyA n s)
def oth (n a : Nat) : List Int := ((List.range n).filter fun x => x != a).map fun x : Nat => (x : Int)
def listQ (n a : Nat) : List Q4 :=
  ((List.range (oth n a).length).drop 0).flatMap fun b : Nat => ((List.range (oth n a).length).drop (b + 1)).flatMap fun c : Nat => ((List.range (oth n a).length).drop (c + 1)).flatMap fun d : Nat => ((List.range (oth n a).length).drop (d + 1)).map fun e : Nat =>
    (⟨rd (oth n a) (b : Int), rd (oth n a) (c : Int), rd (oth n a) (d : Int), rd (oth n a) (e : Int)⟩ : Q4)
def tup (q : Q4) : Int × Int × Int × Int := (q.f0, q.f1, q.f2, q.f3)
def untup (q : Int × Int × Int × Int) : Q4 := ⟨q.1, q.2.1, q.2.2.1, q.2.2.2⟩
section
variable (n : Nat) (s : ByteArray) (a : Nat)
def b4 (b c d e : Nat) : Bool := brk n s a (rd (oth n a) (b : Int)) (rd (oth n a) (c : Int)) (rd (oth n a) (d : Int)) (rd (oth n a) (e : Int))
def b3 (b c d : Nat) : Bool := ((List.range (oth n a).length).drop (d + 1)).any (b4 n s a b c d)
def b2 (b c : Nat) : Bool := ((List.range (oth n a).length).drop (c + 1)).any (b3 n s a b c)
def b1 (b : Nat) : Bool := ((List.range (oth n a).length).drop (b + 1)).any (b2 n s a b)
end
def isM (n : Int) (s : ByteArray) : Bool := isS n s && !anyB n.toNat s
def byteS (v : Int) : ByteArray := if v > 0 then ⟨#[43]⟩ else ⟨#[45]⟩
def circT (p q r t : Int) : ByteArray := (((⟨#[43]⟩ : ByteArray) ++ byteS (wrap64 ((wrap64 (-p)) * q))) ++ byteS (wrap64 (p * r))) ++ byteS (wrap64 ((wrap64 (-p)) * t))
theorem l3Byte_eq (v : Int) : spec_l3Byte.f v = some (byteS v) := by
  unfold spec_l3Byte.f byteS
  by_cases h : v > 0
  · rw [if_pos h, if_pos h]
  · rw [if_neg h, if_neg h]
theorem byteS_size (v : Int) : (byteS v).size = 1 := by
  unfold byteS
  by_cases h : v > 0
  · rw [if_pos h]; rfl
  · rw [if_neg h]; rfl
def pm1 : List Int := [1, -1]
def listC (n : Nat) : List Q4 :=
  ((List.range n).drop 0).flatMap fun a : Nat => ((List.range n).drop (a + 1)).flatMap fun b : Nat => ((List.range n).drop (b + 1)).flatMap fun c : Nat => ((List.range n).drop (c + 1)).map fun d : Nat => (⟨a, b, c, d⟩ : Q4)
def mixed (n : Nat) (s : ByteArray) (a b c d : Int) : Bool := !decide ((circT (sg n s b c d) (sg n s a c d) (sg n s a b d) (sg n s a b c)).toList = ([43, 43, 43, 43] : List UInt8))
def mixQ (n : Nat) (s : ByteArray) (q : Q4) : Bool := mixed n s q.f0 q.f1 q.f2 q.f3
def acyT (n : Nat) (s : ByteArray) : Bool := (quad n).all (mixQ n s)
section
variable (n : Nat) (s : ByteArray)
def m4 (a b c d : Nat) : Bool := mixed n s a b c d
def m3 (a b c : Nat) : Bool := ((List.range n).drop (c + 1)).all (m4 n s a b c)
def m2 (a b : Nat) : Bool := ((List.range n).drop (b + 1)).all (m3 n s a b)
def m1 (a : Nat) : Bool := ((List.range n).drop (a + 1)).all (m2 n s a)
end
def isA (n : Int) (s : ByteArray) : Bool := isM n s && acyT n.toNat s
def D4 (n a b c d : Nat) : Prop := (a < n ∧ b < n ∧ c < n ∧ d < n) ∧ (a ≠ b ∧ a ≠ c ∧ a ≠ d ∧ b ≠ c ∧ b ≠ d ∧ c ≠ d)
def ct (n : Nat) (s : ByteArray) (a b c d : Nat) : ByteArray := circT (sg n s b c d) (sg n s a c d) (sg n s a b d) (sg n s a b c)
def sb (x : Bool) : UInt8 := if x then 43 else 45
def txt (x y z : Bool) : ByteArray := ⟨#[43, sb x, sb y, sb z]⟩
def cx (n : Nat) (s : ByteArray) (a b c d : Nat) : Bool := sg n s b c d != sg n s a c d
def cy (n : Nat) (s : ByteArray) (a b c d : Nat) : Bool := sg n s b c d == sg n s a b d
def cz (n : Nat) (s : ByteArray) (a b c d : Nat) : Bool := sg n s b c d != sg n s a b c
def bools : List Bool := [true, false]
def spl (x y z : Bool) (a b c d : Nat) : Int × Int :=
  let e : Nat → Bool → Int := fun i p => if p then 2 ^ i else 0
  (2 ^ a + e b x + e c y + e d z, e b (!x) + e c (!y) + e d (!z))
def okSpl (a b c d : Nat) : Bool := a == b || a == c || a == d || b == c || b == d || c == d || bools.all fun x => bools.all fun y => bools.all fun z =>
  impl_chi_split.l0 6 (txt x y z) 0 0 [(a : Int), b, c, d] 4 0 == some (spl x y z a b c d) && spec_l5Split.l0 6 [(a : Int), b, c, d] (txt x y z) 0 0 0 == some (spl x y z a b c d)
theorem D4.up {n a b c d : Nat} (h : D4 n a b c d) (hn : n ≤ 7) : D4 7 a b c d := by
  obtain ⟨⟨ha, hb, hc, hd⟩, h1, h2, h3, h4, h5, h6⟩ := h
  exact ⟨⟨by omega, by omega, by omega, by omega⟩, h1, h2, h3, h4, h5, h6⟩
def sp (n : Nat) (s : ByteArray) (a b c d : Nat) : Int × Int := spl (cx n s a b c d) (cy n s a b c d) (cz n s a b c d) a b c d
def pick1 (x : Int) : List Nat → Int
  | [] => -1
  | i :: is => if x = 2 ^ i then i else pick1 x is
def only (x : Int) : Int := pick1 x (List.range 7)
def inn (n : Nat) (s : ByteArray) (a b c d : Nat) : Int := mx (only (sp n s a b c d).1) (only (sp n s a b c d).2)
def has (set : Int) (i : Nat) : Bool := (Go.bits .and .i64 (shr .i64 set (i : Int)) 1) == 1
def listT (n : Nat) : List T3 :=
  ((List.range n).drop 0).flatMap fun a : Nat => ((List.range n).drop (a + 1)).flatMap fun b : Nat => ((List.range n).drop (b + 1)).map fun c : Nat => (⟨a, b, c⟩ : T3)
def tupT (q : T3) : Int × Int × Int := (q.f0, q.f1, q.f2)
def untupT (q : Int × Int × Int) : T3 := ⟨q.1, q.2.1, q.2.2⟩
theorem untupT_map (l : List T3) : (l.map tupT).map untupT = l := by
  rw [List.map_map]
  exact List.map_id' l
theorem all_t : (List.range 8).all (fun n => (listT n).map tupT == (tri n).map tupT) = true := by decide +kernel
theorem listT_eq (n : Nat) (hn : n ≤ 7) : listT n = tri n := by
  have h := all_t
  rw [List.all_eq_true] at h
  have h := congrArg (List.map untupT) (eq_of_beq (h n (by simp; omega)))
  rwa [untupT_map, untupT_map] at h
def okMask (set a b c : Nat) : Bool := decide (Go.bits .and .i64 (set : Int) (Go.bits .or .i64 (Go.bits .or .i64 (shl .i64 1 (a : Int)) (shl .i64 1 (b : Int))) (shl .i64 1 (c : Int))) = Go.bits .or .i64 (Go.bits .or .i64 (shl .i64 1 (a : Int)) (shl .i64 1 (b : Int))) (shl .i64 1 (c : Int))) == (has set a && has set b && has set c)
def hulT (n : Nat) (s : ByteArray) (set : Int) (p : Nat) (a b c : Nat) : Bool := has set a && has set b && has set c && (inn n s p a b c == p)
def hul (n : Nat) (s : ByteArray) (set : Int) (p : Nat) : Bool := (tri n).any fun t => hulT n s set p t.f0.toNat t.f1.toNat t.f2.toNat
def pm (v : Int) : Int := if v > 0 then 43 else 45
def codesT (l : List Int) (ts : List T3) : List Int := ts.map fun t => pm (chiA l t.f0 t.f1 t.f2)
theorem signs_ev (n : Nat) (hn : n ≤ 7) (l : List Int) (hl : l.length = 344) (hc : chiN l = n) : Ev (fun k => impl_chi_signs.f k l) ((n : Int), strOfNums (codesT l (tri n))) := by
  unfold impl_chi_signs.f
  rw [hc]
  refine Ev.ite_pos (by omega) (Ev.bind (triplesOf_ev n hn) ?_)
  have h35 : (tri n).length ≤ 1000 := by
    have : (List.range 8).all (fun n => decide ((tri n).length ≤ 1000)) = true := by decide +kernel
    rw [List.all_eq_true] at this
    simpa using this n (by simp; omega)
  have key := Ev.loop (fun i k => impl_chi_signs.l0 k l (codesT l ((tri n).take i)) (tri n) (tri n).length i) (tri n).length ((n : Int), strOfNums (codesT l (tri n))) ?_ ?_ 0 (by omega)
  · simpa [codesT] using key
  · refine Ev.step (fun k => impl_chi_signs.l0.eq_2 ..) (Ev.ite_neg (by omega) (Ev.ite_pos (by omega) (Ev.const ?_)))
    rw [List.take_length, hc]
  · intro i hi ih
    have ht := tri_at n hn i hi
    have hlen : (codesT l ((tri n).take i)).length < 140737488355328 := by unfold codesT; simp; omega
    refine Ev.step (fun k => impl_chi_signs.l0.eq_2 ..) (Ev.ite_pos (by omega) (Ev.ite_pos (by omega) (Ev.ite_pos (by omega) (Ev.ite_pos (by omega) ?_))))
    rw [wrap_nat i (by omega), rdT_lt _ i hi]
    have hcod : codesT l ((tri n).take (i + 1)) = codesT l ((tri n).take i) ++ [pm (chiA l (tri n)[i].f0 (tri n)[i].f1 (tri n)[i].f2)] := by
      unfold codesT
      rw [List.take_succ_eq_append_getElem hi, List.map_append]
      rfl
    rw [hcod] at ih
    generalize (tri n)[i] = t at ih ht ⊢
    unfold okT at ht
    rw [decide_eq_true_eq] at ht
    refine Ev.ite_pos (by omega) (Ev.ite_pos (by omega) (Ev.ite_pos (by omega) (Ev.ite_pos (by omega) (Ev.ite_pos (by omega) (Ev.ite_pos (by omega) ?_)))))
    unfold pm at ih
    by_cases h : chiA l t.f0 t.f1 t.f2 > 0
    · rw [if_pos h] at ih
      exact Ev.ite_pos h (Ev.ite_pos hlen ih)
    · rw [if_neg h] at ih
      exact Ev.ite_neg h (Ev.ite_pos hlen ih)
theorem all_tri : (List.range 8).all (fun n => (List.range (tri n).length).all fun m => (let t := (tri n).getD m ⟨0, 0, 0⟩; src (tri n) 0 t.f0 t.f1 t.f2 == some (m, true))) = true := by decide +kernel
theorem tri_src (n : Nat) (hn : n ≤ 7) (m : Nat) (hm : m < (tri n).length) : src (tri n) 0 (tri n)[m].f0 (tri n)[m].f1 (tri n)[m].f2 = some (m, true) := by
  have g := all_tri
  rw [List.all_eq_true] at g
  have g := g n (by simp; omega)
  rw [List.all_eq_true] at g
  have g := g m (by simpa using hm)
  rw [getD_lt _ _ _ hm] at g
  simpa using g
theorem tri_nat (n : Nat) (hn : n ≤ 7) (m : Nat) (hm : m < (tri n).length) : ∃ a b c : Nat, a < b ∧ b < c ∧ c < n ∧ (tri n)[m] = ⟨a, b, c⟩ := by
  have h := tri_ok n hn
  rw [List.all_eq_true] at h
  have h := h _ (List.getElem_mem hm)
  generalize (tri n)[m] = t at h ⊢
  obtain ⟨a, b, c⟩ := t
  unfold okT at h
  rw [decide_eq_true_eq] at h
  dsimp only at h
  obtain ⟨a, rfl⟩ := Int.eq_ofNat_of_zero_le h.1
  obtain ⟨b, rfl⟩ := Int.eq_ofNat_of_zero_le (show 0 ≤ b by omega)
  obtain ⟨c, rfl⟩ := Int.eq_ofNat_of_zero_le (show 0 ≤ c by omega)
  exact ⟨a, b, c, by omega, by omega, by omega, rfl⟩
theorem tab_tri (n : Nat) (hn : n ≤ 7) (s : ByteArray) (m : Nat) (hm : m < (tri n).length) : chiA (tab n s) (tri n)[m].f0 (tri n)[m].f1 (tri n)[m].f2 = sgAt s m := by
  obtain ⟨a, b, c, h1, h2, h3, e⟩ := tri_nat n hn m hm
  have hs := tri_src n hn m hm
  rw [e] at hs ⊢
  dsimp only at hs ⊢
  rw [tab_at n hn s a b c (by omega) (by omega) (by omega)]
  unfold sg
  rw [hs]
  rfl
def okD3 (t : T3) : Prop := ∃ a b c : Nat, t = ⟨a, b, c⟩ ∧ a < 7 ∧ b < 7 ∧ c < 7 ∧ a ≠ b ∧ b ≠ c ∧ a ≠ c
theorem chiA_put3d (l : List Int) (hl : l.length = 344) (t : T3) (ht : okD3 t) (v : Int) (x y z : Nat) (hx : x < 7) (hy : y < 7) (hz : z < 7) :
    chiA (put3 l t v) x y z = match par t x y z with | some true => v | some false => wrap64 (-v) | none => chiA l x y z := by
  obtain ⟨a, b, c, rfl, ha, hb, hc, h1, h2, h3⟩ := ht
  exact chiA_set l hl a b c ha hb hc h1 h2 h3 v x y z hx hy hz
theorem chiA_filld (v : Nat → Int) (x y z : Nat) (hx : x < 7) (hy : y < 7) (hz : z < 7) : ∀ (ts : List T3), (∀ t ∈ ts, okD3 t) → ∀ m l, l.length = 344 → chiA (fill v ts m l) x y z = sval v (chiA l x y z) (src ts m x y z) := by
  intro ts
  induction ts with
  | nil => intro _ m l _; rfl
  | cons t ts ih =>
    intro h m l hl
    rw [fill, ih (fun u hu => h u (List.mem_cons_of_mem _ hu)) (m + 1) _ (by unfold put3; rw [chiSet_length]; exact hl), chiA_put3d l hl t (h t List.mem_cons_self) (v m) x y z hx hy hz, src]
    cases hs : src ts (m + 1) x y z with
    | some p => obtain ⟨q, b⟩ := p; cases b <;> rfl
    | none =>
      cases hp : par t x y z with
      | none => rfl
      | some b => cases b <;> rfl
def permT (p : List Int) (t : T3) : T3 := ⟨rd p t.f0, rd p t.f1, rd p t.f2⟩
def isP (n : Nat) (p : List Int) : Prop := p.length = n ∧ (inv p).length = n ∧ ∀ a, a < n → (0 ≤ rd p (a : Int) ∧ rd p (a : Int) < n ∧ 0 ≤ rd (inv p) (a : Int) ∧ rd (inv p) (a : Int) < n) ∧ ∀ x, x < n → ((x : Int) = rd p (a : Int) ↔ rd (inv p) (x : Int) = (a : Int))
theorem par_perm (n : Nat) (p : List Int) (hp : isP n p) (a b c x y z : Nat) (ha : a < n) (hb : b < n) (hc : c < n) (hx : x < n) (hy : y < n) (hz : z < n) :
    par (permT p ⟨a, b, c⟩) x y z = par ⟨a, b, c⟩ (rd (inv p) (x : Int)) (rd (inv p) (y : Int)) (rd (inv p) (z : Int)) := by
  have h : ∀ u v : Nat, u < n → v < n → ((u : Int) = rd p (v : Int) ↔ rd (inv p) (u : Int) = (v : Int)) := fun u v hu hv => (hp.2.2 v hv).2 u hu
  unfold par permT
  simp only [h x a hx ha, h x b hx hb, h x c hx hc, h y a hy ha, h y b hy hb, h y c hy hc, h z a hz ha, h z b hz hb, h z c hz hc]
theorem src_perm (n : Nat) (p : List Int) (hp : isP n p) (x y z : Nat) (hx : x < n) (hy : y < n) (hz : z < n) : ∀ (ts : List T3), (∀ t ∈ ts, ∃ a b c : Nat, t = ⟨a, b, c⟩ ∧ a < n ∧ b < n ∧ c < n) → ∀ m,
    src (ts.map (permT p)) m x y z = src ts m (rd (inv p) (x : Int)) (rd (inv p) (y : Int)) (rd (inv p) (z : Int)) := by
  intro ts
  induction ts with
  | nil => intro _ m; rfl
  | cons t ts ih =>
    intro h m
    obtain ⟨a, b, c, rfl, ha, hb, hc⟩ := h t List.mem_cons_self
    rw [List.map_cons, src, src, ih (fun u hu => h u (List.mem_cons_of_mem _ hu)), par_perm n p hp a b c x y z ha hb hc hx hy hz]
theorem tri_mem (n : Nat) (hn : n ≤ 7) (t : T3) (h : t ∈ tri n) : ∃ a b c : Nat, t = ⟨a, b, c⟩ ∧ a < b ∧ b < c ∧ c < n := by
  obtain ⟨m, hm, rfl⟩ := List.getElem_of_mem h
  obtain ⟨a, b, c, h1, h2, h3, e⟩ := tri_nat n hn m hm
  exact ⟨a, b, c, e, h1, h2, h3⟩
theorem perm_ne (n : Nat) (p : List Int) (hp : isP n p) (a b : Nat) (ha : a < n) (hb : b < n) (h : a ≠ b) : rd p (a : Int) ≠ rd p (b : Int) := by
  intro e
  have h1 := hp.2.2 a ha
  have h2 := hp.2.2 b hb
  obtain ⟨u, hu⟩ := Int.eq_ofNat_of_zero_le h1.1.1
  have hun : u < n := by omega
  have k1 := (h1.2 u hun).mp hu.symm
  have k2 := (h2.2 u hun).mp (by rw [← e]; exact hu.symm)
  omega
theorem permT_ok (n : Nat) (hn : n ≤ 7) (p : List Int) (hp : isP n p) (t : T3) (h : t ∈ tri n) : okD3 (permT p t) := by
  obtain ⟨a, b, c, rfl, h1, h2, h3⟩ := tri_mem n hn t h
  have ka := (hp.2.2 a (by omega)).1
  have kb := (hp.2.2 b (by omega)).1
  have kc := (hp.2.2 c (by omega)).1
  have n1 := perm_ne n p hp a b (by omega) (by omega) (by omega)
  have n2 := perm_ne n p hp b c (by omega) (by omega) (by omega)
  have n3 := perm_ne n p hp a c (by omega) (by omega) (by omega)
  exact ⟨(rd p (a : Int)).toNat, (rd p (b : Int)).toNat, (rd p (c : Int)).toNat, by unfold permT; congr 1 <;> dsimp only <;> omega, by omega, by omega, by omega, by omega, by omega, by omega⟩
def pickC (n : Nat) (s : ByteArray) (q : List Int) : List Int := (tri n).map fun t => pm (sg n s (rd q t.f0) (rd q t.f1) (rd q t.f2))
def pickT (n : Nat) (s : ByteArray) (q : List Int) : ByteArray := strOfNums (pickC n s q)
theorem rename_ev (n : Nat) (hn : n ≤ 7) (s : ByteArray) (p : List Int) (hp : isP n p) : Ev (fun k => impl_chi_rename.f k (tab n s) p) ((n : Int), pickT n s (inv p)) := by
  have hl := tab_length n s
  have h35 : (tri n).length ≤ 1000 := by
    have : (List.range 8).all (fun n => decide ((tri n).length ≤ 1000)) = true := by decide +kernel
    rw [List.all_eq_true] at this
    simpa using this n (by simp; omega)
  unfold impl_chi_rename.f
  rw [tab_n]
  refine Ev.ite_pos (by omega) (Ev.bind (triplesOf_ev n hn) ?_)
  have key := Ev.loop (fun i k => impl_chi_rename.l0 k (tab n s) p (fill (sgAt s) (((tri n).take i).map (permT p)) 0 (chiNew n)) (tri n) (tri n).length i) (tri n).length ((n : Int), pickT n s (inv p)) ?_ ?_ 0 (by omega)
  · simpa [fill] using key
  · have hY : (fill (sgAt s) ((tri n).map (permT p)) 0 (chiNew n)).length = 344 := by rw [fill_length, chiNew_length]
    have hN : chiN (fill (sgAt s) ((tri n).map (permT p)) 0 (chiNew n)) = n := by rw [chiN_fill _ _ _ _ (chiNew_length _)]; rfl
    rw [List.take_length]
    refine Ev.step (fun k => impl_chi_rename.l0.eq_2 ..) (Ev.ite_neg (by omega) (Ev.bind (signs_ev n hn _ hY hN) (Ev.const ?_)))
    have e : codesT (fill (sgAt s) ((tri n).map (permT p)) 0 (chiNew n)) (tri n) = pickC n s (inv p) := by
      unfold codesT pickC
      apply List.map_congr_left
      intro t ht
      obtain ⟨a, b, c, rfl, h1, h2, h3⟩ := tri_mem n hn t ht
      dsimp only
      rw [chiA_filld (sgAt s) a b c (by omega) (by omega) (by omega) _ (fun u hu => by obtain ⟨w, hw, rfl⟩ := List.mem_map.mp hu; exact permT_ok n hn p hp w hw) 0 _ (chiNew_length _), chiA_new _ a b c (by omega) (by omega) (by omega)]
      rw [src_perm n p hp a b c (by omega) (by omega) (by omega) (tri n) (fun u hu => by obtain ⟨x, y, z, e, g1, g2, g3⟩ := tri_mem n hn u hu; exact ⟨x, y, z, e, by omega, by omega, by omega⟩) 0]
      rfl
    rw [e]
    rfl
  · intro i hi ih
    have hm := List.getElem_mem hi
    obtain ⟨a, b, c, hab, hbc, hcn, e⟩ := tri_nat n hn i hi
    have hok := permT_ok n hn p hp _ hm
    have htab := tab_tri n hn s i hi
    refine Ev.step (fun k => impl_chi_rename.l0.eq_2 ..) (Ev.ite_pos (by omega) (Ev.ite_pos (by omega) (Ev.ite_pos (by omega) ?_)))
    rw [rdT_lt _ i hi, wrap_nat i (by omega)]
    rw [List.take_succ_eq_append_getElem hi, List.map_append, fill_append, Nat.zero_add, List.length_map, List.length_take, Nat.min_eq_left (by omega)] at ih
    have hlY : (fill (sgAt s) (((tri n).take i).map (permT p)) 0 (chiNew n)).length = 344 := by rw [fill_length, chiNew_length]
    rw [e] at hok htab ih ⊢
    generalize fill (sgAt s) (((tri n).take i).map (permT p)) 0 (chiNew n) = Y at ih hlY ⊢
    dsimp only at htab ⊢
    have hpl := hp.1
    refine Ev.ite_pos (by omega) (Ev.ite_pos (by omega) (Ev.ite_pos (by omega) (Ev.ite_pos (by omega) (Ev.ite_pos (by omega) (Ev.ite_pos (by omega) (Ev.ite_pos (by omega) (Ev.ite_pos (by omega) (Ev.ite_pos (by omega) (Ev.ite_pos (by omega) ?_)))))))))
    rw [htab]
    refine Ev.bind0 (a := put3 Y (permT p ⟨a, b, c⟩) (sgAt s i)) ?_ ih
    obtain ⟨u, v, w, eu, hu, hv, hw, n1, n2, n3⟩ := hok
    have e1 : rd p (a : Int) = u := congrArg S122.f0 eu
    have e2 : rd p (b : Int) = v := congrArg S122.f1 eu
    have e3 : rd p (c : Int) = w := congrArg S122.f2 eu
    rw [eu, e1, e2, e3]
    unfold impl_chi_set.f
    rw [if_pos ⟨hlY, by omega, by omega, by omega⟩]
    rfl
theorem Ev.loopS {σ ρ : Type} (g : σ → Nat → Nat → Option ρ) (m : Nat) (I : σ → Nat → Prop) (R : σ → Nat → ρ) (hend : ∀ S, I S m → Ev (g S m) (R S m))
    (hstep : ∀ S i, i < m → I S i → (∀ S', I S' (i + 1) → Ev (g S' (i + 1)) (R S' (i + 1))) → Ev (g S i) (R S i)) : ∀ i, i ≤ m → ∀ S, I S i → Ev (g S i) (R S i) := by
  have key : ∀ d i, i + d = m → ∀ S, I S i → Ev (g S i) (R S i) := by
    intro d
    induction d with
    | zero => intro i hi S hS; obtain rfl : i = m := by omega
              exact hend S hS
    | succ d ih => intro i hi S hS; exact hstep S i (by omega) hS (fun S' hS' => ih (i + 1) (by omega) S' hS')
  intro i hi
  exact key (m - i) i (by omega)
def rem2 (n i j k : Nat) : List T3 := ((List.range n).drop k).map fun c : Nat => (⟨i, j, c⟩ : T3)
def rem1 (n i j : Nat) : List T3 := ((List.range n).drop j).flatMap fun b : Nat => rem2 n i b (b + 1)
def rem0 (n i : Nat) : List T3 := ((List.range n).drop i).flatMap fun a : Nat => rem1 n a (a + 1)
theorem rem0_all (n : Nat) (hn : n ≤ 7) : rem0 n 0 = tri n := listT_eq n hn
def strP (n : Nat) (s : ByteArray) (q : List Int) (ts : List T3) : ByteArray := strOfNums (ts.map fun t => pm (sg n s (rd q t.f0) (rd q t.f1) (rd q t.f2)))
theorem strOfNums_append (a b : List Int) : strOfNums (a ++ b) = strOfNums a ++ strOfNums b := by
  unfold strOfNums
  apply ByteArray.ext
  apply Array.ext'
  simp [ByteArray.data_append]
theorem strOfNums_size (a : List Int) : (strOfNums a).size = a.length := by
  unfold strOfNums
  show (Array.size _) = _
  simp
theorem strP_cons (n : Nat) (s : ByteArray) (q : List Int) (t : T3) (ts : List T3) : strP n s q (t :: ts) = byteS (sg n s (rd q t.f0) (rd q t.f1) (rd q t.f2)) ++ strP n s q ts := by
  unfold strP
  rw [List.map_cons, show ∀ (x : Int) (l : List Int), x :: l = [x] ++ l from fun _ _ => rfl, strOfNums_append]
  congr 1
  unfold pm byteS
  by_cases h : sg n s (rd q t.f0) (rd q t.f1) (rd q t.f2) > 0
  · rw [if_pos h, if_pos h]
    rfl
  · rw [if_neg h, if_neg h]
    rfl
theorem strP_append (n : Nat) (s : ByteArray) (q : List Int) (a b : List T3) : strP n s q (a ++ b) = strP n s q a ++ strP n s q b := by
  unfold strP
  rw [List.map_append, strOfNums_append]
theorem pick_ev (n : Nat) (hn : n ≤ 7) (s : ByteArray) (hs : s.size = (tri n).length) (q : List Int) (hq : isP n q) : Ev (fun k => spec_l3Pick.f k n s q) ((n : Int), pickT n s q) := by
  have hql := hq.1
  unfold spec_l3Pick.f
  have hnil : (⟨#[]⟩ : ByteArray).size = 0 := rfl
  have key := Ev.loopS (fun (S : ByteArray) i k => spec_l3Pick.l0 k q i n s (q.length : Int) S) n (fun S i => S.size ≤ 1000 * i) (fun S i => ((n : Int), S ++ strP n s q (rem0 n i))) ?_ ?_ 0 (by omega) (⟨#[]⟩ : ByteArray) (by omega)
  · rw [rem0_all n hn] at key
    rw [show pickT n s q = (⟨#[]⟩ : ByteArray) ++ strP n s q (tri n) by unfold pickT strP pickC; exact (ByteArray.empty_append).symm]
    exact key
  · intro S hS
    refine Ev.step (fun k => spec_l3Pick.l0.eq_2 ..) (Ev.ite_neg (by omega) (Ev.const ?_))
    unfold rem0
    rw [List.drop_of_length_le (by simp), hql]
    show some ((n : Int), S) = some ((n : Int), S ++ (⟨#[]⟩ : ByteArray))
    rw [show S ++ (⟨#[]⟩ : ByteArray) = S from ByteArray.append_empty]
  · intro S i hi hS ih
    refine Ev.step (fun k => spec_l3Pick.l0.eq_2 ..) (Ev.ite_pos (by omega) ?_)
    rw [wrap_nat i (by omega)]
    rw [show rem0 n i = rem1 n i (i + 1) ++ rem0 n (i + 1) by unfold rem0; rw [range_drop' n i hi, List.flatMap_cons], strP_append, ← ByteArray.append_assoc]
    refine Ev.loopS (fun (S : ByteArray) j k => spec_l3Pick.l1 k q i j n s (q.length : Int) S) n (fun S j => i < j ∧ S.size ≤ 1000 * i + 100 * j) (fun S j => ((n : Int), (S ++ strP n s q (rem1 n i j)) ++ strP n s q (rem0 n (i + 1)))) ?_ ?_ (i + 1) (by omega) S ⟨by omega, by omega⟩
    · intro S hS
      refine Ev.step (fun k => spec_l3Pick.l1.eq_2 ..) (Ev.ite_neg (by omega) ?_)
      rw [wrap_nat i (by omega)]
      have h := ih S (by omega)
      rw [show S ++ strP n s q (rem1 n i n) = S by unfold rem1; rw [List.drop_of_length_le (by simp)]; exact ByteArray.append_empty]
      exact h
    · intro S j hj hS ihj
      refine Ev.step (fun k => spec_l3Pick.l1.eq_2 ..) (Ev.ite_pos (by omega) ?_)
      rw [wrap_nat j (by omega)]
      rw [show rem1 n i j = rem2 n i j (j + 1) ++ rem1 n i (j + 1) by unfold rem1; rw [range_drop' n j hj, List.flatMap_cons], strP_append, ← ByteArray.append_assoc]
      have hij := hS.1
      · refine Ev.loopS (fun (S : ByteArray) m k => spec_l3Pick.l2 k q i j m n s (q.length : Int) S) n (fun S m => j < m ∧ S.size ≤ 1000 * i + 100 * j + m) (fun S m => ((n : Int), ((S ++ strP n s q (rem2 n i j m)) ++ strP n s q (rem1 n i (j + 1))) ++ strP n s q (rem0 n (i + 1)))) ?_ ?_ (j + 1) (by omega) S (by omega)
        · intro S hS
          refine Ev.step (fun k => spec_l3Pick.l2.eq_2 ..) (Ev.ite_neg (by omega) ?_)
          rw [wrap_nat j (by omega)]
          have h := ihj S ⟨by omega, by omega⟩
          rw [show S ++ strP n s q (rem2 n i j n) = S by unfold rem2; rw [List.drop_of_length_le (by simp)]; exact ByteArray.append_empty]
          exact h
        · intro S m hm hS ihm
          have ki := (hq.2.2 i hi).1
          have kj := (hq.2.2 j hj).1
          have km := (hq.2.2 m hm).1
          have n1 := perm_ne n q hq i j hi hj (by omega)
          have n2 := perm_ne n q hq j m hj hm (by omega)
          have n3 := perm_ne n q hq i m hi hm (by omega)
          refine Ev.step (fun k => spec_l3Pick.l2.eq_2 ..) (Ev.ite_pos (by omega) (Ev.ite_pos (by omega) (Ev.ite_pos (by omega) (Ev.ite_pos (by omega) (Ev.ite_pos (by omega) (Ev.ite_pos (by omega) ?_))))))
          rw [wrap_nat m (by omega)]
          have hb := byteS_size (sg n s (rd q (i : Int)) (rd q (j : Int)) (rd q (m : Int)))
          have h := ihm (S ++ byteS (sg n s (rd q (i : Int)) (rd q (j : Int)) (rd q (m : Int)))) (by rw [ByteArray.size_append, hb]; omega)
          rw [show rem2 n i j m = (⟨i, j, m⟩ : T3) :: rem2 n i j (m + 1) by unfold rem2; rw [range_drop' n m hm, List.map_cons], strP_cons, ← ByteArray.append_assoc]
          have hAt : Ev (fun k => spec_l3At.f k n s (rd q (i : Int)) (rd q (j : Int)) (rd q (m : Int))) (sg n s (rd q (i : Int)) (rd q (j : Int)) (rd q (m : Int))) := by
            obtain ⟨a, ha⟩ := Int.eq_ofNat_of_zero_le ki.1
            obtain ⟨b, hb⟩ := Int.eq_ofNat_of_zero_le kj.1
            obtain ⟨c, hc⟩ := Int.eq_ofNat_of_zero_le km.1
            rw [ha] at n1 n3 ki ⊢
            rw [hb] at n1 n2 kj ⊢
            rw [hc] at n2 n3 km ⊢
            exact l3At_ev n hn s hs a b c (by omega) (by omega) (by omega) (by omega) (by omega) (by omega)
          exact Ev.bind hAt (Ev.bind0 (l3Byte_eq _) (Ev.ite_pos (by rw [hb]; omega) h))
theorem szSigns_eqO (n : Int) (s : ByteArray) (a : Int) (h0 : 0 ≤ a) (h1 : a ≤ 1048576) (hl : s.size ≤ 9223372036854775807) : laws_szSigns.f n s a = some (if a < s.size then -1 else a - s.size) := by
  unfold laws_szSigns.f
  rw [wrap_in (by omega) (by omega)]
  by_cases h : a < (s.size : Int)
  · rw [if_pos h, if_pos (by omega)]
  · rw [if_neg h, if_neg (by omega)]
theorem AN_len (n : Nat) (hn : n ≤ 6) : (AN n).length ≤ 46656 := lev_len2 n hn n hn
theorem AN_P (n : Nat) (hn : n ≤ 6) (p : List Int) (h : p ∈ AN n) : isP n p := P_at n hn p h
theorem isS_nat {n : Int} {s : ByteArray} (h : isS n s = true) : ∃ m : Nat, n = m ∧ 3 ≤ m ∧ m ≤ 7 ∧ s.size = (tri m).length ∧ s.size ≤ 35 ∧ (List.range s.size).all (isPM s) = true := by
  obtain ⟨h3, h7, hs, h35⟩ := isS_bounds h
  obtain ⟨m, rfl⟩ := Int.eq_ofNat_of_zero_le (show 0 ≤ n by omega)
  rw [Int.toNat_natCast] at hs
  unfold isS at h
  rw [Bool.and_eq_true] at h
  exact ⟨m, rfl, by omega, by omega, hs, h35, h.2⟩
def texts (n : Nat) (s : ByteArray) : List ByteArray := (AN n).map fun p => pickT n s (inv p)
theorem renamed_yes (n : Nat) (hn : n ≤ 6) (s : ByteArray) (hs : s.size = (tri n).length) (hA : isS n s = true) : Ev (fun k => impl_renamed.f k n s) (texts n s, true) := by
  have hS := impl_AreSigns_ev n s
  rw [hA] at hS
  have hlen := AN_len n hn
  unfold impl_renamed.f
  refine Ev.bind hS (Ev.ite_pos rfl (Ev.step (fun k => impl_renamed.j0.eq_2 ..) (Ev.ite_neg (by simp; omega) (Ev.bind (tableOf_ev n (by omega) s hs) (Ev.bind (allNames_ev n hn) ?_)))))
  have key := Ev.loop (fun i k => impl_renamed.l0 k (tab n s) (((AN n).take i).map fun p => pickT n s (inv p)) (AN n) (AN n).length i) (AN n).length (texts n s, true) ?_ ?_ 0 (by omega)
  · simpa using key
  · refine Ev.step (fun k => impl_renamed.l0.eq_2 ..) (Ev.ite_neg (by omega) (Ev.const ?_))
    rw [List.take_length]
    rfl
  · intro i hi ih
    refine Ev.step (fun k => impl_renamed.l0.eq_2 ..) (Ev.ite_pos (by omega) (Ev.ite_pos (by omega) (Ev.ite_pos (by omega) ?_)))
    rw [rdL _ i hi, wrap_nat i (by omega)]
    rw [List.take_succ_eq_append_getElem hi, List.map_append] at ih
    exact Ev.bind (rename_ev n (by omega) s _ (AN_P n hn _ (List.getElem_mem hi))) (Ev.ite_pos (by simp; omega) ih)
theorem renamed_no (n : Int) (s : ByteArray) (h : isS n s = false ∨ n > 6) : Ev (fun k => impl_renamed.f k n s) ([], false) := by
  have hS := impl_AreSigns_ev n s
  unfold impl_renamed.f
  refine Ev.bind hS ?_
  cases hA : isS n s with
  | false => exact Ev.ite_neg (by simp) (Ev.step (fun k => impl_renamed.j0.eq_2 ..) (Ev.ite_pos rfl (Ev.now _)))
  | true =>
    have h6 : n > 6 := by
      rcases h with h | h
      · rw [hA] at h
        cases h
      · exact h
    exact Ev.ite_pos rfl (Ev.step (fun k => impl_renamed.j0.eq_2 ..) (Ev.ite_pos (by simpa using h6) (Ev.now _)))
theorem fits_ev (n : Int) (s : ByteArray) : Ev (fun k => spec_l19Fits.f k n s) (isS n s && decide (n ≤ 6)) := by
  have hS := spec_AreSigns_ev n s
  unfold spec_l19Fits.f
  refine Ev.bind hS ?_
  cases isS n s with
  | false => exact Ev.ite_neg (by simp) (Ev.now _)
  | true => exact Ev.ite_pos rfl (Ev.now _)
def oppT (s : ByteArray) : ByteArray := strOfNums (oppL s)
theorem opp_impl (s : ByteArray) (h : s.size ≤ 9223372036854775807) : impl_opposite.f s = some (oppT s) := by
  unfold impl_opposite.f oppT
  rw [if_pos h]
theorem oppL_take (s : ByteArray) (i : Nat) : (List.range (i + 1)).map (fun j : Nat => oppI (bt s (j : Int))) = (List.range i).map (fun j : Nat => oppI (bt s (j : Int))) ++ [oppI (bt s (i : Int))] := by
  rw [List.range_succ, List.map_append]
  rfl
theorem opp_spec (n : Nat) (s : ByteArray) (hA : isS n s = true) : Ev (fun k => spec_OppositeSigns.f k n s) ((n : Int), oppT s, true) := by
  have hS := spec_AreSigns_ev n s
  rw [hA] at hS
  obtain ⟨m, hm, h3, h7, hs, h35, hpm⟩ := isS_nat hA
  unfold spec_OppositeSigns.f
  refine Ev.bind hS (Ev.ite_pos rfl ?_)
  have key := Ev.loop (fun i k => spec_OppositeSigns.l0 k i n s n (strOfNums ((List.range i).map fun j : Nat => oppI (bt s (j : Int))))) s.size ((n : Int), oppT s, true) ?_ ?_ 0 (by omega)
  · exact key
  · exact Ev.step (fun k => spec_OppositeSigns.l0.eq_2 ..) (Ev.ite_neg (by omega) (Ev.now _))
  · intro i hi ih
    rw [oppL_take, strOfNums_append] at ih
    rw [List.all_eq_true] at hpm
    have hp := hpm i (by simpa using hi)
    unfold isPM at hp
    rw [Bool.or_eq_true, beq_iff_eq, beq_iff_eq] at hp
    have hsz : (strOfNums ((List.range i).map fun j : Nat => oppI (bt s (j : Int)))).size = i := by rw [strOfNums_size]; simp
    refine Ev.step (fun k => spec_OppositeSigns.l0.eq_2 ..) (Ev.ite_pos (by omega) (Ev.ite_pos (by omega) ?_))
    rw [wrap_nat i (by omega)]
    rcases hp with hp | hp
    · rw [hp] at ih ⊢
      exact Ev.bind0 (a := 0) rfl (Ev.bind0 (l3Byte_eq _) (Ev.ite_pos (by rw [hsz, byteS_size]; omega) ih))
    · rw [hp] at ih ⊢
      exact Ev.bind0 (a := 1) rfl (Ev.bind0 (l3Byte_eq _) (Ev.ite_pos (by rw [hsz, byteS_size]; omega) ih))
theorem bt_strOf (L : List Int) (j : Nat) (hj : j < L.length) (h : 0 ≤ L[j] ∧ L[j] < 256) : bt (strOfNums L) (j : Int) = L[j] := by
  unfold bt
  have hs : (strOfNums L).size = L.length := strOfNums_size L
  rw [dif_pos (by rw [Int.toNat_natCast, hs]; exact hj)]
  simp only [Int.toNat_natCast]
  have e : (strOfNums L)[j]'(by rw [hs]; exact hj) = UInt8.ofNat (L[j]).toNat := by
    show (strOfNums L).data[j]'_ = _
    simp [strOfNums]
  rw [e, UInt8.toNat_ofNat']
  omega
theorem src_lt : ∀ (ts : List T3) (m : Nat) (x y z : Int) (q : Nat) (b : Bool), src ts m x y z = some (q, b) → q < m + ts.length
  | [], m, x, y, z, q, b, h => by simp [src] at h
  | t :: ts, m, x, y, z, q, b, h => by
    rw [src] at h
    rw [List.length_cons]
    cases hs : src ts (m + 1) x y z with
    | some p =>
      rw [hs] at h
      obtain ⟨q', b'⟩ := p
      have := src_lt ts (m + 1) x y z q' b' hs
      simp at h
      omega
    | none =>
      rw [hs] at h
      cases hp : par t x y z with
      | none => rw [hp] at h; simp at h
      | some c =>
        rw [hp] at h
        simp at h
        omega
theorem sgAt_opp (s : ByteArray) (h : (List.range s.size).all (isPM s) = true) (m : Nat) (hm : m < s.size) : sgAt (oppT s) m = -sgAt s m := by
  have hl : (oppL s).length = s.size := by simp [oppL]
  have e0 : (oppL s)[m]'(by omega) = oppI (bt s (m : Int)) := by simp [oppL]
  rw [List.all_eq_true] at h
  have hp := h m (by simpa using hm)
  unfold isPM at hp
  rw [Bool.or_eq_true, beq_iff_eq, beq_iff_eq] at hp
  have e : bt (oppT s) (m : Int) = oppI (bt s (m : Int)) := by
    unfold oppT
    rw [bt_strOf _ _ (by omega) (by rw [e0]; rcases hp with hp | hp <;> rw [hp] <;> decide), e0]
  unfold sgAt
  rw [e]
  rcases hp with hp | hp <;> rw [hp] <;> decide
theorem sgAt_pm (s : ByteArray) (m : Nat) : sgAt s m = 1 ∨ sgAt s m = -1 := by
  unfold sgAt
  split
  · exact .inr rfl
  · exact .inl rfl
theorem sg_opp (n : Nat) (s : ByteArray) (hs : s.size = (tri n).length) (h : (List.range s.size).all (isPM s) = true) (x y z : Int) : sg n (oppT s) x y z = -sg n s x y z := by
  unfold sg
  cases hr : src (tri n) 0 x y z with
  | none => rfl
  | some p =>
    obtain ⟨q, b⟩ := p
    have hq := src_lt _ _ _ _ _ _ _ hr
    have e := sgAt_opp s h q (by omega)
    cases b with
    | true => exact e
    | false =>
      show wrap64 (-sgAt (oppT s) q) = -wrap64 (-sgAt s q)
      rw [e]
      rcases sgAt_pm s q with h | h <;> rw [h] <;> decide +kernel
theorem oppL_str (L : List Int) (h : ∀ x ∈ L, 0 ≤ x ∧ x < 256) : oppL (strOfNums L) = L.map oppI := by
  unfold oppL
  rw [strOfNums_size]
  apply List.ext_getElem
  · simp
  · intro i h1 h2
    have hi : i < L.length := by simpa using h2
    simp only [List.getElem_map, List.getElem_range]
    rw [bt_strOf L i hi (h _ (List.getElem_mem hi))]
theorem pick_opp (n : Nat) (hn : n ≤ 7) (s : ByteArray) (hs : s.size = (tri n).length) (h : (List.range s.size).all (isPM s) = true) (q : List Int) (hq : isP n q) : pickT n (oppT s) q = oppT (pickT n s q) := by
  unfold oppT
  rw [show pickT n s q = strOfNums (pickC n s q) from rfl, oppL_str _ (fun x hx => by
    unfold pickC at hx
    obtain ⟨t, _, rfl⟩ := List.mem_map.1 hx
    unfold pm
    split <;> decide)]
  show strOfNums (pickC n (oppT s) q) = _
  congr 1
  unfold pickC
  rw [List.map_map]
  apply List.map_congr_left
  intro t ht
  obtain ⟨a, b, c, rfl, hab, hbc, hcn⟩ := tri_mem n hn t ht
  show pm (sg n (oppT s) _ _ _) = oppI (pm (sg n s _ _ _))
  rw [sg_opp n s hs h]
  obtain ⟨_, _, hp⟩ := hq
  obtain ⟨⟨a0, a1, _, _⟩, _⟩ := hp a (by omega)
  obtain ⟨⟨b0, b1, _, _⟩, _⟩ := hp b (by omega)
  obtain ⟨⟨c0, c1, _, _⟩, _⟩ := hp c (by omega)
  have n1 := perm_ne n q ⟨‹_›, ‹_›, hp⟩ a b (by omega) (by omega) (by omega)
  have n2 := perm_ne n q ⟨‹_›, ‹_›, hp⟩ b c (by omega) (by omega) (by omega)
  have n3 := perm_ne n q ⟨‹_›, ‹_›, hp⟩ a c (by omega) (by omega) (by omega)
  dsimp only
  obtain ⟨a', ea⟩ := Int.eq_ofNat_of_zero_le a0
  obtain ⟨b', eb⟩ := Int.eq_ofNat_of_zero_le b0
  obtain ⟨c', ec⟩ := Int.eq_ofNat_of_zero_le c0
  rw [ea, eb] at n1
  rw [eb, ec] at n2
  rw [ea, ec] at n3
  rw [ea, eb, ec]
  rcases sg_pm n hn s a' b' c' (by omega) (by omega) (by omega) (by omega) (by omega) (by omega) with h | h <;> rw [h] <;> decide
end Go.Proofs.Yteblnjoljbdjjaa.Pure
namespace Go.Proofs.Yteblnjoljbdjjaa.P
open Go.RowKit Go.Proofs.YteblnjoljbdjjaaW.PrintWords Go.Proofs.YteblnjoljbdjjaaW.PrintLast Go.Proofs.YteblnjoljbdjjaaW.PrintMore
set_option linter.unusedVariables false
set_option linter.unusedSimpArgs false
section
variable {α : Type} [Inhabited α] {enc : α → Value} {h1 : ∀ x, (enc x).oneCell' = true} {e base : Nat} {ok : Nat → Prop} {w : World} {v : Value} {xs : List α}
theorem row_blk (h : (Kd.scalar enc h1).R e w base ok v xs) (hne : 0 < xs.length) :
    ∃ g cap cur, v = .slice (some ⟨g, 0, none⟩) xs.length cap ∧ base ≤ g ∧ ok g ∧ w.heap[g]? = some (.cells cur e (0, 0)) ∧ xs.length ≤ cap ∧ cap ≤ maxLen ∧ cur.size = cap ∧ ∀ j, j < xs.length → cur[j]? = some (enc xs[j]!) := by
  obtain ⟨h0, inner, ⟨hl, ho⟩, hr⟩ := h
  rcases ho with ⟨rfl, h2⟩ | ⟨g, cap, cur, rfl, hg, hh, hc, hm, hs, ht⟩
  · omega
  · refine ⟨g, cap, cur, rfl, hg, h0 g rfl, hh, hc, hm, ?_, ?_⟩
    · rw [hs]; exact Nat.mul_one _
    · intro j hj
      have h3 := hr.2 j xs[j]! (by rw [List.getElem?_eq_getElem hj, getElem!_pos xs j hj])
      have h3' : (inner.drop (j * 1)).take 1 = [enc xs[j]!] := h3
      rw [Nat.mul_one] at h3'
      have h4 : inner[j]? = some (enc xs[j]!) := by
        have h5 : ((inner.drop j).take 1)[0]? = some (enc xs[j]!) := by rw [h3']; rfl
        rw [List.getElem?_take_of_lt (by omega), List.getElem?_drop, Nat.add_zero] at h5
        exact h5
      rw [← ht] at h4
      have hjl : j < xs.length * (Kd.scalar enc h1).sz := by show j < xs.length * 1; omega
      rw [List.getElem?_take_of_lt hjl, Array.getElem?_toList] at h4
      exact h4
theorem blk_row {g cap : Nat} {cur : Array Value} (hg : base ≤ g) (hok : ok g) (hh : w.heap[g]? = some (.cells cur e (0, 0))) (hc : xs.length ≤ cap) (hm : cap ≤ maxLen) (hs : cur.size = cap) (hj : ∀ j, j < xs.length → cur[j]? = some (enc xs[j]!)) :
    (Kd.scalar enc h1).R e w base ok (.slice (some ⟨g, 0, none⟩) xs.length cap) xs := by
  refine ⟨fun k hk => ?_, cur.toList.take xs.length, ⟨?_, .inr ⟨g, cap, cur, rfl, hg, hh, hc, hm, ?_, ?_⟩⟩, ?_, ?_⟩
  · have : g = k := by simpa [Value.ownBlock] using hk
    subst this; exact hok
  · show (cur.toList.take xs.length).length = xs.length * 1
    have hcl : cur.toList.length = cur.size := Array.length_toList
    rw [List.length_take, hcl]; omega
  · show cur.size = cap * 1
    omega
  · show cur.toList.take (xs.length * 1) = _
    rw [Nat.mul_one]
  · show (cur.toList.take xs.length).length = xs.length * 1
    have hcl : cur.toList.length = cur.size := Array.length_toList
    rw [List.length_take, hcl]; omega
  · intro j p hp
    have hjl := (List.getElem?_eq_some_iff.1 hp).1
    have hpx : p = xs[j]! := by rw [getElem!_pos xs j hjl]; exact (List.getElem?_eq_some_iff.1 hp).2.symm
    subst hpx
    show ((cur.toList.take xs.length).drop (j * 1)).take 1 = [enc xs[j]!]
    rw [Nat.mul_one]
    have h4 : (cur.toList.take xs.length)[j]? = some (enc xs[j]!) := by
      rw [List.getElem?_take_of_lt hjl, Array.getElem?_toList]; exact hj j hjl
    apply List.ext_getElem?
    intro i
    cases i with
    | zero => rw [List.getElem?_take_of_lt (by omega), List.getElem?_drop, Nat.add_zero, h4]; rfl
    | succ i =>
      rw [List.getElem?_eq_none (by rw [List.length_take]; omega)]
      rfl
theorem put_cur (enc : α → Value) (w : World) (n g off : Nat) (D : Array α) (os : Array Obj) {cur : Array Value} (hb : w.heap[g]? = some (.cells cur e (0, 0))) :
    (Sort.grow (Sort.putRow enc (Sort.ahead w n) g off D) os).heap[g]? = some (.cells (Sort.putCells enc off D cur) e (0, 0)) := by
  have hlt : g < w.heap.size := (Array.getElem?_eq_some_iff.1 hb).1
  show ((w.heap.modify g (Sort.onCells (Sort.putCells enc off D))) ++ os)[g]? = _
  rw [Array.getElem?_append_left (by rw [Array.size_modify]; exact hlt), Array.getElem?_modify, if_pos rfl, hb]
  rfl
theorem put_far (enc : α → Value) (w : World) (n g off : Nat) (D : Array α) (os : Array Obj) (k : Nat) (hk : k < w.heap.size) (hne : k ≠ g) :
    (Sort.grow (Sort.putRow enc (Sort.ahead w n) g off D) os).heap[k]? = w.heap[k]? := by
  show ((w.heap.modify g (Sort.onCells (Sort.putCells enc off D))) ++ os)[k]? = _
  rw [Array.getElem?_append_left (by rw [Array.size_modify]; exact hk), Array.getElem?_modify, if_neg (Ne.symm hne)]
theorem put_size (enc : α → Value) (w : World) (n g off : Nat) (D : Array α) (os : Array Obj) : w.heap.size ≤ (Sort.grow (Sort.putRow enc (Sort.ahead w n) g off D) os).heap.size := by
  show _ ≤ ((w.heap.modify g (Sort.onCells (Sort.putCells enc off D))) ++ os).size
  rw [Array.size_append, Array.size_modify]; omega
theorem put_below (enc : α → Value) (w : World) (n g off : Nat) (D : Array α) (os : Array Obj) (hg : base ≤ g) (hlt : g < w.heap.size) : Below base w (Sort.grow (Sort.putRow enc (Sort.ahead w n) g off D) os) :=
  ⟨rfl, rfl, rfl, put_size enc w n g off D os, fun k hk => put_far enc w n g off D os k (by omega) (by omega)⟩
theorem put_kept (enc : α → Value) (w : World) (n g off : Nat) (D : Array α) (os : Array Obj) (hok : ok g) : Kept w (Sort.grow (Sort.putRow enc (Sort.ahead w n) g off D) os) ok :=
  ⟨put_size enc w n g off D os, fun k hk hn => put_far enc w n g off D os k hk (fun e => hn (e ▸ hok))⟩
theorem putCells_size (enc : α → Value) (off : Nat) (D : Array α) (c : Array Value) : (Sort.putCells enc off D c).size = c.size := by simp [Sort.putCells]
theorem putCells_in (enc : α → Value) (off : Nat) (D : Array α) (c : Array Value) (j : Nat) (hj : j < D.size) (hc : off + D.size ≤ c.size) : (Sort.putCells enc off D c)[off + j]? = some (enc D[j]!) := by
  unfold Sort.putCells
  rw [Array.getElem?_mapIdx, Array.getElem?_eq_getElem (by omega)]
  simp only [Option.map_some]
  rw [if_pos ⟨by omega, by omega⟩, Nat.add_sub_cancel_left]
theorem putCells_at (enc : α → Value) (D : Array α) (c : Array Value) (j : Nat) (hj : j < D.size) (hc : D.size ≤ c.size) : (Sort.putCells enc 0 D c)[j]? = some (enc D[j]!) := by
  have h := putCells_in enc 0 D c j hj (by omega)
  rwa [Nat.zero_add] at h
theorem row_holds (h : (Kd.scalar enc h1).R e w base ok v xs) {g cap : Nat} {cur : Array Value} (hh : w.heap[g]? = some (.cells cur e (0, 0))) (hj : ∀ j, j < xs.length → cur[j]? = some (enc xs[j]!)) : Sort.Holds enc w g 0 xs.toArray := by
  intro j hlt
  have hl : j < xs.length := by simpa using hlt
  have e1 : xs.toArray[j]! = xs[j]! := by simp
  refine ⟨?_, ?_⟩
  · rw [e1]
    have := hj j hl
    simp [World.cell?, hh, this]
  · simp [World.frozen?, hh]
end
end Go.Proofs.Yteblnjoljbdjjaa.P
