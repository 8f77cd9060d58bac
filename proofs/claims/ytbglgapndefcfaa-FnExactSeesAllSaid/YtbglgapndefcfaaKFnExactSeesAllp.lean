/- What the law FnExactSeesAll reaches, part 16: functions as plain Lean functions with the proofs that their calls come to them, and plain lemmas over these. Put together by a program (wip/pack.py). -/
import Derived.Test.YtbglgapndefcfaaKFnExactSeesAllh
import Derived.Test.YtbglgapndefcfaaKFnExactSeesAllo
import Derived.Test.YtbglgapndefcfaaKFnExactSeesAlli
import Derived.Test.YtbglgapndefcfaaKFnExactSeesAllc
import Derived.Test.YtbglgapndefcfaaKFnExactSeesAlld
import Derived.Test.YtbglgapndefcfaaKFnExactSeesAllj
import Derived.Test.YtbglgapndefcfaaKFnExactSeesAlle
import Derived.Test.YtbglgapndefcfaaKFnExactSeesAllk
import Derived.Test.YtbglgapndefcfaaKFnExactSeesAllf
import Derived.Test.YtbglgapndefcfaaKFnExactSeesAlln
import Derived.Test.YtbglgapndefcfaaKFnExactSeesAllg
import Derived.Test.YtbglgapndefcfaaKFnExactSeesAllm
namespace Go.Proofs.Ytbglgapndefcfaa.Pure
set_option linter.unusedSimpArgs false
set_option linter.unusedVariables false
open Go.RowKit Go.Proofs.YtbglgapndefcfaaW.PrintWords Go.Proofs.Ytbglgapndefcfaa.P Go.Proofs.Ytbglgapndefcfaa.Pl
abbrev T3 := S107
def tri : Nat → List T3
  | 3 => [⟨0, 1, 2⟩]
  | 4 => [⟨0, 1, 2⟩, ⟨0, 1, 3⟩, ⟨0, 2, 3⟩, ⟨1, 2, 3⟩]
  | 5 => [⟨0, 1, 2⟩, ⟨0, 1, 3⟩, ⟨0, 1, 4⟩, ⟨0, 2, 3⟩, ⟨0, 2, 4⟩, ⟨0, 3, 4⟩, ⟨1, 2, 3⟩, ⟨1, 2, 4⟩, ⟨1, 3, 4⟩, ⟨2, 3, 4⟩]
  | 6 => [⟨0, 1, 2⟩, ⟨0, 1, 3⟩, ⟨0, 1, 4⟩, ⟨0, 1, 5⟩, ⟨0, 2, 3⟩, ⟨0, 2, 4⟩, ⟨0, 2, 5⟩, ⟨0, 3, 4⟩, ⟨0, 3, 5⟩, ⟨0, 4, 5⟩, ⟨1, 2, 3⟩, ⟨1, 2, 4⟩, ⟨1, 2, 5⟩, ⟨1, 3, 4⟩, ⟨1, 3, 5⟩, ⟨1, 4, 5⟩, ⟨2, 3, 4⟩, ⟨2, 3, 5⟩, ⟨2, 4, 5⟩, ⟨3, 4, 5⟩]
  | 7 => [⟨0, 1, 2⟩, ⟨0, 1, 3⟩, ⟨0, 1, 4⟩, ⟨0, 1, 5⟩, ⟨0, 1, 6⟩, ⟨0, 2, 3⟩, ⟨0, 2, 4⟩, ⟨0, 2, 5⟩, ⟨0, 2, 6⟩, ⟨0, 3, 4⟩, ⟨0, 3, 5⟩, ⟨0, 3, 6⟩, ⟨0, 4, 5⟩, ⟨0, 4, 6⟩, ⟨0, 5, 6⟩, ⟨1, 2, 3⟩, ⟨1, 2, 4⟩, ⟨1, 2, 5⟩, ⟨1, 2, 6⟩, ⟨1, 3, 4⟩, ⟨1, 3, 5⟩, ⟨1, 3, 6⟩, ⟨1, 4, 5⟩, ⟨1, 4, 6⟩, ⟨1, 5, 6⟩, ⟨2, 3, 4⟩, ⟨2, 3, 5⟩, ⟨2, 3, 6⟩, ⟨2, 4, 5⟩, ⟨2, 4, 6⟩, ⟨2, 5, 6⟩, ⟨3, 4, 5⟩, ⟨3, 4, 6⟩, ⟨3, 5, 6⟩, ⟨4, 5, 6⟩]
  | _ => []
theorem tri_some : ∀ n : Nat, n ≤ 7 → impl_triplesOf.f 500 n = some (tri n)
  | 0, _ => by kernel_rfl
  | 1, _ => by kernel_rfl
  | 2, _ => by kernel_rfl
  | 3, _ => by kernel_rfl
  | 4, _ => by kernel_rfl
  | 5, _ => by kernel_rfl
  | 6, _ => by kernel_rfl
  | 7, _ => by kernel_rfl
  | n + 8, h => absurd h (by omega)
theorem triplesOf_ev (n : Nat) (h : n ≤ 7) : Ev (fun k => impl_triplesOf.f k n) (tri n) := Ev.of (impl_triplesOf.mono _) (tri_some n h)
theorem tri_length (n : Nat) (h : n ≤ 7) : ((tri n).length : Int) = Int.tdiv ((n : Int) * (n - 1) * (n - 2)) 6 := by
  have : (List.range 8).all (fun n => ((tri n).length : Int) == Int.tdiv ((n : Int) * ((n : Int) - 1) * ((n : Int) - 2)) 6) = true := by decide +kernel
  rw [List.all_eq_true] at this
  simpa using this n (by simp; omega)
def okT (n : Nat) (t : T3) : Bool := decide (0 ≤ t.f0 ∧ t.f0 < t.f1 ∧ t.f1 < t.f2 ∧ t.f2 < n)
theorem tri_ok (n : Nat) (h : n ≤ 7) : (tri n).all (okT n) = true := by
  have : (List.range 8).all (fun n => (tri n).all (okT n)) = true := by decide +kernel
  rw [List.all_eq_true] at this
  exact this n (by simp; omega)
def put3 (l : List Int) (t : T3) (v : Int) : List Int := chiSet l t.f0 t.f1 t.f2 v
def fill (v : Nat → Int) : List T3 → Nat → List Int → List Int
  | [], _, l => l
  | t :: ts, m, l => fill v ts (m + 1) (put3 l t (v m))
theorem fill_length (v : Nat → Int) : ∀ ts m l, (fill v ts m l).length = l.length := by
  intro ts
  induction ts with
  | nil => intro m l; rfl
  | cons t ts ih => intro m l; rw [fill, ih]; exact chiSet_length ..
theorem fill_append (v : Nat → Int) : ∀ ts us m l, fill v (ts ++ us) m l = fill v us (m + ts.length) (fill v ts m l) := by
  intro ts
  induction ts with
  | nil => intro us m l; rfl
  | cons t ts ih => intro us m l; rw [List.cons_append, fill, ih, fill, List.length_cons]; congr 1; omega
def par (t : T3) (x y z : Int) : Option Bool :=
  if (x = t.f0 ∧ y = t.f1 ∧ z = t.f2) ∨ (x = t.f1 ∧ y = t.f2 ∧ z = t.f0) ∨ (x = t.f2 ∧ y = t.f0 ∧ z = t.f1) then some true
  else if (x = t.f0 ∧ y = t.f2 ∧ z = t.f1) ∨ (x = t.f2 ∧ y = t.f1 ∧ z = t.f0) ∨ (x = t.f1 ∧ y = t.f0 ∧ z = t.f2) then some false else none
theorem rd_set (l : List Int) (p q : Nat) (v : Int) (h : p < l.length) : rd (l.set p v) q = if p = q then v else rd l q := by
  unfold rd
  rw [Int.toNat_natCast, List.getD_eq_getElem?_getD, List.getD_eq_getElem?_getD, List.getElem?_set]
  by_cases e : p = q
  · subst e
    simp [h]
  · simp [e]
theorem chiA_nat (l : List Int) (x y z : Nat) : chiA l x y z = rd l ((1 + x * 49 + y * 7 + z : Nat) : Int) := by
  unfold chiA
  congr 1
  omega
theorem pos_iff (a b c x y z : Nat) (ha : a < 7) (hb : b < 7) (hc : c < 7) (hx : x < 7) (hy : y < 7) (hz : z < 7) : (1 + a * 49 + b * 7 + c = 1 + x * 49 + y * 7 + z) ↔ (x = a ∧ y = b ∧ z = c) := by
  constructor
  · intro h
    have h1 : c = z := by have := congrArg (· % 7) (show a * 49 + b * 7 + c + 1 = x * 49 + y * 7 + z + 1 by omega); omega
    have h2 : b = y := by subst h1; omega
    exact ⟨by omega, h2.symm, h1.symm⟩
  · rintro ⟨rfl, rfl, rfl⟩
    rfl
theorem chiA_set (l : List Int) (hl : l.length = 344) (a b c : Nat) (ha : a < 7) (hb : b < 7) (hc : c < 7) (ab : a ≠ b) (bc : b ≠ c) (ac : a ≠ c) (v : Int) (x y z : Nat) (hx : x < 7) (hy : y < 7) (hz : z < 7) :
    chiA (chiSet l a b c v) x y z = match par ⟨a, b, c⟩ x y z with | some true => v | some false => wrap64 (-v) | none => chiA l x y z := by
  rw [chiA_nat, chiA_nat]
  unfold chiSet setL par
  simp only [Int.toNat_natCast]
  rw [rd_set _ _ _ _ (by first | (simp only [List.length_set]; omega) | omega), rd_set _ _ _ _ (by first | (simp only [List.length_set]; omega) | omega), rd_set _ _ _ _ (by first | (simp only [List.length_set]; omega) | omega), rd_set _ _ _ _ (by first | (simp only [List.length_set]; omega) | omega), rd_set _ _ _ _ (by first | (simp only [List.length_set]; omega) | omega), rd_set _ _ _ _ (by first | (simp only [List.length_set]; omega) | omega)]
  simp only [pos_iff a b c x y z (by omega) (by omega) (by omega) hx hy hz, pos_iff b c a x y z (by omega) (by omega) (by omega) hx hy hz, pos_iff c a b x y z (by omega) (by omega) (by omega) hx hy hz, pos_iff a c b x y z (by omega) (by omega) (by omega) hx hy hz, pos_iff c b a x y z (by omega) (by omega) (by omega) hx hy hz, pos_iff b a c x y z (by omega) (by omega) (by omega) hx hy hz]
  simp only [Int.natCast_inj]
  clear hl
  generalize rd l ((1 + x * 49 + y * 7 + z : Nat) : Int) = o
  by_cases k0 : x = a ∧ y = b ∧ z = c
  · have := k0
    have n1 : ¬ (x = b ∧ y = c ∧ z = a) := by omega
    have n2 : ¬ (x = c ∧ y = a ∧ z = b) := by omega
    have n3 : ¬ (x = a ∧ y = c ∧ z = b) := by omega
    have n4 : ¬ (x = c ∧ y = b ∧ z = a) := by omega
    have n5 : ¬ (x = b ∧ y = a ∧ z = c) := by omega
    clear this
    simp only [(eq_true k0), (eq_false n1), (eq_false n2), (eq_false n3), (eq_false n4), (eq_false n5), if_true, if_false, or_true, true_or, or_false, false_or]
  by_cases k1 : x = b ∧ y = c ∧ z = a
  · have := k1
    have n2 : ¬ (x = c ∧ y = a ∧ z = b) := by omega
    have n3 : ¬ (x = a ∧ y = c ∧ z = b) := by omega
    have n4 : ¬ (x = c ∧ y = b ∧ z = a) := by omega
    have n5 : ¬ (x = b ∧ y = a ∧ z = c) := by omega
    clear this
    simp only [(eq_false k0), (eq_true k1), (eq_false n2), (eq_false n3), (eq_false n4), (eq_false n5), if_true, if_false, or_true, true_or, or_false, false_or]
  by_cases k2 : x = c ∧ y = a ∧ z = b
  · have := k2
    have n3 : ¬ (x = a ∧ y = c ∧ z = b) := by omega
    have n4 : ¬ (x = c ∧ y = b ∧ z = a) := by omega
    have n5 : ¬ (x = b ∧ y = a ∧ z = c) := by omega
    clear this
    simp only [(eq_false k0), (eq_false k1), (eq_true k2), (eq_false n3), (eq_false n4), (eq_false n5), if_true, if_false, or_true, true_or, or_false, false_or]
  by_cases k3 : x = a ∧ y = c ∧ z = b
  · have := k3
    have n4 : ¬ (x = c ∧ y = b ∧ z = a) := by omega
    have n5 : ¬ (x = b ∧ y = a ∧ z = c) := by omega
    clear this
    simp only [(eq_false k0), (eq_false k1), (eq_false k2), (eq_true k3), (eq_false n4), (eq_false n5), if_true, if_false, or_true, true_or, or_false, false_or]
  by_cases k4 : x = c ∧ y = b ∧ z = a
  · have := k4
    have n5 : ¬ (x = b ∧ y = a ∧ z = c) := by omega
    clear this
    simp only [(eq_false k0), (eq_false k1), (eq_false k2), (eq_false k3), (eq_true k4), (eq_false n5), if_true, if_false, or_true, true_or, or_false, false_or]
  by_cases k5 : x = b ∧ y = a ∧ z = c
  · have := k5
    clear this
    simp only [(eq_false k0), (eq_false k1), (eq_false k2), (eq_false k3), (eq_false k4), (eq_true k5), if_true, if_false, or_true, true_or, or_false, false_or]
  simp only [(eq_false k0), (eq_false k1), (eq_false k2), (eq_false k3), (eq_false k4), (eq_false k5), if_true, if_false, or_true, true_or, or_false, false_or]
theorem chiA_put3 (l : List Int) (hl : l.length = 344) (t : T3) (ht : okT 7 t = true) (v : Int) (x y z : Nat) (hx : x < 7) (hy : y < 7) (hz : z < 7) :
    chiA (put3 l t v) x y z = match par t x y z with | some true => v | some false => wrap64 (-v) | none => chiA l x y z := by
  obtain ⟨a, b, c⟩ := t
  unfold okT at ht
  rw [decide_eq_true_eq] at ht
  obtain ⟨h0, h1, h2, h3⟩ := ht
  dsimp only at h0 h1 h2 h3
  obtain ⟨a, rfl⟩ := Int.eq_ofNat_of_zero_le h0
  obtain ⟨b, rfl⟩ := Int.eq_ofNat_of_zero_le (show 0 ≤ b by omega)
  obtain ⟨c, rfl⟩ := Int.eq_ofNat_of_zero_le (show 0 ≤ c by omega)
  exact chiA_set l hl a b c (by omega) (by omega) (by omega) (by omega) (by omega) (by omega) v x y z hx hy hz
theorem chiN_put3 (l : List Int) (hl : l.length = 344) (t : T3) (v : Int) : chiN (put3 l t v) = chiN l := by
  have h : ∀ (l : List Int) (p : Nat) (u : Int), rd (l.set (1 + p) u) 0 = rd l 0 := by
    intro l p u
    unfold rd
    simp [List.getD_eq_getElem?_getD, List.getElem?_set, show ¬ (1 + p = 0) by omega]
  unfold put3 chiSet setL chiN
  simp only [Nat.add_assoc, h]
def src : List T3 → Nat → Int → Int → Int → Option (Nat × Bool)
  | [], _, _, _, _ => none
  | t :: ts, m, x, y, z => (src ts (m + 1) x y z).or ((par t x y z).map fun b => (m, b))
def sval (v : Nat → Int) (o : Int) : Option (Nat × Bool) → Int
  | some (m, true) => v m
  | some (m, false) => wrap64 (-v m)
  | none => o
theorem chiA_fill (v : Nat → Int) (x y z : Nat) (hx : x < 7) (hy : y < 7) (hz : z < 7) : ∀ (ts : List T3), ts.all (okT 7) = true → ∀ m l, l.length = 344 → chiA (fill v ts m l) x y z = sval v (chiA l x y z) (src ts m x y z) := by
  intro ts
  induction ts with
  | nil => intro _ m l _; rfl
  | cons t ts ih =>
    intro h m l hl
    rw [List.all_cons, Bool.and_eq_true] at h
    rw [fill, ih h.2 (m + 1) _ (by unfold put3; rw [chiSet_length]; exact hl), chiA_put3 l hl t h.1 (v m) x y z hx hy hz, src]
    cases hs : src ts (m + 1) x y z with
    | some p => obtain ⟨q, b⟩ := p; cases b <;> rfl
    | none =>
      cases hp : par t x y z with
      | none => rfl
      | some b => cases b <;> rfl
theorem chiN_fill (v : Nat → Int) : ∀ (ts : List T3) m l, l.length = 344 → chiN (fill v ts m l) = chiN l := by
  intro ts
  induction ts with
  | nil => intro m l _; rfl
  | cons t ts ih => intro m l hl; rw [fill, ih _ _ (by unfold put3; rw [chiSet_length]; exact hl), chiN_put3 l hl]
theorem okT_mono {n : Nat} (h : n ≤ 7) (t : T3) (ht : okT n t = true) : okT 7 t = true := by
  unfold okT at ht ⊢
  rw [decide_eq_true_eq] at ht ⊢
  omega
theorem tri_ok7 (n : Nat) (h : n ≤ 7) : (tri n).all (okT 7) = true := by
  have := tri_ok n h
  rw [List.all_eq_true] at this ⊢
  exact fun t ht => okT_mono h t (this t ht)
theorem chiA_new (n : Int) (x y z : Nat) (hx : x < 7) (hy : y < 7) (hz : z < 7) : chiA (chiNew n) x y z = 0 := by
  rw [chiA_nat, show 1 + x * 49 + y * 7 + z = (x * 49 + y * 7 + z) + 1 by omega]
  unfold rd chiNew
  rw [Int.toNat_natCast, List.getD_cons_succ, List.getD_eq_getElem?_getD, List.getElem?_replicate]
  rw [if_pos (by omega)]
  rfl
def isPM (s : ByteArray) (m : Nat) : Bool := bt s (m : Int) == 43 || bt s (m : Int) == 45
def isS (n : Int) (s : ByteArray) : Bool := decide (3 ≤ n ∧ n ≤ 7 ∧ (s.size : Int) = Int.tdiv (n * (n - 1) * (n - 2)) 6) && (List.range s.size).all (isPM s)
theorem count3 {n : Int} (h3 : 3 ≤ n) (h7 : n ≤ 7) : wrap64 (wrap64 (n * wrap64 (n - 1)) * wrap64 (n - 2)) = n * (n - 1) * (n - 2) ∧ wrap64 (Int.tdiv (n * (n - 1) * (n - 2)) 6) = Int.tdiv (n * (n - 1) * (n - 2)) 6 ∧ 0 ≤ Int.tdiv (n * (n - 1) * (n - 2)) 6 ∧ Int.tdiv (n * (n - 1) * (n - 2)) 6 ≤ 35 := by
  have : n = 3 ∨ n = 4 ∨ n = 5 ∨ n = 6 ∨ n = 7 := by omega
  obtain rfl | rfl | rfl | rfl | rfl := this <;> (unfold wrap64; decide)
theorem range_drop' (n i : Nat) (h : i < n) : (List.range n).drop i = i :: (List.range n).drop (i + 1) := by
  rw [List.drop_eq_getElem_cons (by simpa using h)]
  simp
theorem l1In_is (x a b : Int) : spec_l1In.f x a b = some (decide (a ≤ x ∧ x ≤ b)) := by
  unfold spec_l1In.f
  by_cases h : x ≥ a
  · rw [if_pos h]
    simp [h]
  · rw [if_neg h]
    simp [show ¬ a ≤ x by omega]
theorem spec_AreSigns_ev (n : Int) (s : ByteArray) : Ev (fun k => spec_AreSigns.f k n s) (isS n s) := by
  unfold spec_AreSigns.f isS
  have no : ∀ x, Ev (fun k => spec_AreSigns.j0 k true n x) false := fun x => Ev.step (fun k => spec_AreSigns.j0.eq_2 ..) (Ev.ite_pos rfl (Ev.now _))
  by_cases h : 3 ≤ n ∧ n ≤ 7
  · obtain ⟨e1, e2, e3, e4⟩ := count3 h.1 h.2
    refine Ev.bind0 (l1In_is ..) (Ev.ite_pos (decide_eq_true h) ?_)
    rw [e1, e2]
    by_cases hc : (s.size : Int) = Int.tdiv (n * (n - 1) * (n - 2)) 6
    · rw [show decide (3 ≤ n ∧ n ≤ 7 ∧ (s.size : Int) = Int.tdiv (n * (n - 1) * (n - 2)) 6) = true from decide_eq_true ⟨h.1, h.2, hc⟩, Bool.true_and]
      refine Ev.step (fun k => spec_AreSigns.j0.eq_2 ..) (Ev.ite_neg (by simp [hc]) ?_)
      have key := Ev.loop_to (fun i k => spec_AreSigns.l0 k i n s) s.size (fun i => ((List.range s.size).drop i).all (isPM s)) ?_ ?_ 0 (by omega)
      · simpa using key
      · refine Ev.step (fun k => spec_AreSigns.l0.eq_2 ..) (Ev.ite_neg (by omega) (Ev.const ?_))
        rw [List.drop_of_length_le (by simp)]
        rfl
      · intro i hi ih
        rw [range_drop' _ _ hi, List.all_cons]
        refine Ev.step (fun k => spec_AreSigns.l0.eq_2 ..) (Ev.ite_pos (by omega) (Ev.ite_pos (by omega) ?_))
        rw [wrap_nat i (by omega)]
        rw [show isPM s i = (bt s (i : Int) == 43 || bt s (i : Int) == 45) from rfl]
        by_cases h43 : bt s (i : Int) = 43
        · refine Ev.ite_pos h43 ?_
          simpa [h43] using ih
        · refine Ev.ite_neg h43 ?_
          by_cases h45 : bt s (i : Int) = 45
          · refine Ev.ite_pos h45 ?_
            simpa [h45] using ih
          · refine Ev.ite_neg h45 (Ev.const ?_)
            simp [h43, h45]
    · rw [show decide (3 ≤ n ∧ n ≤ 7 ∧ (s.size : Int) = Int.tdiv (n * (n - 1) * (n - 2)) 6) = false from decide_eq_false (fun q => hc q.2.2), Bool.false_and]
      rw [show ((s.size : Int) != Int.tdiv (n * (n - 1) * (n - 2)) 6) = true by simpa using hc]
      exact no s
  · rw [show decide (3 ≤ n ∧ n ≤ 7 ∧ (s.size : Int) = Int.tdiv (n * (n - 1) * (n - 2)) 6) = false from decide_eq_false (fun q => h ⟨q.1, q.2.1⟩), Bool.false_and]
    exact Ev.bind0 (l1In_is ..) (Ev.ite_neg (by simpa using h) (no s))
theorem impl_AreSigns_ev (n : Int) (s : ByteArray) : Ev (fun k => impl_AreSigns.f k n s) (isS n s) := by
  unfold impl_AreSigns.f isS
  have no : ∀ x, Ev (fun k => impl_AreSigns.j0 k true n x) false := fun x => Ev.step (fun k => impl_AreSigns.j0.eq_2 ..) (Ev.ite_pos rfl (Ev.now _))
  by_cases h3 : n < 3
  · rw [show decide (3 ≤ n ∧ n ≤ 7 ∧ (s.size : Int) = Int.tdiv (n * (n - 1) * (n - 2)) 6) = false from decide_eq_false (fun q => by omega), Bool.false_and]
    exact Ev.ite_pos h3 (no s)
  · refine Ev.ite_neg h3 ?_
    by_cases h7 : n > 7
    · rw [show decide (3 ≤ n ∧ n ≤ 7 ∧ (s.size : Int) = Int.tdiv (n * (n - 1) * (n - 2)) 6) = false from decide_eq_false (fun q => by omega), Bool.false_and]
      exact Ev.ite_pos h7 (no s)
    · refine Ev.ite_neg h7 ?_
      obtain ⟨e1, e2, e3, e4⟩ := count3 (n := n) (by omega) (by omega)
      rw [e1, e2]
      by_cases hc : (s.size : Int) = Int.tdiv (n * (n - 1) * (n - 2)) 6
      · rw [show decide (3 ≤ n ∧ n ≤ 7 ∧ (s.size : Int) = Int.tdiv (n * (n - 1) * (n - 2)) 6) = true from decide_eq_true ⟨by omega, by omega, hc⟩, Bool.true_and]
        refine Ev.step (fun k => impl_AreSigns.j0.eq_2 ..) (Ev.ite_neg (by simp [hc]) ?_)
        have key := Ev.loop_to (fun i k => impl_AreSigns.l0 k i n s) s.size (fun i => ((List.range s.size).drop i).all (isPM s)) ?_ ?_ 0 (by omega)
        · simpa using key
        · refine Ev.step (fun k => impl_AreSigns.l0.eq_2 ..) (Ev.ite_neg (by omega) (Ev.const ?_))
          rw [List.drop_of_length_le (by simp)]
          rfl
        · intro i hi ih
          rw [range_drop' _ _ hi, List.all_cons]
          refine Ev.step (fun k => impl_AreSigns.l0.eq_2 ..) (Ev.ite_pos (by omega) (Ev.ite_pos (by omega) ?_))
          rw [wrap_nat i (by omega)]
          rw [show isPM s i = (bt s (i : Int) == 43 || bt s (i : Int) == 45) from rfl]
          by_cases h43 : bt s (i : Int) = 43
          · refine Ev.ite_pos h43 ?_
            simpa [h43] using ih
          · refine Ev.ite_neg h43 ?_
            by_cases h45 : bt s (i : Int) = 45
            · refine Ev.ite_pos h45 ?_
              simpa [h45] using ih
            · refine Ev.ite_neg h45 (Ev.const ?_)
              simp [h43, h45]
      · rw [show decide (3 ≤ n ∧ n ≤ 7 ∧ (s.size : Int) = Int.tdiv (n * (n - 1) * (n - 2)) 6) = false from decide_eq_false (fun q => hc q.2.2), Bool.false_and]
        rw [show ((s.size : Int) != Int.tdiv (n * (n - 1) * (n - 2)) 6) = true by simpa using hc]
        exact no s
theorem isS_bounds {n : Int} {s : ByteArray} (h : isS n s = true) : 3 ≤ n ∧ n ≤ 7 ∧ s.size = (tri n.toNat).length ∧ s.size ≤ 35 := by
  unfold isS at h
  rw [Bool.and_eq_true, decide_eq_true_eq] at h
  obtain ⟨⟨h3, h7, hc⟩, _⟩ := h
  have hb := (count3 h3 h7).2.2.2
  obtain ⟨m, rfl⟩ := Int.eq_ofNat_of_zero_le (show 0 ≤ n by omega)
  have ht := tri_length m (by omega)
  rw [Int.toNat_natCast]
  exact ⟨h3, h7, by omega, by omega⟩
def sgAt (s : ByteArray) (m : Nat) : Int := if bt s (m : Int) = 45 then -1 else 1
def tab (n : Nat) (s : ByteArray) : List Int := fill (sgAt s) (tri n) 0 (chiNew n)
def sg (n : Nat) (s : ByteArray) (x y z : Int) : Int := sval (sgAt s) 0 (src (tri n) 0 x y z)
theorem tab_length (n : Nat) (s : ByteArray) : (tab n s).length = 344 := by
  unfold tab
  rw [fill_length, chiNew_length]
theorem tab_n (n : Nat) (s : ByteArray) : chiN (tab n s) = n := by
  unfold tab
  rw [chiN_fill _ _ _ _ (chiNew_length _)]
  rfl
theorem tab_at (n : Nat) (hn : n ≤ 7) (s : ByteArray) (x y z : Nat) (hx : x < 7) (hy : y < 7) (hz : z < 7) : chiA (tab n s) x y z = sg n s x y z := by
  unfold tab sg
  rw [chiA_fill _ x y z hx hy hz _ (tri_ok7 n hn) 0 _ (chiNew_length _), chiA_new _ x y z hx hy hz]
theorem tri_at (n : Nat) (hn : n ≤ 7) (i : Nat) (hi : i < (tri n).length) : okT 7 (tri n)[i] = true := by
  have := tri_ok7 n hn
  rw [List.all_eq_true] at this
  exact this _ (List.getElem_mem hi)
theorem rdT_lt (l : List T3) (i : Nat) (h : i < l.length) : rd_T107 l (i : Int) = l[i] := by
  unfold rd_T107
  rw [Int.toNat_natCast, getD_lt _ _ _ h]
theorem tableOf_ev (n : Nat) (hn : n ≤ 7) (s : ByteArray) (hs : s.size = (tri n).length) : Ev (fun k => impl_tableOf.f k n s) (tab n s) := by
  unfold impl_tableOf.f
  refine Ev.bind (triplesOf_ev n hn) ?_
  have h35 : (tri n).length ≤ 1000 := by
    have : (List.range 8).all (fun n => decide ((tri n).length ≤ 1000)) = true := by decide +kernel
    rw [List.all_eq_true] at this
    simpa using this n (by simp; omega)
  have key := Ev.loop (fun i k => impl_tableOf.l0 k (fill (sgAt s) ((tri n).take i) 0 (chiNew n)) (tri n) (tri n).length i n s) (tri n).length (tab n s) ?_ ?_ 0 (by omega)
  · simpa [fill] using key
  · refine Ev.step (fun k => impl_tableOf.l0.eq_2 ..) (Ev.ite_neg (by omega) (Ev.const ?_))
    rw [List.take_length]
    rfl
  · intro i hi ih
    refine Ev.step (fun k => impl_tableOf.l0.eq_2 ..) (Ev.ite_pos (by omega) (Ev.ite_pos (by omega) (Ev.ite_pos (by omega) (Ev.ite_pos (by omega) ?_))))
    have ht := tri_at n hn i hi
    rw [wrap_nat i (by omega), rdT_lt _ i hi]
    rw [List.take_succ_eq_append_getElem hi, fill_append, Nat.zero_add, List.length_take, Nat.min_eq_left (by omega)] at ih
    have hl : (fill (sgAt s) ((tri n).take i) 0 (chiNew n)).length = 344 := by rw [fill_length, chiNew_length]
    generalize fill (sgAt s) ((tri n).take i) 0 (chiNew n) = l at ih hl ⊢
    generalize (tri n)[i] = t at ih ht ⊢
    unfold okT at ht
    rw [decide_eq_true_eq] at ht
    have hset : ∀ v, impl_chi_set.f l t.f0 t.f1 t.f2 v = some (put3 l t v) := by
      intro v
      unfold impl_chi_set.f
      rw [if_pos ⟨hl, by omega, by omega, by omega⟩]
      rfl
    rw [fill, fill] at ih
    unfold sgAt at ih
    by_cases h45 : bt s (i : Int) = 45
    · rw [if_pos h45] at ih
      exact Ev.ite_pos h45 (Ev.bind0 (hset _) ih)
    · rw [if_neg h45] at ih
      exact Ev.ite_neg h45 (Ev.bind0 (hset _) ih)
def srt2 (n x y z p : Int) : Option (Int × Int) := if x > y then (spec_l3Index.f 60 n y x z).map fun m => (m, -p) else (spec_l3Index.f 60 n x y z).map fun m => (m, p)
def srt1 (n x y z p : Int) : Option (Int × Int) := if y > z then srt2 n x z y (-p) else srt2 n x y z p
def srt (n x y z : Int) : Option (Int × Int) := if x > y then srt1 n y x z (-1) else srt1 n x y z 1
def okSrt (n : Nat) (x y z : Nat) : Bool :=
  match srt n x y z, src (tri n) 0 x y z with
  | some (m, p), some (q, b) => m == (q : Int) && decide (q < (tri n).length) && (p == if b then 1 else -1)
  | _, _ => false
theorem all_srt : (List.range 8).all (fun n => (List.range n).all fun x => (List.range n).all fun y => (List.range n).all fun z => x == y || y == z || x == z || okSrt n x y z) = true := by decide +kernel
theorem srt_ok (n x y z : Nat) (hn : n ≤ 7) (hx : x < n) (hy : y < n) (hz : z < n) (h1 : x ≠ y) (h2 : y ≠ z) (h3 : x ≠ z) : okSrt n x y z = true := by
  have h := all_srt
  rw [List.all_eq_true] at h
  have h := h n (by simp; omega)
  rw [List.all_eq_true] at h
  have h := h x (by simpa using hx)
  rw [List.all_eq_true] at h
  have h := h y (by simpa using hy)
  rw [List.all_eq_true] at h
  have h := h z (by simpa using hz)
  simpa [h1, h2, h3] using h
theorem l3Index_ev {n x y z m : Int} (h : spec_l3Index.f 60 n x y z = some m) : Ev (fun k => spec_l3Index.f k n x y z) m := Ev.of (spec_l3Index.mono _ _ _ _) h
def look (s : ByteArray) (m p : Int) : Int := if bt s m = 45 then wrap64 (-p) else p
theorem j1_ev (n x y z p m q : Int) (s : ByteArray) (hp : p = 1 ∨ p = -1) (h : srt2 n x y z p = some (m, q)) (hm : 0 ≤ m) (hs : m < (s.size : Int)) : Ev (fun k => spec_l3At.j1 k x y z p n s) (look s m q) := by
  refine Ev.step (fun k => spec_l3At.j1.eq_2 ..) ?_
  have hw : wrap64 (-p) = -p := wrap_in (by omega) (by omega)
  unfold srt2 at h
  unfold look
  by_cases hxy : x > y
  · rw [if_pos hxy] at h
    obtain ⟨m', h1, h2⟩ := Option.map_eq_some_iff.mp h
    cases h2
    refine Ev.ite_pos hxy (Ev.bind (l3Index_ev h1) (Ev.ite_pos hm (Ev.ite_pos hs ?_)))
    rw [hw]
    by_cases h45 : bt s m = 45
    · exact Ev.ite_pos h45 (Ev.const (by rw [if_pos h45]))
    · exact Ev.ite_neg h45 (Ev.const (by rw [if_neg h45]))
  · rw [if_neg hxy] at h
    obtain ⟨m', h1, h2⟩ := Option.map_eq_some_iff.mp h
    cases h2
    refine Ev.ite_neg hxy (Ev.bind (l3Index_ev h1) (Ev.ite_pos hm (Ev.ite_pos hs ?_)))
    by_cases h45 : bt s m = 45
    · exact Ev.ite_pos h45 (Ev.const (by rw [if_pos h45]))
    · exact Ev.ite_neg h45 (Ev.const (by rw [if_neg h45]))
theorem j0_ev (n x y z p m q : Int) (s : ByteArray) (hp : p = 1 ∨ p = -1) (h : srt1 n x y z p = some (m, q)) (hm : 0 ≤ m) (hs : m < (s.size : Int)) : Ev (fun k => spec_l3At.j0 k x y z p n s) (look s m q) := by
  refine Ev.step (fun k => spec_l3At.j0.eq_2 ..) ?_
  have hw : wrap64 (-p) = -p := wrap_in (by omega) (by omega)
  unfold srt1 at h
  by_cases hyz : y > z
  · rw [if_pos hyz] at h
    rw [hw]
    exact Ev.ite_pos hyz (j1_ev n x z y (-p) m q s (by omega) h hm hs)
  · rw [if_neg hyz] at h
    exact Ev.ite_neg hyz (j1_ev n x y z p m q s hp h hm hs)
theorem l3At_ev (n : Nat) (hn : n ≤ 7) (s : ByteArray) (hs : s.size = (tri n).length) (x y z : Nat) (hx : x < n) (hy : y < n) (hz : z < n) (h1 : x ≠ y) (h2 : y ≠ z) (h3 : x ≠ z) :
    Ev (fun k => spec_l3At.f k n s x y z) (sg n s x y z) := by
  have h := srt_ok n x y z hn hx hy hz h1 h2 h3
  unfold okSrt at h
  unfold spec_l3At.f sg
  cases ha : srt n x y z with
  | none => rw [ha] at h; cases h
  | some mp =>
    obtain ⟨m, p⟩ := mp
    cases hb : src (tri n) 0 x y z with
    | none => rw [ha, hb] at h; cases h
    | some qb =>
      obtain ⟨q, b⟩ := qb
      rw [ha, hb] at h
      simp only [Bool.and_eq_true, beq_iff_eq, decide_eq_true_eq] at h
      obtain ⟨⟨rfl, hq⟩, hp⟩ := h
      have e : sval (sgAt s) 0 (some (q, b)) = look s q p := by
        subst hp
        unfold sval look sgAt
        cases b <;> by_cases h45 : bt s (q : Int) = 45 <;> simp [h45, wrap64]
      rw [e]
      unfold srt at ha
      by_cases hxy : (x : Int) > y
      · rw [if_pos hxy] at ha
        exact Ev.ite_pos hxy (j0_ev n y x z (-1) q p s (by omega) ha (by omega) (by omega))
      · rw [if_neg hxy] at ha
        exact Ev.ite_neg hxy (j0_ev n x y z 1 q p s (by omega) ha (by omega) (by omega))
theorem sg_pm (n : Nat) (hn : n ≤ 7) (s : ByteArray) (x y z : Nat) (hx : x < n) (hy : y < n) (hz : z < n) (h1 : x ≠ y) (h2 : y ≠ z) (h3 : x ≠ z) : sg n s x y z = 1 ∨ sg n s x y z = -1 := by
  have h := srt_ok n x y z hn hx hy hz h1 h2 h3
  unfold okSrt at h
  unfold sg
  cases ha : srt n x y z with
  | none => rw [ha] at h; cases h
  | some mp =>
    cases hb : src (tri n) 0 x y z with
    | none => rw [ha, hb] at h; cases h
    | some qb =>
      obtain ⟨q, b⟩ := qb
      unfold sval sgAt
      cases b <;> by_cases h45 : bt s (q : Int) = 45 <;> simp [h45, wrap64]
abbrev Q4 := S97
def quad : Nat → List Q4
  | 4 => [⟨0, 1, 2, 3⟩]
  | 5 => [⟨0, 1, 2, 3⟩, ⟨0, 1, 2, 4⟩, ⟨0, 1, 3, 4⟩, ⟨0, 2, 3, 4⟩, ⟨1, 2, 3, 4⟩]
  | 6 => [⟨0, 1, 2, 3⟩, ⟨0, 1, 2, 4⟩, ⟨0, 1, 2, 5⟩, ⟨0, 1, 3, 4⟩, ⟨0, 1, 3, 5⟩, ⟨0, 1, 4, 5⟩, ⟨0, 2, 3, 4⟩, ⟨0, 2, 3, 5⟩, ⟨0, 2, 4, 5⟩, ⟨0, 3, 4, 5⟩, ⟨1, 2, 3, 4⟩, ⟨1, 2, 3, 5⟩, ⟨1, 2, 4, 5⟩, ⟨1, 3, 4, 5⟩, ⟨2, 3, 4, 5⟩]
  | 7 => [⟨0, 1, 2, 3⟩, ⟨0, 1, 2, 4⟩, ⟨0, 1, 2, 5⟩, ⟨0, 1, 2, 6⟩, ⟨0, 1, 3, 4⟩, ⟨0, 1, 3, 5⟩, ⟨0, 1, 3, 6⟩, ⟨0, 1, 4, 5⟩, ⟨0, 1, 4, 6⟩, ⟨0, 1, 5, 6⟩, ⟨0, 2, 3, 4⟩, ⟨0, 2, 3, 5⟩, ⟨0, 2, 3, 6⟩, ⟨0, 2, 4, 5⟩, ⟨0, 2, 4, 6⟩, ⟨0, 2, 5, 6⟩, ⟨0, 3, 4, 5⟩, ⟨0, 3, 4, 6⟩, ⟨0, 3, 5, 6⟩, ⟨0, 4, 5, 6⟩, ⟨1, 2, 3, 4⟩, ⟨1, 2, 3, 5⟩, ⟨1, 2, 3, 6⟩, ⟨1, 2, 4, 5⟩, ⟨1, 2, 4, 6⟩, ⟨1, 2, 5, 6⟩, ⟨1, 3, 4, 5⟩, ⟨1, 3, 4, 6⟩, ⟨1, 3, 5, 6⟩, ⟨1, 4, 5, 6⟩, ⟨2, 3, 4, 5⟩, ⟨2, 3, 4, 6⟩, ⟨2, 3, 5, 6⟩, ⟨2, 4, 5, 6⟩, ⟨3, 4, 5, 6⟩]
  | _ => []
theorem quad_some : ∀ n : Nat, n ≤ 7 → impl_quadsOf.f 700 n = some (quad n)
  | 0, _ => by kernel_rfl
  | 1, _ => by kernel_rfl
  | 2, _ => by kernel_rfl
  | 3, _ => by kernel_rfl
  | 4, _ => by kernel_rfl
  | 5, _ => by kernel_rfl
  | 6, _ => by kernel_rfl
  | 7, _ => by kernel_rfl
  | n + 8, h => absurd h (by omega)
theorem quadsOf_ev (n : Nat) (h : n ≤ 7) : Ev (fun k => impl_quadsOf.f k n) (quad n) := Ev.of (impl_quadsOf.mono _) (quad_some n h)
def okQ (n : Nat) (q : Q4) : Bool := decide (0 ≤ q.f0 ∧ q.f0 < q.f1 ∧ q.f1 < q.f2 ∧ q.f2 < q.f3 ∧ q.f3 < n)
theorem all_q : (List.range 8).all (fun n => (quad n).all (okQ n) && decide ((quad n).length ≤ 1000)) = true := by decide +kernel
theorem quad_ok (n : Nat) (h : n ≤ 7) : (quad n).all (okQ n) = true ∧ (quad n).length ≤ 1000 := by
  have := all_q
  rw [List.all_eq_true] at this
  have := this n (by simp; omega)
  rw [Bool.and_eq_true, decide_eq_true_eq] at this
  exact this
def brk (n : Nat) (s : ByteArray) (a b c d e : Int) : Bool :=
  decide (wrap64 (sg n s a b c * sg n s a d e) = wrap64 (sg n s a b e * sg n s a c d)) && (wrap64 (sg n s a b e * sg n s a c d) == wrap64 ((wrap64 (-(sg n s a b d))) * sg n s a c e))
theorem breaks_eq (n : Nat) (hn : n ≤ 7) (s : ByteArray) (a b c d e : Nat) (ha : a < 7) (hb : b < 7) (hc : c < 7) (hd : d < 7) (he : e < 7) : impl_chi_breaks.f (tab n s) a b c d e = some (brk n s a b c d e) := by
  unfold impl_chi_breaks.f brk
  have hl := tab_length n s
  rw [if_pos (by omega), if_pos (by omega), if_pos (by omega), if_pos (by omega), if_pos (by omega), if_pos (by omega), if_pos (by omega), if_pos (by omega), if_pos (by omega), if_pos (by omega), if_pos (by omega)]
  rw [tab_at n hn s a b c ha hb hc, tab_at n hn s a d e ha hd he, tab_at n hn s a b e ha hb he, tab_at n hn s a c d ha hc hd, tab_at n hn s a b d ha hb hd, tab_at n hn s a c e ha hc he]
  by_cases h : wrap64 (sg n s a b c * sg n s a d e) = wrap64 (sg n s a b e * sg n s a c d)
  · rw [if_pos h, decide_eq_true h, Bool.true_and]
  · rw [if_neg h, decide_eq_false h, Bool.false_and]
theorem l4Breaks_ev (n : Nat) (hn : n ≤ 7) (s : ByteArray) (hs : s.size = (tri n).length) (a b c d e : Nat) (ha : a < n) (hb : b < n) (hc : c < n) (hd : d < n) (he : e < n)
    (hab : a ≠ b) (hac : a ≠ c) (had : a ≠ d) (hae : a ≠ e) (hbc : b < c) (hcd : c < d) (hde : d < e) : Ev (fun k => spec_l4Breaks.f k n s a b c d e) (brk n s a b c d e) := by
  unfold spec_l4Breaks.f brk
  refine Ev.bind (l3At_ev n hn s hs a b c ha hb hc hab (by omega) hac) (Ev.bind (l3At_ev n hn s hs a d e ha hd he had (by omega) hae) (Ev.bind (l3At_ev n hn s hs a b e ha hb he hab (by omega) hae) (Ev.bind (l3At_ev n hn s hs a c d ha hc hd hac (by omega) had) (Ev.bind (l3At_ev n hn s hs a b d ha hb hd hab (by omega) had) (Ev.bind (l3At_ev n hn s hs a c e ha hc he hac (by omega) hae) ?_)))))
  by_cases h : wrap64 (sg n s a b c * sg n s a d e) = wrap64 (sg n s a b e * sg n s a c d)
  · rw [decide_eq_true h, Bool.true_and]
    exact Ev.ite_pos h (Ev.now _)
  · rw [decide_eq_false h, Bool.false_and]
    exact Ev.ite_neg h (Ev.now _)
theorem loopE (g : Nat → Nat → Option (List Int)) (m : Nat) (P : Nat → Bool) (X : Bool) (lo : Nat) (hlo : lo ≤ m) (hend : ∃ r, Ev (g m) r ∧ r.isEmpty = !X)
    (hstep : ∀ i, lo ≤ i → i < m → (∃ r, Ev (g (i + 1)) r ∧ r.isEmpty = !(((List.range m).drop (i + 1)).any P || X)) → ∃ r, Ev (g i) r ∧ r.isEmpty = !(P i || (((List.range m).drop (i + 1)).any P || X))) :
    ∃ r, Ev (g lo) r ∧ r.isEmpty = !(((List.range m).drop lo).any P || X) := by
  have key : ∀ d i, lo ≤ i → i + d = m → ∃ r, Ev (g i) r ∧ r.isEmpty = !(((List.range m).drop i).any P || X) := by
    intro d
    induction d with
    | zero =>
      intro i _ hi
      obtain rfl : i = m := by omega
      rw [List.drop_of_length_le (by simp)]
      simpa using hend
    | succ d ih =>
      intro i hl hi
      rw [range_drop' m i (by omega), List.any_cons, Bool.or_assoc]
      exact hstep i hl (by omega) (ih (i + 1) (by omega) (by omega))
  exact key (m - lo) lo (Nat.le_refl _) (by omega)
def avoid (a : Int) (q : Q4) : Bool := !(q.f0 == a || q.f1 == a || q.f2 == a || q.f3 == a)
def brkQ (n : Nat) (s : ByteArray) (a : Int) (q : Q4) : Bool := brk n s a q.f0 q.f1 q.f2 q.f3
def anyA (n : Nat) (s : ByteArray) (a : Nat) : Bool := (quad n).any fun q => avoid a q && brkQ n s a q
def anyB (n : Nat) (s : ByteArray) : Bool := (List.range n).any (anyA n s)
theorem any_range (l : List Q4) (P : Q4 → Bool) : (List.range l.length).any (fun i => P (rd_T97 l (i : Int))) = l.any P := by
  rw [Bool.eq_iff_iff, List.any_eq_true, List.any_eq_true]
  have hr : ∀ i (h : i < l.length), rd_T97 l (i : Int) = l[i] := by
    intro i h
    unfold rd_T97
    rw [Int.toNat_natCast, getD_lt _ _ _ h]
  constructor
  · rintro ⟨i, hi, hp⟩
    rw [List.mem_range] at hi
    rw [hr i hi] at hp
    exact ⟨_, List.getElem_mem hi, hp⟩
  · rintro ⟨q, hq, hp⟩
    obtain ⟨i, hi, rfl⟩ := List.getElem_of_mem hq
    exact ⟨i, by simpa using hi, by rw [hr i hi]; exact hp⟩
theorem impl_first_ev (n : Nat) (hn : n ≤ 7) (s : ByteArray) : ∃ r, Ev (fun k => impl_chi_firstBreak.f k (tab n s)) r ∧ r.isEmpty = !anyB n s := by
  have hl := tab_length n s
  obtain ⟨hq, hq1⟩ := quad_ok n hn
  unfold impl_chi_firstBreak.f
  have key := loopE (fun a k => impl_chi_firstBreak.l0 k (tab n s) a) n (anyA n s) false 0 (by omega) ?_ ?_
  · simpa [anyB] using key
  · refine ⟨[], Ev.step (fun k => impl_chi_firstBreak.l0.eq_2 ..) (Ev.ite_pos (by omega) (Ev.ite_neg (by rw [tab_n]; omega) (Ev.now _))), rfl⟩
  · intro a _ ha h0
    rw [Bool.or_false] at h0 ⊢
    have key2 := loopE (fun i k => impl_chi_firstBreak.l1 k (tab n s) a (quad n) (quad n).length i) (quad n).length (fun i => avoid a (rd_T97 (quad n) (i : Int)) && brkQ n s a (rd_T97 (quad n) (i : Int))) (((List.range n).drop (a + 1)).any (anyA n s)) 0 (by omega) ?_ ?_
    · obtain ⟨r, h1, h2⟩ := key2
      rw [List.drop_zero, any_range (quad n) (fun q => avoid a q && brkQ n s a q)] at h2
      refine ⟨r, Ev.step (fun k => impl_chi_firstBreak.l0.eq_2 ..) (Ev.ite_pos (by omega) (Ev.ite_pos (by rw [tab_n]; omega) ?_)), h2⟩
      rw [tab_n]
      exact Ev.bind (quadsOf_ev n hn) h1
    · obtain ⟨r, h1, h2⟩ := h0
      refine ⟨r, Ev.step (fun k => impl_chi_firstBreak.l1.eq_2 ..) (Ev.ite_neg (by omega) ?_), h2⟩
      rw [wrap_nat a (by omega)]
      exact h1
    · intro i _ hi h1
      have hr : rd_T97 (quad n) (i : Int) = (quad n)[i] := by
        unfold rd_T97
        rw [Int.toNat_natCast, getD_lt _ _ _ hi]
      rw [List.all_eq_true] at hq
      have ht := hq _ (List.getElem_mem hi)
      rw [← hr] at ht
      obtain ⟨r, h1, h2⟩ := h1
      rw [← wrap_nat i (by omega)] at h1
      by_cases hav : avoid a (rd_T97 (quad n) (i : Int)) = true
      · have hav' := hav
        unfold avoid at hav'
        simp only [Bool.not_eq_true', Bool.or_eq_false_iff, beq_eq_false_iff_ne] at hav'
        obtain ⟨⟨⟨e0, e1⟩, e2⟩, e3⟩ := hav'
        have hb : impl_chi_breaks.f (tab n s) a (rd_T97 (quad n) (i : Int)).f0 (rd_T97 (quad n) (i : Int)).f1 (rd_T97 (quad n) (i : Int)).f2 (rd_T97 (quad n) (i : Int)).f3 = some (brkQ n s a (rd_T97 (quad n) (i : Int))) := by
          generalize rd_T97 (quad n) (i : Int) = q at ht ⊢
          obtain ⟨b, c, d, e⟩ := q
          unfold okQ at ht
          rw [decide_eq_true_eq] at ht
          dsimp only at ht
          obtain ⟨b, rfl⟩ := Int.eq_ofNat_of_zero_le ht.1
          obtain ⟨c, rfl⟩ := Int.eq_ofNat_of_zero_le (show 0 ≤ c by omega)
          obtain ⟨d, rfl⟩ := Int.eq_ofNat_of_zero_le (show 0 ≤ d by omega)
          obtain ⟨e, rfl⟩ := Int.eq_ofNat_of_zero_le (show 0 ≤ e by omega)
          exact breaks_eq n hn s a b c d e (by omega) (by omega) (by omega) (by omega) (by omega)
        rw [hav, Bool.true_and]
        by_cases hbk : brkQ n s a (rd_T97 (quad n) (i : Int)) = true
        · rw [hbk, Bool.true_or]
          exact ⟨_, Ev.step (fun k => impl_chi_firstBreak.l1.eq_2 ..) (Ev.ite_pos (by omega) (Ev.ite_pos (by omega) (Ev.ite_pos (by omega) (Ev.ite_neg e0 (Ev.ite_neg e1 (Ev.ite_neg e2 (Ev.ite_neg e3 (Ev.bind0 hb (Ev.ite_pos hbk (Ev.now _)))))))))), rfl⟩
        · rw [Bool.eq_false_iff.mpr hbk, Bool.false_or]
          exact ⟨r, Ev.step (fun k => impl_chi_firstBreak.l1.eq_2 ..) (Ev.ite_pos (by omega) (Ev.ite_pos (by omega) (Ev.ite_pos (by omega) (Ev.ite_neg e0 (Ev.ite_neg e1 (Ev.ite_neg e2 (Ev.ite_neg e3 (Ev.bind0 hb (Ev.ite_neg hbk h1))))))))), h2⟩
      · rw [Bool.eq_false_iff.mpr hav, Bool.false_and, Bool.false_or]
        refine ⟨r, Ev.step (fun k => impl_chi_firstBreak.l1.eq_2 ..) (Ev.ite_pos (by omega) (Ev.ite_pos (by omega) (Ev.ite_pos (by omega) ?_))), h2⟩
        unfold avoid at hav
        by_cases e0 : (rd_T97 (quad n) (i : Int)).f0 = a
        · exact Ev.ite_pos e0 h1
        refine Ev.ite_neg e0 ?_
        by_cases e1 : (rd_T97 (quad n) (i : Int)).f1 = a
        · exact Ev.ite_pos e1 h1
        refine Ev.ite_neg e1 ?_
        by_cases e2 : (rd_T97 (quad n) (i : Int)).f2 = a
        · exact Ev.ite_pos e2 h1
        refine Ev.ite_neg e2 ?_
        by_cases e3 : (rd_T97 (quad n) (i : Int)).f3 = a
        · exact Ev.ite_pos e3 h1
        · exact absurd (by simp [e0, e1, e2, e3]) hav
def oth (n a : Nat) : List Int := ((List.range n).filter fun x => x != a).map fun x : Nat => (x : Int)
theorem all_oth : (List.range 8).all (fun n => (List.range n).all fun a => spec_l3Others.f 40 n a == some (oth n a)) = true := by decide +kernel
theorem l3Others_ev (n a : Nat) (hn : n ≤ 7) (ha : a < n) : Ev (fun k => spec_l3Others.f k n a) (oth n a) := by
  have h := all_oth
  rw [List.all_eq_true] at h
  have h := h n (by simp; omega)
  rw [List.all_eq_true] at h
  have h := h a (by simpa using ha)
  exact Ev.of (spec_l3Others.mono _ _) (k := 40) (by simpa using h)
theorem all_o : (List.range 8).all (fun n => (List.range n).all fun a => decide ((oth n a).length ≤ 7) && (List.range (oth n a).length).all fun i => decide (0 ≤ rd (oth n a) (i : Int) ∧ rd (oth n a) (i : Int) < n ∧ rd (oth n a) (i : Int) ≠ a) && (List.range i).all fun j => decide (rd (oth n a) (j : Int) < rd (oth n a) (i : Int))) = true := by decide +kernel
theorem oth_ok (n a : Nat) (hn : n ≤ 7) (ha : a < n) : (oth n a).length ≤ 7 ∧ ∀ i, i < (oth n a).length → (∃ u : Nat, rd (oth n a) (i : Int) = u ∧ u < n ∧ u ≠ a) ∧ ∀ j, j < i → rd (oth n a) (j : Int) < rd (oth n a) (i : Int) := by
  have h := all_o
  rw [List.all_eq_true] at h
  have h := h n (by simp; omega)
  rw [List.all_eq_true] at h
  have h := h a (by simpa using ha)
  rw [Bool.and_eq_true, decide_eq_true_eq, List.all_eq_true] at h
  refine ⟨h.1, fun i hi => ?_⟩
  have g := h.2 i (by simpa using hi)
  rw [Bool.and_eq_true, decide_eq_true_eq, List.all_eq_true] at g
  refine ⟨⟨(rd (oth n a) (i : Int)).toNat, by omega, by omega, by omega⟩, fun j hj => ?_⟩
  simpa using g.2 j (by simpa using hj)
def listQ (n a : Nat) : List Q4 :=
  ((List.range (oth n a).length).drop 0).flatMap fun b : Nat => ((List.range (oth n a).length).drop (b + 1)).flatMap fun c : Nat => ((List.range (oth n a).length).drop (c + 1)).flatMap fun d : Nat => ((List.range (oth n a).length).drop (d + 1)).map fun e : Nat =>
    (⟨rd (oth n a) (b : Int), rd (oth n a) (c : Int), rd (oth n a) (d : Int), rd (oth n a) (e : Int)⟩ : Q4)
def tup (q : Q4) : Int × Int × Int × Int := (q.f0, q.f1, q.f2, q.f3)
def untup (q : Int × Int × Int × Int) : Q4 := ⟨q.1, q.2.1, q.2.2.1, q.2.2.2⟩
theorem untup_map (l : List Q4) : (l.map tup).map untup = l := by
  rw [List.map_map]
  exact List.map_id' l
theorem all_list : (List.range 8).all (fun n => (List.range n).all fun a => (listQ n a).map tup == ((quad n).filter (avoid a)).map tup) = true := by decide +kernel
theorem listQ_eq (n a : Nat) (hn : n ≤ 7) (ha : a < n) : listQ n a = (quad n).filter (avoid a) := by
  have h := all_list
  rw [List.all_eq_true] at h
  have h := h n (by simp; omega)
  rw [List.all_eq_true] at h
  have h := h a (by simpa using ha)
  have h := congrArg (List.map untup) (eq_of_beq h)
  rwa [untup_map, untup_map] at h
section
variable (n : Nat) (s : ByteArray) (a : Nat)
def b4 (b c d e : Nat) : Bool := brk n s a (rd (oth n a) (b : Int)) (rd (oth n a) (c : Int)) (rd (oth n a) (d : Int)) (rd (oth n a) (e : Int))
def b3 (b c d : Nat) : Bool := ((List.range (oth n a).length).drop (d + 1)).any (b4 n s a b c d)
def b2 (b c : Nat) : Bool := ((List.range (oth n a).length).drop (c + 1)).any (b3 n s a b c)
def b1 (b : Nat) : Bool := ((List.range (oth n a).length).drop (b + 1)).any (b2 n s a b)
end
theorem b1_eq (n : Nat) (s : ByteArray) (a : Nat) (hn : n ≤ 7) (ha : a < n) : (List.range (oth n a).length).any (b1 n s a) = anyA n s a := by
  unfold anyA
  rw [← List.any_filter, ← listQ_eq n a hn ha]
  unfold listQ
  rw [List.drop_zero, List.any_flatMap]
  simp only [List.any_flatMap, List.any_map]
  rfl
theorem spec_first_ev (n : Nat) (hn : n ≤ 7) (s : ByteArray) (hA : isS n s = true) : ∃ r, Ev (fun k => spec_FirstBreak.f k n s) r ∧ r.isEmpty = !anyB n s := by
  have hS := spec_AreSigns_ev n s
  rw [hA] at hS
  obtain ⟨_, _, hs, _⟩ := isS_bounds hA
  rw [Int.toNat_natCast] at hs
  unfold spec_FirstBreak.f
  have key := loopE (fun a k => spec_FirstBreak.l0 k a n s) n (anyA n s) false 0 (by omega) ?_ ?_
  · simpa [anyB] using key
  · exact ⟨[], Ev.step (fun k => spec_FirstBreak.l0.eq_2 ..) (Ev.ite_neg (by omega) (Ev.step (fun k => spec_FirstBreak.j1.eq_2 ..) (Ev.ite_neg (by simp) (Ev.now _)))), rfl⟩
  · intro a _ ha h0
    rw [Bool.or_false] at h0 ⊢
    obtain ⟨ho, hok⟩ := oth_ok n a hn ha
    rw [← b1_eq n s a hn ha]
    have key1 := loopE (fun b k => spec_FirstBreak.l1 k a (oth n a) b n s) (oth n a).length (b1 n s a) (((List.range n).drop (a + 1)).any (anyA n s)) 0 (by omega) ?_ ?_
    · obtain ⟨r, h1, h2⟩ := key1
      rw [List.drop_zero] at h2
      exact ⟨r, Ev.step (fun k => spec_FirstBreak.l0.eq_2 ..) (Ev.ite_pos (by omega) (Ev.bind hS (Ev.step (fun k => spec_FirstBreak.j1.eq_2 ..) (Ev.ite_pos rfl (Ev.bind (l3Others_ev n a hn ha) h1))))), h2⟩
    · obtain ⟨r, h1, h2⟩ := h0
      refine ⟨r, Ev.step (fun k => spec_FirstBreak.l1.eq_2 ..) (Ev.ite_neg (by omega) ?_), h2⟩
      rw [wrap_nat a (by omega)]
      exact h1
    · intro b _ hb h1
      have key2 := loopE (fun c k => spec_FirstBreak.l2 k a (oth n a) b c n s) (oth n a).length (b2 n s a b) (((List.range (oth n a).length).drop (b + 1)).any (b1 n s a) || ((List.range n).drop (a + 1)).any (anyA n s)) (b + 1) (by omega) ?_ ?_
      · obtain ⟨r, g1, g2⟩ := key2
        refine ⟨r, Ev.step (fun k => spec_FirstBreak.l1.eq_2 ..) (Ev.ite_pos (by omega) ?_), g2⟩
        rw [wrap_nat b (by omega)]
        exact g1
      · obtain ⟨r, g1, g2⟩ := h1
        refine ⟨r, Ev.step (fun k => spec_FirstBreak.l2.eq_2 ..) (Ev.ite_neg (by omega) ?_), g2⟩
        rw [wrap_nat b (by omega)]
        exact g1
      · intro c hbc hc h2
        have key3 := loopE (fun d k => spec_FirstBreak.l3 k a (oth n a) b c d n s) (oth n a).length (b3 n s a b c) (((List.range (oth n a).length).drop (c + 1)).any (b2 n s a b) || (((List.range (oth n a).length).drop (b + 1)).any (b1 n s a) || ((List.range n).drop (a + 1)).any (anyA n s))) (c + 1) (by omega) ?_ ?_
        · obtain ⟨r, g1, g2⟩ := key3
          refine ⟨r, Ev.step (fun k => spec_FirstBreak.l2.eq_2 ..) (Ev.ite_pos (by omega) ?_), g2⟩
          rw [wrap_nat c (by omega)]
          exact g1
        · obtain ⟨r, g1, g2⟩ := h2
          refine ⟨r, Ev.step (fun k => spec_FirstBreak.l3.eq_2 ..) (Ev.ite_neg (by omega) ?_), g2⟩
          rw [wrap_nat c (by omega)]
          exact g1
        · intro d hcd hd h3
          have key4 := loopE (fun e k => spec_FirstBreak.l4 k a (oth n a) b c d e n s) (oth n a).length (b4 n s a b c d) (((List.range (oth n a).length).drop (d + 1)).any (b3 n s a b c) || (((List.range (oth n a).length).drop (c + 1)).any (b2 n s a b) || (((List.range (oth n a).length).drop (b + 1)).any (b1 n s a) || ((List.range n).drop (a + 1)).any (anyA n s)))) (d + 1) (by omega) ?_ ?_
          · obtain ⟨r, g1, g2⟩ := key4
            refine ⟨r, Ev.step (fun k => spec_FirstBreak.l3.eq_2 ..) (Ev.ite_pos (by omega) ?_), g2⟩
            rw [wrap_nat d (by omega)]
            exact g1
          · obtain ⟨r, g1, g2⟩ := h3
            refine ⟨r, Ev.step (fun k => spec_FirstBreak.l4.eq_2 ..) (Ev.ite_neg (by omega) ?_), g2⟩
            rw [wrap_nat d (by omega)]
            exact g1
          · intro e hde he h4
            have hord : b < c ∧ c < d ∧ d < e := ⟨by omega, by omega, by omega⟩
            obtain ⟨⟨ub, eb, lb, nb⟩, _⟩ := hok b hb
            obtain ⟨⟨uc, ec, lc, nc⟩, oc⟩ := hok c hc
            obtain ⟨⟨ud, ed, ld, nd⟩, od⟩ := hok d hd
            obtain ⟨⟨ue, ee, le, ne⟩, oe⟩ := hok e he
            have kb := oc b hord.1
            have kc := od c hord.2.1
            have kd := oe d hord.2.2
            rw [eb, ec] at kb
            rw [ec, ed] at kc
            rw [ed, ee] at kd
            have hbr : Ev (fun k => spec_l4Breaks.f k n s a (rd (oth n a) (b : Int)) (rd (oth n a) (c : Int)) (rd (oth n a) (d : Int)) (rd (oth n a) (e : Int))) (b4 n s a b c d e) := by
              unfold b4
              rw [eb, ec, ed, ee]
              exact l4Breaks_ev n hn s hs a ub uc ud ue ha lb lc ld le (Ne.symm nb) (Ne.symm nc) (Ne.symm nd) (Ne.symm ne) (by omega) (by omega) (by omega)
            obtain ⟨r, g1, g2⟩ := h4
            rw [← wrap_nat e (by omega)] at g1
            by_cases hbk : b4 n s a b c d e = true
            · rw [hbk] at hbr
              rw [hbk, Bool.true_or]
              exact ⟨_, Ev.step (fun k => spec_FirstBreak.l4.eq_2 ..) (Ev.ite_pos (by omega) (Ev.ite_pos (by omega) (Ev.ite_pos (by omega) (Ev.ite_pos (by omega) (Ev.ite_pos (by omega) (Ev.ite_pos (by omega) (Ev.ite_pos (by omega) (Ev.ite_pos (by omega) (Ev.bind hbr (Ev.ite_pos rfl (Ev.now _))))))))))), rfl⟩
            · rw [Bool.eq_false_iff.mpr hbk] at hbr
              rw [Bool.eq_false_iff.mpr hbk, Bool.false_or]
              exact ⟨r, Ev.step (fun k => spec_FirstBreak.l4.eq_2 ..) (Ev.ite_pos (by omega) (Ev.ite_pos (by omega) (Ev.ite_pos (by omega) (Ev.ite_pos (by omega) (Ev.ite_pos (by omega) (Ev.ite_pos (by omega) (Ev.ite_pos (by omega) (Ev.ite_pos (by omega) (Ev.bind hbr (Ev.ite_neg (by simp) g1)))))))))), g2⟩
def isM (n : Int) (s : ByteArray) : Bool := isS n s && !anyB n.toNat s
theorem len_empty (r : List Int) : ((r.length : Int) = 0) ↔ r.isEmpty = true := by
  rw [List.isEmpty_iff, ← List.length_eq_zero_iff]
  omega
theorem spec_IsMatroid_ev (n : Int) (s : ByteArray) : Ev (fun k => spec_IsMatroid.f k n s) (isM n s) := by
  have hS := spec_AreSigns_ev n s
  unfold spec_IsMatroid.f isM
  cases hA : isS n s with
  | false =>
    rw [hA] at hS
    exact Ev.bind hS (Ev.ite_neg (by simp) (Ev.now _))
  | true =>
    rw [hA] at hS
    obtain ⟨h3, h7, _, _⟩ := isS_bounds hA
    obtain ⟨n, rfl⟩ := Int.eq_ofNat_of_zero_le (show 0 ≤ n by omega)
    obtain ⟨r, h1, h2⟩ := spec_first_ev n (by omega) s hA
    rw [Int.toNat_natCast, Bool.true_and, ← h2]
    refine Ev.bind hS (Ev.ite_pos rfl (Ev.bind h1 (Ev.const (congrArg some ?_))))
    rw [Bool.eq_iff_iff, beq_iff_eq]
    exact len_empty r
theorem impl_IsMatroid_ev (n : Int) (s : ByteArray) : Ev (fun k => impl_IsMatroid.f k n s) (isM n s) := by
  have hS := impl_AreSigns_ev n s
  unfold impl_IsMatroid.f isM
  cases hA : isS n s with
  | false =>
    rw [hA] at hS
    exact Ev.bind hS (Ev.ite_neg (by simp) (Ev.now _))
  | true =>
    rw [hA] at hS
    obtain ⟨h3, h7, hs, _⟩ := isS_bounds hA
    obtain ⟨n, rfl⟩ := Int.eq_ofNat_of_zero_le (show 0 ≤ n by omega)
    rw [Int.toNat_natCast] at hs
    obtain ⟨r, h1, h2⟩ := impl_first_ev n (by omega) s
    rw [Int.toNat_natCast, Bool.true_and, ← h2]
    have hF : Ev (fun k => impl_FirstBreak.f k n s) r := by
      unfold impl_FirstBreak.f
      exact Ev.bind hS (Ev.ite_pos rfl (Ev.bind (tableOf_ev n (by omega) s hs) (Ev.bind h1 (Ev.now _))))
    refine Ev.bind hS (Ev.ite_pos rfl (Ev.bind hF ?_))
    cases he : r.isEmpty with
    | true => exact Ev.ite_pos ((len_empty r).mpr he) (Ev.now _)
    | false => exact Ev.ite_neg (fun h => by rw [(len_empty r).mp h] at he; cases he) (Ev.now _)
def byteS (v : Int) : ByteArray := if v > 0 then ⟨#[43]⟩ else ⟨#[45]⟩
def circT (p q r t : Int) : ByteArray := (((⟨#[43]⟩ : ByteArray) ++ byteS (wrap64 ((wrap64 (-p)) * q))) ++ byteS (wrap64 (p * r))) ++ byteS (wrap64 ((wrap64 (-p)) * t))
theorem l3Byte_eq (v : Int) : spec_l3Byte.f v = some (byteS v) := by
  unfold spec_l3Byte.f byteS
  by_cases h : v > 0
  · rw [if_pos h, if_pos h]
  · rw [if_neg h, if_neg h]
theorem byteS_size (v : Int) : (byteS v).size = 1 := by
  unfold byteS
  by_cases h : v > 0
  · rw [if_pos h]; rfl
  · rw [if_neg h]; rfl
def pm1 : List Int := [1, -1]
theorem all_circ : pm1.all (fun p => pm1.all fun q => pm1.all fun r => pm1.all fun t => (impl_chi_circuit.l0 12 [] [p, wrap64 (-q), r, wrap64 (-t)] 4 0).map (fun b => b.data.toList) == some (circT p q r t).data.toList) = true := by decide +kernel
theorem circ_eq (p q r t : Int) (hp : p = 1 ∨ p = -1) (hq : q = 1 ∨ q = -1) (hr : r = 1 ∨ r = -1) (ht : t = 1 ∨ t = -1) : impl_chi_circuit.l0 12 [] [p, wrap64 (-q), r, wrap64 (-t)] 4 0 = some (circT p q r t) := by
  have h := all_circ
  rw [List.all_eq_true] at h
  have h := h p (by rcases hp with rfl | rfl <;> decide)
  rw [List.all_eq_true] at h
  have h := h q (by rcases hq with rfl | rfl <;> decide)
  rw [List.all_eq_true] at h
  have h := h r (by rcases hr with rfl | rfl <;> decide)
  rw [List.all_eq_true] at h
  have h := eq_of_beq (h t (by rcases ht with rfl | rfl <;> decide))
  obtain ⟨b, h1, h2⟩ := Option.map_eq_some_iff.mp h
  rw [h1]
  congr 1
  apply ByteArray.ext
  exact Array.ext' h2
theorem impl_circuit_ev (n : Nat) (hn : n ≤ 7) (s : ByteArray) (a b c d : Nat) (hd : d < n) (hab : a < b) (hbc : b < c) (hcd : c < d) :
    Ev (fun k => impl_chi_circuit.f k (tab n s) a b c d) (circT (sg n s b c d) (sg n s a c d) (sg n s a b d) (sg n s a b c)) := by
  have hl := tab_length n s
  unfold impl_chi_circuit.f
  refine Ev.ite_pos (by omega) (Ev.ite_pos (by omega) (Ev.ite_pos (by omega) (Ev.ite_pos (by omega) (Ev.ite_pos (by omega) (Ev.ite_pos (by omega) (Ev.ite_pos (by omega) (Ev.ite_pos (by omega) (Ev.ite_pos (by omega) (Ev.bind0 rfl ?_)))))))))
  rw [tab_at n hn s b c d (by omega) (by omega) (by omega), tab_at n hn s a c d (by omega) (by omega) (by omega), tab_at n hn s a b d (by omega) (by omega) (by omega), tab_at n hn s a b c (by omega) (by omega) (by omega)]
  exact Ev.of (fun k => (impl_chi_circuit.mono_l k) _ _ _ _) (k := 12) (circ_eq _ _ _ _ (sg_pm n hn s b c d (by omega) (by omega) (by omega) (by omega) (by omega) (by omega)) (sg_pm n hn s a c d (by omega) (by omega) (by omega) (by omega) (by omega) (by omega)) (sg_pm n hn s a b d (by omega) (by omega) (by omega) (by omega) (by omega) (by omega)) (sg_pm n hn s a b c (by omega) (by omega) (by omega) (by omega) (by omega) (by omega)))
theorem spec_circuit_ev (n : Nat) (hn : n ≤ 7) (s : ByteArray) (hs : s.size = (tri n).length) (a b c d : Nat) (hd : d < n) (hab : a < b) (hbc : b < c) (hcd : c < d) :
    Ev (fun k => spec_l4Circuit.f k n s a b c d) (circT (sg n s b c d) (sg n s a c d) (sg n s a b d) (sg n s a b c)) := by
  unfold spec_l4Circuit.f circT
  refine Ev.bind (l3At_ev n hn s hs b c d (by omega) (by omega) (by omega) (by omega) (by omega) (by omega)) (Ev.bind (l3At_ev n hn s hs a c d (by omega) (by omega) (by omega) (by omega) (by omega) (by omega)) (Ev.bind0 (l3Byte_eq _) (Ev.ite_pos (by rw [byteS_size]; omega) ?_)))
  refine Ev.bind (l3At_ev n hn s hs a b d (by omega) (by omega) (by omega) (by omega) (by omega) (by omega)) (Ev.bind0 (l3Byte_eq _) (Ev.ite_pos (by rw [ByteArray.size_append, byteS_size, byteS_size]; decide) ?_))
  exact Ev.bind (l3At_ev n hn s hs a b c (by omega) (by omega) (by omega) (by omega) (by omega) (by omega)) (Ev.bind0 (l3Byte_eq _) (Ev.ite_pos (by rw [ByteArray.size_append, ByteArray.size_append, byteS_size, byteS_size, byteS_size]; decide) (Ev.now _)))
def mixed (n : Nat) (s : ByteArray) (a b c d : Int) : Bool := !decide ((circT (sg n s b c d) (sg n s a c d) (sg n s a b d) (sg n s a b c)).toList = ([43, 43, 43, 43] : List UInt8))
def mixQ (n : Nat) (s : ByteArray) (q : Q4) : Bool := mixed n s q.f0 q.f1 q.f2 q.f3
def acyT (n : Nat) (s : ByteArray) : Bool := (quad n).all (mixQ n s)
theorem impl_acy_ev (n : Nat) (hn : n ≤ 7) (s : ByteArray) : Ev (fun k => impl_chi_isAcyclic.f k (tab n s)) (acyT n s) := by
  have hl := tab_length n s
  obtain ⟨hq, hq1⟩ := quad_ok n hn
  rw [List.all_eq_true] at hq
  unfold impl_chi_isAcyclic.f acyT
  rw [tab_n]
  refine Ev.ite_pos (by omega) (Ev.bind (quadsOf_ev n hn) ?_)
  have key := Ev.loop_to (fun i k => impl_chi_isAcyclic.l0 k (tab n s) (quad n) (quad n).length i) (quad n).length (fun i => ((quad n).drop i).all (mixQ n s)) ?_ ?_ 0 (by omega)
  · simpa using key
  · refine Ev.step (fun k => impl_chi_isAcyclic.l0.eq_2 ..) (Ev.ite_neg (by omega) (Ev.const ?_))
    rw [List.drop_of_length_le (by omega)]
    rfl
  · intro i hi ih
    have hr : rd_T97 (quad n) (i : Int) = (quad n)[i] := by
      unfold rd_T97
      rw [Int.toNat_natCast, getD_lt _ _ _ hi]
    have ht := hq _ (List.getElem_mem hi)
    rw [List.drop_eq_getElem_cons hi, List.all_cons]
    refine Ev.step (fun k => impl_chi_isAcyclic.l0.eq_2 ..) (Ev.ite_pos (by omega) (Ev.ite_pos (by omega) (Ev.ite_pos (by omega) ?_)))
    rw [hr, wrap_nat i (by omega)]
    generalize (quad n)[i] = q at ht ⊢
    obtain ⟨a, b, c, d⟩ := q
    unfold okQ at ht
    rw [decide_eq_true_eq] at ht
    dsimp only at ht
    obtain ⟨a, rfl⟩ := Int.eq_ofNat_of_zero_le ht.1
    obtain ⟨b, rfl⟩ := Int.eq_ofNat_of_zero_le (show 0 ≤ b by omega)
    obtain ⟨c, rfl⟩ := Int.eq_ofNat_of_zero_le (show 0 ≤ c by omega)
    obtain ⟨d, rfl⟩ := Int.eq_ofNat_of_zero_le (show 0 ≤ d by omega)
    refine Ev.bind (impl_circuit_ev n hn s a b c d (by omega) (by omega) (by omega) (by omega)) ?_
    rw [show mixQ n s (⟨a, b, c, d⟩ : Q4) = !decide ((circT (sg n s b c d) (sg n s a c d) (sg n s a b d) (sg n s a b c)).toList = ([43, 43, 43, 43] : List UInt8)) from rfl]
    by_cases h : (circT (sg n s b c d) (sg n s a c d) (sg n s a b d) (sg n s a b c)).toList = ([43, 43, 43, 43] : List UInt8)
    · rw [decide_eq_true h]
      exact Ev.ite_pos h (Ev.now _)
    · rw [decide_eq_false h]
      exact Ev.ite_neg h (by simpa using ih)
def listC (n : Nat) : List Q4 :=
  ((List.range n).drop 0).flatMap fun a : Nat => ((List.range n).drop (a + 1)).flatMap fun b : Nat => ((List.range n).drop (b + 1)).flatMap fun c : Nat => ((List.range n).drop (c + 1)).map fun d : Nat => (⟨a, b, c, d⟩ : Q4)
theorem all_c : (List.range 8).all (fun n => (listC n).map tup == (quad n).map tup) = true := by decide +kernel
theorem listC_eq (n : Nat) (hn : n ≤ 7) : listC n = quad n := by
  have h := all_c
  rw [List.all_eq_true] at h
  have h := congrArg (List.map untup) (eq_of_beq (h n (by simp; omega)))
  rwa [untup_map, untup_map] at h
section
variable (n : Nat) (s : ByteArray)
def m4 (a b c d : Nat) : Bool := mixed n s a b c d
def m3 (a b c : Nat) : Bool := ((List.range n).drop (c + 1)).all (m4 n s a b c)
def m2 (a b : Nat) : Bool := ((List.range n).drop (b + 1)).all (m3 n s a b)
def m1 (a : Nat) : Bool := ((List.range n).drop (a + 1)).all (m2 n s a)
end
theorem acy_eq (n : Nat) (hn : n ≤ 7) (s : ByteArray) : (List.range n).all (m1 n s) = acyT n s := by
  unfold acyT
  rw [← listC_eq n hn]
  unfold listC
  rw [List.drop_zero, List.all_flatMap]
  simp only [List.all_flatMap, List.all_map]
  rfl
theorem loopA (g : Nat → Nat → Option Bool) (m : Nat) (P : Nat → Bool) (X : Bool) (lo : Nat) (hlo : lo ≤ m) (hend : Ev (g m) X)
    (hstep : ∀ i, lo ≤ i → i < m → Ev (g (i + 1)) (((List.range m).drop (i + 1)).all P && X) → Ev (g i) (P i && (((List.range m).drop (i + 1)).all P && X))) : Ev (g lo) (((List.range m).drop lo).all P && X) := by
  have key : ∀ d i, lo ≤ i → i + d = m → Ev (g i) (((List.range m).drop i).all P && X) := by
    intro d
    induction d with
    | zero =>
      intro i _ hi
      obtain rfl : i = m := by omega
      rw [List.drop_of_length_le (by simp)]
      simpa using hend
    | succ d ih =>
      intro i hl hi
      rw [range_drop' m i (by omega), List.all_cons, Bool.and_assoc]
      exact hstep i hl (by omega) (ih (i + 1) (by omega) (by omega))
  exact key (m - lo) lo (Nat.le_refl _) (by omega)
theorem spec_acy_ev (n : Nat) (hn : n ≤ 7) (s : ByteArray) (hs : s.size = (tri n).length) : Ev (fun k => spec_l4Acyclic.f k n s) (acyT n s) := by
  rw [← acy_eq n hn s]
  unfold spec_l4Acyclic.f
  have key := loopA (fun a k => spec_l4Acyclic.l0 k a n s) n (m1 n s) true 0 (by omega) ?_ ?_
  · simpa using key
  · exact Ev.step (fun k => spec_l4Acyclic.l0.eq_2 ..) (Ev.ite_neg (by omega) (Ev.now _))
  · intro a _ ha h0
    have key1 := loopA (fun b k => spec_l4Acyclic.l1 k a b n s) n (m2 n s a) (((List.range n).drop (a + 1)).all (m1 n s) && true) (a + 1) (by omega) ?_ ?_
    · refine Ev.step (fun k => spec_l4Acyclic.l0.eq_2 ..) (Ev.ite_pos (by omega) ?_)
      rw [wrap_nat a (by omega)]
      exact key1
    · refine Ev.step (fun k => spec_l4Acyclic.l1.eq_2 ..) (Ev.ite_neg (by omega) ?_)
      rw [wrap_nat a (by omega)]
      exact h0
    · intro b hab hb h1
      have key2 := loopA (fun c k => spec_l4Acyclic.l2 k a b c n s) n (m3 n s a b) (((List.range n).drop (b + 1)).all (m2 n s a) && (((List.range n).drop (a + 1)).all (m1 n s) && true)) (b + 1) (by omega) ?_ ?_
      · refine Ev.step (fun k => spec_l4Acyclic.l1.eq_2 ..) (Ev.ite_pos (by omega) ?_)
        rw [wrap_nat b (by omega)]
        exact key2
      · refine Ev.step (fun k => spec_l4Acyclic.l2.eq_2 ..) (Ev.ite_neg (by omega) ?_)
        rw [wrap_nat b (by omega)]
        exact h1
      · intro c hbc hc h2
        have key3 := loopA (fun d k => spec_l4Acyclic.l3 k a b c d n s) n (m4 n s a b c) (((List.range n).drop (c + 1)).all (m3 n s a b) && (((List.range n).drop (b + 1)).all (m2 n s a) && (((List.range n).drop (a + 1)).all (m1 n s) && true))) (c + 1) (by omega) ?_ ?_
        · refine Ev.step (fun k => spec_l4Acyclic.l2.eq_2 ..) (Ev.ite_pos (by omega) ?_)
          rw [wrap_nat c (by omega)]
          exact key3
        · refine Ev.step (fun k => spec_l4Acyclic.l3.eq_2 ..) (Ev.ite_neg (by omega) ?_)
          rw [wrap_nat c (by omega)]
          exact h2
        · intro d hcd hd h3
          refine Ev.step (fun k => spec_l4Acyclic.l3.eq_2 ..) (Ev.ite_pos (by omega) (Ev.bind (spec_circuit_ev n hn s hs a b c d (by omega) (by omega) (by omega) (by omega)) ?_))
          rw [show m4 n s a b c d = !decide ((circT (sg n s b c d) (sg n s a c d) (sg n s a b d) (sg n s a b c)).toList = ([43, 43, 43, 43] : List UInt8)) from rfl, wrap_nat d (by omega)]
          by_cases h : (circT (sg n s b c d) (sg n s a c d) (sg n s a b d) (sg n s a b c)).toList = ([43, 43, 43, 43] : List UInt8)
          · rw [decide_eq_true h]
            exact Ev.ite_pos h (Ev.now _)
          · rw [decide_eq_false h]
            exact Ev.ite_neg h (by simpa using h3)
def isA (n : Int) (s : ByteArray) : Bool := isM n s && acyT n.toNat s
theorem isM_S {n : Int} {s : ByteArray} (h : isM n s = true) : isS n s = true := by
  unfold isM at h
  rw [Bool.and_eq_true] at h
  exact h.1
theorem spec_IsAcyclic_ev (n : Int) (s : ByteArray) : Ev (fun k => spec_IsAcyclic.f k n s) (isA n s) := by
  unfold spec_IsAcyclic.f isA
  refine Ev.bind (spec_IsMatroid_ev n s) ?_
  cases hM : isM n s with
  | false => exact Ev.ite_neg (by simp) (Ev.now _)
  | true =>
    obtain ⟨h3, h7, hs, _⟩ := isS_bounds (isM_S hM)
    obtain ⟨n, rfl⟩ := Int.eq_ofNat_of_zero_le (show 0 ≤ n by omega)
    rw [Int.toNat_natCast] at hs ⊢
    exact Ev.ite_pos rfl (Ev.bind (spec_acy_ev n (by omega) s hs) (Ev.now _))
theorem impl_IsAcyclic_ev (n : Int) (s : ByteArray) : Ev (fun k => impl_IsAcyclic.f k n s) (isA n s) := by
  unfold impl_IsAcyclic.f isA
  refine Ev.bind (impl_IsMatroid_ev n s) ?_
  cases hM : isM n s with
  | false => exact Ev.ite_neg (by simp) (Ev.now _)
  | true =>
    obtain ⟨h3, h7, hs, _⟩ := isS_bounds (isM_S hM)
    obtain ⟨n, rfl⟩ := Int.eq_ofNat_of_zero_le (show 0 ≤ n by omega)
    rw [Int.toNat_natCast] at hs ⊢
    exact Ev.ite_pos rfl (Ev.bind (tableOf_ev n (by omega) s hs) (Ev.bind (impl_acy_ev n (by omega) s) (Ev.now _)))
end Go.Proofs.Ytbglgapndefcfaa.Pure
namespace Go.Proofs.Ytbglgapndefcfaa.Pl
set_option linter.unusedSimpArgs false
set_option linter.unusedVariables false
open Go.RowKit Go.Proofs.YtbglgapndefcfaaW.PrintWords
theorem range_dropS (n i : Nat) (h : i < n) : (List.range n).drop i = i :: (List.range n).drop (i + 1) := by
  rw [List.drop_eq_getElem_cons (by simpa using h)]
  simp
def Srch {ρ : Type} (g : Nat → Nat → Option ρ) (m : Nat) (P : Nat → Bool) (v : ρ) (lo : Nat) : Prop :=
  ∀ r, (((List.range m).drop lo).any P = true → r = v) → (((List.range m).drop lo).any P = false → Ev (g m) r) → Ev (g lo) r
theorem Srch.of {ρ : Type} (g : Nat → Nat → Option ρ) (m : Nat) (P : Nat → Bool) (v : ρ) (lo : Nat) (hlo : lo ≤ m)
    (hstep : ∀ i, lo ≤ i → i < m → ∀ r, (P i = true → r = v) → (P i = false → Ev (g (i + 1)) r) → Ev (g i) r) : Srch g m P v lo := by
  have key : ∀ d i, lo ≤ i → i + d = m → Srch g m P v i := by
    intro d
    induction d with
    | zero =>
      intro i _ hi
      obtain rfl : i = m := by omega
      intro r _ h2
      exact h2 (by rw [List.drop_of_length_le (by simp)]; rfl)
    | succ d ih =>
      intro i hl hi r h1 h2
      rw [range_dropS m i (by omega), List.any_cons] at h1 h2
      refine hstep i hl (by omega) r (fun h => h1 (by rw [h, Bool.true_or])) (fun h => ih (i + 1) (by omega) (by omega) r (fun k => h1 (by rw [k, Bool.or_true])) (fun k => h2 (by rw [h, k]; rfl)))
  exact key (m - lo) lo (Nat.le_refl _) (by omega)
theorem Ev.up {ρ : Type} {f : Int → Nat → Option ρ} {i : Nat} {r : ρ} (hi : i < 1000000) (h : Ev (f ((i + 1 : Nat) : Int)) r) : Ev (f (wrap64 ((i : Int) + 1))) r := by
  rw [wrap_nat i (by omega)]
  exact h
end Go.Proofs.Ytbglgapndefcfaa.Pl
namespace Go.Proofs.Ytbglgapndefcfaa.Pure
set_option linter.unusedSimpArgs false
set_option linter.unusedVariables false
open Go.RowKit Go.Proofs.YtbglgapndefcfaaW.PrintWords Go.Proofs.Ytbglgapndefcfaa.P Go.Proofs.Ytbglgapndefcfaa.Pl
def D4 (n a b c d : Nat) : Prop := (a < n ∧ b < n ∧ c < n ∧ d < n) ∧ (a ≠ b ∧ a ≠ c ∧ a ≠ d ∧ b ≠ c ∧ b ≠ d ∧ c ≠ d)
def ct (n : Nat) (s : ByteArray) (a b c d : Nat) : ByteArray := circT (sg n s b c d) (sg n s a c d) (sg n s a b d) (sg n s a b c)
theorem impl_circuit_d (n : Nat) (hn : n ≤ 7) (s : ByteArray) (a b c d : Nat) (h : D4 n a b c d) : Ev (fun k => impl_chi_circuit.f k (tab n s) a b c d) (ct n s a b c d) := by
  obtain ⟨⟨ha, hb, hc, hd⟩, h1, h2, h3, h4, h5, h6⟩ := h
  have hl := tab_length n s
  unfold impl_chi_circuit.f
  refine Ev.ite_pos (by omega) (Ev.ite_pos (by omega) (Ev.ite_pos (by omega) (Ev.ite_pos (by omega) (Ev.ite_pos (by omega) (Ev.ite_pos (by omega) (Ev.ite_pos (by omega) (Ev.ite_pos (by omega) (Ev.ite_pos (by omega) (Ev.bind0 rfl ?_)))))))))
  rw [tab_at n hn s b c d (by omega) (by omega) (by omega), tab_at n hn s a c d (by omega) (by omega) (by omega), tab_at n hn s a b d (by omega) (by omega) (by omega), tab_at n hn s a b c (by omega) (by omega) (by omega)]
  exact Ev.of (fun k => (impl_chi_circuit.mono_l k) _ _ _ _) (k := 12) (circ_eq _ _ _ _ (sg_pm n hn s b c d hb hc hd h4 h6 h5) (sg_pm n hn s a c d ha hc hd h2 h6 h3) (sg_pm n hn s a b d ha hb hd h1 h5 h3) (sg_pm n hn s a b c ha hb hc h1 h4 h2))
theorem spec_circuit_d (n : Nat) (hn : n ≤ 7) (s : ByteArray) (hs : s.size = (tri n).length) (a b c d : Nat) (h : D4 n a b c d) : Ev (fun k => spec_l4Circuit.f k n s a b c d) (ct n s a b c d) := by
  obtain ⟨⟨ha, hb, hc, hd⟩, h1, h2, h3, h4, h5, h6⟩ := h
  unfold spec_l4Circuit.f ct circT
  refine Ev.bind (l3At_ev n hn s hs b c d hb hc hd h4 h6 h5) (Ev.bind (l3At_ev n hn s hs a c d ha hc hd h2 h6 h3) (Ev.bind0 (l3Byte_eq _) (Ev.ite_pos (by rw [byteS_size]; omega) ?_)))
  refine Ev.bind (l3At_ev n hn s hs a b d ha hb hd h1 h5 h3) (Ev.bind0 (l3Byte_eq _) (Ev.ite_pos (by rw [ByteArray.size_append, byteS_size, byteS_size]; decide) ?_))
  exact Ev.bind (l3At_ev n hn s hs a b c ha hb hc h1 h4 h2) (Ev.bind0 (l3Byte_eq _) (Ev.ite_pos (by rw [ByteArray.size_append, ByteArray.size_append, byteS_size, byteS_size, byteS_size]; decide) (Ev.now _)))
def sb (x : Bool) : UInt8 := if x then 43 else 45
def txt (x y z : Bool) : ByteArray := ⟨#[43, sb x, sb y, sb z]⟩
theorem circ_txt (p q r t : Int) (hp : p = 1 ∨ p = -1) (hq : q = 1 ∨ q = -1) (hr : r = 1 ∨ r = -1) (ht : t = 1 ∨ t = -1) : circT p q r t = txt (p != q) (p == r) (p != t) := by
  rcases hp with rfl | rfl <;> rcases hq with rfl | rfl <;> rcases hr with rfl | rfl <;> rcases ht with rfl | rfl <;> kernel_rfl
def cx (n : Nat) (s : ByteArray) (a b c d : Nat) : Bool := sg n s b c d != sg n s a c d
def cy (n : Nat) (s : ByteArray) (a b c d : Nat) : Bool := sg n s b c d == sg n s a b d
def cz (n : Nat) (s : ByteArray) (a b c d : Nat) : Bool := sg n s b c d != sg n s a b c
theorem ct_txt (n : Nat) (hn : n ≤ 7) (s : ByteArray) (a b c d : Nat) (h : D4 n a b c d) : ct n s a b c d = txt (cx n s a b c d) (cy n s a b c d) (cz n s a b c d) := by
  obtain ⟨⟨ha, hb, hc, hd⟩, h1, h2, h3, h4, h5, h6⟩ := h
  exact circ_txt _ _ _ _ (sg_pm n hn s b c d hb hc hd h4 h6 h5) (sg_pm n hn s a c d ha hc hd h2 h6 h3) (sg_pm n hn s a b d ha hb hd h1 h5 h3) (sg_pm n hn s a b c ha hb hc h1 h4 h2)
def bools : List Bool := [true, false]
theorem mem_bools (x : Bool) : x ∈ bools := by cases x <;> decide
def spl (x y z : Bool) (a b c d : Nat) : Int × Int :=
  let e : Nat → Bool → Int := fun i p => if p then 2 ^ i else 0
  (2 ^ a + e b x + e c y + e d z, e b (!x) + e c (!y) + e d (!z))
def okSpl (a b c d : Nat) : Bool := a == b || a == c || a == d || b == c || b == d || c == d || bools.all fun x => bools.all fun y => bools.all fun z =>
  impl_chi_split.l0 6 (txt x y z) 0 0 [(a : Int), b, c, d] 4 0 == some (spl x y z a b c d) && spec_l5Split.l0 6 [(a : Int), b, c, d] (txt x y z) 0 0 0 == some (spl x y z a b c d)
theorem all_spl : (List.range 7).all (fun a => (List.range 7).all fun b => (List.range 7).all fun c => (List.range 7).all fun d => okSpl a b c d) = true := by decide +kernel
theorem spl_at (a b c d : Nat) (h : D4 7 a b c d) (x y z : Bool) : impl_chi_split.l0 6 (txt x y z) 0 0 [(a : Int), b, c, d] 4 0 = some (spl x y z a b c d) ∧ spec_l5Split.l0 6 [(a : Int), b, c, d] (txt x y z) 0 0 0 = some (spl x y z a b c d) := by
  obtain ⟨⟨ha, hb, hc, hd⟩, h1, h2, h3, h4, h5, h6⟩ := h
  have g := all_spl
  rw [List.all_eq_true] at g
  have g := g a (by simpa using ha)
  rw [List.all_eq_true] at g
  have g := g b (by simpa using hb)
  rw [List.all_eq_true] at g
  have g := g c (by simpa using hc)
  rw [List.all_eq_true] at g
  have g := g d (by simpa using hd)
  unfold okSpl at g
  rw [beq_eq_false_iff_ne.mpr h1, beq_eq_false_iff_ne.mpr h2, beq_eq_false_iff_ne.mpr h3, beq_eq_false_iff_ne.mpr h4, beq_eq_false_iff_ne.mpr h5, beq_eq_false_iff_ne.mpr h6] at g
  simp only [Bool.false_or] at g
  rw [List.all_eq_true] at g
  have g := g x (mem_bools x)
  rw [List.all_eq_true] at g
  have g := g y (mem_bools y)
  rw [List.all_eq_true] at g
  have g := g z (mem_bools z)
  rw [Bool.and_eq_true, beq_iff_eq, beq_iff_eq] at g
  exact g
theorem D4.up {n a b c d : Nat} (h : D4 n a b c d) (hn : n ≤ 7) : D4 7 a b c d := by
  obtain ⟨⟨ha, hb, hc, hd⟩, h1, h2, h3, h4, h5, h6⟩ := h
  exact ⟨⟨by omega, by omega, by omega, by omega⟩, h1, h2, h3, h4, h5, h6⟩
def sp (n : Nat) (s : ByteArray) (a b c d : Nat) : Int × Int := spl (cx n s a b c d) (cy n s a b c d) (cz n s a b c d) a b c d
theorem impl_split_ev (n : Nat) (hn : n ≤ 7) (s : ByteArray) (a b c d : Nat) (h : D4 n a b c d) : Ev (fun k => impl_chi_split.f k (tab n s) a b c d) (sp n s a b c d) := by
  unfold impl_chi_split.f
  refine Ev.bind (impl_circuit_d n hn s a b c d h) (Ev.bind0 rfl ?_)
  rw [ct_txt n hn s a b c d h]
  exact Ev.of (fun k => (impl_chi_split.mono_l k) _ _ _ _ _ _) (k := 6) (spl_at a b c d (h.up hn) _ _ _).1
theorem spec_split_ev (n : Nat) (hn : n ≤ 7) (s : ByteArray) (hs : s.size = (tri n).length) (a b c d : Nat) (h : D4 n a b c d) : Ev (fun k => spec_l5Split.f k n s [(a : Int), b, c, d]) (sp n s a b c d) := by
  unfold spec_l5Split.f
  refine Ev.ite_pos (by simp) (Ev.ite_pos (by simp) (Ev.ite_pos (by simp) (Ev.ite_pos (by simp) ?_)))
  refine Ev.bind (spec_circuit_d n hn s hs a b c d h) ?_
  rw [ct_txt n hn s a b c d h]
  exact Ev.of (fun k => (spec_l5Split.mono_l k) _ _ _ _ _) (k := 6) (spl_at a b c d (h.up hn) _ _ _).2
theorem all_pow : (List.range 63).all (fun i => shl .i64 1 (i : Int) == 2 ^ i && IntKind.u64.wrap (i : Int) == (i : Int)) = true := by decide +kernel
theorem shl_pow (i : Nat) (h : i < 63) : shl .i64 1 (i : Int) = 2 ^ i := by
  have g := all_pow
  rw [List.all_eq_true] at g
  have g := g i (by simpa using h)
  rw [Bool.and_eq_true, beq_iff_eq, beq_iff_eq] at g
  exact g.1
theorem u64_nat (i : Nat) (h : i < 63) : IntKind.u64.wrap (i : Int) = (i : Int) := by
  have g := all_pow
  rw [List.all_eq_true] at g
  have g := g i (by simpa using h)
  rw [Bool.and_eq_true, beq_iff_eq, beq_iff_eq] at g
  exact g.2
def pick1 (x : Int) : List Nat → Int
  | [] => -1
  | i :: is => if x = 2 ^ i then i else pick1 x is
def only (x : Int) : Int := pick1 x (List.range 7)
def inn (n : Nat) (s : ByteArray) (a b c d : Nat) : Int := mx (only (sp n s a b c d).1) (only (sp n s a b c d).2)
def has (set : Int) (i : Nat) : Bool := (Go.bits .and .i64 (shr .i64 set (i : Int)) 1) == 1
def listT (n : Nat) : List T3 :=
  ((List.range n).drop 0).flatMap fun a : Nat => ((List.range n).drop (a + 1)).flatMap fun b : Nat => ((List.range n).drop (b + 1)).map fun c : Nat => (⟨a, b, c⟩ : T3)
def tupT (q : T3) : Int × Int × Int := (q.f0, q.f1, q.f2)
def untupT (q : Int × Int × Int) : T3 := ⟨q.1, q.2.1, q.2.2⟩
def okMask (set a b c : Nat) : Bool := decide (Go.bits .and .i64 (set : Int) (Go.bits .or .i64 (Go.bits .or .i64 (shl .i64 1 (a : Int)) (shl .i64 1 (b : Int))) (shl .i64 1 (c : Int))) = Go.bits .or .i64 (Go.bits .or .i64 (shl .i64 1 (a : Int)) (shl .i64 1 (b : Int))) (shl .i64 1 (c : Int))) == (has set a && has set b && has set c)
def hulT (n : Nat) (s : ByteArray) (set : Int) (p : Nat) (a b c : Nat) : Bool := has set a && has set b && has set c && (inn n s p a b c == p)
def hul (n : Nat) (s : ByteArray) (set : Int) (p : Nat) : Bool := (tri n).any fun t => hulT n s set p t.f0.toNat t.f1.toNat t.f2.toNat
def fl : Option (Nat × Bool) → Option (Nat × Bool)
  | some (m, b) => some (m, !b)
  | none => none
section
variable (n : Nat) (hn : n ≤ 7) (s : ByteArray) (x y z : Nat) (hx : x < n) (hy : y < n) (hz : z < n)
include hn hx hy hz
end
def crB (n : Nat) (s : ByteArray) (a b c d : Nat) : Bool := cx n s a b c d && !cy n s a b c d && !cz n s a b c d
section
variable (n : Nat) (hn : n ≤ 7) (s : ByteArray) (w x y z : Nat) (h : D4 n w x y z)
include hn h
end
def qh (n : Nat) (s : ByteArray) (A B : Int) (w x y z : Nat) : Bool :=
  (cx n s w x y z && !cy n s w x y z && !cz n s w x y z && ((has A w && has A x && has B y && has B z) || (has A y && has A z && has B w && has B x))) ||
  (!cx n s w x y z && cy n s w x y z && !cz n s w x y z && ((has A w && has A y && has B x && has B z) || (has A x && has A z && has B w && has B y))) ||
  (!cx n s w x y z && !cy n s w x y z && cz n s w x y z && ((has A w && has A z && has B x && has B y) || (has A x && has A y && has B w && has B z)))
def pH (n : Nat) (s : ByteArray) (A B : Int) (a b c d : Nat) : Bool := has A a && has A b && has B c && has B d && crB n s a b c d
def anyP (n : Nat) (s : ByteArray) (A B : Int) : Bool := ((List.range n).drop 0).any fun a => ((List.range n).drop (a + 1)).any fun b => ((List.range n).drop 0).any fun c => ((List.range n).drop (c + 1)).any fun d => pH n s A B a b c d
def anyQ (n : Nat) (s : ByteArray) (A B : Int) : Bool := (quad n).any fun t => qh n s A B t.f0.toNat t.f1.toNat t.f2.toNat t.f3.toNat
def okCr (a b c d : Nat) : Bool := a == b || a == c || a == d || b == c || b == d || c == d || bools.all fun x => bools.all fun y => bools.all fun z =>
  ((spl x y z a b c d).1 == wrap64 (shl .i64 1 (IntKind.u64.wrap a) + shl .i64 1 (IntKind.u64.wrap b))) == (x && !y && !z)
theorem all_cr : (List.range 7).all (fun a => (List.range 7).all fun b => (List.range 7).all fun c => (List.range 7).all fun d => okCr a b c d) = true := by decide +kernel
theorem cr_at (n : Nat) (hn : n ≤ 7) (s : ByteArray) (a b c d : Nat) (h : D4 n a b c d) : ((sp n s a b c d).1 == wrap64 (shl .i64 1 (IntKind.u64.wrap a) + shl .i64 1 (IntKind.u64.wrap b))) = crB n s a b c d := by
  obtain ⟨⟨ha, hb, hc, hd⟩, h1, h2, h3, h4, h5, h6⟩ := h.up hn
  have g := all_cr
  rw [List.all_eq_true] at g
  have g := g a (by simpa using ha)
  rw [List.all_eq_true] at g
  have g := g b (by simpa using hb)
  rw [List.all_eq_true] at g
  have g := g c (by simpa using hc)
  rw [List.all_eq_true] at g
  have g := g d (by simpa using hd)
  unfold okCr at g
  rw [beq_eq_false_iff_ne.mpr h1, beq_eq_false_iff_ne.mpr h2, beq_eq_false_iff_ne.mpr h3, beq_eq_false_iff_ne.mpr h4, beq_eq_false_iff_ne.mpr h5, beq_eq_false_iff_ne.mpr h6] at g
  simp only [Bool.false_or] at g
  rw [List.all_eq_true] at g
  have g := g (cx n s a b c d) (mem_bools _)
  rw [List.all_eq_true] at g
  have g := g (cy n s a b c d) (mem_bools _)
  rw [List.all_eq_true] at g
  exact eq_of_beq (g (cz n s a b c d) (mem_bools _))
def sub (m A : Int) : Bool := decide (Go.bits .and .i64 m A = m)
def okSub (A w x y z : Nat) : Bool :=
  sub (spl true false false w x y z).1 A == (has A w && has A x) && sub (spl true false false w x y z).2 A == (has A y && has A z) &&
  sub (spl false true false w x y z).1 A == (has A w && has A y) && sub (spl false true false w x y z).2 A == (has A x && has A z) &&
  sub (spl false false true w x y z).1 A == (has A w && has A z) && sub (spl false false true w x y z).2 A == (has A x && has A y)
def b2i (x : Bool) : Int := if x then 1 else 0
def okCnt (w x y z : Nat) : Bool := bools.all fun X => bools.all fun Y => bools.all fun Z => bits_OnesCount.f (IntKind.u64.wrap (spl X Y Z w x y z).1) == some (1 + b2i X + b2i Y + b2i Z)
def hit (A B : Int) (p : Int × Int) : Bool := (sub p.1 A && sub p.2 B) || (sub p.2 A && sub p.1 B)
theorem szSigns_eqO (n : Int) (s : ByteArray) (a : Int) (h0 : 0 ≤ a) (h1 : a ≤ 1048576) (hl : s.size ≤ 9223372036854775807) : laws_szSigns.f n s a = some (if a < s.size then -1 else a - s.size) := by
  unfold laws_szSigns.f
  rw [wrap_in (by omega) (by omega)]
  by_cases h : a < (s.size : Int)
  · rw [if_pos h, if_pos (by omega)]
  · rw [if_neg h, if_neg (by omega)]
theorem isA_nat {n : Int} {s : ByteArray} (h : isA n s = true) : ∃ m : Nat, n = m ∧ 3 ≤ m ∧ m ≤ 7 ∧ s.size = (tri m).length := by
  have hM : isM n s = true := by unfold isA at h; rw [Bool.and_eq_true] at h; exact h.1
  obtain ⟨h3, h7, hs, _⟩ := isS_bounds (isM_S hM)
  obtain ⟨m, rfl⟩ := Int.eq_ofNat_of_zero_le (show 0 ≤ n by omega)
  rw [Int.toNat_natCast] at hs
  exact ⟨m, rfl, by omega, by omega, hs⟩
theorem orderOf_yes (n : Nat) (hn : n ≤ 7) (s : ByteArray) (hs : s.size = (tri n).length) (h : isA n s = true) : Ev (fun k => impl_orderOf.f k n s) (tab n s, true) := by
  have hI := impl_IsAcyclic_ev n s
  rw [h] at hI
  unfold impl_orderOf.f
  exact Ev.bind hI (Ev.ite_pos rfl (Ev.bind (tableOf_ev n hn s hs) (Ev.now _)))
theorem orderOf_no (n : Int) (s : ByteArray) (h : isA n s = false) : Ev (fun k => impl_orderOf.f k n s) ([], false) := by
  have hI := impl_IsAcyclic_ev n s
  rw [h] at hI
  unfold impl_orderOf.f
  exact Ev.bind hI (Ev.ite_neg (by simp) (Ev.now _))
theorem spec_A (n : Int) (s : ByteArray) (b : Bool) (h : isA n s = b) : Ev (fun k => spec_IsAcyclic.f k n s) b := h ▸ spec_IsAcyclic_ev n s
theorem isEl_eq (n x : Int) : impl_isElement.f n x = some (decide (0 ≤ x ∧ x < n)) := by
  unfold impl_isElement.f
  by_cases h : x ≥ 0
  · rw [if_pos h]
    simp [h]
  · rw [if_neg h]
    simp [show ¬ 0 ≤ x by omega]
def okRest (n set : Nat) : Bool := Go.bits .andNot .i64 ((2 : Int) ^ n - 1) (set : Int) == ((2 ^ n - 1 - set : Nat) : Int) && (List.range 7).all fun i => has ((2 ^ n - 1 - set : Nat) : Int) i == (decide (i < n) && !has set i)
def inE (n x : Int) : Bool := decide (0 ≤ x ∧ x < n)
def okD (n : Int) (l : List Int) (i : Nat) : Bool := inE n (rd l i) && !((List.range i).any fun j => rd l i == rd l j)
def diffFrom (n : Int) (l : List Int) (i : Nat) : Bool := ((List.range l.length).drop i).all (okD n l)
def diffB (n : Int) (l : List Int) : Bool := diffFrom n l 0
theorem diffFrom_step (n : Int) (l : List Int) (i : Nat) (h : i < l.length) : diffFrom n l i = (okD n l i && diffFrom n l (i + 1)) := by
  unfold diffFrom
  rw [range_drop' _ _ h, List.all_cons]
theorem rd_takeI (l : List Int) (n j : Nat) (h : j < n) : rd (l.take n) (j : Int) = rd l (j : Int) := by
  unfold rd
  rw [Int.toNat_natCast]
  simp [List.getD_eq_getElem?_getD, h]
theorem containsI_ev (l : List Int) (n : Nat) (hn : n ≤ l.length) (hl : l.length ≤ 1000000) (x : Int) :
    Ev (fun k => slices_Contains_Sint_int.f k (l.take n) x) ((List.range n).any fun j => x == rd l j) := by
  have hlen : (l.take n).length = n := by rw [List.length_take]; omega
  have key : ∀ d i, i + d = n → ∃ r, Ev (fun k => slices_Index_Sint_int.l0 k (l.take n) x n i) r ∧ decide (r ≥ 0) = ((List.range n).drop i).any fun j => x == rd l j := by
    intro d
    induction d with
    | zero =>
      intro i hi
      obtain rfl : i = n := by omega
      refine ⟨-1, Ev.step (fun k => slices_Index_Sint_int.l0.eq_2 ..) (Ev.ite_neg (by omega) (Ev.now _)), ?_⟩
      rw [List.drop_of_length_le (by simp)]
      rfl
    | succ d ih =>
      intro i hi
      obtain ⟨r, hr, he⟩ := ih (i + 1) (by omega)
      rw [range_drop' n i (by omega), List.any_cons]
      by_cases hb : x = rd l (i : Int)
      · refine ⟨i, Ev.step (fun k => slices_Index_Sint_int.l0.eq_2 ..) (Ev.ite_pos (by omega) (Ev.ite_pos (by omega) (Ev.ite_pos (by omega) (Ev.ite_pos (by rw [rd_takeI l n i (by omega)]; exact hb) (Ev.now _))))), ?_⟩
        rw [show (x == rd l (i : Int)) = true by simpa using hb]
        simp
      · refine ⟨r, Ev.step (fun k => slices_Index_Sint_int.l0.eq_2 ..) (Ev.ite_pos (by omega) (Ev.ite_pos (by omega) (Ev.ite_pos (by omega) (Ev.ite_neg (by rw [rd_takeI l n i (by omega)]; exact hb) ?_)))), ?_⟩
        · rw [wrap_nat i (by omega)]
          exact hr
        · rw [he, show (x == rd l (i : Int)) = false by simpa using hb, Bool.false_or]
  obtain ⟨r, hr, he⟩ := key n 0 (by omega)
  unfold slices_Contains_Sint_int.f slices_Index_Sint_int.f
  rw [hlen]
  refine Ev.bind hr (Ev.const ?_)
  rw [he, List.drop_zero]
theorem isElement_eq (n x : Int) : impl_isElement.f n x = some (inE n x) := by
  unfold impl_isElement.f inE
  by_cases h : x ≥ 0
  · rw [if_pos h]
    simp [h]
  · rw [if_neg h]
    simp [show ¬ 0 ≤ x by omega]
theorem impl_areDifferent_ev (n : Int) (l : List Int) (hl : l.length ≤ 1000000) : Ev (fun k => impl_areDifferent.f k n l) (diffB n l) := by
  unfold impl_areDifferent.f diffB
  refine Ev.loop_to (fun i k => impl_areDifferent.l0 k n l l l.length i) l.length (diffFrom n l) ?_ ?_ 0 (by omega)
  · refine Ev.step (fun k => impl_areDifferent.l0.eq_2 ..) (Ev.ite_neg (by omega) (Ev.const ?_))
    unfold diffFrom
    rw [List.drop_of_length_le (by simp)]
    rfl
  · intro i hi ih
    rw [diffFrom_step n l i hi]
    unfold okD
    refine Ev.step (fun k => impl_areDifferent.l0.eq_2 ..) (Ev.ite_pos (by omega) (Ev.ite_pos (by omega) (Ev.ite_pos (by omega) (Ev.bind0 (isElement_eq ..) ?_))))
    cases he : inE n (rd l (i : Int)) with
    | false => exact Ev.ite_neg (by simp) (Ev.now _)
    | true =>
      refine Ev.ite_pos rfl (Ev.ite_pos (by omega) ?_)
      rw [Int.toNat_natCast, wrap_nat i (by omega)]
      refine Ev.bind (containsI_ev l i (by omega) hl _) ?_
      cases hb : (List.range i).any fun j => rd l (i : Int) == rd l (j : Int) with
      | true => exact Ev.ite_pos rfl (Ev.now _)
      | false => exact Ev.ite_neg (by simp) (by simpa using ih)
abbrev E2 := S102
def edg (n : Nat) : List E2 := (impl_edgesOf.f 100 (n : Int)).getD []
theorem edg_some : (List.range 8).all (fun n => (impl_edgesOf.f 100 (n : Int)).isSome) = true := by decide +kernel
theorem edgesOf_ev (n : Nat) (hn : n ≤ 7) : Ev (fun k => impl_edgesOf.f k n) (edg n) := by
  have h := edg_some
  rw [List.all_eq_true] at h
  obtain ⟨l, hl⟩ := Option.isSome_iff_exists.mp (h n (by simp; omega))
  unfold edg
  rw [hl]
  exact Ev.of (impl_edgesOf.mono _) hl
def E (n : Nat) : Nat := n * (n - 1) / 2
def ea (n e : Nat) : Nat := ((edg n).getD e ⟨0, 0⟩).f0.toNat
def eb (n e : Nat) : Nat := ((edg n).getD e ⟨0, 0⟩).f1.toNat
def okE (n e : Nat) : Bool := decide ((rd_T102 (edg n) (e : Int)).f0 = (ea n e : Int) ∧ (rd_T102 (edg n) (e : Int)).f1 = (eb n e : Int) ∧ ea n e < eb n e ∧ eb n e < n) && (spec_EdgeAt.f 60 (n : Int) (e : Int) == some ((ea n e : Int), (eb n e : Int)))
theorem all_edg : (List.range 8).all (fun n => decide (n < 3) || (decide ((edg n).length = E n ∧ E n ≤ 21 ∧ wrap64 (Int.tdiv (wrap64 ((n : Int) * wrap64 ((n : Int) - 1))) 2) = (E n : Int)) && (List.range (E n)).all fun e => okE n e)) = true := by decide +kernel
theorem edg_at (n : Nat) (h3 : 3 ≤ n) (hn : n ≤ 7) : ((edg n).length = E n ∧ E n ≤ 21 ∧ wrap64 (Int.tdiv (wrap64 ((n : Int) * wrap64 ((n : Int) - 1))) 2) = (E n : Int)) ∧ ∀ e, e < E n → (rd_T102 (edg n) (e : Int)).f0 = (ea n e : Int) ∧ (rd_T102 (edg n) (e : Int)).f1 = (eb n e : Int) ∧ ea n e < eb n e ∧ eb n e < n ∧ Ev (fun k => spec_EdgeAt.f k (n : Int) (e : Int)) ((ea n e : Int), (eb n e : Int)) := by
  have h := all_edg
  rw [List.all_eq_true] at h
  have h := h n (by simp; omega)
  rw [decide_eq_false (by omega), Bool.false_or, Bool.and_eq_true, decide_eq_true_eq, List.all_eq_true] at h
  refine ⟨h.1, fun e he => ?_⟩
  have g := h.2 e (by simpa using he)
  unfold okE at g
  rw [Bool.and_eq_true, decide_eq_true_eq, beq_iff_eq] at g
  exact ⟨g.1.1, g.1.2.1, g.1.2.2.1, g.1.2.2.2, Ev.of (spec_EdgeAt.mono _ _) g.2⟩
def crs (n : Nat) (s : ByteArray) (e f : Nat) : Bool := decide (ea n e ≠ ea n f ∧ ea n e ≠ eb n f ∧ eb n e ≠ ea n f ∧ eb n e ≠ eb n f) && crB n s (ea n e) (eb n e) (ea n f) (eb n f)
def rowUp (n : Nat) (s : ByteArray) (e : Nat) : Nat → Nat
  | 0 => 0
  | f + 1 => rowUp n s e f + if crs n s e f then 2 ^ f else 0
theorem rowUp_lt (n : Nat) (s : ByteArray) (e f : Nat) : rowUp n s e f < 2 ^ f := by
  induction f with
  | zero => simp [rowUp]
  | succ f ih =>
    rw [rowUp, Nat.pow_succ]
    split <;> omega
def crossX (n : Nat) (s : ByteArray) : List Int := (List.range (E n)).map fun e => (rowUp n s e (E n) : Int)
theorem crossX_len (n : Nat) (s : ByteArray) : (crossX n s).length = E n := by simp [crossX]
theorem or_i64 (a b : Nat) (ha : a < 4611686018427387904) (hb : b < 4611686018427387904) : Go.bits .or .i64 (a : Int) (b : Int) = ((a ||| b : Nat) : Int) := by
  have hx : a ||| b < 2 ^ 62 := Nat.or_lt_two_pow (by omega) (by omega)
  have h1 : (BitVec.ofInt 64 (a : Int)).toNat = a := by
    rw [BitVec.ofInt_natCast, BitVec.toNat_ofNat]; exact Nat.mod_eq_of_lt (by omega)
  have h2 : (BitVec.ofInt 64 (b : Int)).toNat = b := by
    rw [BitVec.ofInt_natCast, BitVec.toNat_ofNat]; exact Nat.mod_eq_of_lt (by omega)
  show IntKind.i64.wrap ((BitVec.ofInt 64 (a : Int) ||| BitVec.ofInt 64 (b : Int)).toNat : Int) = _
  rw [BitVec.toNat_or, h1, h2, IntKind.wrap_i64]
  omega
theorem or_pow (a f : Nat) (h : a < 2 ^ f) (hf : f ≤ 21) : Go.bits .or .i64 (a : Int) (shl .i64 1 (f : Int)) = ((a + 2 ^ f : Nat) : Int) := by
  have hp : 2 ^ f ≤ 2 ^ 21 := Nat.pow_le_pow_right (by omega) hf
  rw [shl_pow f (by omega), show ((2 : Int) ^ f) = ((2 ^ f : Nat) : Int) by simp, or_i64 a (2 ^ f) (by omega) (by omega)]
  congr 1
  have := Nat.two_pow_add_eq_or_of_lt h 1
  rw [Nat.mul_one] at this
  rw [Nat.or_comm, ← this]
  omega
def okXs (a b c d : Nat) : Bool := a == b || a == c || a == d || b == c || b == d || c == d || bools.all fun x => bools.all fun y => bools.all fun z =>
  let p := spl x y z a b c d
  let m := Go.bits .or .i64 (shl .i64 1 (a : Int)) (shl .i64 1 (b : Int))
  let q := Go.bits .or .i64 (shl .i64 1 (c : Int)) (shl .i64 1 (d : Int))
  (if p.1 = m then (if p.2 = q then true else (if p.1 = q then (p.2 == m) else false)) else (if p.1 = q then (p.2 == m) else false)) == (x && !y && !z)
theorem all_xs : (List.range 7).all (fun a => (List.range 7).all fun b => (List.range 7).all fun c => (List.range 7).all fun d => okXs a b c d) = true := by decide +kernel
theorem impl_cross_ev (n : Nat) (hn : n ≤ 7) (s : ByteArray) (a b c d : Nat) (h : D4 n a b c d) : Ev (fun k => impl_chi_cross.f k (tab n s) a b c d) (crB n s a b c d) := by
  obtain ⟨⟨ha, hb, hc, hd⟩, h1, h2, h3, h4, h5, h6⟩ := h.up hn
  have g := all_xs
  rw [List.all_eq_true] at g
  have g := g a (by simpa using ha)
  rw [List.all_eq_true] at g
  have g := g b (by simpa using hb)
  rw [List.all_eq_true] at g
  have g := g c (by simpa using hc)
  rw [List.all_eq_true] at g
  have g := g d (by simpa using hd)
  unfold okXs at g
  rw [beq_eq_false_iff_ne.mpr h1, beq_eq_false_iff_ne.mpr h2, beq_eq_false_iff_ne.mpr h3, beq_eq_false_iff_ne.mpr h4, beq_eq_false_iff_ne.mpr h5, beq_eq_false_iff_ne.mpr h6] at g
  simp only [Bool.false_or] at g
  rw [List.all_eq_true] at g
  have g := g (cx n s a b c d) (mem_bools _)
  rw [List.all_eq_true] at g
  have g := g (cy n s a b c d) (mem_bools _)
  rw [List.all_eq_true] at g
  have g := eq_of_beq (g (cz n s a b c d) (mem_bools _))
  unfold impl_chi_cross.f
  refine Ev.bind (impl_split_ev n hn s a b c d h) (Ev.ite_pos (by omega) (Ev.ite_pos (by omega) (Ev.ite_pos (by omega) (Ev.ite_pos (by omega) (Ev.const ?_)))))
  unfold crB
  rw [← g]
  unfold sp
  repeat' split
  all_goals first | rfl | contradiction | simp_all
def okDe (n e f : Nat) : Bool := diffB (n : Int) [(ea n e : Int), eb n e, ea n f, eb n f] == decide (ea n e ≠ ea n f ∧ ea n e ≠ eb n f ∧ eb n e ≠ ea n f ∧ eb n e ≠ eb n f)
theorem all_de : (List.range 8).all (fun n => decide (n < 3) || (List.range (E n)).all fun e => (List.range (E n)).all fun f => okDe n e f) = true := by decide +kernel
theorem de_at (n : Nat) (h3 : 3 ≤ n) (hn : n ≤ 7) (e f : Nat) (he : e < E n) (hf : f < E n) : diffB (n : Int) [(ea n e : Int), eb n e, ea n f, eb n f] = decide (ea n e ≠ ea n f ∧ ea n e ≠ eb n f ∧ eb n e ≠ ea n f ∧ eb n e ≠ eb n f) := by
  have h := all_de
  rw [List.all_eq_true] at h
  have h := h n (by simp; omega)
  rw [decide_eq_false (by omega), Bool.false_or, List.all_eq_true] at h
  have h := h e (by simpa using he)
  rw [List.all_eq_true] at h
  exact eq_of_beq (h f (by simpa using hf))
def midX (n : Nat) (s : ByteArray) (e f : Nat) : List Int := (crossX n s).take e ++ (rowUp n s e f : Int) :: List.replicate (E n - e - 1) 0
theorem midX_len (n : Nat) (s : ByteArray) (e f : Nat) (he : e < E n) : (midX n s e f).length = E n := by
  unfold midX
  rw [List.length_append, List.length_take, crossX_len, List.length_cons, List.length_replicate]
  omega
theorem midX_rd (n : Nat) (s : ByteArray) (e f : Nat) (he : e < E n) : rd (midX n s e f) (e : Int) = (rowUp n s e f : Int) := by
  have hl : ((crossX n s).take e).length = e := by rw [List.length_take, crossX_len]; omega
  unfold midX rd
  rw [Int.toNat_natCast, List.getD_eq_getElem?_getD, List.getElem?_append_right (by omega), hl, Nat.sub_self]
  rfl
theorem midX_set (n : Nat) (s : ByteArray) (e f : Nat) (v : Int) (he : e < E n) : (midX n s e f).set e v = (crossX n s).take e ++ v :: List.replicate (E n - e - 1) 0 := by
  have hl : ((crossX n s).take e).length = e := by rw [List.length_take, crossX_len]; omega
  unfold midX
  rw [List.set_append_right _ _ (by omega), hl, Nat.sub_self, List.set_cons_zero]
theorem midX_end (n : Nat) (s : ByteArray) (e : Nat) (he : e < E n) : midX n s e (E n) = (crossX n s).take (e + 1) ++ List.replicate (E n - (e + 1)) 0 := by
  unfold midX
  rw [List.take_succ_eq_append_getElem (by rw [crossX_len]; exact he), List.append_assoc]
  have : (crossX n s)[e]'(by rw [crossX_len]; exact he) = (rowUp n s e (E n) : Int) := by simp [crossX]
  rw [this]
  rfl
theorem impl_crossings_ev (n : Nat) (h3 : 3 ≤ n) (hn : n ≤ 7) (s : ByteArray) : Ev (fun k => impl_chi_crossings.f k (tab n s)) (crossX n s) := by
  have hl := tab_length n s
  obtain ⟨⟨hE, hE21, _⟩, hed⟩ := edg_at n h3 hn
  unfold impl_chi_crossings.f
  rw [tab_n]
  refine Ev.ite_pos (by omega) (Ev.bind (edgesOf_ev n hn) ?_)
  rw [hE]
  refine Ev.ite_pos (by omega) (Ev.ite_pos (by omega) ?_)
  rw [Int.toNat_natCast]
  have key := Ev.loop (fun i k => impl_chi_crossings.l0 k (tab n s) (edg n) ((crossX n s).take i ++ List.replicate (E n - i) 0) (edg n) (E n) i) (E n) (crossX n s) ?_ ?_ 0 (by omega)
  · simpa using key
  · refine Ev.step (fun k => impl_chi_crossings.l0.eq_2 ..) (Ev.ite_neg (by omega) (Ev.const ?_))
    rw [Nat.sub_self, List.replicate_zero, List.append_nil, List.take_of_length_le (by rw [crossX_len]; omega)]
  · intro e he ih
    obtain ⟨r0, r1, hlt, hbn, _⟩ := hed e he
    refine Ev.step (fun k => impl_chi_crossings.l0.eq_2 ..) (Ev.ite_pos (by omega) (Ev.ite_pos (by omega) (Ev.ite_pos (by omega) ?_)))
    rw [r0, r1, hE]
    have key := Ev.loop (fun j k => impl_chi_crossings.l1 k (tab n s) (edg n) (midX n s e j) e (edg n) (E n) e (edg n) (E n) j (ea n e) (eb n e)) (E n) (crossX n s) ?_ ?_ 0 (by omega)
    · rw [show (crossX n s).take e ++ List.replicate (E n - e) 0 = midX n s e 0 by unfold midX; rw [show E n - e = (E n - e - 1) + 1 by omega, List.replicate_succ]; rfl]
      exact key
    · refine Ev.step (fun k => impl_chi_crossings.l1.eq_2 ..) (Ev.ite_neg (by omega) ?_)
      rw [wrap_nat e (by omega), midX_end n s e he]
      exact ih
    · intro f hf ihf
      obtain ⟨q0, q1, hltf, hbnf, _⟩ := hed f hf
      refine Ev.step (fun k => impl_chi_crossings.l1.eq_2 ..) (Ev.ite_pos (by omega) (Ev.ite_pos (by omega) (Ev.ite_pos (by omega) (Ev.ite_pos (by omega) ?_))))
      rw [q0, q1, tab_n, wrap_nat f (by omega)]
      have dI := impl_areDifferent_ev (n : Int) [(ea n e : Int), eb n e, ea n f, eb n f] (by simp)
      rw [de_at n h3 hn e f he hf] at dI
      refine Ev.bind dI ?_
      have hrow : rowUp n s e (f + 1) = rowUp n s e f + if crs n s e f then 2 ^ f else 0 := rfl
      by_cases hd : ea n e ≠ ea n f ∧ ea n e ≠ eb n f ∧ eb n e ≠ ea n f ∧ eb n e ≠ eb n f
      · rw [decide_eq_true hd]
        have hD : D4 n (ea n e) (eb n e) (ea n f) (eb n f) := ⟨⟨by omega, by omega, by omega, by omega⟩, by omega, hd.1, hd.2.1, hd.2.2.1, hd.2.2.2, by omega⟩
        refine Ev.ite_pos rfl (Ev.bind (impl_cross_ev n hn s _ _ _ _ hD) ?_)
        have hcs : crs n s e f = crB n s (ea n e) (eb n e) (ea n f) (eb n f) := by unfold crs; rw [decide_eq_true hd, Bool.true_and]
        rw [hcs] at hrow
        cases hc : crB n s (ea n e) (eb n e) (ea n f) (eb n f) with
        | true =>
          rw [hc, if_pos rfl] at hrow
          refine Ev.ite_pos rfl (Ev.ite_pos (by omega) (Ev.ite_pos (by rw [midX_len n s e f he]; omega) ?_))
          rw [midX_rd n s e f he, Int.toNat_natCast, midX_set n s e f _ he, or_pow _ f (rowUp_lt n s e f) (by omega), ← hrow]
          exact ihf
        | false =>
          rw [hc, if_neg (by simp), Nat.add_zero] at hrow
          unfold midX at ihf ⊢
          rw [hrow] at ihf
          exact Ev.ite_neg (by simp) ihf
      · rw [decide_eq_false hd]
        have hcs : crs n s e f = false := by unfold crs; rw [decide_eq_false hd, Bool.false_and]
        rw [hcs, if_neg (by simp), Nat.add_zero] at hrow
        unfold midX at ihf ⊢
        rw [hrow] at ihf
        exact Ev.ite_neg (by simp) ihf
theorem spec_cross_ev (n : Nat) (hn : n ≤ 7) (s : ByteArray) (hs : s.size = (tri n).length) (a b c d : Nat) (ha : a < b) (hb : b < n) (hc : c < d) (hd : d < n) :
    Ev (fun k => spec_l9Cross.f k n s a b c d) (decide (a ≠ c ∧ a ≠ d ∧ b ≠ c ∧ b ≠ d) && crB n s a b c d) := by
  unfold spec_l9Cross.f
  by_cases n1 : a = c
  · rw [decide_eq_false (by omega), Bool.false_and]
    exact Ev.ite_pos (by omega) (Ev.now _)
  refine Ev.ite_neg (by omega) ?_
  by_cases n2 : a = d
  · rw [decide_eq_false (by omega), Bool.false_and]
    exact Ev.ite_pos (by omega) (Ev.now _)
  refine Ev.ite_neg (by omega) ?_
  by_cases n3 : b = c
  · rw [decide_eq_false (by omega), Bool.false_and]
    exact Ev.ite_pos (by omega) (Ev.now _)
  refine Ev.ite_neg (by omega) ?_
  by_cases n4 : b = d
  · rw [decide_eq_false (by omega), Bool.false_and]
    exact Ev.ite_pos (by omega) (Ev.now _)
  refine Ev.ite_neg (by omega) ?_
  rw [decide_eq_true ⟨n1, n2, n3, n4⟩, Bool.true_and]
  have hD : D4 n a b c d := ⟨⟨by omega, by omega, by omega, by omega⟩, by omega, n1, n2, n3, n4, by omega⟩
  have hcr := cr_at n hn s a b c d hD
  refine Ev.bind (spec_split_ev n hn s hs a b c d hD) ?_
  rw [u64_nat a (by omega), u64_nat b (by omega)] at hcr ⊢
  exact Ev.ite_pos (by omega) (Ev.ite_pos (by omega) (Ev.const (congrArg some hcr)))
theorem spec_pairs_ev (n : Nat) (h3 : 3 ≤ n) (hn : n ≤ 7) (s : ByteArray) (hs : s.size = (tri n).length) : Ev (fun k => spec_l10Pairs.f k n s) (crossX n s) := by
  obtain ⟨⟨hE, hE21, hEw⟩, hed⟩ := edg_at n h3 hn
  unfold spec_l10Pairs.f
  have key := Ev.loop (fun e k => spec_l10Pairs.l0 k ((crossX n s).take e) e n s) (E n) (crossX n s) ?_ ?_ 0 (by omega)
  · simpa using key
  · refine Ev.step (fun k => spec_l10Pairs.l0.eq_2 ..) ?_
    rw [hEw]
    refine Ev.ite_neg (by omega) (Ev.const ?_)
    rw [List.take_of_length_le (by rw [crossX_len]; omega)]
  · intro e he ih
    obtain ⟨_, _, hlt, hbn, hat⟩ := hed e he
    refine Ev.step (fun k => spec_l10Pairs.l0.eq_2 ..) ?_
    rw [hEw]
    refine Ev.ite_pos (by omega) (Ev.bind hat ?_)
    have key := Ev.loop (fun f k => spec_l10Pairs.l1 k ((crossX n s).take e) e (ea n e) (eb n e) (rowUp n s e f) f n s) (E n) (crossX n s) ?_ ?_ 0 (by omega)
    · exact key
    · refine Ev.step (fun k => spec_l10Pairs.l1.eq_2 ..) ?_
      rw [hEw]
      refine Ev.ite_neg (by omega) (Ev.ite_pos (by rw [List.length_take, crossX_len]; omega) ?_)
      rw [wrap_nat e (by omega)]
      rw [List.take_succ_eq_append_getElem (by rw [crossX_len]; exact he)] at ih
      have : (crossX n s)[e]'(by rw [crossX_len]; exact he) = (rowUp n s e (E n) : Int) := by simp [crossX]
      rw [this] at ih
      exact ih
    · intro f hf ihf
      obtain ⟨_, _, hltf, hbnf, hatf⟩ := hed f hf
      have hrow : rowUp n s e (f + 1) = rowUp n s e f + if crs n s e f then 2 ^ f else 0 := rfl
      have hlt2 := rowUp_lt n s e f
      have hp : 2 ^ f ≤ 2 ^ 21 := Nat.pow_le_pow_right (by omega) (by omega)
      refine Ev.step (fun k => spec_l10Pairs.l1.eq_2 ..) ?_
      rw [hEw]
      refine Ev.ite_pos (by omega) (Ev.bind hatf (Ev.bind (spec_cross_ev n hn s hs _ _ _ _ hlt hbn hltf hbnf) ?_))
      rw [wrap_nat f (by omega), u64_nat f (by omega)]
      cases hc : crs n s e f with
      | true =>
        have hc' := hc
        unfold crs at hc'
        rw [hc']
        rw [hc, if_pos rfl] at hrow
        refine Ev.ite_pos rfl (Ev.ite_pos (by omega) ?_)
        rw [shl_pow f (by omega), show ((2 : Int) ^ f) = ((2 ^ f : Nat) : Int) by simp, wrap_in (by omega) (by omega), ← Int.natCast_add, ← hrow]
        exact ihf
      | false =>
        have hc' := hc
        unfold crs at hc'
        rw [hc']
        rw [hc, if_neg (by simp), Nat.add_zero] at hrow
        rw [hrow] at ihf
        exact Ev.ite_neg (by simp) ihf
end Go.Proofs.Ytbglgapndefcfaa.Pure
namespace Go.Proofs.Ytbglgapndefcfaa.Pure
set_option linter.unusedSimpArgs false
set_option linter.unusedVariables false
open Go.RowKit Go.Proofs.YtbglgapndefcfaaW.PrintWords Go.Proofs.Ytbglgapndefcfaa.P Go.Proofs.Ytbglgapndefcfaa.Pl Go.Proofs.Ytbglgapndefcfaa.Rk
theorem all_alle : (List.range 8).all (fun n => decide (n < 3) || (impl_AllEdges.f (n : Int) == some ((2 : Int) ^ E n - 1) && spec_AllEdges.f (n : Int) == some ((2 : Int) ^ E n - 1))) = true := by decide +kernel
theorem alle_at (n : Nat) (h3 : 3 ≤ n) (hn : n ≤ 7) : impl_AllEdges.f (n : Int) = some ((2 : Int) ^ E n - 1) ∧ spec_AllEdges.f (n : Int) = some ((2 : Int) ^ E n - 1) := by
  have h := all_alle
  rw [List.all_eq_true] at h
  have h := h n (by simp; omega)
  rw [decide_eq_false (by omega), Bool.false_or, Bool.and_eq_true, beq_iff_eq, beq_iff_eq] at h
  exact h
def ix (n i k : Nat) : Int := (impl_EdgeIndex.f 100 (n : Int) i k).getD 0
theorem all_ix : (List.range 8).all (fun n => decide (n < 3) || (List.range n).all fun i => (List.range n).all fun k => i == k || (impl_EdgeIndex.f 100 (n : Int) i k == some (ix n i k) && spec_l9Index.f 60 (n : Int) i k == some (ix n i k) && decide (0 ≤ ix n i k ∧ ix n i k < E n))) = true := by decide +kernel
theorem ix_at (n : Nat) (h3 : 3 ≤ n) (hn : n ≤ 7) (i k : Nat) (hi : i < n) (hk : k < n) (hik : i ≠ k) : Ev (fun K => impl_EdgeIndex.f K (n : Int) i k) (ix n i k) ∧ Ev (fun K => spec_l9Index.f K (n : Int) i k) (ix n i k) ∧ 0 ≤ ix n i k ∧ ix n i k < E n := by
  have h := all_ix
  rw [List.all_eq_true] at h
  have h := h n (by simp; omega)
  rw [decide_eq_false (by omega), Bool.false_or, List.all_eq_true] at h
  have h := h i (by simpa using hi)
  rw [List.all_eq_true] at h
  have h := h k (by simpa using hk)
  rw [beq_eq_false_iff_ne.mpr hik, Bool.false_or, Bool.and_eq_true, Bool.and_eq_true, beq_iff_eq, beq_iff_eq, decide_eq_true_eq] at h
  exact ⟨Ev.of (impl_EdgeIndex.mono _ _ _) h.1.1, Ev.of (spec_l9Index.mono _ _ _) h.1.2, h.2⟩
def seen (n : Nat) (X : List Int) (edges : Int) (i : Nat) : Nat → Nat
  | 0 => 0
  | m + 1 => seen n X edges i m + if m ≠ i ∧ Go.bits .and .i64 (rd X (ix n i m)) edges = 0 then 1 else 0
theorem seen_le (n : Nat) (X : List Int) (edges : Int) (i m : Nat) : seen n X edges i m ≤ m := by
  induction m with
  | zero => exact Nat.le_refl _
  | succ m ih => unfold seen; split <;> omega
theorem sees_impl (n : Nat) (h3 : 3 ≤ n) (hn : n ≤ 7) (s : ByteArray) (X : List Int) (hX : X.length = E n) (edges : Int) (i : Nat) (hi : i < n) : Ev (fun k => impl_SeesAll.l0 k edges i X 0 0 n s) (seen n X edges i n : Nat) := by
  refine Ev.loop (fun m k => impl_SeesAll.l0 k edges i X (seen n X edges i m : Nat) m n s) n _ ?_ ?_ 0 (by omega)
  · exact Ev.step (fun k => impl_SeesAll.l0.eq_2 ..) (Ev.ite_neg (by omega) (Ev.now _))
  · intro m hm ih
    have hc := seen_le n X edges i m
    have hs : seen n X edges i (m + 1) = seen n X edges i m + if m ≠ i ∧ Go.bits .and .i64 (rd X (ix n i m)) edges = 0 then 1 else 0 := rfl
    rw [hs] at ih
    refine Ev.step (fun k => impl_SeesAll.l0.eq_2 ..) (Ev.ite_pos (by omega) ?_)
    rw [wrap_nat m (by omega)]
    by_cases e : m = i
    · rw [if_neg (by omega), Nat.add_zero] at ih
      exact Ev.ite_pos (by omega) ih
    · obtain ⟨x1, _, x3, x4⟩ := ix_at n h3 hn i m hi hm (by omega)
      refine Ev.ite_neg (by omega) (Ev.bind x1 (Ev.ite_pos x3 (Ev.ite_pos (by omega) ?_)))
      by_cases g : Go.bits .and .i64 (rd X (ix n i m)) edges = 0
      · rw [if_pos ⟨e, g⟩] at ih
        rw [wrap_nat _ (by omega)]
        exact Ev.ite_pos g ih
      · rw [if_neg (fun h => g h.2), Nat.add_zero] at ih
        exact Ev.ite_neg g ih
theorem sees_spec (n : Nat) (h3 : 3 ≤ n) (hn : n ≤ 7) (s : ByteArray) (X : List Int) (hX : X.length = E n) (edges : Int) (i : Nat) (hi : i < n) : Ev (fun k => spec_SeesAll.l0 k edges i X 0 0 n s) (seen n X edges i n : Nat) := by
  refine Ev.loop (fun m k => spec_SeesAll.l0 k edges i X (seen n X edges i m : Nat) m n s) n _ ?_ ?_ 0 (by omega)
  · exact Ev.step (fun k => spec_SeesAll.l0.eq_2 ..) (Ev.ite_neg (by omega) (Ev.now _))
  · intro m hm ih
    have hc := seen_le n X edges i m
    have hs : seen n X edges i (m + 1) = seen n X edges i m + if m ≠ i ∧ Go.bits .and .i64 (rd X (ix n i m)) edges = 0 then 1 else 0 := rfl
    rw [hs] at ih
    refine Ev.step (fun k => spec_SeesAll.l0.eq_2 ..) (Ev.ite_pos (by omega) ?_)
    rw [wrap_nat m (by omega)]
    by_cases e : m = i
    · rw [if_neg (by omega), Nat.add_zero] at ih
      exact Ev.ite_pos (by omega) ih
    · obtain ⟨_, x1, x3, x4⟩ := ix_at n h3 hn i m hi hm (by omega)
      refine Ev.ite_neg (by omega) (Ev.bind x1 (Ev.ite_pos x3 (Ev.ite_pos (by omega) ?_)))
      by_cases g : Go.bits .and .i64 (rd X (ix n i m)) edges = 0
      · rw [if_pos ⟨e, g⟩] at ih
        rw [wrap_nat _ (by omega)]
        exact Ev.ite_pos g ih
      · rw [if_neg (fun h => g h.2), Nat.add_zero] at ih
        exact Ev.ite_neg g ih
theorem sees_both (n : Int) (s : ByteArray) (x i : Int) : ∃ v, Ev (fun k => spec_SeesAll.f k n s x i) v ∧ Ev (fun k => impl_SeesAll.f k n s x i) v := by
  unfold spec_SeesAll.f impl_SeesAll.f
  have nS : Ev (fun k => spec_SeesAll.j0 k x i true n s) (-1) := Ev.step (fun k => spec_SeesAll.j0.eq_2 ..) (Ev.ite_pos rfl (Ev.now _))
  have nI : ∀ l, Ev (fun k => impl_SeesAll.j0 k x i l true n s) (-1) := fun l => Ev.step (fun k => impl_SeesAll.j0.eq_2 ..) (Ev.ite_pos rfl (Ev.now _))
  cases hA : isA n s with
  | false => exact ⟨-1, Ev.bind (spec_A n s _ hA) (Ev.ite_neg (by simp) nS), Ev.bind (orderOf_no n s hA) (Ev.ite_neg (by simp) (nI _))⟩
  | true =>
    obtain ⟨m, rfl, h3, h7, hs⟩ := isA_nat hA
    obtain ⟨aI, aS⟩ := alle_at m h3 h7
    have hS := spec_A m s _ hA
    have hO := orderOf_yes m h7 s hs hA
    have eI := isEl_eq m i
    have eS : spec_l1In.f i 0 (wrap64 ((m : Int) - 1)) = some (decide (0 ≤ i ∧ i < (m : Int))) := by
      rw [wrap_in (by omega) (by omega), l1In_is]
      exact congrArg some (decide_eq_decide.mpr (by omega))
    by_cases hi : 0 ≤ i ∧ i < (m : Int)
    · rw [decide_eq_true hi] at eI eS
      have dI : impl_areEdges.f (m : Int) x = some (decide (0 ≤ x ∧ x ≤ (2 : Int) ^ E m - 1)) := by
        unfold impl_areEdges.f
        rw [aI]
        by_cases h : x ≥ 0
        · rw [if_pos h]
          simp [h]
        · rw [if_neg h]
          simp [show ¬ 0 ≤ x by omega]
      have dS : spec_l1In.f x 0 ((2 : Int) ^ E m - 1) = some (decide (0 ≤ x ∧ x ≤ (2 : Int) ^ E m - 1)) := l1In_is _ _ _
      by_cases hx : 0 ≤ x ∧ x ≤ (2 : Int) ^ E m - 1
      · rw [decide_eq_true hx] at dI dS
        obtain ⟨i, rfl⟩ := Int.eq_ofNat_of_zero_le hi.1
        have hl := crossX_len m s
        exact ⟨_, Ev.bind hS (Ev.ite_pos rfl (Ev.bind0 eS (Ev.ite_pos rfl (Ev.bind0 aS (Ev.bind0 dS (Ev.step (fun k => spec_SeesAll.j0.eq_2 ..) (Ev.ite_neg (by simp) (Ev.bind (spec_pairs_ev m h3 h7 s hs) (sees_spec m h3 h7 s (crossX m s) hl x i (by omega)))))))))), Ev.bind hO (Ev.ite_pos rfl (Ev.bind0 eI (Ev.ite_pos rfl (Ev.bind0 dI (Ev.step (fun k => impl_SeesAll.j0.eq_2 ..) (Ev.ite_neg (by simp) (Ev.bind (impl_crossings_ev m h3 h7 s) (sees_impl m h3 h7 s (crossX m s) hl x i (by omega)))))))))⟩
      · rw [decide_eq_false hx] at dI dS
        exact ⟨-1, Ev.bind hS (Ev.ite_pos rfl (Ev.bind0 eS (Ev.ite_pos rfl (Ev.bind0 aS (Ev.bind0 dS nS))))), Ev.bind hO (Ev.ite_pos rfl (Ev.bind0 eI (Ev.ite_pos rfl (Ev.bind0 dI (nI _)))))⟩
    · rw [decide_eq_false hi] at eI eS
      exact ⟨-1, Ev.bind hS (Ev.ite_pos rfl (Ev.bind0 eS (Ev.ite_neg (by simp) nS))), Ev.bind hO (Ev.ite_pos rfl (Ev.bind0 eI (Ev.ite_neg (by simp) (nI _))))⟩
theorem FnExactSeesAll (s0 : S23) (a1 a2 : Int) (hq : Q23 s0) (_ : I64 a1) (_ : I64 a2) : ∃ k, laws_FnExactSeesAll.f k s0.f0 s0.f1 a1 a2 = some true := by
  refine Ev.rounds (g := fun k => laws_FnExactSeesAll.f k s0.f0 s0.f1 a1 a2) ?_
  unfold laws_FnExactSeesAll.f
  refine Ev.bind0 (szSigns_eqO _ _ 1048576 (by omega) (by omega) hq.2) ?_
  by_cases hs : 1048576 < (s0.f1.size : Int)
  · rw [if_pos hs]
    exact Ev.ite_pos (by omega) (Ev.now _)
  rw [if_neg hs]
  refine Ev.ite_neg (by omega) ?_
  obtain ⟨v, h1, h2⟩ := sees_both s0.f0 s0.f1 a1 a2
  exact Ev.bind0 rfl (Ev.bind h1 (Ev.bind0 rfl (Ev.bind h2 (Ev.ite_pos rfl (Ev.now _)))))
end Go.Proofs.Ytbglgapndefcfaa.Pure
