/- What the law FnExactDeepestOf reaches, part 13: functions as plain Lean functions with the proofs that their calls come to them, and plain lemmas over these. Put together by a program (wip/pack.py). -/
import Derived.Test.YteblnjoljbdjjaaKFnExactDeepestOfa
import Derived.ChangeArms
import Derived.Deep.Slices
import Derived.Deep.Fields
import Derived.WideShapes
import Derived.Test.YteblnjoljbdjjaaKFnExactDeepestOfc
import Derived.KernelRfl
import Derived.Test.YteblnjoljbdjjaaKFnExactDeepestOfg
import Derived.Test.YteblnjoljbdjjaaKFnExactDeepestOfh
import Derived.Test.YteblnjoljbdjjaaKFnExactDeepestOfd
import Derived.Test.YteblnjoljbdjjaaKFnExactDeepestOfi
import Derived.Test.YteblnjoljbdjjaaKFnExactDeepestOfe
import Derived.Test.YteblnjoljbdjjaaKFnExactDeepestOfj
import Derived.Test.YteblnjoljbdjjaaKFnExactDeepestOff
import Derived.Test.YteblnjoljbdjjaaKFnExactDeepestOfk
import Derived.Test.YteblnjoljbdjjaaKFnExactDeepestOfl
namespace Go.Proofs.Yteblnjoljbdjjaa.Rk
open Go.RowKit Go.ChangeShapes Go.WideShapes Go.Deep Go.Proofs.YteblnjoljbdjjaaW.PrintWords
def I64 (n : Int) : Prop := -9223372036854775808 ≤ n ∧ n ≤ 9223372036854775807
theorem I64_of {n : Int} (h : (Lit.int .i64 n).wf = true) : I64 n := by
  have e1 : IntKind.i64.min = -9223372036854775808 := by decide
  have e2 : IntKind.i64.max = 9223372036854775807 := by decide
  simp [Lit.wf, e1, e2] at h
  unfold I64
  omega
section
variable {H : Type} {enc : TypeId × Value → H} {P : Program} {w : World} {base : Nat} {spare : Nat → Bool} {held : Bool} {α : Type}
def Elem (enc : TypeId × Value → H) (P : Program) (w : World) (base : Nat) (spare : Nat → Bool) (held : Bool) (e : TypeId) (d : Kd α) (Q : α → Prop) : Prop :=
  ∀ (fuel : Nat) (cs : List Value) (x : DataW H × List MemPlace), DataW.trod enc P w base spare held fuel e cs = some x → ∃ y, d.K w y cs ∧ Q y
end
end Go.Proofs.Yteblnjoljbdjjaa.Rk
namespace Go.Proofs.Yteblnjoljbdjjaa.P
open Go.RowKit Go.ChangeShapes Go.WideShapes Go.Deep Go.Proofs.Yteblnjoljbdjjaa.Rk Go.Proofs.YteblnjoljbdjjaaW.PrintWords
theorem cells_3 : Try.prog.cellsOf 3 = 1 := by kernel_rfl
theorem cells_9 : Try.prog.cellsOf 9 = 1 := by kernel_rfl
def Q75 (x : S75) : Prop := I64 x.f0 ∧ I64 x.f1
instance : Inhabited S75 := ⟨z75⟩
def Q72 (x : S72) : Prop := I64 x.f0 ∧ I64 x.f1
instance : Inhabited S72 := ⟨z72⟩
def Q25 (x : S25) : Prop := I64 x.f0 ∧ x.f1.size ≤ 9223372036854775807
instance : Inhabited S25 := ⟨z25⟩
def Q107 (x : S107) : Prop := I64 x.f0 ∧ I64 x.f1 ∧ I64 x.f2
instance : Inhabited S107 := ⟨z107⟩
def Q104 (x : S104) : Prop := I64 x.f0 ∧ I64 x.f1 ∧ I64 x.f2
instance : Inhabited S104 := ⟨z104⟩
def Q23 (x : S23) : Prop := I64 x.f0 ∧ x.f1.size ≤ 9223372036854775807
instance : Inhabited S23 := ⟨z23⟩
theorem cells_23 : Try.prog.cellsOf 23 = 2 := by kernel_rfl
set_option maxRecDepth 100000 in
theorem elem23 {H : Type} {enc : TypeId × Value → H} {w : World} {base : Nat} {spare : Nat → Bool} {held : Bool} : Elem enc Try.prog w base spare held 23 k23 Q23 := by
  intro fuel cs x h
  obtain ⟨xs, n, _, _, hlen, hxl, hf⟩ := DataW.trod_struct Try.underlying23 h
  rw [cells_23] at hlen
  match cs, hlen with
  | [c0, c1], _ =>
    have h0 : DataW.trod enc Try.prog w base spare held n 3 (List.take (Try.prog.cellsOf 3) (List.drop 0 [c0, c1])) = xs[0]? := hf 0 _ rfl
    rw [cells_3] at h0
    have y0 : xs[0]? = some (xs[0]'(by rw [hxl]; decide)) := List.getElem?_eq_getElem _
    rw [y0] at h0
    obtain ⟨n0, e0, _, w0⟩ := DataW.trod_int Try.underlying3 h0
    have e0' : c0 = .int .i64 n0 := by simpa using e0
    have h1 : DataW.trod enc Try.prog w base spare held n 9 (List.take (Try.prog.cellsOf 9) (List.drop 1 [c0, c1])) = xs[1]? := hf 1 _ rfl
    rw [cells_9] at h1
    have y1 : xs[1]? = some (xs[1]'(by rw [hxl]; decide)) := List.getElem?_eq_getElem _
    rw [y1] at h1
    obtain ⟨n1, e1, _, w1⟩ := DataW.trod_string Try.underlying9 h1
    unfold maxLen at w1
    have e1' : c1 = .string n1 := by simpa using e1
    subst e0' e1'
    exact ⟨⟨n0, n1⟩, k23_mk w ⟨n0, n1⟩, I64_of w0, w1⟩
end Go.Proofs.Yteblnjoljbdjjaa.P
namespace Go.Proofs.Yteblnjoljbdjjaa.Pl
set_option linter.unusedSimpArgs false
set_option linter.unusedVariables false
open Go.RowKit Go.Proofs.YteblnjoljbdjjaaW.PrintWords
theorem wrap_in {n : Int} (h0 : -9223372036854775808 ≤ n) (h1 : n ≤ 9223372036854775807) : wrap64 n = n := by
  unfold wrap64
  omega
theorem wrap_nat (i : Nat) (h : i < 9223372036854775807) : wrap64 ((i : Int) + 1) = ((i + 1 : Nat) : Int) := by
  unfold wrap64
  omega
theorem Ev.const {α : Type} {x : Option α} {r : α} (h : x = some r) : Ev (fun _ => x) r := ⟨0, fun _ _ => h⟩
theorem Ev.ite_pos {α : Type} {c : Prop} [Decidable c] {g f : Nat → Option α} {r : α} (h : c) (k : Ev g r) : Ev (fun n => if c then g n else f n) r := by
  simpa only [if_pos h] using k
theorem Ev.ite_neg {α : Type} {c : Prop} [Decidable c] {g f : Nat → Option α} {r : α} (h : ¬ c) (k : Ev f r) : Ev (fun n => if c then g n else f n) r := by
  simpa only [if_neg h] using k
theorem Ev.bind0 {α β : Type} {x : Option α} {f : Nat → α → Option β} {a : α} {r : β} (h : x = some a) (k : Ev (fun n => f n a) r) : Ev (fun n => x.bind (f n)) r := by
  subst h
  exact k
theorem Ev.loop {ρ : Type} (g : Nat → Nat → Option ρ) (n : Nat) (r : ρ) (hend : Ev (g n) r) (hstep : ∀ i, i < n → Ev (g (i + 1)) r → Ev (g i) r) : ∀ i, i ≤ n → Ev (g i) r := by
  have key : ∀ d i, i + d = n → Ev (g i) r := by
    intro d
    induction d with
    | zero => intro i hi; obtain rfl : i = n := by omega
              exact hend
    | succ d ih => intro i hi; exact hstep i (by omega) (ih (i + 1) (by omega))
  intro i hi
  exact key (n - i) i (by omega)
theorem Ev.loop_to {ρ : Type} (g : Nat → Nat → Option ρ) (n : Nat) (R : Nat → ρ) (hend : Ev (g n) (R n)) (hstep : ∀ i, i < n → Ev (g (i + 1)) (R (i + 1)) → Ev (g i) (R i)) : ∀ i, i ≤ n → Ev (g i) (R i) := by
  have key : ∀ d i, i + d = n → Ev (g i) (R i) := by
    intro d
    induction d with
    | zero => intro i hi; obtain rfl : i = n := by omega
              exact hend
    | succ d ih => intro i hi; exact hstep i (by omega) (ih (i + 1) (by omega))
  intro i hi
  exact key (n - i) i (by omega)
theorem getD_lt {α : Type} (l : List α) (d : α) (i : Nat) (h : i < l.length) : l.getD i d = l[i] := by
  rw [List.getD_eq_getElem?_getD, List.getElem?_eq_getElem h]
  rfl
end Go.Proofs.Yteblnjoljbdjjaa.Pl
namespace Go.Proofs.Yteblnjoljbdjjaa.Pure
set_option linter.unusedSimpArgs false
set_option linter.unusedVariables false
open Go.RowKit Go.Proofs.YteblnjoljbdjjaaW.PrintWords Go.Proofs.Yteblnjoljbdjjaa.P Go.Proofs.Yteblnjoljbdjjaa.Pl
abbrev T3 := S122
def tri : Nat → List T3
  | 3 => [⟨0, 1, 2⟩]
  | 4 => [⟨0, 1, 2⟩, ⟨0, 1, 3⟩, ⟨0, 2, 3⟩, ⟨1, 2, 3⟩]
  | 5 => [⟨0, 1, 2⟩, ⟨0, 1, 3⟩, ⟨0, 1, 4⟩, ⟨0, 2, 3⟩, ⟨0, 2, 4⟩, ⟨0, 3, 4⟩, ⟨1, 2, 3⟩, ⟨1, 2, 4⟩, ⟨1, 3, 4⟩, ⟨2, 3, 4⟩]
  | 6 => [⟨0, 1, 2⟩, ⟨0, 1, 3⟩, ⟨0, 1, 4⟩, ⟨0, 1, 5⟩, ⟨0, 2, 3⟩, ⟨0, 2, 4⟩, ⟨0, 2, 5⟩, ⟨0, 3, 4⟩, ⟨0, 3, 5⟩, ⟨0, 4, 5⟩, ⟨1, 2, 3⟩, ⟨1, 2, 4⟩, ⟨1, 2, 5⟩, ⟨1, 3, 4⟩, ⟨1, 3, 5⟩, ⟨1, 4, 5⟩, ⟨2, 3, 4⟩, ⟨2, 3, 5⟩, ⟨2, 4, 5⟩, ⟨3, 4, 5⟩]
  | 7 => [⟨0, 1, 2⟩, ⟨0, 1, 3⟩, ⟨0, 1, 4⟩, ⟨0, 1, 5⟩, ⟨0, 1, 6⟩, ⟨0, 2, 3⟩, ⟨0, 2, 4⟩, ⟨0, 2, 5⟩, ⟨0, 2, 6⟩, ⟨0, 3, 4⟩, ⟨0, 3, 5⟩, ⟨0, 3, 6⟩, ⟨0, 4, 5⟩, ⟨0, 4, 6⟩, ⟨0, 5, 6⟩, ⟨1, 2, 3⟩, ⟨1, 2, 4⟩, ⟨1, 2, 5⟩, ⟨1, 2, 6⟩, ⟨1, 3, 4⟩, ⟨1, 3, 5⟩, ⟨1, 3, 6⟩, ⟨1, 4, 5⟩, ⟨1, 4, 6⟩, ⟨1, 5, 6⟩, ⟨2, 3, 4⟩, ⟨2, 3, 5⟩, ⟨2, 3, 6⟩, ⟨2, 4, 5⟩, ⟨2, 4, 6⟩, ⟨2, 5, 6⟩, ⟨3, 4, 5⟩, ⟨3, 4, 6⟩, ⟨3, 5, 6⟩, ⟨4, 5, 6⟩]
  | _ => []
theorem tri_some : ∀ n : Nat, n ≤ 7 → impl_triplesOf.f 500 n = some (tri n)
  | 0, _ => by kernel_rfl
  | 1, _ => by kernel_rfl
  | 2, _ => by kernel_rfl
  | 3, _ => by kernel_rfl
  | 4, _ => by kernel_rfl
  | 5, _ => by kernel_rfl
  | 6, _ => by kernel_rfl
  | 7, _ => by kernel_rfl
  | n + 8, h => absurd h (by omega)
theorem triplesOf_ev (n : Nat) (h : n ≤ 7) : Ev (fun k => impl_triplesOf.f k n) (tri n) := Ev.of (impl_triplesOf.mono _) (tri_some n h)
theorem tri_length (n : Nat) (h : n ≤ 7) : ((tri n).length : Int) = Int.tdiv ((n : Int) * (n - 1) * (n - 2)) 6 := by
  have : (List.range 8).all (fun n => ((tri n).length : Int) == Int.tdiv ((n : Int) * ((n : Int) - 1) * ((n : Int) - 2)) 6) = true := by decide +kernel
  rw [List.all_eq_true] at this
  simpa using this n (by simp; omega)
def okT (n : Nat) (t : T3) : Bool := decide (0 ≤ t.f0 ∧ t.f0 < t.f1 ∧ t.f1 < t.f2 ∧ t.f2 < n)
theorem tri_ok (n : Nat) (h : n ≤ 7) : (tri n).all (okT n) = true := by
  have : (List.range 8).all (fun n => (tri n).all (okT n)) = true := by decide +kernel
  rw [List.all_eq_true] at this
  exact this n (by simp; omega)
def put3 (l : List Int) (t : T3) (v : Int) : List Int := chiSet l t.f0 t.f1 t.f2 v
def fill (v : Nat → Int) : List T3 → Nat → List Int → List Int
  | [], _, l => l
  | t :: ts, m, l => fill v ts (m + 1) (put3 l t (v m))
theorem fill_length (v : Nat → Int) : ∀ ts m l, (fill v ts m l).length = l.length := by
  intro ts
  induction ts with
  | nil => intro m l; rfl
  | cons t ts ih => intro m l; rw [fill, ih]; exact chiSet_length ..
theorem fill_append (v : Nat → Int) : ∀ ts us m l, fill v (ts ++ us) m l = fill v us (m + ts.length) (fill v ts m l) := by
  intro ts
  induction ts with
  | nil => intro us m l; rfl
  | cons t ts ih => intro us m l; rw [List.cons_append, fill, ih, fill, List.length_cons]; congr 1; omega
def par (t : T3) (x y z : Int) : Option Bool :=
  if (x = t.f0 ∧ y = t.f1 ∧ z = t.f2) ∨ (x = t.f1 ∧ y = t.f2 ∧ z = t.f0) ∨ (x = t.f2 ∧ y = t.f0 ∧ z = t.f1) then some true
  else if (x = t.f0 ∧ y = t.f2 ∧ z = t.f1) ∨ (x = t.f2 ∧ y = t.f1 ∧ z = t.f0) ∨ (x = t.f1 ∧ y = t.f0 ∧ z = t.f2) then some false else none
theorem rd_set (l : List Int) (p q : Nat) (v : Int) (h : p < l.length) : rd (l.set p v) q = if p = q then v else rd l q := by
  unfold rd
  rw [Int.toNat_natCast, List.getD_eq_getElem?_getD, List.getD_eq_getElem?_getD, List.getElem?_set]
  by_cases e : p = q
  · subst e
    simp [h]
  · simp [e]
theorem chiA_nat (l : List Int) (x y z : Nat) : chiA l x y z = rd l ((1 + x * 49 + y * 7 + z : Nat) : Int) := by
  unfold chiA
  congr 1
  omega
theorem pos_iff (a b c x y z : Nat) (ha : a < 7) (hb : b < 7) (hc : c < 7) (hx : x < 7) (hy : y < 7) (hz : z < 7) : (1 + a * 49 + b * 7 + c = 1 + x * 49 + y * 7 + z) ↔ (x = a ∧ y = b ∧ z = c) := by
  constructor
  · intro h
    have h1 : c = z := by have := congrArg (· % 7) (show a * 49 + b * 7 + c + 1 = x * 49 + y * 7 + z + 1 by omega); omega
    have h2 : b = y := by subst h1; omega
    exact ⟨by omega, h2.symm, h1.symm⟩
  · rintro ⟨rfl, rfl, rfl⟩
    rfl
theorem chiA_set (l : List Int) (hl : l.length = 344) (a b c : Nat) (ha : a < 7) (hb : b < 7) (hc : c < 7) (ab : a ≠ b) (bc : b ≠ c) (ac : a ≠ c) (v : Int) (x y z : Nat) (hx : x < 7) (hy : y < 7) (hz : z < 7) :
    chiA (chiSet l a b c v) x y z = match par ⟨a, b, c⟩ x y z with | some true => v | some false => wrap64 (-v) | none => chiA l x y z := by
  rw [chiA_nat, chiA_nat]
  unfold chiSet setL par
  simp only [Int.toNat_natCast]
  rw [rd_set _ _ _ _ (by first | (simp only [List.length_set]; omega) | omega), rd_set _ _ _ _ (by first | (simp only [List.length_set]; omega) | omega), rd_set _ _ _ _ (by first | (simp only [List.length_set]; omega) | omega), rd_set _ _ _ _ (by first | (simp only [List.length_set]; omega) | omega), rd_set _ _ _ _ (by first | (simp only [List.length_set]; omega) | omega), rd_set _ _ _ _ (by first | (simp only [List.length_set]; omega) | omega)]
  simp only [pos_iff a b c x y z (by omega) (by omega) (by omega) hx hy hz, pos_iff b c a x y z (by omega) (by omega) (by omega) hx hy hz, pos_iff c a b x y z (by omega) (by omega) (by omega) hx hy hz, pos_iff a c b x y z (by omega) (by omega) (by omega) hx hy hz, pos_iff c b a x y z (by omega) (by omega) (by omega) hx hy hz, pos_iff b a c x y z (by omega) (by omega) (by omega) hx hy hz]
  simp only [Int.natCast_inj]
  clear hl
  generalize rd l ((1 + x * 49 + y * 7 + z : Nat) : Int) = o
  by_cases k0 : x = a ∧ y = b ∧ z = c
  · have := k0
    have n1 : ¬ (x = b ∧ y = c ∧ z = a) := by omega
    have n2 : ¬ (x = c ∧ y = a ∧ z = b) := by omega
    have n3 : ¬ (x = a ∧ y = c ∧ z = b) := by omega
    have n4 : ¬ (x = c ∧ y = b ∧ z = a) := by omega
    have n5 : ¬ (x = b ∧ y = a ∧ z = c) := by omega
    clear this
    simp only [(eq_true k0), (eq_false n1), (eq_false n2), (eq_false n3), (eq_false n4), (eq_false n5), if_true, if_false, or_true, true_or, or_false, false_or]
  by_cases k1 : x = b ∧ y = c ∧ z = a
  · have := k1
    have n2 : ¬ (x = c ∧ y = a ∧ z = b) := by omega
    have n3 : ¬ (x = a ∧ y = c ∧ z = b) := by omega
    have n4 : ¬ (x = c ∧ y = b ∧ z = a) := by omega
    have n5 : ¬ (x = b ∧ y = a ∧ z = c) := by omega
    clear this
    simp only [(eq_false k0), (eq_true k1), (eq_false n2), (eq_false n3), (eq_false n4), (eq_false n5), if_true, if_false, or_true, true_or, or_false, false_or]
  by_cases k2 : x = c ∧ y = a ∧ z = b
  · have := k2
    have n3 : ¬ (x = a ∧ y = c ∧ z = b) := by omega
    have n4 : ¬ (x = c ∧ y = b ∧ z = a) := by omega
    have n5 : ¬ (x = b ∧ y = a ∧ z = c) := by omega
    clear this
    simp only [(eq_false k0), (eq_false k1), (eq_true k2), (eq_false n3), (eq_false n4), (eq_false n5), if_true, if_false, or_true, true_or, or_false, false_or]
  by_cases k3 : x = a ∧ y = c ∧ z = b
  · have := k3
    have n4 : ¬ (x = c ∧ y = b ∧ z = a) := by omega
    have n5 : ¬ (x = b ∧ y = a ∧ z = c) := by omega
    clear this
    simp only [(eq_false k0), (eq_false k1), (eq_false k2), (eq_true k3), (eq_false n4), (eq_false n5), if_true, if_false, or_true, true_or, or_false, false_or]
  by_cases k4 : x = c ∧ y = b ∧ z = a
  · have := k4
    have n5 : ¬ (x = b ∧ y = a ∧ z = c) := by omega
    clear this
    simp only [(eq_false k0), (eq_false k1), (eq_false k2), (eq_false k3), (eq_true k4), (eq_false n5), if_true, if_false, or_true, true_or, or_false, false_or]
  by_cases k5 : x = b ∧ y = a ∧ z = c
  · have := k5
    clear this
    simp only [(eq_false k0), (eq_false k1), (eq_false k2), (eq_false k3), (eq_false k4), (eq_true k5), if_true, if_false, or_true, true_or, or_false, false_or]
  simp only [(eq_false k0), (eq_false k1), (eq_false k2), (eq_false k3), (eq_false k4), (eq_false k5), if_true, if_false, or_true, true_or, or_false, false_or]
theorem chiA_put3 (l : List Int) (hl : l.length = 344) (t : T3) (ht : okT 7 t = true) (v : Int) (x y z : Nat) (hx : x < 7) (hy : y < 7) (hz : z < 7) :
    chiA (put3 l t v) x y z = match par t x y z with | some true => v | some false => wrap64 (-v) | none => chiA l x y z := by
  obtain ⟨a, b, c⟩ := t
  unfold okT at ht
  rw [decide_eq_true_eq] at ht
  obtain ⟨h0, h1, h2, h3⟩ := ht
  dsimp only at h0 h1 h2 h3
  obtain ⟨a, rfl⟩ := Int.eq_ofNat_of_zero_le h0
  obtain ⟨b, rfl⟩ := Int.eq_ofNat_of_zero_le (show 0 ≤ b by omega)
  obtain ⟨c, rfl⟩ := Int.eq_ofNat_of_zero_le (show 0 ≤ c by omega)
  exact chiA_set l hl a b c (by omega) (by omega) (by omega) (by omega) (by omega) (by omega) v x y z hx hy hz
theorem chiN_put3 (l : List Int) (hl : l.length = 344) (t : T3) (v : Int) : chiN (put3 l t v) = chiN l := by
  have h : ∀ (l : List Int) (p : Nat) (u : Int), rd (l.set (1 + p) u) 0 = rd l 0 := by
    intro l p u
    unfold rd
    simp [List.getD_eq_getElem?_getD, List.getElem?_set, show ¬ (1 + p = 0) by omega]
  unfold put3 chiSet setL chiN
  simp only [Nat.add_assoc, h]
def src : List T3 → Nat → Int → Int → Int → Option (Nat × Bool)
  | [], _, _, _, _ => none
  | t :: ts, m, x, y, z => (src ts (m + 1) x y z).or ((par t x y z).map fun b => (m, b))
def sval (v : Nat → Int) (o : Int) : Option (Nat × Bool) → Int
  | some (m, true) => v m
  | some (m, false) => wrap64 (-v m)
  | none => o
theorem chiA_fill (v : Nat → Int) (x y z : Nat) (hx : x < 7) (hy : y < 7) (hz : z < 7) : ∀ (ts : List T3), ts.all (okT 7) = true → ∀ m l, l.length = 344 → chiA (fill v ts m l) x y z = sval v (chiA l x y z) (src ts m x y z) := by
  intro ts
  induction ts with
  | nil => intro _ m l _; rfl
  | cons t ts ih =>
    intro h m l hl
    rw [List.all_cons, Bool.and_eq_true] at h
    rw [fill, ih h.2 (m + 1) _ (by unfold put3; rw [chiSet_length]; exact hl), chiA_put3 l hl t h.1 (v m) x y z hx hy hz, src]
    cases hs : src ts (m + 1) x y z with
    | some p => obtain ⟨q, b⟩ := p; cases b <;> rfl
    | none =>
      cases hp : par t x y z with
      | none => rfl
      | some b => cases b <;> rfl
theorem chiN_fill (v : Nat → Int) : ∀ (ts : List T3) m l, l.length = 344 → chiN (fill v ts m l) = chiN l := by
  intro ts
  induction ts with
  | nil => intro m l _; rfl
  | cons t ts ih => intro m l hl; rw [fill, ih _ _ (by unfold put3; rw [chiSet_length]; exact hl), chiN_put3 l hl]
theorem okT_mono {n : Nat} (h : n ≤ 7) (t : T3) (ht : okT n t = true) : okT 7 t = true := by
  unfold okT at ht ⊢
  rw [decide_eq_true_eq] at ht ⊢
  omega
theorem tri_ok7 (n : Nat) (h : n ≤ 7) : (tri n).all (okT 7) = true := by
  have := tri_ok n h
  rw [List.all_eq_true] at this ⊢
  exact fun t ht => okT_mono h t (this t ht)
theorem chiA_new (n : Int) (x y z : Nat) (hx : x < 7) (hy : y < 7) (hz : z < 7) : chiA (chiNew n) x y z = 0 := by
  rw [chiA_nat, show 1 + x * 49 + y * 7 + z = (x * 49 + y * 7 + z) + 1 by omega]
  unfold rd chiNew
  rw [Int.toNat_natCast, List.getD_cons_succ, List.getD_eq_getElem?_getD, List.getElem?_replicate]
  rw [if_pos (by omega)]
  rfl
def isPM (s : ByteArray) (m : Nat) : Bool := bt s (m : Int) == 43 || bt s (m : Int) == 45
def isS (n : Int) (s : ByteArray) : Bool := decide (3 ≤ n ∧ n ≤ 7 ∧ (s.size : Int) = Int.tdiv (n * (n - 1) * (n - 2)) 6) && (List.range s.size).all (isPM s)
theorem count3 {n : Int} (h3 : 3 ≤ n) (h7 : n ≤ 7) : wrap64 (wrap64 (n * wrap64 (n - 1)) * wrap64 (n - 2)) = n * (n - 1) * (n - 2) ∧ wrap64 (Int.tdiv (n * (n - 1) * (n - 2)) 6) = Int.tdiv (n * (n - 1) * (n - 2)) 6 ∧ 0 ≤ Int.tdiv (n * (n - 1) * (n - 2)) 6 ∧ Int.tdiv (n * (n - 1) * (n - 2)) 6 ≤ 35 := by
  have : n = 3 ∨ n = 4 ∨ n = 5 ∨ n = 6 ∨ n = 7 := by omega
  obtain rfl | rfl | rfl | rfl | rfl := this <;> (unfold wrap64; decide)
theorem range_drop' (n i : Nat) (h : i < n) : (List.range n).drop i = i :: (List.range n).drop (i + 1) := by
  rw [List.drop_eq_getElem_cons (by simpa using h)]
  simp
theorem l1In_is (x a b : Int) : spec_l1In.f x a b = some (decide (a ≤ x ∧ x ≤ b)) := by
  unfold spec_l1In.f
  by_cases h : x ≥ a
  · rw [if_pos h]
    simp [h]
  · rw [if_neg h]
    simp [show ¬ a ≤ x by omega]
theorem spec_AreSigns_ev (n : Int) (s : ByteArray) : Ev (fun k => spec_AreSigns.f k n s) (isS n s) := by
  unfold spec_AreSigns.f isS
  have no : ∀ x, Ev (fun k => spec_AreSigns.j0 k true n x) false := fun x => Ev.step (fun k => spec_AreSigns.j0.eq_2 ..) (Ev.ite_pos rfl (Ev.now _))
  by_cases h : 3 ≤ n ∧ n ≤ 7
  · obtain ⟨e1, e2, e3, e4⟩ := count3 h.1 h.2
    refine Ev.bind0 (l1In_is ..) (Ev.ite_pos (decide_eq_true h) ?_)
    rw [e1, e2]
    by_cases hc : (s.size : Int) = Int.tdiv (n * (n - 1) * (n - 2)) 6
    · rw [show decide (3 ≤ n ∧ n ≤ 7 ∧ (s.size : Int) = Int.tdiv (n * (n - 1) * (n - 2)) 6) = true from decide_eq_true ⟨h.1, h.2, hc⟩, Bool.true_and]
      refine Ev.step (fun k => spec_AreSigns.j0.eq_2 ..) (Ev.ite_neg (by simp [hc]) ?_)
      have key := Ev.loop_to (fun i k => spec_AreSigns.l0 k i n s) s.size (fun i => ((List.range s.size).drop i).all (isPM s)) ?_ ?_ 0 (by omega)
      · simpa using key
      · refine Ev.step (fun k => spec_AreSigns.l0.eq_2 ..) (Ev.ite_neg (by omega) (Ev.const ?_))
        rw [List.drop_of_length_le (by simp)]
        rfl
      · intro i hi ih
        rw [range_drop' _ _ hi, List.all_cons]
        refine Ev.step (fun k => spec_AreSigns.l0.eq_2 ..) (Ev.ite_pos (by omega) (Ev.ite_pos (by omega) ?_))
        rw [wrap_nat i (by omega)]
        rw [show isPM s i = (bt s (i : Int) == 43 || bt s (i : Int) == 45) from rfl]
        by_cases h43 : bt s (i : Int) = 43
        · refine Ev.ite_pos h43 ?_
          simpa [h43] using ih
        · refine Ev.ite_neg h43 ?_
          by_cases h45 : bt s (i : Int) = 45
          · refine Ev.ite_pos h45 ?_
            simpa [h45] using ih
          · refine Ev.ite_neg h45 (Ev.const ?_)
            simp [h43, h45]
    · rw [show decide (3 ≤ n ∧ n ≤ 7 ∧ (s.size : Int) = Int.tdiv (n * (n - 1) * (n - 2)) 6) = false from decide_eq_false (fun q => hc q.2.2), Bool.false_and]
      rw [show ((s.size : Int) != Int.tdiv (n * (n - 1) * (n - 2)) 6) = true by simpa using hc]
      exact no s
  · rw [show decide (3 ≤ n ∧ n ≤ 7 ∧ (s.size : Int) = Int.tdiv (n * (n - 1) * (n - 2)) 6) = false from decide_eq_false (fun q => h ⟨q.1, q.2.1⟩), Bool.false_and]
    exact Ev.bind0 (l1In_is ..) (Ev.ite_neg (by simpa using h) (no s))
theorem impl_AreSigns_ev (n : Int) (s : ByteArray) : Ev (fun k => impl_AreSigns.f k n s) (isS n s) := by
  unfold impl_AreSigns.f isS
  have no : ∀ x, Ev (fun k => impl_AreSigns.j0 k true n x) false := fun x => Ev.step (fun k => impl_AreSigns.j0.eq_2 ..) (Ev.ite_pos rfl (Ev.now _))
  by_cases h3 : n < 3
  · rw [show decide (3 ≤ n ∧ n ≤ 7 ∧ (s.size : Int) = Int.tdiv (n * (n - 1) * (n - 2)) 6) = false from decide_eq_false (fun q => by omega), Bool.false_and]
    exact Ev.ite_pos h3 (no s)
  · refine Ev.ite_neg h3 ?_
    by_cases h7 : n > 7
    · rw [show decide (3 ≤ n ∧ n ≤ 7 ∧ (s.size : Int) = Int.tdiv (n * (n - 1) * (n - 2)) 6) = false from decide_eq_false (fun q => by omega), Bool.false_and]
      exact Ev.ite_pos h7 (no s)
    · refine Ev.ite_neg h7 ?_
      obtain ⟨e1, e2, e3, e4⟩ := count3 (n := n) (by omega) (by omega)
      rw [e1, e2]
      by_cases hc : (s.size : Int) = Int.tdiv (n * (n - 1) * (n - 2)) 6
      · rw [show decide (3 ≤ n ∧ n ≤ 7 ∧ (s.size : Int) = Int.tdiv (n * (n - 1) * (n - 2)) 6) = true from decide_eq_true ⟨by omega, by omega, hc⟩, Bool.true_and]
        refine Ev.step (fun k => impl_AreSigns.j0.eq_2 ..) (Ev.ite_neg (by simp [hc]) ?_)
        have key := Ev.loop_to (fun i k => impl_AreSigns.l0 k i n s) s.size (fun i => ((List.range s.size).drop i).all (isPM s)) ?_ ?_ 0 (by omega)
        · simpa using key
        · refine Ev.step (fun k => impl_AreSigns.l0.eq_2 ..) (Ev.ite_neg (by omega) (Ev.const ?_))
          rw [List.drop_of_length_le (by simp)]
          rfl
        · intro i hi ih
          rw [range_drop' _ _ hi, List.all_cons]
          refine Ev.step (fun k => impl_AreSigns.l0.eq_2 ..) (Ev.ite_pos (by omega) (Ev.ite_pos (by omega) ?_))
          rw [wrap_nat i (by omega)]
          rw [show isPM s i = (bt s (i : Int) == 43 || bt s (i : Int) == 45) from rfl]
          by_cases h43 : bt s (i : Int) = 43
          · refine Ev.ite_pos h43 ?_
            simpa [h43] using ih
          · refine Ev.ite_neg h43 ?_
            by_cases h45 : bt s (i : Int) = 45
            · refine Ev.ite_pos h45 ?_
              simpa [h45] using ih
            · refine Ev.ite_neg h45 (Ev.const ?_)
              simp [h43, h45]
      · rw [show decide (3 ≤ n ∧ n ≤ 7 ∧ (s.size : Int) = Int.tdiv (n * (n - 1) * (n - 2)) 6) = false from decide_eq_false (fun q => hc q.2.2), Bool.false_and]
        rw [show ((s.size : Int) != Int.tdiv (n * (n - 1) * (n - 2)) 6) = true by simpa using hc]
        exact no s
theorem isS_bounds {n : Int} {s : ByteArray} (h : isS n s = true) : 3 ≤ n ∧ n ≤ 7 ∧ s.size = (tri n.toNat).length ∧ s.size ≤ 35 := by
  unfold isS at h
  rw [Bool.and_eq_true, decide_eq_true_eq] at h
  obtain ⟨⟨h3, h7, hc⟩, _⟩ := h
  have hb := (count3 h3 h7).2.2.2
  obtain ⟨m, rfl⟩ := Int.eq_ofNat_of_zero_le (show 0 ≤ n by omega)
  have ht := tri_length m (by omega)
  rw [Int.toNat_natCast]
  exact ⟨h3, h7, by omega, by omega⟩
def sgAt (s : ByteArray) (m : Nat) : Int := if bt s (m : Int) = 45 then -1 else 1
def tab (n : Nat) (s : ByteArray) : List Int := fill (sgAt s) (tri n) 0 (chiNew n)
def sg (n : Nat) (s : ByteArray) (x y z : Int) : Int := sval (sgAt s) 0 (src (tri n) 0 x y z)
theorem tab_length (n : Nat) (s : ByteArray) : (tab n s).length = 344 := by
  unfold tab
  rw [fill_length, chiNew_length]
theorem tab_n (n : Nat) (s : ByteArray) : chiN (tab n s) = n := by
  unfold tab
  rw [chiN_fill _ _ _ _ (chiNew_length _)]
  rfl
theorem tab_at (n : Nat) (hn : n ≤ 7) (s : ByteArray) (x y z : Nat) (hx : x < 7) (hy : y < 7) (hz : z < 7) : chiA (tab n s) x y z = sg n s x y z := by
  unfold tab sg
  rw [chiA_fill _ x y z hx hy hz _ (tri_ok7 n hn) 0 _ (chiNew_length _), chiA_new _ x y z hx hy hz]
theorem tri_at (n : Nat) (hn : n ≤ 7) (i : Nat) (hi : i < (tri n).length) : okT 7 (tri n)[i] = true := by
  have := tri_ok7 n hn
  rw [List.all_eq_true] at this
  exact this _ (List.getElem_mem hi)
theorem rdT_lt (l : List T3) (i : Nat) (h : i < l.length) : rd_T122 l (i : Int) = l[i] := by
  unfold rd_T122
  rw [Int.toNat_natCast, getD_lt _ _ _ h]
theorem tableOf_ev (n : Nat) (hn : n ≤ 7) (s : ByteArray) (hs : s.size = (tri n).length) : Ev (fun k => impl_tableOf.f k n s) (tab n s) := by
  unfold impl_tableOf.f
  refine Ev.bind (triplesOf_ev n hn) ?_
  have h35 : (tri n).length ≤ 1000 := by
    have : (List.range 8).all (fun n => decide ((tri n).length ≤ 1000)) = true := by decide +kernel
    rw [List.all_eq_true] at this
    simpa using this n (by simp; omega)
  have key := Ev.loop (fun i k => impl_tableOf.l0 k (fill (sgAt s) ((tri n).take i) 0 (chiNew n)) (tri n) (tri n).length i n s) (tri n).length (tab n s) ?_ ?_ 0 (by omega)
  · simpa [fill] using key
  · refine Ev.step (fun k => impl_tableOf.l0.eq_2 ..) (Ev.ite_neg (by omega) (Ev.const ?_))
    rw [List.take_length]
    rfl
  · intro i hi ih
    refine Ev.step (fun k => impl_tableOf.l0.eq_2 ..) (Ev.ite_pos (by omega) (Ev.ite_pos (by omega) (Ev.ite_pos (by omega) (Ev.ite_pos (by omega) ?_))))
    have ht := tri_at n hn i hi
    rw [wrap_nat i (by omega), rdT_lt _ i hi]
    rw [List.take_succ_eq_append_getElem hi, fill_append, Nat.zero_add, List.length_take, Nat.min_eq_left (by omega)] at ih
    have hl : (fill (sgAt s) ((tri n).take i) 0 (chiNew n)).length = 344 := by rw [fill_length, chiNew_length]
    generalize fill (sgAt s) ((tri n).take i) 0 (chiNew n) = l at ih hl ⊢
    generalize (tri n)[i] = t at ih ht ⊢
    unfold okT at ht
    rw [decide_eq_true_eq] at ht
    have hset : ∀ v, impl_chi_set.f l t.f0 t.f1 t.f2 v = some (put3 l t v) := by
      intro v
      unfold impl_chi_set.f
      rw [if_pos ⟨hl, by omega, by omega, by omega⟩]
      rfl
    rw [fill, fill] at ih
    unfold sgAt at ih
    by_cases h45 : bt s (i : Int) = 45
    · rw [if_pos h45] at ih
      exact Ev.ite_pos h45 (Ev.bind0 (hset _) ih)
    · rw [if_neg h45] at ih
      exact Ev.ite_neg h45 (Ev.bind0 (hset _) ih)
def srt2 (n x y z p : Int) : Option (Int × Int) := if x > y then (spec_l3Index.f 60 n y x z).map fun m => (m, -p) else (spec_l3Index.f 60 n x y z).map fun m => (m, p)
def srt1 (n x y z p : Int) : Option (Int × Int) := if y > z then srt2 n x z y (-p) else srt2 n x y z p
def srt (n x y z : Int) : Option (Int × Int) := if x > y then srt1 n y x z (-1) else srt1 n x y z 1
def okSrt (n : Nat) (x y z : Nat) : Bool :=
  match srt n x y z, src (tri n) 0 x y z with
  | some (m, p), some (q, b) => m == (q : Int) && decide (q < (tri n).length) && (p == if b then 1 else -1)
  | _, _ => false
theorem all_srt : (List.range 8).all (fun n => (List.range n).all fun x => (List.range n).all fun y => (List.range n).all fun z => x == y || y == z || x == z || okSrt n x y z) = true := by decide +kernel
theorem srt_ok (n x y z : Nat) (hn : n ≤ 7) (hx : x < n) (hy : y < n) (hz : z < n) (h1 : x ≠ y) (h2 : y ≠ z) (h3 : x ≠ z) : okSrt n x y z = true := by
  have h := all_srt
  rw [List.all_eq_true] at h
  have h := h n (by simp; omega)
  rw [List.all_eq_true] at h
  have h := h x (by simpa using hx)
  rw [List.all_eq_true] at h
  have h := h y (by simpa using hy)
  rw [List.all_eq_true] at h
  have h := h z (by simpa using hz)
  simpa [h1, h2, h3] using h
theorem l3Index_ev {n x y z m : Int} (h : spec_l3Index.f 60 n x y z = some m) : Ev (fun k => spec_l3Index.f k n x y z) m := Ev.of (spec_l3Index.mono _ _ _ _) h
def look (s : ByteArray) (m p : Int) : Int := if bt s m = 45 then wrap64 (-p) else p
theorem j1_ev (n x y z p m q : Int) (s : ByteArray) (hp : p = 1 ∨ p = -1) (h : srt2 n x y z p = some (m, q)) (hm : 0 ≤ m) (hs : m < (s.size : Int)) : Ev (fun k => spec_l3At.j1 k x y z p n s) (look s m q) := by
  refine Ev.step (fun k => spec_l3At.j1.eq_2 ..) ?_
  have hw : wrap64 (-p) = -p := wrap_in (by omega) (by omega)
  unfold srt2 at h
  unfold look
  by_cases hxy : x > y
  · rw [if_pos hxy] at h
    obtain ⟨m', h1, h2⟩ := Option.map_eq_some_iff.mp h
    cases h2
    refine Ev.ite_pos hxy (Ev.bind (l3Index_ev h1) (Ev.ite_pos hm (Ev.ite_pos hs ?_)))
    rw [hw]
    by_cases h45 : bt s m = 45
    · exact Ev.ite_pos h45 (Ev.const (by rw [if_pos h45]))
    · exact Ev.ite_neg h45 (Ev.const (by rw [if_neg h45]))
  · rw [if_neg hxy] at h
    obtain ⟨m', h1, h2⟩ := Option.map_eq_some_iff.mp h
    cases h2
    refine Ev.ite_neg hxy (Ev.bind (l3Index_ev h1) (Ev.ite_pos hm (Ev.ite_pos hs ?_)))
    by_cases h45 : bt s m = 45
    · exact Ev.ite_pos h45 (Ev.const (by rw [if_pos h45]))
    · exact Ev.ite_neg h45 (Ev.const (by rw [if_neg h45]))
theorem j0_ev (n x y z p m q : Int) (s : ByteArray) (hp : p = 1 ∨ p = -1) (h : srt1 n x y z p = some (m, q)) (hm : 0 ≤ m) (hs : m < (s.size : Int)) : Ev (fun k => spec_l3At.j0 k x y z p n s) (look s m q) := by
  refine Ev.step (fun k => spec_l3At.j0.eq_2 ..) ?_
  have hw : wrap64 (-p) = -p := wrap_in (by omega) (by omega)
  unfold srt1 at h
  by_cases hyz : y > z
  · rw [if_pos hyz] at h
    rw [hw]
    exact Ev.ite_pos hyz (j1_ev n x z y (-p) m q s (by omega) h hm hs)
  · rw [if_neg hyz] at h
    exact Ev.ite_neg hyz (j1_ev n x y z p m q s hp h hm hs)
theorem l3At_ev (n : Nat) (hn : n ≤ 7) (s : ByteArray) (hs : s.size = (tri n).length) (x y z : Nat) (hx : x < n) (hy : y < n) (hz : z < n) (h1 : x ≠ y) (h2 : y ≠ z) (h3 : x ≠ z) :
    Ev (fun k => spec_l3At.f k n s x y z) (sg n s x y z) := by
  have h := srt_ok n x y z hn hx hy hz h1 h2 h3
  unfold okSrt at h
  unfold spec_l3At.f sg
  cases ha : srt n x y z with
  | none => rw [ha] at h; cases h
  | some mp =>
    obtain ⟨m, p⟩ := mp
    cases hb : src (tri n) 0 x y z with
    | none => rw [ha, hb] at h; cases h
    | some qb =>
      obtain ⟨q, b⟩ := qb
      rw [ha, hb] at h
      simp only [Bool.and_eq_true, beq_iff_eq, decide_eq_true_eq] at h
      obtain ⟨⟨rfl, hq⟩, hp⟩ := h
      have e : sval (sgAt s) 0 (some (q, b)) = look s q p := by
        subst hp
        unfold sval look sgAt
        cases b <;> by_cases h45 : bt s (q : Int) = 45 <;> simp [h45, wrap64]
      rw [e]
      unfold srt at ha
      by_cases hxy : (x : Int) > y
      · rw [if_pos hxy] at ha
        exact Ev.ite_pos hxy (j0_ev n y x z (-1) q p s (by omega) ha (by omega) (by omega))
      · rw [if_neg hxy] at ha
        exact Ev.ite_neg hxy (j0_ev n x y z 1 q p s (by omega) ha (by omega) (by omega))
theorem sg_pm (n : Nat) (hn : n ≤ 7) (s : ByteArray) (x y z : Nat) (hx : x < n) (hy : y < n) (hz : z < n) (h1 : x ≠ y) (h2 : y ≠ z) (h3 : x ≠ z) : sg n s x y z = 1 ∨ sg n s x y z = -1 := by
  have h := srt_ok n x y z hn hx hy hz h1 h2 h3
  unfold okSrt at h
  unfold sg
  cases ha : srt n x y z with
  | none => rw [ha] at h; cases h
  | some mp =>
    cases hb : src (tri n) 0 x y z with
    | none => rw [ha, hb] at h; cases h
    | some qb =>
      obtain ⟨q, b⟩ := qb
      unfold sval sgAt
      cases b <;> by_cases h45 : bt s (q : Int) = 45 <;> simp [h45, wrap64]
theorem all_same : (List.range 8).all (fun n => (List.range 7).all fun x => (List.range 7).all fun y => (List.range 7).all fun z => !(x == y || y == z || x == z) || (src (tri n) 0 x y z == none)) = true := by decide +kernel
theorem sg_same (n : Nat) (hn : n ≤ 7) (s : ByteArray) (x y z : Nat) (hx : x < 7) (hy : y < 7) (hz : z < 7) (h : x = y ∨ y = z ∨ x = z) : sg n s x y z = 0 := by
  have g := all_same
  rw [List.all_eq_true] at g
  have g := g n (by simp; omega)
  rw [List.all_eq_true] at g
  have g := g x (by simpa using hx)
  rw [List.all_eq_true] at g
  have g := g y (by simpa using hy)
  rw [List.all_eq_true] at g
  have g := g z (by simpa using hz)
  have e : (x == y || y == z || x == z) = true := by rcases h with rfl | rfl | rfl <;> simp
  rw [e] at g
  have : src (tri n) 0 x y z = none := by simpa using g
  unfold sg
  rw [this]
  rfl
abbrev Q4 := S174
def quad : Nat → List Q4
  | 4 => [⟨0, 1, 2, 3⟩]
  | 5 => [⟨0, 1, 2, 3⟩, ⟨0, 1, 2, 4⟩, ⟨0, 1, 3, 4⟩, ⟨0, 2, 3, 4⟩, ⟨1, 2, 3, 4⟩]
  | 6 => [⟨0, 1, 2, 3⟩, ⟨0, 1, 2, 4⟩, ⟨0, 1, 2, 5⟩, ⟨0, 1, 3, 4⟩, ⟨0, 1, 3, 5⟩, ⟨0, 1, 4, 5⟩, ⟨0, 2, 3, 4⟩, ⟨0, 2, 3, 5⟩, ⟨0, 2, 4, 5⟩, ⟨0, 3, 4, 5⟩, ⟨1, 2, 3, 4⟩, ⟨1, 2, 3, 5⟩, ⟨1, 2, 4, 5⟩, ⟨1, 3, 4, 5⟩, ⟨2, 3, 4, 5⟩]
  | 7 => [⟨0, 1, 2, 3⟩, ⟨0, 1, 2, 4⟩, ⟨0, 1, 2, 5⟩, ⟨0, 1, 2, 6⟩, ⟨0, 1, 3, 4⟩, ⟨0, 1, 3, 5⟩, ⟨0, 1, 3, 6⟩, ⟨0, 1, 4, 5⟩, ⟨0, 1, 4, 6⟩, ⟨0, 1, 5, 6⟩, ⟨0, 2, 3, 4⟩, ⟨0, 2, 3, 5⟩, ⟨0, 2, 3, 6⟩, ⟨0, 2, 4, 5⟩, ⟨0, 2, 4, 6⟩, ⟨0, 2, 5, 6⟩, ⟨0, 3, 4, 5⟩, ⟨0, 3, 4, 6⟩, ⟨0, 3, 5, 6⟩, ⟨0, 4, 5, 6⟩, ⟨1, 2, 3, 4⟩, ⟨1, 2, 3, 5⟩, ⟨1, 2, 3, 6⟩, ⟨1, 2, 4, 5⟩, ⟨1, 2, 4, 6⟩, ⟨1, 2, 5, 6⟩, ⟨1, 3, 4, 5⟩, ⟨1, 3, 4, 6⟩, ⟨1, 3, 5, 6⟩, ⟨1, 4, 5, 6⟩, ⟨2, 3, 4, 5⟩, ⟨2, 3, 4, 6⟩, ⟨2, 3, 5, 6⟩, ⟨2, 4, 5, 6⟩, ⟨3, 4, 5, 6⟩]
  | _ => []
theorem quad_some : ∀ n : Nat, n ≤ 7 → impl_quadsOf.f 700 n = some (quad n)
  | 0, _ => by kernel_rfl
  | 1, _ => by kernel_rfl
  | 2, _ => by kernel_rfl
  | 3, _ => by kernel_rfl
  | 4, _ => by kernel_rfl
  | 5, _ => by kernel_rfl
  | 6, _ => by kernel_rfl
  | 7, _ => by kernel_rfl
  | n + 8, h => absurd h (by omega)
theorem quadsOf_ev (n : Nat) (h : n ≤ 7) : Ev (fun k => impl_quadsOf.f k n) (quad n) := Ev.of (impl_quadsOf.mono _) (quad_some n h)
def okQ (n : Nat) (q : Q4) : Bool := decide (0 ≤ q.f0 ∧ q.f0 < q.f1 ∧ q.f1 < q.f2 ∧ q.f2 < q.f3 ∧ q.f3 < n)
theorem all_q : (List.range 8).all (fun n => (quad n).all (okQ n) && decide ((quad n).length ≤ 1000)) = true := by decide +kernel
theorem quad_ok (n : Nat) (h : n ≤ 7) : (quad n).all (okQ n) = true ∧ (quad n).length ≤ 1000 := by
  have := all_q
  rw [List.all_eq_true] at this
  have := this n (by simp; omega)
  rw [Bool.and_eq_true, decide_eq_true_eq] at this
  exact this
def brk (n : Nat) (s : ByteArray) (a b c d e : Int) : Bool :=
  decide (wrap64 (sg n s a b c * sg n s a d e) = wrap64 (sg n s a b e * sg n s a c d)) && (wrap64 (sg n s a b e * sg n s a c d) == wrap64 ((wrap64 (-(sg n s a b d))) * sg n s a c e))
theorem breaks_eq (n : Nat) (hn : n ≤ 7) (s : ByteArray) (a b c d e : Nat) (ha : a < 7) (hb : b < 7) (hc : c < 7) (hd : d < 7) (he : e < 7) : impl_chi_breaks.f (tab n s) a b c d e = some (brk n s a b c d e) := by
  unfold impl_chi_breaks.f brk
  have hl := tab_length n s
  rw [if_pos (by omega), if_pos (by omega), if_pos (by omega), if_pos (by omega), if_pos (by omega), if_pos (by omega), if_pos (by omega), if_pos (by omega), if_pos (by omega), if_pos (by omega), if_pos (by omega)]
  rw [tab_at n hn s a b c ha hb hc, tab_at n hn s a d e ha hd he, tab_at n hn s a b e ha hb he, tab_at n hn s a c d ha hc hd, tab_at n hn s a b d ha hb hd, tab_at n hn s a c e ha hc he]
  by_cases h : wrap64 (sg n s a b c * sg n s a d e) = wrap64 (sg n s a b e * sg n s a c d)
  · rw [if_pos h, decide_eq_true h, Bool.true_and]
  · rw [if_neg h, decide_eq_false h, Bool.false_and]
theorem l4Breaks_ev (n : Nat) (hn : n ≤ 7) (s : ByteArray) (hs : s.size = (tri n).length) (a b c d e : Nat) (ha : a < n) (hb : b < n) (hc : c < n) (hd : d < n) (he : e < n)
    (hab : a ≠ b) (hac : a ≠ c) (had : a ≠ d) (hae : a ≠ e) (hbc : b < c) (hcd : c < d) (hde : d < e) : Ev (fun k => spec_l4Breaks.f k n s a b c d e) (brk n s a b c d e) := by
  unfold spec_l4Breaks.f brk
  refine Ev.bind (l3At_ev n hn s hs a b c ha hb hc hab (by omega) hac) (Ev.bind (l3At_ev n hn s hs a d e ha hd he had (by omega) hae) (Ev.bind (l3At_ev n hn s hs a b e ha hb he hab (by omega) hae) (Ev.bind (l3At_ev n hn s hs a c d ha hc hd hac (by omega) had) (Ev.bind (l3At_ev n hn s hs a b d ha hb hd hab (by omega) had) (Ev.bind (l3At_ev n hn s hs a c e ha hc he hac (by omega) hae) ?_)))))
  by_cases h : wrap64 (sg n s a b c * sg n s a d e) = wrap64 (sg n s a b e * sg n s a c d)
  · rw [decide_eq_true h, Bool.true_and]
    exact Ev.ite_pos h (Ev.now _)
  · rw [decide_eq_false h, Bool.false_and]
    exact Ev.ite_neg h (Ev.now _)
theorem loopE (g : Nat → Nat → Option (List Int)) (m : Nat) (P : Nat → Bool) (X : Bool) (lo : Nat) (hlo : lo ≤ m) (hend : ∃ r, Ev (g m) r ∧ r.isEmpty = !X)
    (hstep : ∀ i, lo ≤ i → i < m → (∃ r, Ev (g (i + 1)) r ∧ r.isEmpty = !(((List.range m).drop (i + 1)).any P || X)) → ∃ r, Ev (g i) r ∧ r.isEmpty = !(P i || (((List.range m).drop (i + 1)).any P || X))) :
    ∃ r, Ev (g lo) r ∧ r.isEmpty = !(((List.range m).drop lo).any P || X) := by
  have key : ∀ d i, lo ≤ i → i + d = m → ∃ r, Ev (g i) r ∧ r.isEmpty = !(((List.range m).drop i).any P || X) := by
    intro d
    induction d with
    | zero =>
      intro i _ hi
      obtain rfl : i = m := by omega
      rw [List.drop_of_length_le (by simp)]
      simpa using hend
    | succ d ih =>
      intro i hl hi
      rw [range_drop' m i (by omega), List.any_cons, Bool.or_assoc]
      exact hstep i hl (by omega) (ih (i + 1) (by omega) (by omega))
  exact key (m - lo) lo (Nat.le_refl _) (by omega)
def avoid (a : Int) (q : Q4) : Bool := !(q.f0 == a || q.f1 == a || q.f2 == a || q.f3 == a)
def brkQ (n : Nat) (s : ByteArray) (a : Int) (q : Q4) : Bool := brk n s a q.f0 q.f1 q.f2 q.f3
def anyA (n : Nat) (s : ByteArray) (a : Nat) : Bool := (quad n).any fun q => avoid a q && brkQ n s a q
def anyB (n : Nat) (s : ByteArray) : Bool := (List.range n).any (anyA n s)
theorem any_range (l : List Q4) (P : Q4 → Bool) : (List.range l.length).any (fun i => P (rd_T174 l (i : Int))) = l.any P := by
  rw [Bool.eq_iff_iff, List.any_eq_true, List.any_eq_true]
  have hr : ∀ i (h : i < l.length), rd_T174 l (i : Int) = l[i] := by
    intro i h
    unfold rd_T174
    rw [Int.toNat_natCast, getD_lt _ _ _ h]
  constructor
  · rintro ⟨i, hi, hp⟩
    rw [List.mem_range] at hi
    rw [hr i hi] at hp
    exact ⟨_, List.getElem_mem hi, hp⟩
  · rintro ⟨q, hq, hp⟩
    obtain ⟨i, hi, rfl⟩ := List.getElem_of_mem hq
    exact ⟨i, by simpa using hi, by rw [hr i hi]; exact hp⟩
theorem impl_first_ev (n : Nat) (hn : n ≤ 7) (s : ByteArray) : ∃ r, Ev (fun k => impl_chi_firstBreak.f k (tab n s)) r ∧ r.isEmpty = !anyB n s := by
  have hl := tab_length n s
  obtain ⟨hq, hq1⟩ := quad_ok n hn
  unfold impl_chi_firstBreak.f
  have key := loopE (fun a k => impl_chi_firstBreak.l0 k (tab n s) a) n (anyA n s) false 0 (by omega) ?_ ?_
  · simpa [anyB] using key
  · refine ⟨[], Ev.step (fun k => impl_chi_firstBreak.l0.eq_2 ..) (Ev.ite_pos (by omega) (Ev.ite_neg (by rw [tab_n]; omega) (Ev.now _))), rfl⟩
  · intro a _ ha h0
    rw [Bool.or_false] at h0 ⊢
    have key2 := loopE (fun i k => impl_chi_firstBreak.l1 k (tab n s) a (quad n) (quad n).length i) (quad n).length (fun i => avoid a (rd_T174 (quad n) (i : Int)) && brkQ n s a (rd_T174 (quad n) (i : Int))) (((List.range n).drop (a + 1)).any (anyA n s)) 0 (by omega) ?_ ?_
    · obtain ⟨r, h1, h2⟩ := key2
      rw [List.drop_zero, any_range (quad n) (fun q => avoid a q && brkQ n s a q)] at h2
      refine ⟨r, Ev.step (fun k => impl_chi_firstBreak.l0.eq_2 ..) (Ev.ite_pos (by omega) (Ev.ite_pos (by rw [tab_n]; omega) ?_)), h2⟩
      rw [tab_n]
      exact Ev.bind (quadsOf_ev n hn) h1
    · obtain ⟨r, h1, h2⟩ := h0
      refine ⟨r, Ev.step (fun k => impl_chi_firstBreak.l1.eq_2 ..) (Ev.ite_neg (by omega) ?_), h2⟩
      rw [wrap_nat a (by omega)]
      exact h1
    · intro i _ hi h1
      have hr : rd_T174 (quad n) (i : Int) = (quad n)[i] := by
        unfold rd_T174
        rw [Int.toNat_natCast, getD_lt _ _ _ hi]
      rw [List.all_eq_true] at hq
      have ht := hq _ (List.getElem_mem hi)
      rw [← hr] at ht
      obtain ⟨r, h1, h2⟩ := h1
      rw [← wrap_nat i (by omega)] at h1
      by_cases hav : avoid a (rd_T174 (quad n) (i : Int)) = true
      · have hav' := hav
        unfold avoid at hav'
        simp only [Bool.not_eq_true', Bool.or_eq_false_iff, beq_eq_false_iff_ne] at hav'
        obtain ⟨⟨⟨e0, e1⟩, e2⟩, e3⟩ := hav'
        have hb : impl_chi_breaks.f (tab n s) a (rd_T174 (quad n) (i : Int)).f0 (rd_T174 (quad n) (i : Int)).f1 (rd_T174 (quad n) (i : Int)).f2 (rd_T174 (quad n) (i : Int)).f3 = some (brkQ n s a (rd_T174 (quad n) (i : Int))) := by
          generalize rd_T174 (quad n) (i : Int) = q at ht ⊢
          obtain ⟨b, c, d, e⟩ := q
          unfold okQ at ht
          rw [decide_eq_true_eq] at ht
          dsimp only at ht
          obtain ⟨b, rfl⟩ := Int.eq_ofNat_of_zero_le ht.1
          obtain ⟨c, rfl⟩ := Int.eq_ofNat_of_zero_le (show 0 ≤ c by omega)
          obtain ⟨d, rfl⟩ := Int.eq_ofNat_of_zero_le (show 0 ≤ d by omega)
          obtain ⟨e, rfl⟩ := Int.eq_ofNat_of_zero_le (show 0 ≤ e by omega)
          exact breaks_eq n hn s a b c d e (by omega) (by omega) (by omega) (by omega) (by omega)
        rw [hav, Bool.true_and]
        by_cases hbk : brkQ n s a (rd_T174 (quad n) (i : Int)) = true
        · rw [hbk, Bool.true_or]
          exact ⟨_, Ev.step (fun k => impl_chi_firstBreak.l1.eq_2 ..) (Ev.ite_pos (by omega) (Ev.ite_pos (by omega) (Ev.ite_pos (by omega) (Ev.ite_neg e0 (Ev.ite_neg e1 (Ev.ite_neg e2 (Ev.ite_neg e3 (Ev.bind0 hb (Ev.ite_pos hbk (Ev.now _)))))))))), rfl⟩
        · rw [Bool.eq_false_iff.mpr hbk, Bool.false_or]
          exact ⟨r, Ev.step (fun k => impl_chi_firstBreak.l1.eq_2 ..) (Ev.ite_pos (by omega) (Ev.ite_pos (by omega) (Ev.ite_pos (by omega) (Ev.ite_neg e0 (Ev.ite_neg e1 (Ev.ite_neg e2 (Ev.ite_neg e3 (Ev.bind0 hb (Ev.ite_neg hbk h1))))))))), h2⟩
      · rw [Bool.eq_false_iff.mpr hav, Bool.false_and, Bool.false_or]
        refine ⟨r, Ev.step (fun k => impl_chi_firstBreak.l1.eq_2 ..) (Ev.ite_pos (by omega) (Ev.ite_pos (by omega) (Ev.ite_pos (by omega) ?_))), h2⟩
        unfold avoid at hav
        by_cases e0 : (rd_T174 (quad n) (i : Int)).f0 = a
        · exact Ev.ite_pos e0 h1
        refine Ev.ite_neg e0 ?_
        by_cases e1 : (rd_T174 (quad n) (i : Int)).f1 = a
        · exact Ev.ite_pos e1 h1
        refine Ev.ite_neg e1 ?_
        by_cases e2 : (rd_T174 (quad n) (i : Int)).f2 = a
        · exact Ev.ite_pos e2 h1
        refine Ev.ite_neg e2 ?_
        by_cases e3 : (rd_T174 (quad n) (i : Int)).f3 = a
        · exact Ev.ite_pos e3 h1
        · exact absurd (by simp [e0, e1, e2, e3]) hav
def oth (n a : Nat) : List Int := ((List.range n).filter fun x => x != a).map fun x : Nat => (x : Int)
theorem all_oth : (List.range 8).all (fun n => (List.range n).all fun a => spec_l3Others.f 40 n a == some (oth n a)) = true := by decide +kernel
theorem l3Others_ev (n a : Nat) (hn : n ≤ 7) (ha : a < n) : Ev (fun k => spec_l3Others.f k n a) (oth n a) := by
  have h := all_oth
  rw [List.all_eq_true] at h
  have h := h n (by simp; omega)
  rw [List.all_eq_true] at h
  have h := h a (by simpa using ha)
  exact Ev.of (spec_l3Others.mono _ _) (k := 40) (by simpa using h)
theorem all_o : (List.range 8).all (fun n => (List.range n).all fun a => decide ((oth n a).length ≤ 7) && (List.range (oth n a).length).all fun i => decide (0 ≤ rd (oth n a) (i : Int) ∧ rd (oth n a) (i : Int) < n ∧ rd (oth n a) (i : Int) ≠ a) && (List.range i).all fun j => decide (rd (oth n a) (j : Int) < rd (oth n a) (i : Int))) = true := by decide +kernel
theorem oth_ok (n a : Nat) (hn : n ≤ 7) (ha : a < n) : (oth n a).length ≤ 7 ∧ ∀ i, i < (oth n a).length → (∃ u : Nat, rd (oth n a) (i : Int) = u ∧ u < n ∧ u ≠ a) ∧ ∀ j, j < i → rd (oth n a) (j : Int) < rd (oth n a) (i : Int) := by
  have h := all_o
  rw [List.all_eq_true] at h
  have h := h n (by simp; omega)
  rw [List.all_eq_true] at h
  have h := h a (by simpa using ha)
  rw [Bool.and_eq_true, decide_eq_true_eq, List.all_eq_true] at h
  refine ⟨h.1, fun i hi => ?_⟩
  have g := h.2 i (by simpa using hi)
  rw [Bool.and_eq_true, decide_eq_true_eq, List.all_eq_true] at g
  refine ⟨⟨(rd (oth n a) (i : Int)).toNat, by omega, by omega, by omega⟩, fun j hj => ?_⟩
  simpa using g.2 j (by simpa using hj)
def listQ (n a : Nat) : List Q4 :=
  ((List.range (oth n a).length).drop 0).flatMap fun b : Nat => ((List.range (oth n a).length).drop (b + 1)).flatMap fun c : Nat => ((List.range (oth n a).length).drop (c + 1)).flatMap fun d : Nat => ((List.range (oth n a).length).drop (d + 1)).map fun e : Nat =>
    (⟨rd (oth n a) (b : Int), rd (oth n a) (c : Int), rd (oth n a) (d : Int), rd (oth n a) (e : Int)⟩ : Q4)
def tup (q : Q4) : Int × Int × Int × Int := (q.f0, q.f1, q.f2, q.f3)
def untup (q : Int × Int × Int × Int) : Q4 := ⟨q.1, q.2.1, q.2.2.1, q.2.2.2⟩
theorem untup_map (l : List Q4) : (l.map tup).map untup = l := by
  rw [List.map_map]
  exact List.map_id' l
theorem all_list : (List.range 8).all (fun n => (List.range n).all fun a => (listQ n a).map tup == ((quad n).filter (avoid a)).map tup) = true := by decide +kernel
theorem listQ_eq (n a : Nat) (hn : n ≤ 7) (ha : a < n) : listQ n a = (quad n).filter (avoid a) := by
  have h := all_list
  rw [List.all_eq_true] at h
  have h := h n (by simp; omega)
  rw [List.all_eq_true] at h
  have h := h a (by simpa using ha)
  have h := congrArg (List.map untup) (eq_of_beq h)
  rwa [untup_map, untup_map] at h
section
variable (n : Nat) (s : ByteArray) (a : Nat)
def b4 (b c d e : Nat) : Bool := brk n s a (rd (oth n a) (b : Int)) (rd (oth n a) (c : Int)) (rd (oth n a) (d : Int)) (rd (oth n a) (e : Int))
def b3 (b c d : Nat) : Bool := ((List.range (oth n a).length).drop (d + 1)).any (b4 n s a b c d)
def b2 (b c : Nat) : Bool := ((List.range (oth n a).length).drop (c + 1)).any (b3 n s a b c)
def b1 (b : Nat) : Bool := ((List.range (oth n a).length).drop (b + 1)).any (b2 n s a b)
end
theorem b1_eq (n : Nat) (s : ByteArray) (a : Nat) (hn : n ≤ 7) (ha : a < n) : (List.range (oth n a).length).any (b1 n s a) = anyA n s a := by
  unfold anyA
  rw [← List.any_filter, ← listQ_eq n a hn ha]
  unfold listQ
  rw [List.drop_zero, List.any_flatMap]
  simp only [List.any_flatMap, List.any_map]
  rfl
theorem spec_first_ev (n : Nat) (hn : n ≤ 7) (s : ByteArray) (hA : isS n s = true) : ∃ r, Ev (fun k => spec_FirstBreak.f k n s) r ∧ r.isEmpty = !anyB n s := by
  have hS := spec_AreSigns_ev n s
  rw [hA] at hS
  obtain ⟨_, _, hs, _⟩ := isS_bounds hA
  rw [Int.toNat_natCast] at hs
  unfold spec_FirstBreak.f
  have key := loopE (fun a k => spec_FirstBreak.l0 k a n s) n (anyA n s) false 0 (by omega) ?_ ?_
  · simpa [anyB] using key
  · exact ⟨[], Ev.step (fun k => spec_FirstBreak.l0.eq_2 ..) (Ev.ite_neg (by omega) (Ev.step (fun k => spec_FirstBreak.j1.eq_2 ..) (Ev.ite_neg (by simp) (Ev.now _)))), rfl⟩
  · intro a _ ha h0
    rw [Bool.or_false] at h0 ⊢
    obtain ⟨ho, hok⟩ := oth_ok n a hn ha
    rw [← b1_eq n s a hn ha]
    have key1 := loopE (fun b k => spec_FirstBreak.l1 k a (oth n a) b n s) (oth n a).length (b1 n s a) (((List.range n).drop (a + 1)).any (anyA n s)) 0 (by omega) ?_ ?_
    · obtain ⟨r, h1, h2⟩ := key1
      rw [List.drop_zero] at h2
      exact ⟨r, Ev.step (fun k => spec_FirstBreak.l0.eq_2 ..) (Ev.ite_pos (by omega) (Ev.bind hS (Ev.step (fun k => spec_FirstBreak.j1.eq_2 ..) (Ev.ite_pos rfl (Ev.bind (l3Others_ev n a hn ha) h1))))), h2⟩
    · obtain ⟨r, h1, h2⟩ := h0
      refine ⟨r, Ev.step (fun k => spec_FirstBreak.l1.eq_2 ..) (Ev.ite_neg (by omega) ?_), h2⟩
      rw [wrap_nat a (by omega)]
      exact h1
    · intro b _ hb h1
      have key2 := loopE (fun c k => spec_FirstBreak.l2 k a (oth n a) b c n s) (oth n a).length (b2 n s a b) (((List.range (oth n a).length).drop (b + 1)).any (b1 n s a) || ((List.range n).drop (a + 1)).any (anyA n s)) (b + 1) (by omega) ?_ ?_
      · obtain ⟨r, g1, g2⟩ := key2
        refine ⟨r, Ev.step (fun k => spec_FirstBreak.l1.eq_2 ..) (Ev.ite_pos (by omega) ?_), g2⟩
        rw [wrap_nat b (by omega)]
        exact g1
      · obtain ⟨r, g1, g2⟩ := h1
        refine ⟨r, Ev.step (fun k => spec_FirstBreak.l2.eq_2 ..) (Ev.ite_neg (by omega) ?_), g2⟩
        rw [wrap_nat b (by omega)]
        exact g1
      · intro c hbc hc h2
        have key3 := loopE (fun d k => spec_FirstBreak.l3 k a (oth n a) b c d n s) (oth n a).length (b3 n s a b c) (((List.range (oth n a).length).drop (c + 1)).any (b2 n s a b) || (((List.range (oth n a).length).drop (b + 1)).any (b1 n s a) || ((List.range n).drop (a + 1)).any (anyA n s))) (c + 1) (by omega) ?_ ?_
        · obtain ⟨r, g1, g2⟩ := key3
          refine ⟨r, Ev.step (fun k => spec_FirstBreak.l2.eq_2 ..) (Ev.ite_pos (by omega) ?_), g2⟩
          rw [wrap_nat c (by omega)]
          exact g1
        · obtain ⟨r, g1, g2⟩ := h2
          refine ⟨r, Ev.step (fun k => spec_FirstBreak.l3.eq_2 ..) (Ev.ite_neg (by omega) ?_), g2⟩
          rw [wrap_nat c (by omega)]
          exact g1
        · intro d hcd hd h3
          have key4 := loopE (fun e k => spec_FirstBreak.l4 k a (oth n a) b c d e n s) (oth n a).length (b4 n s a b c d) (((List.range (oth n a).length).drop (d + 1)).any (b3 n s a b c) || (((List.range (oth n a).length).drop (c + 1)).any (b2 n s a b) || (((List.range (oth n a).length).drop (b + 1)).any (b1 n s a) || ((List.range n).drop (a + 1)).any (anyA n s)))) (d + 1) (by omega) ?_ ?_
          · obtain ⟨r, g1, g2⟩ := key4
            refine ⟨r, Ev.step (fun k => spec_FirstBreak.l3.eq_2 ..) (Ev.ite_pos (by omega) ?_), g2⟩
            rw [wrap_nat d (by omega)]
            exact g1
          · obtain ⟨r, g1, g2⟩ := h3
            refine ⟨r, Ev.step (fun k => spec_FirstBreak.l4.eq_2 ..) (Ev.ite_neg (by omega) ?_), g2⟩
            rw [wrap_nat d (by omega)]
            exact g1
          · intro e hde he h4
            have hord : b < c ∧ c < d ∧ d < e := ⟨by omega, by omega, by omega⟩
            obtain ⟨⟨ub, eb, lb, nb⟩, _⟩ := hok b hb
            obtain ⟨⟨uc, ec, lc, nc⟩, oc⟩ := hok c hc
            obtain ⟨⟨ud, ed, ld, nd⟩, od⟩ := hok d hd
            obtain ⟨⟨ue, ee, le, ne⟩, oe⟩ := hok e he
            have kb := oc b hord.1
            have kc := od c hord.2.1
            have kd := oe d hord.2.2
            rw [eb, ec] at kb
            rw [ec, ed] at kc
            rw [ed, ee] at kd
            have hbr : Ev (fun k => spec_l4Breaks.f k n s a (rd (oth n a) (b : Int)) (rd (oth n a) (c : Int)) (rd (oth n a) (d : Int)) (rd (oth n a) (e : Int))) (b4 n s a b c d e) := by
              unfold b4
              rw [eb, ec, ed, ee]
              exact l4Breaks_ev n hn s hs a ub uc ud ue ha lb lc ld le (Ne.symm nb) (Ne.symm nc) (Ne.symm nd) (Ne.symm ne) (by omega) (by omega) (by omega)
            obtain ⟨r, g1, g2⟩ := h4
            rw [← wrap_nat e (by omega)] at g1
            by_cases hbk : b4 n s a b c d e = true
            · rw [hbk] at hbr
              rw [hbk, Bool.true_or]
              exact ⟨_, Ev.step (fun k => spec_FirstBreak.l4.eq_2 ..) (Ev.ite_pos (by omega) (Ev.ite_pos (by omega) (Ev.ite_pos (by omega) (Ev.ite_pos (by omega) (Ev.ite_pos (by omega) (Ev.ite_pos (by omega) (Ev.ite_pos (by omega) (Ev.ite_pos (by omega) (Ev.bind hbr (Ev.ite_pos rfl (Ev.now _))))))))))), rfl⟩
            · rw [Bool.eq_false_iff.mpr hbk] at hbr
              rw [Bool.eq_false_iff.mpr hbk, Bool.false_or]
              exact ⟨r, Ev.step (fun k => spec_FirstBreak.l4.eq_2 ..) (Ev.ite_pos (by omega) (Ev.ite_pos (by omega) (Ev.ite_pos (by omega) (Ev.ite_pos (by omega) (Ev.ite_pos (by omega) (Ev.ite_pos (by omega) (Ev.ite_pos (by omega) (Ev.ite_pos (by omega) (Ev.bind hbr (Ev.ite_neg (by simp) g1)))))))))), g2⟩
def isM (n : Int) (s : ByteArray) : Bool := isS n s && !anyB n.toNat s
theorem len_empty (r : List Int) : ((r.length : Int) = 0) ↔ r.isEmpty = true := by
  rw [List.isEmpty_iff, ← List.length_eq_zero_iff]
  omega
theorem spec_IsMatroid_ev (n : Int) (s : ByteArray) : Ev (fun k => spec_IsMatroid.f k n s) (isM n s) := by
  have hS := spec_AreSigns_ev n s
  unfold spec_IsMatroid.f isM
  cases hA : isS n s with
  | false =>
    rw [hA] at hS
    exact Ev.bind hS (Ev.ite_neg (by simp) (Ev.now _))
  | true =>
    rw [hA] at hS
    obtain ⟨h3, h7, _, _⟩ := isS_bounds hA
    obtain ⟨n, rfl⟩ := Int.eq_ofNat_of_zero_le (show 0 ≤ n by omega)
    obtain ⟨r, h1, h2⟩ := spec_first_ev n (by omega) s hA
    rw [Int.toNat_natCast, Bool.true_and, ← h2]
    refine Ev.bind hS (Ev.ite_pos rfl (Ev.bind h1 (Ev.const (congrArg some ?_))))
    rw [Bool.eq_iff_iff, beq_iff_eq]
    exact len_empty r
theorem impl_IsMatroid_ev (n : Int) (s : ByteArray) : Ev (fun k => impl_IsMatroid.f k n s) (isM n s) := by
  have hS := impl_AreSigns_ev n s
  unfold impl_IsMatroid.f isM
  cases hA : isS n s with
  | false =>
    rw [hA] at hS
    exact Ev.bind hS (Ev.ite_neg (by simp) (Ev.now _))
  | true =>
    rw [hA] at hS
    obtain ⟨h3, h7, hs, _⟩ := isS_bounds hA
    obtain ⟨n, rfl⟩ := Int.eq_ofNat_of_zero_le (show 0 ≤ n by omega)
    rw [Int.toNat_natCast] at hs
    obtain ⟨r, h1, h2⟩ := impl_first_ev n (by omega) s
    rw [Int.toNat_natCast, Bool.true_and, ← h2]
    have hF : Ev (fun k => impl_FirstBreak.f k n s) r := by
      unfold impl_FirstBreak.f
      exact Ev.bind hS (Ev.ite_pos rfl (Ev.bind (tableOf_ev n (by omega) s hs) (Ev.bind h1 (Ev.now _))))
    refine Ev.bind hS (Ev.ite_pos rfl (Ev.bind hF ?_))
    cases he : r.isEmpty with
    | true => exact Ev.ite_pos ((len_empty r).mpr he) (Ev.now _)
    | false => exact Ev.ite_neg (fun h => by rw [(len_empty r).mp h] at he; cases he) (Ev.now _)
def byteS (v : Int) : ByteArray := if v > 0 then ⟨#[43]⟩ else ⟨#[45]⟩
def circT (p q r t : Int) : ByteArray := (((⟨#[43]⟩ : ByteArray) ++ byteS (wrap64 ((wrap64 (-p)) * q))) ++ byteS (wrap64 (p * r))) ++ byteS (wrap64 ((wrap64 (-p)) * t))
theorem l3Byte_eq (v : Int) : spec_l3Byte.f v = some (byteS v) := by
  unfold spec_l3Byte.f byteS
  by_cases h : v > 0
  · rw [if_pos h, if_pos h]
  · rw [if_neg h, if_neg h]
theorem byteS_size (v : Int) : (byteS v).size = 1 := by
  unfold byteS
  by_cases h : v > 0
  · rw [if_pos h]; rfl
  · rw [if_neg h]; rfl
def pm1 : List Int := [1, -1]
theorem all_circ : pm1.all (fun p => pm1.all fun q => pm1.all fun r => pm1.all fun t => (impl_chi_circuit.l0 12 [] [p, wrap64 (-q), r, wrap64 (-t)] 4 0).map (fun b => b.data.toList) == some (circT p q r t).data.toList) = true := by decide +kernel
theorem circ_eq (p q r t : Int) (hp : p = 1 ∨ p = -1) (hq : q = 1 ∨ q = -1) (hr : r = 1 ∨ r = -1) (ht : t = 1 ∨ t = -1) : impl_chi_circuit.l0 12 [] [p, wrap64 (-q), r, wrap64 (-t)] 4 0 = some (circT p q r t) := by
  have h := all_circ
  rw [List.all_eq_true] at h
  have h := h p (by rcases hp with rfl | rfl <;> decide)
  rw [List.all_eq_true] at h
  have h := h q (by rcases hq with rfl | rfl <;> decide)
  rw [List.all_eq_true] at h
  have h := h r (by rcases hr with rfl | rfl <;> decide)
  rw [List.all_eq_true] at h
  have h := eq_of_beq (h t (by rcases ht with rfl | rfl <;> decide))
  obtain ⟨b, h1, h2⟩ := Option.map_eq_some_iff.mp h
  rw [h1]
  congr 1
  apply ByteArray.ext
  exact Array.ext' h2
theorem impl_circuit_ev (n : Nat) (hn : n ≤ 7) (s : ByteArray) (a b c d : Nat) (hd : d < n) (hab : a < b) (hbc : b < c) (hcd : c < d) :
    Ev (fun k => impl_chi_circuit.f k (tab n s) a b c d) (circT (sg n s b c d) (sg n s a c d) (sg n s a b d) (sg n s a b c)) := by
  have hl := tab_length n s
  unfold impl_chi_circuit.f
  refine Ev.ite_pos (by omega) (Ev.ite_pos (by omega) (Ev.ite_pos (by omega) (Ev.ite_pos (by omega) (Ev.ite_pos (by omega) (Ev.ite_pos (by omega) (Ev.ite_pos (by omega) (Ev.ite_pos (by omega) (Ev.ite_pos (by omega) (Ev.bind0 rfl ?_)))))))))
  rw [tab_at n hn s b c d (by omega) (by omega) (by omega), tab_at n hn s a c d (by omega) (by omega) (by omega), tab_at n hn s a b d (by omega) (by omega) (by omega), tab_at n hn s a b c (by omega) (by omega) (by omega)]
  exact Ev.of (fun k => (impl_chi_circuit.mono_l k) _ _ _ _) (k := 12) (circ_eq _ _ _ _ (sg_pm n hn s b c d (by omega) (by omega) (by omega) (by omega) (by omega) (by omega)) (sg_pm n hn s a c d (by omega) (by omega) (by omega) (by omega) (by omega) (by omega)) (sg_pm n hn s a b d (by omega) (by omega) (by omega) (by omega) (by omega) (by omega)) (sg_pm n hn s a b c (by omega) (by omega) (by omega) (by omega) (by omega) (by omega)))
theorem spec_circuit_ev (n : Nat) (hn : n ≤ 7) (s : ByteArray) (hs : s.size = (tri n).length) (a b c d : Nat) (hd : d < n) (hab : a < b) (hbc : b < c) (hcd : c < d) :
    Ev (fun k => spec_l4Circuit.f k n s a b c d) (circT (sg n s b c d) (sg n s a c d) (sg n s a b d) (sg n s a b c)) := by
  unfold spec_l4Circuit.f circT
  refine Ev.bind (l3At_ev n hn s hs b c d (by omega) (by omega) (by omega) (by omega) (by omega) (by omega)) (Ev.bind (l3At_ev n hn s hs a c d (by omega) (by omega) (by omega) (by omega) (by omega) (by omega)) (Ev.bind0 (l3Byte_eq _) (Ev.ite_pos (by rw [byteS_size]; omega) ?_)))
  refine Ev.bind (l3At_ev n hn s hs a b d (by omega) (by omega) (by omega) (by omega) (by omega) (by omega)) (Ev.bind0 (l3Byte_eq _) (Ev.ite_pos (by rw [ByteArray.size_append, byteS_size, byteS_size]; decide) ?_))
  exact Ev.bind (l3At_ev n hn s hs a b c (by omega) (by omega) (by omega) (by omega) (by omega) (by omega)) (Ev.bind0 (l3Byte_eq _) (Ev.ite_pos (by rw [ByteArray.size_append, ByteArray.size_append, byteS_size, byteS_size, byteS_size]; decide) (Ev.now _)))
def listC (n : Nat) : List Q4 :=
  ((List.range n).drop 0).flatMap fun a : Nat => ((List.range n).drop (a + 1)).flatMap fun b : Nat => ((List.range n).drop (b + 1)).flatMap fun c : Nat => ((List.range n).drop (c + 1)).map fun d : Nat => (⟨a, b, c, d⟩ : Q4)
theorem all_c : (List.range 8).all (fun n => (listC n).map tup == (quad n).map tup) = true := by decide +kernel
theorem listC_eq (n : Nat) (hn : n ≤ 7) : listC n = quad n := by
  have h := all_c
  rw [List.all_eq_true] at h
  have h := congrArg (List.map untup) (eq_of_beq (h n (by simp; omega)))
  rwa [untup_map, untup_map] at h
theorem loopA (g : Nat → Nat → Option Bool) (m : Nat) (P : Nat → Bool) (X : Bool) (lo : Nat) (hlo : lo ≤ m) (hend : Ev (g m) X)
    (hstep : ∀ i, lo ≤ i → i < m → Ev (g (i + 1)) (((List.range m).drop (i + 1)).all P && X) → Ev (g i) (P i && (((List.range m).drop (i + 1)).all P && X))) : Ev (g lo) (((List.range m).drop lo).all P && X) := by
  have key : ∀ d i, lo ≤ i → i + d = m → Ev (g i) (((List.range m).drop i).all P && X) := by
    intro d
    induction d with
    | zero =>
      intro i _ hi
      obtain rfl : i = m := by omega
      rw [List.drop_of_length_le (by simp)]
      simpa using hend
    | succ d ih =>
      intro i hl hi
      rw [range_drop' m i (by omega), List.all_cons, Bool.and_assoc]
      exact hstep i hl (by omega) (ih (i + 1) (by omega) (by omega))
  exact key (m - lo) lo (Nat.le_refl _) (by omega)
def mixed (n : Nat) (s : ByteArray) (a b c d : Int) : Bool := !decide ((circT (sg n s b c d) (sg n s a c d) (sg n s a b d) (sg n s a b c)).toList = ([43, 43, 43, 43] : List UInt8))
def mixQ (n : Nat) (s : ByteArray) (q : Q4) : Bool := mixed n s q.f0 q.f1 q.f2 q.f3
def acyT (n : Nat) (s : ByteArray) : Bool := (quad n).all (mixQ n s)
theorem impl_acy_ev (n : Nat) (hn : n ≤ 7) (s : ByteArray) : Ev (fun k => impl_chi_isAcyclic.f k (tab n s)) (acyT n s) := by
  have hl := tab_length n s
  obtain ⟨hq, hq1⟩ := quad_ok n hn
  rw [List.all_eq_true] at hq
  unfold impl_chi_isAcyclic.f acyT
  rw [tab_n]
  refine Ev.ite_pos (by omega) (Ev.bind (quadsOf_ev n hn) ?_)
  have key := Ev.loop_to (fun i k => impl_chi_isAcyclic.l0 k (tab n s) (quad n) (quad n).length i) (quad n).length (fun i => ((quad n).drop i).all (mixQ n s)) ?_ ?_ 0 (by omega)
  · simpa using key
  · refine Ev.step (fun k => impl_chi_isAcyclic.l0.eq_2 ..) (Ev.ite_neg (by omega) (Ev.const ?_))
    rw [List.drop_of_length_le (by omega)]
    rfl
  · intro i hi ih
    have hr : rd_T174 (quad n) (i : Int) = (quad n)[i] := by
      unfold rd_T174
      rw [Int.toNat_natCast, getD_lt _ _ _ hi]
    have ht := hq _ (List.getElem_mem hi)
    rw [List.drop_eq_getElem_cons hi, List.all_cons]
    refine Ev.step (fun k => impl_chi_isAcyclic.l0.eq_2 ..) (Ev.ite_pos (by omega) (Ev.ite_pos (by omega) (Ev.ite_pos (by omega) ?_)))
    rw [hr, wrap_nat i (by omega)]
    generalize (quad n)[i] = q at ht ⊢
    obtain ⟨a, b, c, d⟩ := q
    unfold okQ at ht
    rw [decide_eq_true_eq] at ht
    dsimp only at ht
    obtain ⟨a, rfl⟩ := Int.eq_ofNat_of_zero_le ht.1
    obtain ⟨b, rfl⟩ := Int.eq_ofNat_of_zero_le (show 0 ≤ b by omega)
    obtain ⟨c, rfl⟩ := Int.eq_ofNat_of_zero_le (show 0 ≤ c by omega)
    obtain ⟨d, rfl⟩ := Int.eq_ofNat_of_zero_le (show 0 ≤ d by omega)
    refine Ev.bind (impl_circuit_ev n hn s a b c d (by omega) (by omega) (by omega) (by omega)) ?_
    rw [show mixQ n s (⟨a, b, c, d⟩ : Q4) = !decide ((circT (sg n s b c d) (sg n s a c d) (sg n s a b d) (sg n s a b c)).toList = ([43, 43, 43, 43] : List UInt8)) from rfl]
    by_cases h : (circT (sg n s b c d) (sg n s a c d) (sg n s a b d) (sg n s a b c)).toList = ([43, 43, 43, 43] : List UInt8)
    · rw [decide_eq_true h]
      exact Ev.ite_pos h (Ev.now _)
    · rw [decide_eq_false h]
      exact Ev.ite_neg h (by simpa using ih)
section
variable (n : Nat) (s : ByteArray)
def m4 (a b c d : Nat) : Bool := mixed n s a b c d
def m3 (a b c : Nat) : Bool := ((List.range n).drop (c + 1)).all (m4 n s a b c)
def m2 (a b : Nat) : Bool := ((List.range n).drop (b + 1)).all (m3 n s a b)
def m1 (a : Nat) : Bool := ((List.range n).drop (a + 1)).all (m2 n s a)
end
theorem acy_eq (n : Nat) (hn : n ≤ 7) (s : ByteArray) : (List.range n).all (m1 n s) = acyT n s := by
  unfold acyT
  rw [← listC_eq n hn]
  unfold listC
  rw [List.drop_zero, List.all_flatMap]
  simp only [List.all_flatMap, List.all_map]
  rfl
theorem spec_acy_ev (n : Nat) (hn : n ≤ 7) (s : ByteArray) (hs : s.size = (tri n).length) : Ev (fun k => spec_l4Acyclic.f k n s) (acyT n s) := by
  rw [← acy_eq n hn s]
  unfold spec_l4Acyclic.f
  have key := loopA (fun a k => spec_l4Acyclic.l0 k a n s) n (m1 n s) true 0 (by omega) ?_ ?_
  · simpa using key
  · exact Ev.step (fun k => spec_l4Acyclic.l0.eq_2 ..) (Ev.ite_neg (by omega) (Ev.now _))
  · intro a _ ha h0
    have key1 := loopA (fun b k => spec_l4Acyclic.l1 k a b n s) n (m2 n s a) (((List.range n).drop (a + 1)).all (m1 n s) && true) (a + 1) (by omega) ?_ ?_
    · refine Ev.step (fun k => spec_l4Acyclic.l0.eq_2 ..) (Ev.ite_pos (by omega) ?_)
      rw [wrap_nat a (by omega)]
      exact key1
    · refine Ev.step (fun k => spec_l4Acyclic.l1.eq_2 ..) (Ev.ite_neg (by omega) ?_)
      rw [wrap_nat a (by omega)]
      exact h0
    · intro b hab hb h1
      have key2 := loopA (fun c k => spec_l4Acyclic.l2 k a b c n s) n (m3 n s a b) (((List.range n).drop (b + 1)).all (m2 n s a) && (((List.range n).drop (a + 1)).all (m1 n s) && true)) (b + 1) (by omega) ?_ ?_
      · refine Ev.step (fun k => spec_l4Acyclic.l1.eq_2 ..) (Ev.ite_pos (by omega) ?_)
        rw [wrap_nat b (by omega)]
        exact key2
      · refine Ev.step (fun k => spec_l4Acyclic.l2.eq_2 ..) (Ev.ite_neg (by omega) ?_)
        rw [wrap_nat b (by omega)]
        exact h1
      · intro c hbc hc h2
        have key3 := loopA (fun d k => spec_l4Acyclic.l3 k a b c d n s) n (m4 n s a b c) (((List.range n).drop (c + 1)).all (m3 n s a b) && (((List.range n).drop (b + 1)).all (m2 n s a) && (((List.range n).drop (a + 1)).all (m1 n s) && true))) (c + 1) (by omega) ?_ ?_
        · refine Ev.step (fun k => spec_l4Acyclic.l2.eq_2 ..) (Ev.ite_pos (by omega) ?_)
          rw [wrap_nat c (by omega)]
          exact key3
        · refine Ev.step (fun k => spec_l4Acyclic.l3.eq_2 ..) (Ev.ite_neg (by omega) ?_)
          rw [wrap_nat c (by omega)]
          exact h2
        · intro d hcd hd h3
          refine Ev.step (fun k => spec_l4Acyclic.l3.eq_2 ..) (Ev.ite_pos (by omega) (Ev.bind (spec_circuit_ev n hn s hs a b c d (by omega) (by omega) (by omega) (by omega)) ?_))
          rw [show m4 n s a b c d = !decide ((circT (sg n s b c d) (sg n s a c d) (sg n s a b d) (sg n s a b c)).toList = ([43, 43, 43, 43] : List UInt8)) from rfl, wrap_nat d (by omega)]
          by_cases h : (circT (sg n s b c d) (sg n s a c d) (sg n s a b d) (sg n s a b c)).toList = ([43, 43, 43, 43] : List UInt8)
          · rw [decide_eq_true h]
            exact Ev.ite_pos h (Ev.now _)
          · rw [decide_eq_false h]
            exact Ev.ite_neg h (by simpa using h3)
def isA (n : Int) (s : ByteArray) : Bool := isM n s && acyT n.toNat s
theorem isM_S {n : Int} {s : ByteArray} (h : isM n s = true) : isS n s = true := by
  unfold isM at h
  rw [Bool.and_eq_true] at h
  exact h.1
theorem spec_IsAcyclic_ev (n : Int) (s : ByteArray) : Ev (fun k => spec_IsAcyclic.f k n s) (isA n s) := by
  unfold spec_IsAcyclic.f isA
  refine Ev.bind (spec_IsMatroid_ev n s) ?_
  cases hM : isM n s with
  | false => exact Ev.ite_neg (by simp) (Ev.now _)
  | true =>
    obtain ⟨h3, h7, hs, _⟩ := isS_bounds (isM_S hM)
    obtain ⟨n, rfl⟩ := Int.eq_ofNat_of_zero_le (show 0 ≤ n by omega)
    rw [Int.toNat_natCast] at hs ⊢
    exact Ev.ite_pos rfl (Ev.bind (spec_acy_ev n (by omega) s hs) (Ev.now _))
theorem impl_IsAcyclic_ev (n : Int) (s : ByteArray) : Ev (fun k => impl_IsAcyclic.f k n s) (isA n s) := by
  unfold impl_IsAcyclic.f isA
  refine Ev.bind (impl_IsMatroid_ev n s) ?_
  cases hM : isM n s with
  | false => exact Ev.ite_neg (by simp) (Ev.now _)
  | true =>
    obtain ⟨h3, h7, hs, _⟩ := isS_bounds (isM_S hM)
    obtain ⟨n, rfl⟩ := Int.eq_ofNat_of_zero_le (show 0 ≤ n by omega)
    rw [Int.toNat_natCast] at hs ⊢
    exact Ev.ite_pos rfl (Ev.bind (tableOf_ev n (by omega) s hs) (Ev.bind (impl_acy_ev n (by omega) s) (Ev.now _)))
def cnt (n : Nat) (s : ByteArray) (i k : Nat) : Nat → Nat
  | 0 => 0
  | m + 1 => cnt n s i k m + if sg n s i k m = 1 then 1 else 0
theorem cnt_succ (n : Nat) (s : ByteArray) (i k m : Nat) : cnt n s i k (m + 1) = cnt n s i k m + if sg n s i k m = 1 then 1 else 0 := rfl
theorem cnt_le (n : Nat) (s : ByteArray) (i k m : Nat) : cnt n s i k m ≤ m := by
  induction m with
  | zero => exact Nat.le_refl _
  | succ m ih => unfold cnt; split <;> omega
theorem impl_left_ev (n : Nat) (hn : n ≤ 7) (s : ByteArray) (i k : Nat) (hi : i < n) (hk : k < n) : Ev (fun K => impl_chi_left.f K (tab n s) i k) (cnt n s i k n : Nat) := by
  have hl := tab_length n s
  unfold impl_chi_left.f
  refine Ev.loop (fun m K => impl_chi_left.l0 K (tab n s) i k (cnt n s i k m : Nat) m) n _ ?_ ?_ 0 (by omega)
  · exact Ev.step (fun K => impl_chi_left.l0.eq_2 ..) (Ev.ite_pos (by omega) (Ev.ite_neg (by rw [tab_n]; omega) (Ev.now _)))
  · intro m hm ih
    refine Ev.step (fun K => impl_chi_left.l0.eq_2 ..) (Ev.ite_pos (by omega) (Ev.ite_pos (by rw [tab_n]; omega) (Ev.ite_pos (by omega) (Ev.ite_pos (by omega) (Ev.ite_pos (by omega) (Ev.ite_pos (by omega) (Ev.ite_pos (by omega) (Ev.ite_pos (by omega) ?_))))))))
    have hc := cnt_le n s i k m
    rw [tab_at n hn s i k m (by omega) (by omega) (by omega), wrap_nat m (by omega)]
    rw [cnt_succ] at ih
    by_cases h : sg n s i k m = 1
    · rw [if_pos h] at ih
      refine Ev.ite_pos h ?_
      rw [wrap_nat _ (by omega)]
      exact ih
    · rw [if_neg h, Nat.add_zero] at ih
      exact Ev.ite_neg h ih
theorem spec_left_ev (n : Nat) (hn : n ≤ 7) (s : ByteArray) (hs : s.size = (tri n).length) (i k : Nat) (hi : i < n) (hk : k < n) (hik : i ≠ k) : Ev (fun K => spec_l7Left.f K n s i k) (cnt n s i k n : Nat) := by
  unfold spec_l7Left.f
  refine Ev.loop (fun m K => spec_l7Left.l0 K i k (cnt n s i k m : Nat) m n s) n _ ?_ ?_ 0 (by omega)
  · exact Ev.step (fun K => spec_l7Left.l0.eq_2 ..) (Ev.ite_neg (by omega) (Ev.now _))
  · intro m hm ih
    have hc := cnt_le n s i k m
    have w0 : wrap64 ((cnt n s i k m : Int) + 0) = (cnt n s i k m : Int) := wrap_in (by omega) (by omega)
    have w1 : wrap64 ((cnt n s i k m : Int) + 1) = ((cnt n s i k m + 1 : Nat) : Int) := wrap_nat _ (by omega)
    refine Ev.step (fun K => spec_l7Left.l0.eq_2 ..) (Ev.ite_pos (by omega) ?_)
    rw [wrap_nat m (by omega)]
    rw [cnt_succ] at ih
    by_cases e1 : m = i
    · rw [if_neg (by rw [sg_same n hn s i k m (by omega) (by omega) (by omega) (by omega)]; decide), Nat.add_zero] at ih
      refine Ev.ite_pos (by omega) (Ev.bind0 (a := 0) rfl ?_)
      rw [w0]
      exact ih
    · refine Ev.ite_neg (by omega) ?_
      by_cases e2 : m = k
      · rw [if_neg (by rw [sg_same n hn s i k m (by omega) (by omega) (by omega) (by omega)]; decide), Nat.add_zero] at ih
        refine Ev.ite_pos (by omega) (Ev.bind0 (a := 0) rfl ?_)
        rw [w0]
        exact ih
      · refine Ev.ite_neg (by omega) (Ev.bind (l3At_ev n hn s hs i k m hi hk hm hik (by omega) (by omega)) ?_)
        rcases sg_pm n hn s i k m hi hk hm hik (by omega) (by omega) with h | h
        · rw [if_pos h] at ih
          rw [h]
          refine Ev.bind0 (a := 1) rfl ?_
          rw [w1]
          exact ih
        · rw [if_neg (by rw [h]; decide), Nat.add_zero] at ih
          rw [h]
          refine Ev.bind0 (a := 0) rfl ?_
          rw [w0]
          exact ih
def dep (n : Nat) (s : ByteArray) (i : Nat) : Nat → Int
  | 0 => n
  | m + 1 => if m = i then dep n s i m else mn (mn (dep n s i m) ((cnt n s i m n : Int) + 1)) ((cnt n s m i n : Int) + 1)
theorem dep_succ (n : Nat) (s : ByteArray) (i m : Nat) : dep n s i (m + 1) = if m = i then dep n s i m else mn (mn (dep n s i m) ((cnt n s i m n : Int) + 1)) ((cnt n s m i n : Int) + 1) := rfl
theorem impl_dep_ev (n : Nat) (hn : n ≤ 7) (s : ByteArray) (i : Nat) (hi : i < n) : Ev (fun K => impl_chi_depth.f K (tab n s) i) (dep n s i n) := by
  have hl := tab_length n s
  unfold impl_chi_depth.f
  rw [tab_n]
  refine Ev.ite_pos (by omega) ?_
  refine Ev.loop (fun m K => impl_chi_depth.l0 K (tab n s) i (dep n s i m) m) n _ ?_ ?_ 0 (by omega)
  · exact Ev.step (fun K => impl_chi_depth.l0.eq_2 ..) (Ev.ite_pos (by omega) (Ev.ite_neg (by rw [tab_n]; omega) (Ev.now _)))
  · intro m hm ih
    refine Ev.step (fun K => impl_chi_depth.l0.eq_2 ..) (Ev.ite_pos (by omega) (Ev.ite_pos (by rw [tab_n]; omega) ?_))
    rw [wrap_nat m (by omega)]
    rw [dep_succ] at ih
    by_cases e : m = i
    · rw [if_pos e] at ih
      exact Ev.ite_pos (by omega) ih
    · rw [if_neg e] at ih
      have c1 := cnt_le n s i m n
      have c2 := cnt_le n s m i n
      refine Ev.ite_neg (by omega) (Ev.bind (impl_left_ev n hn s i m hi hm) (Ev.bind (impl_left_ev n hn s m i hm hi) ?_))
      rw [wrap_in (n := (cnt n s i m n : Int) + 1) (by omega) (by omega), wrap_in (n := (cnt n s m i n : Int) + 1) (by omega) (by omega)]
      exact ih
theorem spec_dep_ev (n : Nat) (hn : n ≤ 7) (s : ByteArray) (hs : s.size = (tri n).length) (i : Nat) (hi : i < n) : Ev (fun K => spec_DepthOf.l0 K i n 0 n s) (dep n s i n) := by
  refine Ev.loop (fun m K => spec_DepthOf.l0 K i (dep n s i m) m n s) n _ ?_ ?_ 0 (by omega)
  · exact Ev.step (fun K => spec_DepthOf.l0.eq_2 ..) (Ev.ite_neg (by omega) (Ev.now _))
  · intro m hm ih
    refine Ev.step (fun K => spec_DepthOf.l0.eq_2 ..) (Ev.ite_pos (by omega) ?_)
    rw [wrap_nat m (by omega)]
    rw [dep_succ] at ih
    by_cases e : m = i
    · rw [if_pos e] at ih
      exact Ev.ite_pos (by omega) ih
    · rw [if_neg e] at ih
      have c1 := cnt_le n s i m n
      have c2 := cnt_le n s m i n
      refine Ev.ite_neg (by omega) (Ev.bind (spec_left_ev n hn s hs i m hi hm (by omega)) (Ev.bind (spec_left_ev n hn s hs m i hm hi e) ?_))
      have c1' : (0 : Int) ≤ (cnt n s i m n : Int) ∧ (cnt n s i m n : Int) ≤ 7 := by omega
      have c2' : (0 : Int) ≤ (cnt n s m i n : Int) ∧ (cnt n s m i n : Int) ≤ 7 := by omega
      clear c1 c2
      generalize (cnt n s i m n : Int) = a at ih c1' ⊢
      generalize (cnt n s m i n : Int) = b at ih c2' ⊢
      generalize dep n s i m = x at ih ⊢
      have hA : spec_l1Min.f a b = some (if a < b then a else b) := by
        unfold spec_l1Min.f
        split <;> rfl
      refine Ev.bind0 hA ?_
      rw [wrap_in (n := 1 + if a < b then a else b) (by split <;> omega) (by split <;> omega)]
      refine Ev.bind0 (a := mn (mn x (a + 1)) (b + 1)) ?_ ih
      unfold spec_l1Min.f mn
      (repeat' split) <;> first | rfl | (exact congrArg some (by omega)) | (exfalso; omega)
end Go.Proofs.Yteblnjoljbdjjaa.Pure
namespace Go.Proofs.Yteblnjoljbdjjaa.Pl
set_option linter.unusedSimpArgs false
set_option linter.unusedVariables false
open Go.RowKit Go.Proofs.YteblnjoljbdjjaaW.PrintWords
theorem range_dropS (n i : Nat) (h : i < n) : (List.range n).drop i = i :: (List.range n).drop (i + 1) := by
  rw [List.drop_eq_getElem_cons (by simpa using h)]
  simp
def Srch {ρ : Type} (g : Nat → Nat → Option ρ) (m : Nat) (P : Nat → Bool) (v : ρ) (lo : Nat) : Prop :=
  ∀ r, (((List.range m).drop lo).any P = true → r = v) → (((List.range m).drop lo).any P = false → Ev (g m) r) → Ev (g lo) r
theorem Srch.of {ρ : Type} (g : Nat → Nat → Option ρ) (m : Nat) (P : Nat → Bool) (v : ρ) (lo : Nat) (hlo : lo ≤ m)
    (hstep : ∀ i, lo ≤ i → i < m → ∀ r, (P i = true → r = v) → (P i = false → Ev (g (i + 1)) r) → Ev (g i) r) : Srch g m P v lo := by
  have key : ∀ d i, lo ≤ i → i + d = m → Srch g m P v i := by
    intro d
    induction d with
    | zero =>
      intro i _ hi
      obtain rfl : i = m := by omega
      intro r _ h2
      exact h2 (by rw [List.drop_of_length_le (by simp)]; rfl)
    | succ d ih =>
      intro i hl hi r h1 h2
      rw [range_dropS m i (by omega), List.any_cons] at h1 h2
      refine hstep i hl (by omega) r (fun h => h1 (by rw [h, Bool.true_or])) (fun h => ih (i + 1) (by omega) (by omega) r (fun k => h1 (by rw [k, Bool.or_true])) (fun k => h2 (by rw [h, k]; rfl)))
  exact key (m - lo) lo (Nat.le_refl _) (by omega)
theorem Ev.up {ρ : Type} {f : Int → Nat → Option ρ} {i : Nat} {r : ρ} (hi : i < 1000000) (h : Ev (f ((i + 1 : Nat) : Int)) r) : Ev (f (wrap64 ((i : Int) + 1))) r := by
  rw [wrap_nat i (by omega)]
  exact h
end Go.Proofs.Yteblnjoljbdjjaa.Pl
namespace Go.Proofs.Yteblnjoljbdjjaa.Pure
set_option linter.unusedSimpArgs false
set_option linter.unusedVariables false
open Go.RowKit Go.Proofs.YteblnjoljbdjjaaW.PrintWords Go.Proofs.Yteblnjoljbdjjaa.P Go.Proofs.Yteblnjoljbdjjaa.Pl
theorem szSigns_eqO (n : Int) (s : ByteArray) (a : Int) (h0 : 0 ≤ a) (h1 : a ≤ 1048576) (hl : s.size ≤ 9223372036854775807) : laws_szSigns.f n s a = some (if a < s.size then -1 else a - s.size) := by
  unfold laws_szSigns.f
  rw [wrap_in (by omega) (by omega)]
  by_cases h : a < (s.size : Int)
  · rw [if_pos h, if_pos (by omega)]
  · rw [if_neg h, if_neg (by omega)]
theorem isA_nat {n : Int} {s : ByteArray} (h : isA n s = true) : ∃ m : Nat, n = m ∧ 3 ≤ m ∧ m ≤ 7 ∧ s.size = (tri m).length := by
  have hM : isM n s = true := by unfold isA at h; rw [Bool.and_eq_true] at h; exact h.1
  obtain ⟨h3, h7, hs, _⟩ := isS_bounds (isM_S hM)
  obtain ⟨m, rfl⟩ := Int.eq_ofNat_of_zero_le (show 0 ≤ n by omega)
  rw [Int.toNat_natCast] at hs
  exact ⟨m, rfl, by omega, by omega, hs⟩
theorem orderOf_yes (n : Nat) (hn : n ≤ 7) (s : ByteArray) (hs : s.size = (tri n).length) (h : isA n s = true) : Ev (fun k => impl_orderOf.f k n s) (tab n s, true) := by
  have hI := impl_IsAcyclic_ev n s
  rw [h] at hI
  unfold impl_orderOf.f
  exact Ev.bind hI (Ev.ite_pos rfl (Ev.bind (tableOf_ev n hn s hs) (Ev.now _)))
theorem orderOf_no (n : Int) (s : ByteArray) (h : isA n s = false) : Ev (fun k => impl_orderOf.f k n s) ([], false) := by
  have hI := impl_IsAcyclic_ev n s
  rw [h] at hI
  unfold impl_orderOf.f
  exact Ev.bind hI (Ev.ite_neg (by simp) (Ev.now _))
theorem spec_A (n : Int) (s : ByteArray) (b : Bool) (h : isA n s = b) : Ev (fun k => spec_IsAcyclic.f k n s) b := h ▸ spec_IsAcyclic_ev n s
theorem rd_ltZ (l : List Int) (i : Nat) (h : i < l.length) : rd l (i : Int) = l[i] := by
  unfold rd
  rw [Int.toNat_natCast, getD_lt _ _ _ h]
theorem eqIntS_selfZ (l : List Int) (hl : l.length ≤ 1048576) : Ev (fun k => laws_eqIntS.f k l l) true := by
  unfold laws_eqIntS.f
  refine Ev.ite_pos rfl ?_
  refine Ev.loop (fun i k => laws_eqIntS.l0 k l l i) l.length true ?_ ?_ 0 (by omega)
  · refine Ev.step (fun k => laws_eqIntS.l0.eq_2 ..) ?_
    exact Ev.ite_neg (by omega) (Ev.now _)
  · intro i hi ih
    refine Ev.step (fun k => laws_eqIntS.l0.eq_2 ..) ?_
    refine Ev.ite_pos (by omega) (Ev.ite_pos (by omega) (Ev.ite_pos (by omega) (Ev.ite_pos rfl ?_)))
    rw [wrap_nat i (by omega)]
    exact ih
def marksF (c n : Nat) : List Int := (List.range n).map fun i => ((c + i : Nat) : Int)
theorem marksF_length (c n : Nat) : (marksF c n).length = n := by simp [marksF]
theorem rd_marksF (c n i : Nat) (h : i < n) : rd (marksF c n) (i : Int) = ((c + i : Nat) : Int) := by
  rw [rd_ltZ _ _ (by rw [marksF_length]; exact h)]
  simp [marksF]
theorem marksF_set (l : List Int) (c n i : Nat) (hl : l.length = n) (hi : i < n) : (marksF c i ++ l.drop i).set i ((c + i : Nat) : Int) = marksF c (i + 1) ++ l.drop (i + 1) := by
  have h0 : (marksF c i).length = i := marksF_length c i
  rw [List.set_append_right _ _ (by omega), h0, Nat.sub_self, List.drop_eq_getElem_cons (by omega), List.set_cons_zero]
  simp [marksF, List.range_succ]
theorem markIntS_from (l : List Int) (c : Nat) (hc : c ≤ 100000000) (hl : l.length ≤ 1048576) : Ev (fun k => laws_markIntS.f k l c) (((c + l.length : Nat) : Int), marksF c l.length) := by
  have key := Ev.loop (fun i k => laws_markIntS.l0 k (marksF c i ++ l.drop i) ((c + i : Nat) : Int) i) l.length (((c + l.length : Nat) : Int), marksF c l.length) ?_ ?_ 0 (by omega)
  · unfold laws_markIntS.f
    simpa [marksF] using key
  · refine Ev.step (fun k => laws_markIntS.l0.eq_2 ..) ?_
    refine Ev.ite_neg (by simp [marksF_length]) (Ev.const ?_)
    simp
  · intro i hi ih
    refine Ev.step (fun k => laws_markIntS.l0.eq_2 ..) ?_
    refine Ev.ite_pos (by simp [marksF_length]; omega) (Ev.ite_pos (by omega) ?_)
    rw [wrap_nat i (by omega), wrap_nat (c + i) (by omega), Int.toNat_natCast, marksF_set l c l.length i rfl hi]
    exact ih
theorem heldIntS_from (c n : Nat) (hc : c ≤ 100000000) (hl : n ≤ 1048576) : Ev (fun k => laws_heldIntS.f k (marksF c n) c) ((c + n : Nat) : Int) := by
  have key := Ev.loop (fun i k => laws_heldIntS.l0 k (marksF c n) ((c + i : Nat) : Int) i) n ((c + n : Nat) : Int) ?_ ?_ 0 (by omega)
  · exact key
  · refine Ev.step (fun k => laws_heldIntS.l0.eq_2 ..) ?_
    exact Ev.ite_neg (by simp [marksF_length]) (Ev.now _)
  · intro i hi ih
    refine Ev.step (fun k => laws_heldIntS.l0.eq_2 ..) ?_
    refine Ev.ite_pos (by simp [marksF_length]; omega) (Ev.ite_pos (by omega) (Ev.ite_pos (rd_marksF c n i hi) ?_))
    rw [wrap_nat i (by omega), wrap_nat (c + i) (by omega)]
    exact ih
end Go.Proofs.Yteblnjoljbdjjaa.Pure
namespace Go.Proofs.Yteblnjoljbdjjaa.Pure
set_option linter.unusedSimpArgs false
set_option linter.unusedVariables false
open Go.RowKit Go.Proofs.YteblnjoljbdjjaaW.PrintWords Go.Proofs.Yteblnjoljbdjjaa.P Go.Proofs.Yteblnjoljbdjjaa.Pl Go.Proofs.Yteblnjoljbdjjaa.Rk
def bst (n : Nat) (s : ByteArray) : Nat → Int
  | 0 => 0
  | i + 1 => mx (bst n s i) (dep n s i n)
theorem bst_le (n : Nat) (s : ByteArray) : ∀ i j, j < i → dep n s j n ≤ bst n s i
  | 0, j, h => absurd h (by omega)
  | i + 1, j, h => by
    unfold bst mx
    rcases Nat.lt_or_ge j i with hj | hj
    · have := bst_le n s i j hj
      split <;> omega
    · obtain rfl : j = i := by omega
      split <;> omega
def outD (n : Nat) (s : ByteArray) (i : Nat) : List Int := ((List.range i).filter fun j => decide (dep n s j n = bst n s i)).map fun j : Nat => (j : Int)
theorem outD_len (n : Nat) (s : ByteArray) (i : Nat) : (outD n s i).length ≤ i := by
  unfold outD
  rw [List.length_map]
  refine Nat.le_trans (List.length_filter_le _ _) ?_
  simp
theorem outD_gt (n : Nat) (s : ByteArray) (i : Nat) (h : dep n s i n > bst n s i) : outD n s (i + 1) = [(i : Int)] := by
  have e : bst n s (i + 1) = dep n s i n := by rw [bst, mx, if_pos (by omega)]
  unfold outD
  rw [e, List.range_succ, List.filter_append]
  have h0 : (List.range i).filter (fun j => decide (dep n s j n = dep n s i n)) = [] := by
    rw [List.filter_eq_nil_iff]
    intro j hj
    have := bst_le n s i j (List.mem_range.1 hj)
    rw [decide_eq_true_eq]
    omega
  rw [h0]
  simp
theorem outD_eq (n : Nat) (s : ByteArray) (i : Nat) (h : dep n s i n = bst n s i) : outD n s (i + 1) = outD n s i ++ [(i : Int)] := by
  have e : bst n s (i + 1) = bst n s i := by rw [bst, mx, if_neg (by omega)]
  unfold outD
  rw [e, List.range_succ, List.filter_append]
  simp [h]
theorem outD_lt (n : Nat) (s : ByteArray) (i : Nat) (h : dep n s i n < bst n s i) : outD n s (i + 1) = outD n s i := by
  have e : bst n s (i + 1) = bst n s i := by rw [bst, mx, if_neg (by omega)]
  have h2 : ¬ dep n s i n = bst n s i := by omega
  unfold outD
  rw [e, List.range_succ, List.filter_append]
  simp [h2]
theorem bst_eq (n : Nat) (s : ByteArray) (i : Nat) (h : ¬ dep n s i n > bst n s i) : bst n s (i + 1) = bst n s i := by rw [bst, mx, if_neg (by omega)]
theorem spec_DepthOf_good (m j : Nat) (s : ByteArray) (hj : j < m) (h7 : m ≤ 7) (hs : s.size = (tri m).length) (hA : isA m s = true) : Ev (fun k => spec_DepthOf.f k m s j) (dep m s j m) := by
  unfold spec_DepthOf.f
  exact Ev.bind (spec_A _ s _ hA) (Ev.ite_pos rfl (Ev.bind0 (a := true) (by rw [wrap_in (by omega) (by omega), l1In_is]; exact congrArg some (decide_eq_true (by omega))) (Ev.step (fun k => spec_DepthOf.j0.eq_2 ..) (Ev.ite_neg (by simp) (spec_dep_ev m h7 s hs j hj)))))
theorem spec_deep (m : Nat) (s : ByteArray) (h7 : m ≤ 7) (hs : s.size = (tri m).length) (hA : isA m s = true) : ∀ d i, i + d = m → Ev (fun k => spec_DeepestOf.l0 k (outD m s i) (bst m s i) (i : Nat) m s) (outD m s m)
  | 0, i, hi => by
    obtain rfl : i = m := by omega
    refine Ev.step (fun k => spec_DeepestOf.l0.eq_2 ..) (Ev.ite_neg (by omega) ?_)
    exact Ev.step (fun k => spec_DeepestOf.j1.eq_2 ..) (Ev.ite_neg (by simp) (Ev.now _))
  | d + 1, i, hi => by
    have ih := spec_deep m s h7 hs hA d (i + 1) (by omega)
    have hl := outD_len m s i
    refine Ev.step (fun k => spec_DeepestOf.l0.eq_2 ..) (Ev.ite_pos (by omega) (Ev.bind (spec_A _ s _ hA) ?_))
    refine Ev.step (fun k => spec_DeepestOf.j1.eq_2 ..) (Ev.ite_pos rfl (Ev.bind (spec_DepthOf_good m i s (by omega) h7 hs hA) ?_))
    rw [wrap_nat i (by omega)]
    by_cases h1 : dep m s i m > bst m s i
    · rw [outD_gt m s i h1, show bst m s (i + 1) = dep m s i m by rw [bst, mx, if_pos (by omega)]] at ih
      exact Ev.ite_pos h1 (Ev.bind0 rfl (Ev.ite_pos (by simp) ih))
    · rw [bst_eq m s i h1] at ih
      refine Ev.ite_neg h1 ?_
      by_cases h2 : dep m s i m = bst m s i
      · rw [outD_eq m s i h2] at ih
        exact Ev.ite_pos h2 (Ev.ite_pos (by omega) ih)
      · rw [outD_lt m s i (by omega)] at ih
        exact Ev.ite_neg h2 ih
theorem deepL_ev (m : Nat) (s : ByteArray) (h7 : m ≤ 7) : ∀ d i, i + d = m → Ev (fun k => deepL k (tab m s) m (bst m s i) (i : Nat)) (bst m s m)
  | 0, i, hi => by
    obtain rfl : i = m := by omega
    exact Ev.step (fun k => deepL.eq_2 ..) (Ev.ite_neg (by omega) (Ev.now _))
  | d + 1, i, hi => by
    refine Ev.step (fun k => deepL.eq_2 ..) (Ev.ite_pos (by omega) (Ev.bind (impl_dep_ev m h7 s i (by omega)) ?_))
    rw [wrap_nat i (by omega)]
    exact deepL_ev m s h7 d (i + 1) (by omega)
theorem upToD_all : (List.range 8).all (fun n => impl_upTo.f 40 n == some ((List.range n).map fun i : Nat => (i : Int))) = true := by decide +kernel
theorem upToD_ev (n : Nat) (hn : n ≤ 7) : Ev (fun k => impl_upTo.f k n) ((List.range n).map fun i : Nat => (i : Int)) := by
  have h := upToD_all
  rw [List.all_eq_true] at h
  have h := h n (by simp; omega)
  exact Ev.of (impl_upTo.mono _) (k := 40) (by simpa using h)
theorem left_some (n : Nat) (hn : n ≤ 7) (s : ByteArray) (i k : Nat) (hi : i < 7) (hk : k < 7) : ∃ v : Nat, v ≤ n ∧ Ev (fun K => impl_chi_left.f K (tab n s) i k) (v : Nat) := by
  have hl := tab_length n s
  have key : ∀ d m, m + d = n → ∀ c : Nat, c ≤ m → ∃ v : Nat, v ≤ n ∧ Ev (fun K => impl_chi_left.l0 K (tab n s) i k (c : Nat) (m : Nat)) (v : Nat) := by
    intro d
    induction d with
    | zero =>
      intro m hm c hc
      exact ⟨c, by omega, Ev.step (fun K => impl_chi_left.l0.eq_2 ..) (Ev.ite_pos (by omega) (Ev.ite_neg (by rw [tab_n]; omega) (Ev.now _)))⟩
    | succ d ih =>
      intro m hm c hc
      by_cases h : chiA (tab n s) i k m = 1
      · obtain ⟨v, hv, hE⟩ := ih (m + 1) (by omega) (c + 1) (by omega)
        refine ⟨v, hv, Ev.step (fun K => impl_chi_left.l0.eq_2 ..) (Ev.ite_pos (by omega) (Ev.ite_pos (by rw [tab_n]; omega) (Ev.ite_pos (by omega) (Ev.ite_pos (by omega) (Ev.ite_pos (by omega) (Ev.ite_pos (by omega) (Ev.ite_pos (by omega) (Ev.ite_pos (by omega) (Ev.ite_pos h ?_)))))))))⟩
        rw [wrap_nat c (by omega), wrap_nat m (by omega)]
        exact hE
      · obtain ⟨v, hv, hE⟩ := ih (m + 1) (by omega) c (by omega)
        refine ⟨v, hv, Ev.step (fun K => impl_chi_left.l0.eq_2 ..) (Ev.ite_pos (by omega) (Ev.ite_pos (by rw [tab_n]; omega) (Ev.ite_pos (by omega) (Ev.ite_pos (by omega) (Ev.ite_pos (by omega) (Ev.ite_pos (by omega) (Ev.ite_pos (by omega) (Ev.ite_pos (by omega) (Ev.ite_neg h ?_)))))))))⟩
        rw [wrap_nat m (by omega)]
        exact hE
  exact key n 0 (by omega) 0 (Nat.le_refl _)
theorem depth_some (n : Nat) (hn : n ≤ 7) (s : ByteArray) (i : Nat) (hi : i < 7) : ∃ v : Int, Ev (fun K => impl_chi_depth.f K (tab n s) i) v := by
  have hl := tab_length n s
  have key : ∀ d m, m + d = n → ∀ c : Int, 0 ≤ c ∧ c ≤ 100 → ∃ v : Int, Ev (fun K => impl_chi_depth.l0 K (tab n s) i c (m : Nat)) v := by
    intro d
    induction d with
    | zero =>
      intro m hm c hc
      exact ⟨c, Ev.step (fun K => impl_chi_depth.l0.eq_2 ..) (Ev.ite_pos (by omega) (Ev.ite_neg (by rw [tab_n]; omega) (Ev.now _)))⟩
    | succ d ih =>
      intro m hm c hc
      by_cases h : (m : Int) = i
      · obtain ⟨v, hE⟩ := ih (m + 1) (by omega) c hc
        refine ⟨v, Ev.step (fun K => impl_chi_depth.l0.eq_2 ..) (Ev.ite_pos (by omega) (Ev.ite_pos (by rw [tab_n]; omega) (Ev.ite_pos h ?_)))⟩
        rw [wrap_nat m (by omega)]
        exact hE
      · obtain ⟨a, ha, hEa⟩ := left_some n hn s i m hi (by omega)
        obtain ⟨b, hb, hEb⟩ := left_some n hn s m i (by omega) hi
        obtain ⟨v, hE⟩ := ih (m + 1) (by omega) (mn (mn c (wrap64 ((a : Int) + 1))) (wrap64 ((b : Int) + 1))) (by rw [wrap_nat a (by omega), wrap_nat b (by omega)]; unfold mn; (repeat' split) <;> omega)
        refine ⟨v, Ev.step (fun K => impl_chi_depth.l0.eq_2 ..) (Ev.ite_pos (by omega) (Ev.ite_pos (by rw [tab_n]; omega) (Ev.ite_neg h (Ev.bind hEa (Ev.bind hEb ?_)))))⟩
        rw [wrap_nat m (by omega)]
        exact hE
  obtain ⟨v, hE⟩ := key n 0 (by omega) n (by omega)
  refine ⟨v, ?_⟩
  unfold impl_chi_depth.f
  rw [tab_n]
  exact Ev.ite_pos (by omega) hE
theorem depth_all (n : Nat) (hn : n ≤ 7) (s : ByteArray) : ∃ K, ∀ k, K ≤ k → ((List.range 7).all fun x : Nat => (impl_chi_depth.f k (tab n s) (x : Int)).isSome) = true := by
  have key : ∀ m, m ≤ 7 → ∃ K, ∀ k, K ≤ k → ∀ x : Nat, x < m → (impl_chi_depth.f k (tab n s) (x : Int)).isSome = true := by
    intro m
    induction m with
    | zero => exact fun _ => ⟨0, fun k _ x hx => absurd hx (by omega)⟩
    | succ m ih =>
      intro hm
      obtain ⟨K, hK⟩ := ih (by omega)
      obtain ⟨v, L, hL⟩ := depth_some n hn s m (by omega)
      refine ⟨max K L, fun k hk x hx => ?_⟩
      rcases Nat.lt_or_ge x m with h | h
      · exact hK k (by omega) x h
      · obtain rfl : x = m := by omega
        have this : impl_chi_depth.f k (tab n s) (x : Int) = some v := hL k (by omega)
        rw [this]
        rfl
  obtain ⟨K, hK⟩ := key 7 (Nat.le_refl _)
  exact ⟨K, fun k hk => List.all_eq_true.2 fun x hx => hK k hk x (List.mem_range.1 hx)⟩
theorem deepR_ev (m : Nat) (s : ByteArray) (h3 : 3 ≤ m) (h7 : m ≤ 7) : Ev (fun k => deepR k (tab m s) ((List.range m).map fun i : Nat => (i : Int)) (bst m s m)) (outD m s m) := by
  obtain ⟨K, hK⟩ := depth_all m h7 s
  have key : ∀ q, q ≤ m → ∃ L, ∀ k, L ≤ k → ∀ x : Nat, x < q → depV k (tab m s) (x : Int) = dep m s x m := by
    intro q
    induction q with
    | zero => exact fun _ => ⟨0, fun k _ x hx => absurd hx (by omega)⟩
    | succ q ih =>
      intro hq
      obtain ⟨L, hL⟩ := ih (by omega)
      obtain ⟨L2, hL2⟩ := impl_dep_ev m h7 s q (by omega)
      refine ⟨max L L2, fun k hk x hx => ?_⟩
      rcases Nat.lt_or_ge x q with h | h
      · exact hL k (by omega) x h
      · obtain rfl : x = q := by omega
        have this : impl_chi_depth.f k (tab m s) (x : Int) = some (dep m s x m) := hL2 k (by omega)
        unfold depV
        rw [this]
        rfl
  obtain ⟨L, hL⟩ := key m (Nat.le_refl _)
  refine ⟨max K L, fun k hk => ?_⟩
  show deepR k (tab m s) _ _ = _
  unfold deepR
  rw [if_pos ⟨by simp; omega, by simp; omega, fun x hx => by
    obtain ⟨j, hj, rfl⟩ := List.mem_map.1 hx
    have := List.mem_range.1 hj
    omega, hK k (by omega)⟩]
  congr 1
  unfold outD
  rw [List.filter_map]
  congr 1
  apply List.filter_congr
  intro j hj
  have hjm := List.mem_range.1 hj
  have e := hL k (by omega) j hjm
  have hb := bst_le m s m j hjm
  show (!(decide (depV k (tab m s) (j : Int) < bst m s m))) = decide (dep m s j m = bst m s m)
  rw [e]
  by_cases h : dep m s j m = bst m s m
  · rw [decide_eq_true h, decide_eq_false (by omega)]
    rfl
  · rw [decide_eq_false h, decide_eq_true (by omega)]
    rfl
theorem deepest_both (n : Int) (s : ByteArray) : ∃ L : List Int, L.length ≤ 1000 ∧ Ev (fun k => spec_DeepestOf.f k n s) L ∧ Ev (fun k => impl_DeepestOf.f k n s) L := by
  unfold spec_DeepestOf.f impl_DeepestOf.f
  cases hA : isA n s with
  | false =>
    refine ⟨[], by simp, ?_, Ev.bind (orderOf_no n s hA) (Ev.ite_neg (by simp) (Ev.now _))⟩
    have hj : Ev (fun k => spec_DeepestOf.j1 k [] 0 0 false n s) [] := Ev.step (fun k => spec_DeepestOf.j1.eq_2 ..) (Ev.ite_neg (by simp) (Ev.now _))
    refine Ev.step (fun k => spec_DeepestOf.l0.eq_2 ..) ?_
    by_cases h : 0 < n
    · exact Ev.ite_pos h (Ev.bind (spec_A n s _ hA) hj)
    · exact Ev.ite_neg h hj
  | true =>
    obtain ⟨m, rfl, h3, h7, hs⟩ := isA_nat hA
    have hl := outD_len m s m
    refine ⟨outD m s m, by omega, spec_deep m s h7 hs hA m 0 (by omega), Ev.bind (orderOf_yes m h7 s hs hA) (Ev.ite_pos rfl (Ev.bind (deepL_ev m s h7 m 0 (by omega)) (Ev.bind (upToD_ev m h7) (deepR_ev m s h3 h7))))⟩
theorem FnExactDeepestOf (s0 : S23) (hq : Q23 s0) : ∃ k, laws_FnExactDeepestOf.f k s0.f0 s0.f1 = some true := by
  refine Ev.rounds (g := fun k => laws_FnExactDeepestOf.f k s0.f0 s0.f1) ?_
  unfold laws_FnExactDeepestOf.f
  refine Ev.bind0 (szSigns_eqO _ _ 1048576 (by omega) (by omega) hq.2) ?_
  by_cases hs : 1048576 < (s0.f1.size : Int)
  · rw [if_pos hs]
    exact Ev.ite_pos (by omega) (Ev.now _)
  rw [if_neg hs]
  refine Ev.ite_neg (by omega) ?_
  obtain ⟨L, hL, h1, h2⟩ := deepest_both s0.f0 s0.f1
  have e1 := eqIntS_selfZ L (by omega)
  have e2 := markIntS_from L 1 (by omega) (by omega)
  have e3 := heldIntS_from 1 L.length (by omega) (by omega)
  exact Ev.bind0 rfl (Ev.bind h1 (Ev.bind0 rfl (Ev.bind h2 (Ev.bind e1 (Ev.ite_pos rfl (Ev.bind e2 (Ev.bind e3 (Ev.ite_neg (by omega) (Ev.ite_pos rfl (Ev.bind0 rfl (Ev.bind h2 (Ev.bind e1 (Ev.ite_pos rfl (Ev.bind e3 (Ev.ite_neg (by omega) (Ev.ite_pos rfl (Ev.now _)))))))))))))))))
end Go.Proofs.Yteblnjoljbdjjaa.Pure
