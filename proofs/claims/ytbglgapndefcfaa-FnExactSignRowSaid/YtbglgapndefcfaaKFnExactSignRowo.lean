/- What the law FnExactSignRow reaches, part 15: functions as plain Lean functions with the proofs that their calls come to them, and plain lemmas over these. Put together by a program (wip/pack.py). -/
import Derived.Test.YtbglgapndefcfaaKFnExactSignRowa
import Derived.ChangeArms
import Derived.Deep.Slices
import Derived.Deep.Fields
import Derived.WideShapes
import Derived.Test.YtbglgapndefcfaaKFnExactSignRowc
import Derived.KernelRfl
import Derived.Test.YtbglgapndefcfaaKFnExactSignRowh
import Derived.Test.YtbglgapndefcfaaKFnExactSignRowi
import Derived.Test.YtbglgapndefcfaaKFnExactSignRowd
import Derived.Test.YtbglgapndefcfaaKFnExactSignRowk
import Derived.Test.YtbglgapndefcfaaKFnExactSignRowf
import Derived.Lib.ConvBytes
import Derived.Test.YtbglgapndefcfaaKFnExactSignRowj
import Derived.Test.YtbglgapndefcfaaKFnExactSignRowe
import Derived.Test.YtbglgapndefcfaaKFnExactSignRowg
import Derived.Test.YtbglgapndefcfaaKFnExactSignRowl
import Derived.Test.YtbglgapndefcfaaKFnExactSignRowm
namespace Go.Proofs.Ytbglgapndefcfaa.Rk
open Go.RowKit Go.ChangeShapes Go.WideShapes Go.Deep Go.Proofs.YtbglgapndefcfaaW.PrintWords
def I64 (n : Int) : Prop := -9223372036854775808 ≤ n ∧ n ≤ 9223372036854775807
theorem I64_of {n : Int} (h : (Lit.int .i64 n).wf = true) : I64 n := by
  have e1 : IntKind.i64.min = -9223372036854775808 := by decide
  have e2 : IntKind.i64.max = 9223372036854775807 := by decide
  simp [Lit.wf, e1, e2] at h
  unfold I64
  omega
section
variable {H : Type} {enc : TypeId × Value → H} {P : Program} {w : World} {base : Nat} {spare : Nat → Bool} {held : Bool} {α : Type}
def Elem (enc : TypeId × Value → H) (P : Program) (w : World) (base : Nat) (spare : Nat → Bool) (held : Bool) (e : TypeId) (d : Kd α) (Q : α → Prop) : Prop :=
  ∀ (fuel : Nat) (cs : List Value) (x : DataW H × List MemPlace), DataW.trod enc P w base spare held fuel e cs = some x → ∃ y, d.K w y cs ∧ Q y
end
end Go.Proofs.Ytbglgapndefcfaa.Rk
namespace Go.Proofs.Ytbglgapndefcfaa.P
open Go.RowKit Go.ChangeShapes Go.WideShapes Go.Deep Go.Proofs.Ytbglgapndefcfaa.Rk Go.Proofs.YtbglgapndefcfaaW.PrintWords
theorem cells_3 : Try.prog.cellsOf 3 = 1 := by kernel_rfl
theorem cells_9 : Try.prog.cellsOf 9 = 1 := by kernel_rfl
def Q23 (x : S23) : Prop := I64 x.f0 ∧ x.f1.size ≤ 9223372036854775807
instance : Inhabited S23 := ⟨z23⟩
theorem cells_23 : Try.prog.cellsOf 23 = 2 := by kernel_rfl
set_option maxRecDepth 100000 in
theorem elem23 {H : Type} {enc : TypeId × Value → H} {w : World} {base : Nat} {spare : Nat → Bool} {held : Bool} : Elem enc Try.prog w base spare held 23 k23 Q23 := by
  intro fuel cs x h
  obtain ⟨xs, n, _, _, hlen, hxl, hf⟩ := DataW.trod_struct Try.underlying23 h
  rw [cells_23] at hlen
  match cs, hlen with
  | [c0, c1], _ =>
    have h0 : DataW.trod enc Try.prog w base spare held n 3 (List.take (Try.prog.cellsOf 3) (List.drop 0 [c0, c1])) = xs[0]? := hf 0 _ rfl
    rw [cells_3] at h0
    have y0 : xs[0]? = some (xs[0]'(by rw [hxl]; decide)) := List.getElem?_eq_getElem _
    rw [y0] at h0
    obtain ⟨n0, e0, _, w0⟩ := DataW.trod_int Try.underlying3 h0
    have e0' : c0 = .int .i64 n0 := by simpa using e0
    have h1 : DataW.trod enc Try.prog w base spare held n 9 (List.take (Try.prog.cellsOf 9) (List.drop 1 [c0, c1])) = xs[1]? := hf 1 _ rfl
    rw [cells_9] at h1
    have y1 : xs[1]? = some (xs[1]'(by rw [hxl]; decide)) := List.getElem?_eq_getElem _
    rw [y1] at h1
    obtain ⟨n1, e1, _, w1⟩ := DataW.trod_string Try.underlying9 h1
    unfold maxLen at w1
    have e1' : c1 = .string n1 := by simpa using e1
    subst e0' e1'
    exact ⟨⟨n0, n1⟩, k23_mk w ⟨n0, n1⟩, I64_of w0, w1⟩
end Go.Proofs.Ytbglgapndefcfaa.P
namespace Go.Proofs.Ytbglgapndefcfaa.P
open Go.RowKit Go.Proofs.YtbglgapndefcfaaW.PrintWords Go.Proofs.YtbglgapndefcfaaW.PrintLast Go.Proofs.YtbglgapndefcfaaW.PrintMore
attribute [local go_sem] ptrOf_slice
attribute [local go_sem] max2_int min2_int max_two min_two max_three min_three max_four min_four
set_option linter.unusedVariables false
set_option linter.unusedSimpArgs false
def spec_l1Min.f (a0 : Int) (a1 : Int) : Option (Int) := if a0 < a1 then (some a0) else (some a1)
def spec_l1Max.f (a0 : Int) (a1 : Int) : Option (Int) := if a0 > a1 then (some a0) else (some a1)
end Go.Proofs.Ytbglgapndefcfaa.P
namespace Go.Proofs.Ytbglgapndefcfaa.Pl
set_option linter.unusedSimpArgs false
set_option linter.unusedVariables false
open Go.RowKit Go.Proofs.YtbglgapndefcfaaW.PrintWords
theorem wrap_in {n : Int} (h0 : -9223372036854775808 ≤ n) (h1 : n ≤ 9223372036854775807) : wrap64 n = n := by
  unfold wrap64
  omega
theorem wrap_nat (i : Nat) (h : i < 9223372036854775807) : wrap64 ((i : Int) + 1) = ((i + 1 : Nat) : Int) := by
  unfold wrap64
  omega
theorem Ev.const {α : Type} {x : Option α} {r : α} (h : x = some r) : Ev (fun _ => x) r := ⟨0, fun _ _ => h⟩
theorem Ev.ite_pos {α : Type} {c : Prop} [Decidable c] {g f : Nat → Option α} {r : α} (h : c) (k : Ev g r) : Ev (fun n => if c then g n else f n) r := by
  simpa only [if_pos h] using k
theorem Ev.ite_neg {α : Type} {c : Prop} [Decidable c] {g f : Nat → Option α} {r : α} (h : ¬ c) (k : Ev f r) : Ev (fun n => if c then g n else f n) r := by
  simpa only [if_neg h] using k
theorem Ev.bind0 {α β : Type} {x : Option α} {f : Nat → α → Option β} {a : α} {r : β} (h : x = some a) (k : Ev (fun n => f n a) r) : Ev (fun n => x.bind (f n)) r := by
  subst h
  exact k
theorem Ev.loop {ρ : Type} (g : Nat → Nat → Option ρ) (n : Nat) (r : ρ) (hend : Ev (g n) r) (hstep : ∀ i, i < n → Ev (g (i + 1)) r → Ev (g i) r) : ∀ i, i ≤ n → Ev (g i) r := by
  have key : ∀ d i, i + d = n → Ev (g i) r := by
    intro d
    induction d with
    | zero => intro i hi; obtain rfl : i = n := by omega
              exact hend
    | succ d ih => intro i hi; exact hstep i (by omega) (ih (i + 1) (by omega))
  intro i hi
  exact key (n - i) i (by omega)
theorem Ev.loop_to {ρ : Type} (g : Nat → Nat → Option ρ) (n : Nat) (R : Nat → ρ) (hend : Ev (g n) (R n)) (hstep : ∀ i, i < n → Ev (g (i + 1)) (R (i + 1)) → Ev (g i) (R i)) : ∀ i, i ≤ n → Ev (g i) (R i) := by
  have key : ∀ d i, i + d = n → Ev (g i) (R i) := by
    intro d
    induction d with
    | zero => intro i hi; obtain rfl : i = n := by omega
              exact hend
    | succ d ih => intro i hi; exact hstep i (by omega) (ih (i + 1) (by omega))
  intro i hi
  exact key (n - i) i (by omega)
theorem getD_lt {α : Type} (l : List α) (d : α) (i : Nat) (h : i < l.length) : l.getD i d = l[i] := by
  rw [List.getD_eq_getElem?_getD, List.getElem?_eq_getElem h]
  rfl
end Go.Proofs.Ytbglgapndefcfaa.Pl
namespace Go.Proofs.Ytbglgapndefcfaa.Pure
set_option linter.unusedSimpArgs false
set_option linter.unusedVariables false
open Go.RowKit Go.Proofs.YtbglgapndefcfaaW.PrintWords Go.Proofs.Ytbglgapndefcfaa.P Go.Proofs.Ytbglgapndefcfaa.Pl
abbrev T3 := S107
def tri : Nat → List T3
  | 3 => [⟨0, 1, 2⟩]
  | 4 => [⟨0, 1, 2⟩, ⟨0, 1, 3⟩, ⟨0, 2, 3⟩, ⟨1, 2, 3⟩]
  | 5 => [⟨0, 1, 2⟩, ⟨0, 1, 3⟩, ⟨0, 1, 4⟩, ⟨0, 2, 3⟩, ⟨0, 2, 4⟩, ⟨0, 3, 4⟩, ⟨1, 2, 3⟩, ⟨1, 2, 4⟩, ⟨1, 3, 4⟩, ⟨2, 3, 4⟩]
  | 6 => [⟨0, 1, 2⟩, ⟨0, 1, 3⟩, ⟨0, 1, 4⟩, ⟨0, 1, 5⟩, ⟨0, 2, 3⟩, ⟨0, 2, 4⟩, ⟨0, 2, 5⟩, ⟨0, 3, 4⟩, ⟨0, 3, 5⟩, ⟨0, 4, 5⟩, ⟨1, 2, 3⟩, ⟨1, 2, 4⟩, ⟨1, 2, 5⟩, ⟨1, 3, 4⟩, ⟨1, 3, 5⟩, ⟨1, 4, 5⟩, ⟨2, 3, 4⟩, ⟨2, 3, 5⟩, ⟨2, 4, 5⟩, ⟨3, 4, 5⟩]
  | 7 => [⟨0, 1, 2⟩, ⟨0, 1, 3⟩, ⟨0, 1, 4⟩, ⟨0, 1, 5⟩, ⟨0, 1, 6⟩, ⟨0, 2, 3⟩, ⟨0, 2, 4⟩, ⟨0, 2, 5⟩, ⟨0, 2, 6⟩, ⟨0, 3, 4⟩, ⟨0, 3, 5⟩, ⟨0, 3, 6⟩, ⟨0, 4, 5⟩, ⟨0, 4, 6⟩, ⟨0, 5, 6⟩, ⟨1, 2, 3⟩, ⟨1, 2, 4⟩, ⟨1, 2, 5⟩, ⟨1, 2, 6⟩, ⟨1, 3, 4⟩, ⟨1, 3, 5⟩, ⟨1, 3, 6⟩, ⟨1, 4, 5⟩, ⟨1, 4, 6⟩, ⟨1, 5, 6⟩, ⟨2, 3, 4⟩, ⟨2, 3, 5⟩, ⟨2, 3, 6⟩, ⟨2, 4, 5⟩, ⟨2, 4, 6⟩, ⟨2, 5, 6⟩, ⟨3, 4, 5⟩, ⟨3, 4, 6⟩, ⟨3, 5, 6⟩, ⟨4, 5, 6⟩]
  | _ => []
theorem tri_some : ∀ n : Nat, n ≤ 7 → impl_triplesOf.f 500 n = some (tri n)
  | 0, _ => by kernel_rfl
  | 1, _ => by kernel_rfl
  | 2, _ => by kernel_rfl
  | 3, _ => by kernel_rfl
  | 4, _ => by kernel_rfl
  | 5, _ => by kernel_rfl
  | 6, _ => by kernel_rfl
  | 7, _ => by kernel_rfl
  | n + 8, h => absurd h (by omega)
theorem triplesOf_ev (n : Nat) (h : n ≤ 7) : Ev (fun k => impl_triplesOf.f k n) (tri n) := Ev.of (impl_triplesOf.mono _) (tri_some n h)
theorem tri_length (n : Nat) (h : n ≤ 7) : ((tri n).length : Int) = Int.tdiv ((n : Int) * (n - 1) * (n - 2)) 6 := by
  have : (List.range 8).all (fun n => ((tri n).length : Int) == Int.tdiv ((n : Int) * ((n : Int) - 1) * ((n : Int) - 2)) 6) = true := by decide +kernel
  rw [List.all_eq_true] at this
  simpa using this n (by simp; omega)
def okT (n : Nat) (t : T3) : Bool := decide (0 ≤ t.f0 ∧ t.f0 < t.f1 ∧ t.f1 < t.f2 ∧ t.f2 < n)
theorem tri_ok (n : Nat) (h : n ≤ 7) : (tri n).all (okT n) = true := by
  have : (List.range 8).all (fun n => (tri n).all (okT n)) = true := by decide +kernel
  rw [List.all_eq_true] at this
  exact this n (by simp; omega)
def put3 (l : List Int) (t : T3) (v : Int) : List Int := chiSet l t.f0 t.f1 t.f2 v
def fill (v : Nat → Int) : List T3 → Nat → List Int → List Int
  | [], _, l => l
  | t :: ts, m, l => fill v ts (m + 1) (put3 l t (v m))
theorem fill_length (v : Nat → Int) : ∀ ts m l, (fill v ts m l).length = l.length := by
  intro ts
  induction ts with
  | nil => intro m l; rfl
  | cons t ts ih => intro m l; rw [fill, ih]; exact chiSet_length ..
theorem fill_append (v : Nat → Int) : ∀ ts us m l, fill v (ts ++ us) m l = fill v us (m + ts.length) (fill v ts m l) := by
  intro ts
  induction ts with
  | nil => intro us m l; rfl
  | cons t ts ih => intro us m l; rw [List.cons_append, fill, ih, fill, List.length_cons]; congr 1; omega
def par (t : T3) (x y z : Int) : Option Bool :=
  if (x = t.f0 ∧ y = t.f1 ∧ z = t.f2) ∨ (x = t.f1 ∧ y = t.f2 ∧ z = t.f0) ∨ (x = t.f2 ∧ y = t.f0 ∧ z = t.f1) then some true
  else if (x = t.f0 ∧ y = t.f2 ∧ z = t.f1) ∨ (x = t.f2 ∧ y = t.f1 ∧ z = t.f0) ∨ (x = t.f1 ∧ y = t.f0 ∧ z = t.f2) then some false else none
theorem rd_set (l : List Int) (p q : Nat) (v : Int) (h : p < l.length) : rd (l.set p v) q = if p = q then v else rd l q := by
  unfold rd
  rw [Int.toNat_natCast, List.getD_eq_getElem?_getD, List.getD_eq_getElem?_getD, List.getElem?_set]
  by_cases e : p = q
  · subst e
    simp [h]
  · simp [e]
theorem chiA_nat (l : List Int) (x y z : Nat) : chiA l x y z = rd l ((1 + x * 49 + y * 7 + z : Nat) : Int) := by
  unfold chiA
  congr 1
  omega
theorem pos_iff (a b c x y z : Nat) (ha : a < 7) (hb : b < 7) (hc : c < 7) (hx : x < 7) (hy : y < 7) (hz : z < 7) : (1 + a * 49 + b * 7 + c = 1 + x * 49 + y * 7 + z) ↔ (x = a ∧ y = b ∧ z = c) := by
  constructor
  · intro h
    have h1 : c = z := by have := congrArg (· % 7) (show a * 49 + b * 7 + c + 1 = x * 49 + y * 7 + z + 1 by omega); omega
    have h2 : b = y := by subst h1; omega
    exact ⟨by omega, h2.symm, h1.symm⟩
  · rintro ⟨rfl, rfl, rfl⟩
    rfl
theorem chiA_set (l : List Int) (hl : l.length = 344) (a b c : Nat) (ha : a < 7) (hb : b < 7) (hc : c < 7) (ab : a ≠ b) (bc : b ≠ c) (ac : a ≠ c) (v : Int) (x y z : Nat) (hx : x < 7) (hy : y < 7) (hz : z < 7) :
    chiA (chiSet l a b c v) x y z = match par ⟨a, b, c⟩ x y z with | some true => v | some false => wrap64 (-v) | none => chiA l x y z := by
  rw [chiA_nat, chiA_nat]
  unfold chiSet setL par
  simp only [Int.toNat_natCast]
  rw [rd_set _ _ _ _ (by first | (simp only [List.length_set]; omega) | omega), rd_set _ _ _ _ (by first | (simp only [List.length_set]; omega) | omega), rd_set _ _ _ _ (by first | (simp only [List.length_set]; omega) | omega), rd_set _ _ _ _ (by first | (simp only [List.length_set]; omega) | omega), rd_set _ _ _ _ (by first | (simp only [List.length_set]; omega) | omega), rd_set _ _ _ _ (by first | (simp only [List.length_set]; omega) | omega)]
  simp only [pos_iff a b c x y z (by omega) (by omega) (by omega) hx hy hz, pos_iff b c a x y z (by omega) (by omega) (by omega) hx hy hz, pos_iff c a b x y z (by omega) (by omega) (by omega) hx hy hz, pos_iff a c b x y z (by omega) (by omega) (by omega) hx hy hz, pos_iff c b a x y z (by omega) (by omega) (by omega) hx hy hz, pos_iff b a c x y z (by omega) (by omega) (by omega) hx hy hz]
  simp only [Int.natCast_inj]
  clear hl
  generalize rd l ((1 + x * 49 + y * 7 + z : Nat) : Int) = o
  by_cases k0 : x = a ∧ y = b ∧ z = c
  · have := k0
    have n1 : ¬ (x = b ∧ y = c ∧ z = a) := by omega
    have n2 : ¬ (x = c ∧ y = a ∧ z = b) := by omega
    have n3 : ¬ (x = a ∧ y = c ∧ z = b) := by omega
    have n4 : ¬ (x = c ∧ y = b ∧ z = a) := by omega
    have n5 : ¬ (x = b ∧ y = a ∧ z = c) := by omega
    clear this
    simp only [(eq_true k0), (eq_false n1), (eq_false n2), (eq_false n3), (eq_false n4), (eq_false n5), if_true, if_false, or_true, true_or, or_false, false_or]
  by_cases k1 : x = b ∧ y = c ∧ z = a
  · have := k1
    have n2 : ¬ (x = c ∧ y = a ∧ z = b) := by omega
    have n3 : ¬ (x = a ∧ y = c ∧ z = b) := by omega
    have n4 : ¬ (x = c ∧ y = b ∧ z = a) := by omega
    have n5 : ¬ (x = b ∧ y = a ∧ z = c) := by omega
    clear this
    simp only [(eq_false k0), (eq_true k1), (eq_false n2), (eq_false n3), (eq_false n4), (eq_false n5), if_true, if_false, or_true, true_or, or_false, false_or]
  by_cases k2 : x = c ∧ y = a ∧ z = b
  · have := k2
    have n3 : ¬ (x = a ∧ y = c ∧ z = b) := by omega
    have n4 : ¬ (x = c ∧ y = b ∧ z = a) := by omega
    have n5 : ¬ (x = b ∧ y = a ∧ z = c) := by omega
    clear this
    simp only [(eq_false k0), (eq_false k1), (eq_true k2), (eq_false n3), (eq_false n4), (eq_false n5), if_true, if_false, or_true, true_or, or_false, false_or]
  by_cases k3 : x = a ∧ y = c ∧ z = b
  · have := k3
    have n4 : ¬ (x = c ∧ y = b ∧ z = a) := by omega
    have n5 : ¬ (x = b ∧ y = a ∧ z = c) := by omega
    clear this
    simp only [(eq_false k0), (eq_false k1), (eq_false k2), (eq_true k3), (eq_false n4), (eq_false n5), if_true, if_false, or_true, true_or, or_false, false_or]
  by_cases k4 : x = c ∧ y = b ∧ z = a
  · have := k4
    have n5 : ¬ (x = b ∧ y = a ∧ z = c) := by omega
    clear this
    simp only [(eq_false k0), (eq_false k1), (eq_false k2), (eq_false k3), (eq_true k4), (eq_false n5), if_true, if_false, or_true, true_or, or_false, false_or]
  by_cases k5 : x = b ∧ y = a ∧ z = c
  · have := k5
    clear this
    simp only [(eq_false k0), (eq_false k1), (eq_false k2), (eq_false k3), (eq_false k4), (eq_true k5), if_true, if_false, or_true, true_or, or_false, false_or]
  simp only [(eq_false k0), (eq_false k1), (eq_false k2), (eq_false k3), (eq_false k4), (eq_false k5), if_true, if_false, or_true, true_or, or_false, false_or]
theorem chiA_put3 (l : List Int) (hl : l.length = 344) (t : T3) (ht : okT 7 t = true) (v : Int) (x y z : Nat) (hx : x < 7) (hy : y < 7) (hz : z < 7) :
    chiA (put3 l t v) x y z = match par t x y z with | some true => v | some false => wrap64 (-v) | none => chiA l x y z := by
  obtain ⟨a, b, c⟩ := t
  unfold okT at ht
  rw [decide_eq_true_eq] at ht
  obtain ⟨h0, h1, h2, h3⟩ := ht
  dsimp only at h0 h1 h2 h3
  obtain ⟨a, rfl⟩ := Int.eq_ofNat_of_zero_le h0
  obtain ⟨b, rfl⟩ := Int.eq_ofNat_of_zero_le (show 0 ≤ b by omega)
  obtain ⟨c, rfl⟩ := Int.eq_ofNat_of_zero_le (show 0 ≤ c by omega)
  exact chiA_set l hl a b c (by omega) (by omega) (by omega) (by omega) (by omega) (by omega) v x y z hx hy hz
theorem chiN_put3 (l : List Int) (hl : l.length = 344) (t : T3) (v : Int) : chiN (put3 l t v) = chiN l := by
  have h : ∀ (l : List Int) (p : Nat) (u : Int), rd (l.set (1 + p) u) 0 = rd l 0 := by
    intro l p u
    unfold rd
    simp [List.getD_eq_getElem?_getD, List.getElem?_set, show ¬ (1 + p = 0) by omega]
  unfold put3 chiSet setL chiN
  simp only [Nat.add_assoc, h]
def src : List T3 → Nat → Int → Int → Int → Option (Nat × Bool)
  | [], _, _, _, _ => none
  | t :: ts, m, x, y, z => (src ts (m + 1) x y z).or ((par t x y z).map fun b => (m, b))
def sval (v : Nat → Int) (o : Int) : Option (Nat × Bool) → Int
  | some (m, true) => v m
  | some (m, false) => wrap64 (-v m)
  | none => o
theorem chiA_fill (v : Nat → Int) (x y z : Nat) (hx : x < 7) (hy : y < 7) (hz : z < 7) : ∀ (ts : List T3), ts.all (okT 7) = true → ∀ m l, l.length = 344 → chiA (fill v ts m l) x y z = sval v (chiA l x y z) (src ts m x y z) := by
  intro ts
  induction ts with
  | nil => intro _ m l _; rfl
  | cons t ts ih =>
    intro h m l hl
    rw [List.all_cons, Bool.and_eq_true] at h
    rw [fill, ih h.2 (m + 1) _ (by unfold put3; rw [chiSet_length]; exact hl), chiA_put3 l hl t h.1 (v m) x y z hx hy hz, src]
    cases hs : src ts (m + 1) x y z with
    | some p => obtain ⟨q, b⟩ := p; cases b <;> rfl
    | none =>
      cases hp : par t x y z with
      | none => rfl
      | some b => cases b <;> rfl
theorem chiN_fill (v : Nat → Int) : ∀ (ts : List T3) m l, l.length = 344 → chiN (fill v ts m l) = chiN l := by
  intro ts
  induction ts with
  | nil => intro m l _; rfl
  | cons t ts ih => intro m l hl; rw [fill, ih _ _ (by unfold put3; rw [chiSet_length]; exact hl), chiN_put3 l hl]
theorem okT_mono {n : Nat} (h : n ≤ 7) (t : T3) (ht : okT n t = true) : okT 7 t = true := by
  unfold okT at ht ⊢
  rw [decide_eq_true_eq] at ht ⊢
  omega
theorem tri_ok7 (n : Nat) (h : n ≤ 7) : (tri n).all (okT 7) = true := by
  have := tri_ok n h
  rw [List.all_eq_true] at this ⊢
  exact fun t ht => okT_mono h t (this t ht)
theorem chiA_new (n : Int) (x y z : Nat) (hx : x < 7) (hy : y < 7) (hz : z < 7) : chiA (chiNew n) x y z = 0 := by
  rw [chiA_nat, show 1 + x * 49 + y * 7 + z = (x * 49 + y * 7 + z) + 1 by omega]
  unfold rd chiNew
  rw [Int.toNat_natCast, List.getD_cons_succ, List.getD_eq_getElem?_getD, List.getElem?_replicate]
  rw [if_pos (by omega)]
  rfl
def isPM (s : ByteArray) (m : Nat) : Bool := bt s (m : Int) == 43 || bt s (m : Int) == 45
def isS (n : Int) (s : ByteArray) : Bool := decide (3 ≤ n ∧ n ≤ 7 ∧ (s.size : Int) = Int.tdiv (n * (n - 1) * (n - 2)) 6) && (List.range s.size).all (isPM s)
theorem count3 {n : Int} (h3 : 3 ≤ n) (h7 : n ≤ 7) : wrap64 (wrap64 (n * wrap64 (n - 1)) * wrap64 (n - 2)) = n * (n - 1) * (n - 2) ∧ wrap64 (Int.tdiv (n * (n - 1) * (n - 2)) 6) = Int.tdiv (n * (n - 1) * (n - 2)) 6 ∧ 0 ≤ Int.tdiv (n * (n - 1) * (n - 2)) 6 ∧ Int.tdiv (n * (n - 1) * (n - 2)) 6 ≤ 35 := by
  have : n = 3 ∨ n = 4 ∨ n = 5 ∨ n = 6 ∨ n = 7 := by omega
  obtain rfl | rfl | rfl | rfl | rfl := this <;> (unfold wrap64; decide)
theorem range_drop' (n i : Nat) (h : i < n) : (List.range n).drop i = i :: (List.range n).drop (i + 1) := by
  rw [List.drop_eq_getElem_cons (by simpa using h)]
  simp
theorem l1In_is (x a b : Int) : spec_l1In.f x a b = some (decide (a ≤ x ∧ x ≤ b)) := by
  unfold spec_l1In.f
  by_cases h : x ≥ a
  · rw [if_pos h]
    simp [h]
  · rw [if_neg h]
    simp [show ¬ a ≤ x by omega]
theorem spec_AreSigns_ev (n : Int) (s : ByteArray) : Ev (fun k => spec_AreSigns.f k n s) (isS n s) := by
  unfold spec_AreSigns.f isS
  have no : ∀ x, Ev (fun k => spec_AreSigns.j0 k true n x) false := fun x => Ev.step (fun k => spec_AreSigns.j0.eq_2 ..) (Ev.ite_pos rfl (Ev.now _))
  by_cases h : 3 ≤ n ∧ n ≤ 7
  · obtain ⟨e1, e2, e3, e4⟩ := count3 h.1 h.2
    refine Ev.bind0 (l1In_is ..) (Ev.ite_pos (decide_eq_true h) ?_)
    rw [e1, e2]
    by_cases hc : (s.size : Int) = Int.tdiv (n * (n - 1) * (n - 2)) 6
    · rw [show decide (3 ≤ n ∧ n ≤ 7 ∧ (s.size : Int) = Int.tdiv (n * (n - 1) * (n - 2)) 6) = true from decide_eq_true ⟨h.1, h.2, hc⟩, Bool.true_and]
      refine Ev.step (fun k => spec_AreSigns.j0.eq_2 ..) (Ev.ite_neg (by simp [hc]) ?_)
      have key := Ev.loop_to (fun i k => spec_AreSigns.l0 k i n s) s.size (fun i => ((List.range s.size).drop i).all (isPM s)) ?_ ?_ 0 (by omega)
      · simpa using key
      · refine Ev.step (fun k => spec_AreSigns.l0.eq_2 ..) (Ev.ite_neg (by omega) (Ev.const ?_))
        rw [List.drop_of_length_le (by simp)]
        rfl
      · intro i hi ih
        rw [range_drop' _ _ hi, List.all_cons]
        refine Ev.step (fun k => spec_AreSigns.l0.eq_2 ..) (Ev.ite_pos (by omega) (Ev.ite_pos (by omega) ?_))
        rw [wrap_nat i (by omega)]
        rw [show isPM s i = (bt s (i : Int) == 43 || bt s (i : Int) == 45) from rfl]
        by_cases h43 : bt s (i : Int) = 43
        · refine Ev.ite_pos h43 ?_
          simpa [h43] using ih
        · refine Ev.ite_neg h43 ?_
          by_cases h45 : bt s (i : Int) = 45
          · refine Ev.ite_pos h45 ?_
            simpa [h45] using ih
          · refine Ev.ite_neg h45 (Ev.const ?_)
            simp [h43, h45]
    · rw [show decide (3 ≤ n ∧ n ≤ 7 ∧ (s.size : Int) = Int.tdiv (n * (n - 1) * (n - 2)) 6) = false from decide_eq_false (fun q => hc q.2.2), Bool.false_and]
      rw [show ((s.size : Int) != Int.tdiv (n * (n - 1) * (n - 2)) 6) = true by simpa using hc]
      exact no s
  · rw [show decide (3 ≤ n ∧ n ≤ 7 ∧ (s.size : Int) = Int.tdiv (n * (n - 1) * (n - 2)) 6) = false from decide_eq_false (fun q => h ⟨q.1, q.2.1⟩), Bool.false_and]
    exact Ev.bind0 (l1In_is ..) (Ev.ite_neg (by simpa using h) (no s))
theorem impl_AreSigns_ev (n : Int) (s : ByteArray) : Ev (fun k => impl_AreSigns.f k n s) (isS n s) := by
  unfold impl_AreSigns.f isS
  have no : ∀ x, Ev (fun k => impl_AreSigns.j0 k true n x) false := fun x => Ev.step (fun k => impl_AreSigns.j0.eq_2 ..) (Ev.ite_pos rfl (Ev.now _))
  by_cases h3 : n < 3
  · rw [show decide (3 ≤ n ∧ n ≤ 7 ∧ (s.size : Int) = Int.tdiv (n * (n - 1) * (n - 2)) 6) = false from decide_eq_false (fun q => by omega), Bool.false_and]
    exact Ev.ite_pos h3 (no s)
  · refine Ev.ite_neg h3 ?_
    by_cases h7 : n > 7
    · rw [show decide (3 ≤ n ∧ n ≤ 7 ∧ (s.size : Int) = Int.tdiv (n * (n - 1) * (n - 2)) 6) = false from decide_eq_false (fun q => by omega), Bool.false_and]
      exact Ev.ite_pos h7 (no s)
    · refine Ev.ite_neg h7 ?_
      obtain ⟨e1, e2, e3, e4⟩ := count3 (n := n) (by omega) (by omega)
      rw [e1, e2]
      by_cases hc : (s.size : Int) = Int.tdiv (n * (n - 1) * (n - 2)) 6
      · rw [show decide (3 ≤ n ∧ n ≤ 7 ∧ (s.size : Int) = Int.tdiv (n * (n - 1) * (n - 2)) 6) = true from decide_eq_true ⟨by omega, by omega, hc⟩, Bool.true_and]
        refine Ev.step (fun k => impl_AreSigns.j0.eq_2 ..) (Ev.ite_neg (by simp [hc]) ?_)
        have key := Ev.loop_to (fun i k => impl_AreSigns.l0 k i n s) s.size (fun i => ((List.range s.size).drop i).all (isPM s)) ?_ ?_ 0 (by omega)
        · simpa using key
        · refine Ev.step (fun k => impl_AreSigns.l0.eq_2 ..) (Ev.ite_neg (by omega) (Ev.const ?_))
          rw [List.drop_of_length_le (by simp)]
          rfl
        · intro i hi ih
          rw [range_drop' _ _ hi, List.all_cons]
          refine Ev.step (fun k => impl_AreSigns.l0.eq_2 ..) (Ev.ite_pos (by omega) (Ev.ite_pos (by omega) ?_))
          rw [wrap_nat i (by omega)]
          rw [show isPM s i = (bt s (i : Int) == 43 || bt s (i : Int) == 45) from rfl]
          by_cases h43 : bt s (i : Int) = 43
          · refine Ev.ite_pos h43 ?_
            simpa [h43] using ih
          · refine Ev.ite_neg h43 ?_
            by_cases h45 : bt s (i : Int) = 45
            · refine Ev.ite_pos h45 ?_
              simpa [h45] using ih
            · refine Ev.ite_neg h45 (Ev.const ?_)
              simp [h43, h45]
      · rw [show decide (3 ≤ n ∧ n ≤ 7 ∧ (s.size : Int) = Int.tdiv (n * (n - 1) * (n - 2)) 6) = false from decide_eq_false (fun q => hc q.2.2), Bool.false_and]
        rw [show ((s.size : Int) != Int.tdiv (n * (n - 1) * (n - 2)) 6) = true by simpa using hc]
        exact no s
theorem isS_bounds {n : Int} {s : ByteArray} (h : isS n s = true) : 3 ≤ n ∧ n ≤ 7 ∧ s.size = (tri n.toNat).length ∧ s.size ≤ 35 := by
  unfold isS at h
  rw [Bool.and_eq_true, decide_eq_true_eq] at h
  obtain ⟨⟨h3, h7, hc⟩, _⟩ := h
  have hb := (count3 h3 h7).2.2.2
  obtain ⟨m, rfl⟩ := Int.eq_ofNat_of_zero_le (show 0 ≤ n by omega)
  have ht := tri_length m (by omega)
  rw [Int.toNat_natCast]
  exact ⟨h3, h7, by omega, by omega⟩
def sgAt (s : ByteArray) (m : Nat) : Int := if bt s (m : Int) = 45 then -1 else 1
def tab (n : Nat) (s : ByteArray) : List Int := fill (sgAt s) (tri n) 0 (chiNew n)
def sg (n : Nat) (s : ByteArray) (x y z : Int) : Int := sval (sgAt s) 0 (src (tri n) 0 x y z)
theorem tab_length (n : Nat) (s : ByteArray) : (tab n s).length = 344 := by
  unfold tab
  rw [fill_length, chiNew_length]
theorem tab_n (n : Nat) (s : ByteArray) : chiN (tab n s) = n := by
  unfold tab
  rw [chiN_fill _ _ _ _ (chiNew_length _)]
  rfl
theorem tab_at (n : Nat) (hn : n ≤ 7) (s : ByteArray) (x y z : Nat) (hx : x < 7) (hy : y < 7) (hz : z < 7) : chiA (tab n s) x y z = sg n s x y z := by
  unfold tab sg
  rw [chiA_fill _ x y z hx hy hz _ (tri_ok7 n hn) 0 _ (chiNew_length _), chiA_new _ x y z hx hy hz]
theorem tri_at (n : Nat) (hn : n ≤ 7) (i : Nat) (hi : i < (tri n).length) : okT 7 (tri n)[i] = true := by
  have := tri_ok7 n hn
  rw [List.all_eq_true] at this
  exact this _ (List.getElem_mem hi)
theorem rdT_lt (l : List T3) (i : Nat) (h : i < l.length) : rd_T107 l (i : Int) = l[i] := by
  unfold rd_T107
  rw [Int.toNat_natCast, getD_lt _ _ _ h]
theorem tableOf_ev (n : Nat) (hn : n ≤ 7) (s : ByteArray) (hs : s.size = (tri n).length) : Ev (fun k => impl_tableOf.f k n s) (tab n s) := by
  unfold impl_tableOf.f
  refine Ev.bind (triplesOf_ev n hn) ?_
  have h35 : (tri n).length ≤ 1000 := by
    have : (List.range 8).all (fun n => decide ((tri n).length ≤ 1000)) = true := by decide +kernel
    rw [List.all_eq_true] at this
    simpa using this n (by simp; omega)
  have key := Ev.loop (fun i k => impl_tableOf.l0 k (fill (sgAt s) ((tri n).take i) 0 (chiNew n)) (tri n) (tri n).length i n s) (tri n).length (tab n s) ?_ ?_ 0 (by omega)
  · simpa [fill] using key
  · refine Ev.step (fun k => impl_tableOf.l0.eq_2 ..) (Ev.ite_neg (by omega) (Ev.const ?_))
    rw [List.take_length]
    rfl
  · intro i hi ih
    refine Ev.step (fun k => impl_tableOf.l0.eq_2 ..) (Ev.ite_pos (by omega) (Ev.ite_pos (by omega) (Ev.ite_pos (by omega) (Ev.ite_pos (by omega) ?_))))
    have ht := tri_at n hn i hi
    rw [wrap_nat i (by omega), rdT_lt _ i hi]
    rw [List.take_succ_eq_append_getElem hi, fill_append, Nat.zero_add, List.length_take, Nat.min_eq_left (by omega)] at ih
    have hl : (fill (sgAt s) ((tri n).take i) 0 (chiNew n)).length = 344 := by rw [fill_length, chiNew_length]
    generalize fill (sgAt s) ((tri n).take i) 0 (chiNew n) = l at ih hl ⊢
    generalize (tri n)[i] = t at ih ht ⊢
    unfold okT at ht
    rw [decide_eq_true_eq] at ht
    have hset : ∀ v, impl_chi_set.f l t.f0 t.f1 t.f2 v = some (put3 l t v) := by
      intro v
      unfold impl_chi_set.f
      rw [if_pos ⟨hl, by omega, by omega, by omega⟩]
      rfl
    rw [fill, fill] at ih
    unfold sgAt at ih
    by_cases h45 : bt s (i : Int) = 45
    · rw [if_pos h45] at ih
      exact Ev.ite_pos h45 (Ev.bind0 (hset _) ih)
    · rw [if_neg h45] at ih
      exact Ev.ite_neg h45 (Ev.bind0 (hset _) ih)
def srt2 (n x y z p : Int) : Option (Int × Int) := if x > y then (spec_l3Index.f 60 n y x z).map fun m => (m, -p) else (spec_l3Index.f 60 n x y z).map fun m => (m, p)
def srt1 (n x y z p : Int) : Option (Int × Int) := if y > z then srt2 n x z y (-p) else srt2 n x y z p
def srt (n x y z : Int) : Option (Int × Int) := if x > y then srt1 n y x z (-1) else srt1 n x y z 1
def okSrt (n : Nat) (x y z : Nat) : Bool :=
  match srt n x y z, src (tri n) 0 x y z with
  | some (m, p), some (q, b) => m == (q : Int) && decide (q < (tri n).length) && (p == if b then 1 else -1)
  | _, _ => false
theorem all_srt : (List.range 8).all (fun n => (List.range n).all fun x => (List.range n).all fun y => (List.range n).all fun z => x == y || y == z || x == z || okSrt n x y z) = true := by decide +kernel
theorem srt_ok (n x y z : Nat) (hn : n ≤ 7) (hx : x < n) (hy : y < n) (hz : z < n) (h1 : x ≠ y) (h2 : y ≠ z) (h3 : x ≠ z) : okSrt n x y z = true := by
  have h := all_srt
  rw [List.all_eq_true] at h
  have h := h n (by simp; omega)
  rw [List.all_eq_true] at h
  have h := h x (by simpa using hx)
  rw [List.all_eq_true] at h
  have h := h y (by simpa using hy)
  rw [List.all_eq_true] at h
  have h := h z (by simpa using hz)
  simpa [h1, h2, h3] using h
theorem l3Index_ev {n x y z m : Int} (h : spec_l3Index.f 60 n x y z = some m) : Ev (fun k => spec_l3Index.f k n x y z) m := Ev.of (spec_l3Index.mono _ _ _ _) h
def look (s : ByteArray) (m p : Int) : Int := if bt s m = 45 then wrap64 (-p) else p
theorem j1_ev (n x y z p m q : Int) (s : ByteArray) (hp : p = 1 ∨ p = -1) (h : srt2 n x y z p = some (m, q)) (hm : 0 ≤ m) (hs : m < (s.size : Int)) : Ev (fun k => spec_l3At.j1 k x y z p n s) (look s m q) := by
  refine Ev.step (fun k => spec_l3At.j1.eq_2 ..) ?_
  have hw : wrap64 (-p) = -p := wrap_in (by omega) (by omega)
  unfold srt2 at h
  unfold look
  by_cases hxy : x > y
  · rw [if_pos hxy] at h
    obtain ⟨m', h1, h2⟩ := Option.map_eq_some_iff.mp h
    cases h2
    refine Ev.ite_pos hxy (Ev.bind (l3Index_ev h1) (Ev.ite_pos hm (Ev.ite_pos hs ?_)))
    rw [hw]
    by_cases h45 : bt s m = 45
    · exact Ev.ite_pos h45 (Ev.const (by rw [if_pos h45]))
    · exact Ev.ite_neg h45 (Ev.const (by rw [if_neg h45]))
  · rw [if_neg hxy] at h
    obtain ⟨m', h1, h2⟩ := Option.map_eq_some_iff.mp h
    cases h2
    refine Ev.ite_neg hxy (Ev.bind (l3Index_ev h1) (Ev.ite_pos hm (Ev.ite_pos hs ?_)))
    by_cases h45 : bt s m = 45
    · exact Ev.ite_pos h45 (Ev.const (by rw [if_pos h45]))
    · exact Ev.ite_neg h45 (Ev.const (by rw [if_neg h45]))
theorem j0_ev (n x y z p m q : Int) (s : ByteArray) (hp : p = 1 ∨ p = -1) (h : srt1 n x y z p = some (m, q)) (hm : 0 ≤ m) (hs : m < (s.size : Int)) : Ev (fun k => spec_l3At.j0 k x y z p n s) (look s m q) := by
  refine Ev.step (fun k => spec_l3At.j0.eq_2 ..) ?_
  have hw : wrap64 (-p) = -p := wrap_in (by omega) (by omega)
  unfold srt1 at h
  by_cases hyz : y > z
  · rw [if_pos hyz] at h
    rw [hw]
    exact Ev.ite_pos hyz (j1_ev n x z y (-p) m q s (by omega) h hm hs)
  · rw [if_neg hyz] at h
    exact Ev.ite_neg hyz (j1_ev n x y z p m q s hp h hm hs)
theorem l3At_ev (n : Nat) (hn : n ≤ 7) (s : ByteArray) (hs : s.size = (tri n).length) (x y z : Nat) (hx : x < n) (hy : y < n) (hz : z < n) (h1 : x ≠ y) (h2 : y ≠ z) (h3 : x ≠ z) :
    Ev (fun k => spec_l3At.f k n s x y z) (sg n s x y z) := by
  have h := srt_ok n x y z hn hx hy hz h1 h2 h3
  unfold okSrt at h
  unfold spec_l3At.f sg
  cases ha : srt n x y z with
  | none => rw [ha] at h; cases h
  | some mp =>
    obtain ⟨m, p⟩ := mp
    cases hb : src (tri n) 0 x y z with
    | none => rw [ha, hb] at h; cases h
    | some qb =>
      obtain ⟨q, b⟩ := qb
      rw [ha, hb] at h
      simp only [Bool.and_eq_true, beq_iff_eq, decide_eq_true_eq] at h
      obtain ⟨⟨rfl, hq⟩, hp⟩ := h
      have e : sval (sgAt s) 0 (some (q, b)) = look s q p := by
        subst hp
        unfold sval look sgAt
        cases b <;> by_cases h45 : bt s (q : Int) = 45 <;> simp [h45, wrap64]
      rw [e]
      unfold srt at ha
      by_cases hxy : (x : Int) > y
      · rw [if_pos hxy] at ha
        exact Ev.ite_pos hxy (j0_ev n y x z (-1) q p s (by omega) ha (by omega) (by omega))
      · rw [if_neg hxy] at ha
        exact Ev.ite_neg hxy (j0_ev n x y z 1 q p s (by omega) ha (by omega) (by omega))
def pm (v : Int) : Int := if v > 0 then 43 else 45
def codesT (l : List Int) (ts : List T3) : List Int := ts.map fun t => pm (chiA l t.f0 t.f1 t.f2)
theorem signs_ev (n : Nat) (hn : n ≤ 7) (l : List Int) (hl : l.length = 344) (hc : chiN l = n) : Ev (fun k => impl_chi_signs.f k l) ((n : Int), strOfNums (codesT l (tri n))) := by
  unfold impl_chi_signs.f
  rw [hc]
  refine Ev.ite_pos (by omega) (Ev.bind (triplesOf_ev n hn) ?_)
  have h35 : (tri n).length ≤ 1000 := by
    have : (List.range 8).all (fun n => decide ((tri n).length ≤ 1000)) = true := by decide +kernel
    rw [List.all_eq_true] at this
    simpa using this n (by simp; omega)
  have key := Ev.loop (fun i k => impl_chi_signs.l0 k l (codesT l ((tri n).take i)) (tri n) (tri n).length i) (tri n).length ((n : Int), strOfNums (codesT l (tri n))) ?_ ?_ 0 (by omega)
  · simpa [codesT] using key
  · refine Ev.step (fun k => impl_chi_signs.l0.eq_2 ..) (Ev.ite_neg (by omega) (Ev.ite_pos (by omega) (Ev.const ?_)))
    rw [List.take_length, hc]
  · intro i hi ih
    have ht := tri_at n hn i hi
    have hlen : (codesT l ((tri n).take i)).length < 140737488355328 := by unfold codesT; simp; omega
    refine Ev.step (fun k => impl_chi_signs.l0.eq_2 ..) (Ev.ite_pos (by omega) (Ev.ite_pos (by omega) (Ev.ite_pos (by omega) (Ev.ite_pos (by omega) ?_))))
    rw [wrap_nat i (by omega), rdT_lt _ i hi]
    have hcod : codesT l ((tri n).take (i + 1)) = codesT l ((tri n).take i) ++ [pm (chiA l (tri n)[i].f0 (tri n)[i].f1 (tri n)[i].f2)] := by
      unfold codesT
      rw [List.take_succ_eq_append_getElem hi, List.map_append]
      rfl
    rw [hcod] at ih
    generalize (tri n)[i] = t at ih ht ⊢
    unfold okT at ht
    rw [decide_eq_true_eq] at ht
    refine Ev.ite_pos (by omega) (Ev.ite_pos (by omega) (Ev.ite_pos (by omega) (Ev.ite_pos (by omega) (Ev.ite_pos (by omega) (Ev.ite_pos (by omega) ?_)))))
    unfold pm at ih
    by_cases h : chiA l t.f0 t.f1 t.f2 > 0
    · rw [if_pos h] at ih
      exact Ev.ite_pos h (Ev.ite_pos hlen ih)
    · rw [if_neg h] at ih
      exact Ev.ite_neg h (Ev.ite_pos hlen ih)
theorem all_tri : (List.range 8).all (fun n => (List.range (tri n).length).all fun m => (let t := (tri n).getD m ⟨0, 0, 0⟩; src (tri n) 0 t.f0 t.f1 t.f2 == some (m, true))) = true := by decide +kernel
theorem tri_src (n : Nat) (hn : n ≤ 7) (m : Nat) (hm : m < (tri n).length) : src (tri n) 0 (tri n)[m].f0 (tri n)[m].f1 (tri n)[m].f2 = some (m, true) := by
  have g := all_tri
  rw [List.all_eq_true] at g
  have g := g n (by simp; omega)
  rw [List.all_eq_true] at g
  have g := g m (by simpa using hm)
  rw [getD_lt _ _ _ hm] at g
  simpa using g
theorem tri_nat (n : Nat) (hn : n ≤ 7) (m : Nat) (hm : m < (tri n).length) : ∃ a b c : Nat, a < b ∧ b < c ∧ c < n ∧ (tri n)[m] = ⟨a, b, c⟩ := by
  have h := tri_ok n hn
  rw [List.all_eq_true] at h
  have h := h _ (List.getElem_mem hm)
  generalize (tri n)[m] = t at h ⊢
  obtain ⟨a, b, c⟩ := t
  unfold okT at h
  rw [decide_eq_true_eq] at h
  dsimp only at h
  obtain ⟨a, rfl⟩ := Int.eq_ofNat_of_zero_le h.1
  obtain ⟨b, rfl⟩ := Int.eq_ofNat_of_zero_le (show 0 ≤ b by omega)
  obtain ⟨c, rfl⟩ := Int.eq_ofNat_of_zero_le (show 0 ≤ c by omega)
  exact ⟨a, b, c, by omega, by omega, by omega, rfl⟩
theorem tab_tri (n : Nat) (hn : n ≤ 7) (s : ByteArray) (m : Nat) (hm : m < (tri n).length) : chiA (tab n s) (tri n)[m].f0 (tri n)[m].f1 (tri n)[m].f2 = sgAt s m := by
  obtain ⟨a, b, c, h1, h2, h3, e⟩ := tri_nat n hn m hm
  have hs := tri_src n hn m hm
  rw [e] at hs ⊢
  dsimp only at hs ⊢
  rw [tab_at n hn s a b c (by omega) (by omega) (by omega)]
  unfold sg
  rw [hs]
  rfl
def inE (n x : Int) : Bool := decide (0 ≤ x ∧ x < n)
def okD (n : Int) (l : List Int) (i : Nat) : Bool := inE n (rd l i) && !((List.range i).any fun j => rd l i == rd l j)
def diffFrom (n : Int) (l : List Int) (i : Nat) : Bool := ((List.range l.length).drop i).all (okD n l)
def diffB (n : Int) (l : List Int) : Bool := diffFrom n l 0
theorem diffFrom_step (n : Int) (l : List Int) (i : Nat) (h : i < l.length) : diffFrom n l i = (okD n l i && diffFrom n l (i + 1)) := by
  unfold diffFrom
  rw [range_drop' _ _ h, List.all_cons]
theorem rd_takeI (l : List Int) (n j : Nat) (h : j < n) : rd (l.take n) (j : Int) = rd l (j : Int) := by
  unfold rd
  rw [Int.toNat_natCast]
  simp [List.getD_eq_getElem?_getD, h]
theorem containsI_ev (l : List Int) (n : Nat) (hn : n ≤ l.length) (hl : l.length ≤ 1000000) (x : Int) :
    Ev (fun k => slices_Contains_Sint_int.f k (l.take n) x) ((List.range n).any fun j => x == rd l j) := by
  have hlen : (l.take n).length = n := by rw [List.length_take]; omega
  have key : ∀ d i, i + d = n → ∃ r, Ev (fun k => slices_Index_Sint_int.l0 k (l.take n) x n i) r ∧ decide (r ≥ 0) = ((List.range n).drop i).any fun j => x == rd l j := by
    intro d
    induction d with
    | zero =>
      intro i hi
      obtain rfl : i = n := by omega
      refine ⟨-1, Ev.step (fun k => slices_Index_Sint_int.l0.eq_2 ..) (Ev.ite_neg (by omega) (Ev.now _)), ?_⟩
      rw [List.drop_of_length_le (by simp)]
      rfl
    | succ d ih =>
      intro i hi
      obtain ⟨r, hr, he⟩ := ih (i + 1) (by omega)
      rw [range_drop' n i (by omega), List.any_cons]
      by_cases hb : x = rd l (i : Int)
      · refine ⟨i, Ev.step (fun k => slices_Index_Sint_int.l0.eq_2 ..) (Ev.ite_pos (by omega) (Ev.ite_pos (by omega) (Ev.ite_pos (by omega) (Ev.ite_pos (by rw [rd_takeI l n i (by omega)]; exact hb) (Ev.now _))))), ?_⟩
        rw [show (x == rd l (i : Int)) = true by simpa using hb]
        simp
      · refine ⟨r, Ev.step (fun k => slices_Index_Sint_int.l0.eq_2 ..) (Ev.ite_pos (by omega) (Ev.ite_pos (by omega) (Ev.ite_pos (by omega) (Ev.ite_neg (by rw [rd_takeI l n i (by omega)]; exact hb) ?_)))), ?_⟩
        · rw [wrap_nat i (by omega)]
          exact hr
        · rw [he, show (x == rd l (i : Int)) = false by simpa using hb, Bool.false_or]
  obtain ⟨r, hr, he⟩ := key n 0 (by omega)
  unfold slices_Contains_Sint_int.f slices_Index_Sint_int.f
  rw [hlen]
  refine Ev.bind hr (Ev.const ?_)
  rw [he, List.drop_zero]
theorem isElement_eq (n x : Int) : impl_isElement.f n x = some (inE n x) := by
  unfold impl_isElement.f inE
  by_cases h : x ≥ 0
  · rw [if_pos h]
    simp [h]
  · rw [if_neg h]
    simp [show ¬ 0 ≤ x by omega]
theorem impl_areDifferent_ev (n : Int) (l : List Int) (hl : l.length ≤ 1000000) : Ev (fun k => impl_areDifferent.f k n l) (diffB n l) := by
  unfold impl_areDifferent.f diffB
  refine Ev.loop_to (fun i k => impl_areDifferent.l0 k n l l l.length i) l.length (diffFrom n l) ?_ ?_ 0 (by omega)
  · refine Ev.step (fun k => impl_areDifferent.l0.eq_2 ..) (Ev.ite_neg (by omega) (Ev.const ?_))
    unfold diffFrom
    rw [List.drop_of_length_le (by simp)]
    rfl
  · intro i hi ih
    rw [diffFrom_step n l i hi]
    unfold okD
    refine Ev.step (fun k => impl_areDifferent.l0.eq_2 ..) (Ev.ite_pos (by omega) (Ev.ite_pos (by omega) (Ev.ite_pos (by omega) (Ev.bind0 (isElement_eq ..) ?_))))
    cases he : inE n (rd l (i : Int)) with
    | false => exact Ev.ite_neg (by simp) (Ev.now _)
    | true =>
      refine Ev.ite_pos rfl (Ev.ite_pos (by omega) ?_)
      rw [Int.toNat_natCast, wrap_nat i (by omega)]
      refine Ev.bind (containsI_ev l i (by omega) hl _) ?_
      cases hb : (List.range i).any fun j => rd l (i : Int) == rd l (j : Int) with
      | true => exact Ev.ite_pos rfl (Ev.now _)
      | false => exact Ev.ite_neg (by simp) (by simpa using ih)
theorem diff3 {n x y z : Int} (h : diffB n [x, y, z] = true) : (0 ≤ x ∧ x < n) ∧ (0 ≤ y ∧ y < n) ∧ (0 ≤ z ∧ z < n) ∧ x ≠ y ∧ y ≠ z ∧ x ≠ z := by
  simp [diffB, diffFrom, okD, inE, rd, List.range_succ] at h
  omega
def okEx (n x y z : Nat) : Bool :=
  match src (tri n) 0 x y z with
  | some (q, b) => (List.range (tri n).length).all fun m => (let t := (tri n).getD m ⟨0, 0, 0⟩; par ⟨x, y, z⟩ t.f0 t.f1 t.f2 == if m = q then some b else none)
  | none => false
theorem all_ex : (List.range 8).all (fun n => (List.range n).all fun x => (List.range n).all fun y => (List.range n).all fun z => x == y || y == z || x == z || okEx n x y z) = true := by decide +kernel
theorem ex_ok (n x y z : Nat) (hn : n ≤ 7) (hx : x < n) (hy : y < n) (hz : z < n) (h1 : x ≠ y) (h2 : y ≠ z) (h3 : x ≠ z) : okEx n x y z = true := by
  have h := all_ex
  rw [List.all_eq_true] at h
  have h := h n (by simp; omega)
  rw [List.all_eq_true] at h
  have h := h x (by simpa using hx)
  rw [List.all_eq_true] at h
  have h := h y (by simpa using hy)
  rw [List.all_eq_true] at h
  have h := h z (by simpa using hz)
  simpa [h1, h2, h3] using h
def place (n x y z : Int) : Option Int :=
  (spec_l1Min.f y z).bind fun t => (spec_l1Min.f x t).bind fun lo => (spec_l1Max.f y z).bind fun t' => (spec_l1Max.f x t').bind fun hi => spec_l3Index.f 60 n lo (wrap64 ((wrap64 ((wrap64 ((wrap64 (x + y)) + z)) - lo)) - hi)) hi
def okPl (n x y z : Nat) : Bool :=
  match src (tri n) 0 x y z, place n x y z with
  | some (q, _), some m => m == (q : Int) && decide (q < (tri n).length)
  | _, _ => false
theorem all_pl : (List.range 8).all (fun n => (List.range n).all fun x => (List.range n).all fun y => (List.range n).all fun z => x == y || y == z || x == z || okPl n x y z) = true := by decide +kernel
theorem pl_ok (n x y z : Nat) (hn : n ≤ 7) (hx : x < n) (hy : y < n) (hz : z < n) (h1 : x ≠ y) (h2 : y ≠ z) (h3 : x ≠ z) : okPl n x y z = true := by
  have h := all_pl
  rw [List.all_eq_true] at h
  have h := h n (by simp; omega)
  rw [List.all_eq_true] at h
  have h := h x (by simpa using hx)
  rw [List.all_eq_true] at h
  have h := h y (by simpa using hy)
  rw [List.all_eq_true] at h
  have h := h z (by simpa using hz)
  simpa [h1, h2, h3] using h
theorem src_some (n x y z : Nat) (hn : n ≤ 7) (hx : x < n) (hy : y < n) (hz : z < n) (h1 : x ≠ y) (h2 : y ≠ z) (h3 : x ≠ z) : ∃ q b, src (tri n) 0 x y z = some (q, b) ∧ q < (tri n).length ∧ place n x y z = some (q : Int) := by
  have h := pl_ok n x y z hn hx hy hz h1 h2 h3
  unfold okPl at h
  cases ha : src (tri n) 0 x y z with
  | none => rw [ha] at h; cases h
  | some p =>
    obtain ⟨q, b⟩ := p
    cases hb : place n x y z with
    | none => rw [ha, hb] at h; cases h
    | some m =>
      rw [ha, hb] at h
      simp only [Bool.and_eq_true, beq_iff_eq, decide_eq_true_eq] at h
      exact ⟨q, b, rfl, h.2, by rw [h.1]⟩
def codesX (s : ByteArray) (len q : Nat) : List Int := (List.range len).map fun m : Nat => if m = q then (if bt s (m : Int) = 43 then 45 else 43) else bt s (m : Int)
theorem codes_of_set (n x y z : Nat) (hn : n ≤ 7) (hx : x < n) (hy : y < n) (hz : z < n) (h1 : x ≠ y) (h2 : y ≠ z) (h3 : x ≠ z) (s : ByteArray) (hs : s.size = (tri n).length) (hpm : ∀ m, m < s.size → isPM s m = true) (q : Nat) (b : Bool) (hq : src (tri n) 0 x y z = some (q, b)) :
    codesT (chiSet (tab n s) x y z (wrap64 (-(chiA (tab n s) x y z)))) (tri n) = codesX s (tri n).length q := by
  have h := ex_ok n x y z hn hx hy hz h1 h2 h3
  unfold okEx at h
  rw [hq] at h
  dsimp only at h
  rw [List.all_eq_true] at h
  apply List.ext_getElem
  · simp [codesT, codesX]
  · intro m hm hm'
    have hm1 : m < (tri n).length := by simpa [codesT] using hm
    have g := h m (by simpa using hm1)
    rw [getD_lt _ _ _ hm1] at g
    simp only [codesT, codesX, List.getElem_map, List.getElem_range]
    have hp := hpm m (by omega)
    have ht := tab_tri n hn s m hm1
    obtain ⟨a, b', c, k1, k2, k3, e⟩ := tri_nat n hn m hm1
    rw [e] at g ht ⊢
    dsimp only at g ht ⊢
    rw [chiA_set (tab n s) (tab_length n s) x y z (by omega) (by omega) (by omega) h1 h2 h3 _ a b' c (by omega) (by omega) (by omega)]
    have g' : par ⟨x, y, z⟩ a b' c = if m = q then some b else none := by simpa using g
    rw [g', ht, tab_at n hn s x y z (by omega) (by omega) (by omega)]
    unfold isPM at hp
    simp only [Bool.or_eq_true, beq_iff_eq] at hp
    by_cases hmq : m = q
    · subst hmq
      rw [if_pos rfl, if_pos rfl]
      unfold sg
      rw [hq]
      unfold sval sgAt pm
      cases b <;> rcases hp with hp | hp <;> simp [hp, wrap64]
    · rw [if_neg hmq, if_neg hmq]
      unfold sgAt pm
      rcases hp with hp | hp <;> simp [hp]
theorem bt_get (s : ByteArray) (m : Nat) (h : m < s.size) : UInt8.ofNat (bt s (m : Int)).toNat = s.data[m]'h := by
  unfold bt
  rw [dif_pos (by simpa using h)]
  simp
  rfl
theorem text_of_codes (s : ByteArray) (q : Nat) (hq : q < s.size) (c : Int) (hc : c = if bt s (q : Int) = 43 then 45 else 43) :
    strOfNums (codesX s s.size q) = ((s.extract 0 q) ++ (⟨#[UInt8.ofNat c.toNat]⟩ : ByteArray)) ++ (s.extract (q + 1) s.size) := by
  apply ByteArray.ext
  apply Array.ext'
  have hL : (strOfNums (codesX s s.size q)).data.toList = s.data.toList.set q (UInt8.ofNat c.toNat) := by
    apply List.ext_getElem
    · rw [List.length_set]
      simp [strOfNums, codesX]
    · intro m hm hm'
      have hm1 : m < s.size := by simpa [strOfNums, codesX] using hm
      rw [List.getElem_set]
      simp only [strOfNums, codesX, List.getElem_map, List.getElem_range, List.map_map, Function.comp]
      by_cases e : q = m
      · subst e
        rw [if_pos rfl, if_pos rfl, ← hc]
      · rw [if_neg e, if_neg (fun h => e h.symm), bt_get s m hm1]
        rfl
  rw [hL, List.set_eq_take_append_cons_drop]
  have hq' : q < s.data.toList.length := hq
  rw [if_pos hq']
  rw [ByteArray.data_append, ByteArray.data_append, Array.toList_append, Array.toList_append, ByteArray.data_extract, ByteArray.data_extract, Array.toList_extract, Array.toList_extract]
  simp only [List.extract_eq_take_drop, List.drop_zero, Nat.sub_zero, List.append_assoc, List.singleton_append]
  congr 2
  rw [List.take_of_length_le]
  rw [List.length_drop]
  exact Nat.le_refl _
theorem diff3_of {n x y z : Int} (h : (0 ≤ x ∧ x < n) ∧ (0 ≤ y ∧ y < n) ∧ (0 ≤ z ∧ z < n) ∧ x ≠ y ∧ y ≠ z ∧ x ≠ z) : diffB n [x, y, z] = true := by
  simp [diffB, diffFrom, okD, inE, rd, List.range_succ]
  omega
theorem isS_pm {n : Int} {s : ByteArray} (h : isS n s = true) (m : Nat) (hm : m < s.size) : isPM s m = true := by
  unfold isS at h
  rw [Bool.and_eq_true, List.all_eq_true] at h
  exact h.2 m (by simpa using hm)
theorem l14_eq (n : Int) (s : ByteArray) (q : Nat) (hq : q < s.size) (hs : s.size ≤ 1000) : spec_l14Exchange.f n s q = some (n, strOfNums (codesX s s.size q)) := by
  have hw : wrap64 ((q : Int) + 1) = ((q + 1 : Nat) : Int) := wrap_nat q (by omega)
  have e1 : ∀ c : UInt8, ((s.extract 0 q) ++ (⟨#[c]⟩ : ByteArray)).size = q + 1 := by
    intro c
    rw [ByteArray.size_append, ByteArray.size_extract]
    show min q s.size - 0 + 1 = q + 1
    omega
  have e2 : (s.extract 0 q).size = q := by rw [ByteArray.size_extract]; omega
  have e3 : (s.extract (q + 1) s.size).size ≤ 1000 := by rw [ByteArray.size_extract]; omega
  unfold spec_l14Exchange.f
  rw [if_pos (by omega), if_pos (by omega)]
  simp only [hw, Int.toNat_natCast]
  by_cases h43 : bt s (q : Int) = 43
  · rw [if_pos h43, if_pos (by omega), if_pos (by omega), if_pos (by omega), if_pos (by omega), if_pos (by rw [e1]; omega)]
    rw [text_of_codes s q hq 45 (by rw [if_pos h43])]
    rfl
  · rw [if_neg h43, if_pos (by omega), if_pos (by omega), if_pos (by omega), if_pos (by omega), if_pos (by rw [e1]; omega)]
    rw [text_of_codes s q hq 43 (by rw [if_neg h43])]
    rfl
def exT (n : Nat) (s : ByteArray) (x y z : Int) : ByteArray := strOfNums (codesX s s.size (((src (tri n) 0 x y z).map Prod.fst).getD 0))
def exS (n : Int) (s : ByteArray) (x y z : Int) : Int × ByteArray × Bool := if isS n s = true ∧ diffB n [x, y, z] = true then (n, exT n.toNat s x y z, true) else (0, ⟨#[]⟩, false)
theorem impl_Exchange_ev (n : Int) (s : ByteArray) (x y z : Int) : Ev (fun k => impl_ExchangeSign.f k n s x y z) (exS n s x y z) := by
  have hI := impl_AreSigns_ev n s
  unfold impl_ExchangeSign.f exS
  have none_ : Ev (fun k => impl_ExchangeSign.j0 k x y z true n s) ((0 : Int), (⟨#[]⟩ : ByteArray), false) := Ev.step (fun k => impl_ExchangeSign.j0.eq_2 ..) (Ev.ite_pos rfl (Ev.now _))
  cases hA : isS n s with
  | false =>
    rw [hA] at hI
    rw [if_neg (by simp)]
    exact Ev.bind hI (Ev.ite_neg (by simp) none_)
  | true =>
    rw [hA] at hI
    obtain ⟨h3, h7, hs, hs35⟩ := isS_bounds hA
    have dI := impl_areDifferent_ev n [x, y, z] (by simp)
    cases hD : diffB n [x, y, z] with
    | false =>
      rw [hD] at dI
      rw [if_neg (by simp)]
      exact Ev.bind hI (Ev.ite_pos rfl (Ev.bind dI none_))
    | true =>
      rw [hD] at dI
      rw [if_pos ⟨rfl, rfl⟩]
      have hd := diff3 hD
      have hpm := fun m hm => isS_pm hA m hm
      obtain ⟨n, rfl⟩ := Int.eq_ofNat_of_zero_le (show 0 ≤ n by omega)
      obtain ⟨x, rfl⟩ := Int.eq_ofNat_of_zero_le hd.1.1
      obtain ⟨y, rfl⟩ := Int.eq_ofNat_of_zero_le hd.2.1.1
      obtain ⟨z, rfl⟩ := Int.eq_ofNat_of_zero_le hd.2.2.1.1
      rw [Int.toNat_natCast] at hs ⊢
      obtain ⟨q, b, hq, hq1, _⟩ := src_some n x y z (by omega) (by omega) (by omega) (by omega) (by omega) (by omega) (by omega)
      have hl := tab_length n s
      have hset : impl_chi_set.f (tab n s) x y z (wrap64 (-(chiA (tab n s) x y z))) = some (chiSet (tab n s) x y z (wrap64 (-(chiA (tab n s) x y z)))) := by
        unfold impl_chi_set.f
        rw [if_pos ⟨hl, by omega, by omega, by omega⟩]
      have hcn : chiN (chiSet (tab n s) x y z (wrap64 (-(chiA (tab n s) x y z)))) = n := by
        have := chiN_put3 (tab n s) hl ⟨x, y, z⟩ (wrap64 (-(chiA (tab n s) x y z)))
        rw [tab_n] at this
        exact this
      have hsig := signs_ev n (by omega) _ (by rw [chiSet_length]; exact hl) hcn
      rw [codes_of_set n x y z (by omega) (by omega) (by omega) (by omega) (by omega) (by omega) (by omega) s hs hpm q b hq] at hsig
      refine Ev.bind hI (Ev.ite_pos rfl (Ev.bind dI (Ev.step (fun k => impl_ExchangeSign.j0.eq_2 ..) (Ev.ite_neg (by simp) (Ev.bind (tableOf_ev n (by omega) s hs) ?_)))))
      refine Ev.ite_pos (by omega) (Ev.ite_pos (by omega) (Ev.ite_pos (by omega) (Ev.ite_pos (by omega) (Ev.ite_pos (by omega) (Ev.ite_pos (by omega) (Ev.ite_pos (by omega) ?_))))))
      refine Ev.bind0 hset (Ev.bind hsig (Ev.const ?_))
      unfold exT
      rw [hq, hs]
      rfl
end Go.Proofs.Ytbglgapndefcfaa.Pure
namespace Go.Proofs.Ytbglgapndefcfaa.P
open Go.RowKit Go.Proofs.YtbglgapndefcfaaW.PrintWords Go.Proofs.YtbglgapndefcfaaW.PrintLast Go.Proofs.YtbglgapndefcfaaW.PrintMore
set_option linter.unusedVariables false
set_option linter.unusedSimpArgs false
def oppI (x : Int) : Int := if x = 43 then 45 else if x = 45 then 43 else x
def oppL (s : ByteArray) : List Int := (List.range s.size).map fun j : Nat => oppI (bt s (j : Int))
def impl_opposite.f (a0 : ByteArray) : Option ByteArray := if a0.size ≤ 9223372036854775807 then some (strOfNums (oppL a0)) else none
def oppR (s : ByteArray) (i j : Nat) : Int := if j < i then oppI (bt s (j : Int)) else bt s (j : Int)
theorem OPB (w : World) (e : TypeId) (s : ByteArray) : Below w.heap.size w (Lib.bytesWorld w e s) :=
  ⟨rfl, rfl, rfl, by rw [Lib.bytesWorld_size]; omega, fun k hk => Lib.bytesWorld_at_old w e s k hk⟩
theorem OPW (i : Nat) (h : i < 9223372036854775807) : wrap64 ((i : Int) + 1) = ((i + 1 : Nat) : Int) := by
  unfold wrap64
  omega
theorem opp_bt (s : ByteArray) (j : Nat) (hj : j < s.size) : (some (Value.int .u8 (s.data.toList.getD j 0).toNat)) = some (.int .u8 (bt s (j : Int))) := by
  unfold bt
  rw [dif_pos (by simpa using hj)]
  have h : j < s.data.toList.length := hj
  rw [List.getD_eq_getElem?_getD, List.getElem?_eq_getElem h]
  rfl
theorem opp_frozen (w : World) (e : TypeId) (s : ByteArray) (j : Nat) (hj : j < s.size) : (Lib.bytesWorld w e s).frozen? ⟨w.heap.size, j, none⟩ = false := by
  have h1 : s.size ≤ (Lib.bytesCells w e s).size := by
    unfold Lib.bytesCells
    rw [Array.size_append, Array.size_map]
    exact Nat.le_add_right _ _
  unfold World.frozen?
  simp only [Lib.bytesWorld_at_new]
  simp
  omega
set_option maxHeartbeats 2000000 in
set_option maxRecDepth 100000 in
theorem impl_opposite.calls (a0 : ByteArray) (r : ByteArray) (w : World) (h : impl_opposite.f a0 = some r) :
    Calls Try.prog 50 #[.string a0] w fun e w' => e = .returned (.string r) ∧ Below w.heap.size w w' := by
  unfold impl_opposite.f at h
  by_cases hsz : a0.size ≤ 9223372036854775807
  case neg => rw [if_neg hsz] at h; cases h
  rw [if_pos hsz] at h
  obtain rfl := Option.some.inj h
  clear h
  have hcv : ∀ W : World, (convert 9 87 (.string a0)).run Try.prog W = .ok (.slice (some ⟨W.heap.size, 0, none⟩) a0.size (grownCap W a0.size 0 5)) (Lib.bytesWorld W 5 a0) :=
    fun W => Lib.run_convert_string_bytes W _ _ _ a0 Try.underlying9 Try.underlying87 Try.underlying5
  have hbel0 : Below w.heap.size w (Lib.bytesWorld w 5 a0) := OPB w 5 a0
  have hc0 : ∀ j, j < a0.size → (Lib.bytesWorld w 5 a0).cell? ⟨w.heap.size, j, none⟩ = some (.int .u8 (bt a0 (j : Int))) := fun j hj => by
    rw [Lib.bytesWorld_cell w 5 a0 j hj, opp_bt a0 j hj]
  have hf0 : ∀ j, j < a0.size → (Lib.bytesWorld w 5 a0).frozen? ⟨w.heap.size, j, none⟩ = false := fun j hj => opp_frozen w 5 a0 j hj
  have HC := Aside0.mk hc0; have HF := Aside0.mk hf0; have HB := Aside0.mk hbel0; have HS := Aside0.mk hsz
  clear hc0 hf0 hbel0 hsz
  go_enter Try.func50, Try.ntmps50
  go_wp2
  generalize grownCap w a0.size 0 5 = cap
  generalize Lib.bytesWorld w 5 a0 = w1 at HC HF HB ⊢
  go_loopg [10] a0.size (fun gg v10 wr => ∃ i : Nat, i ≤ a0.size ∧ a0.size - i ≤ gg ∧ v10 = .int .i64 i ∧ Aside0 (Below w.heap.size w wr) ∧ Aside0 (∀ j, j < a0.size → wr.cell? ⟨w.heap.size, j, none⟩ = some (.int .u8 (oppR a0 i j))) ∧ Aside0 (∀ j, j < a0.size → wr.frozen? ⟨w.heap.size, j, none⟩ = false))
  case atStart =>
    refine ⟨0, Nat.zero_le _, by omega, rfl, HB, ⟨fun j hj => ?_⟩, HF⟩
    rw [HC.out j hj]
    rfl
  case round =>
    clear HC HF HB
    obtain ⟨i, hi, hg, rfl, HB, HC, HF⟩ := hrel
    by_cases hlt : i < a0.size
    · have hltz : (i : Int) < (a0.size : Int) := by omega
      have l1 := HC.out i hlt
      have f1 := HF.out i hlt
      rw [show oppR a0 i i = bt a0 (i : Int) by unfold oppR; rw [if_neg (Nat.lt_irrefl _)]] at l1
      have hstep : ∀ (W : World) (x : Int), x = oppI (bt a0 (i : Int)) → (∀ j, j < a0.size → W.cell? ⟨w.heap.size, j, none⟩ = some (.int .u8 (if j = i then x else oppR a0 i j))) → ∀ j, j < a0.size → W.cell? ⟨w.heap.size, j, none⟩ = some (.int .u8 (oppR a0 (i + 1) j)) := by
        intro W x hx hW j hj
        rw [hW j hj]
        unfold oppR
        by_cases e : j = i
        · subst e; rw [if_pos rfl, if_pos (Nat.lt_succ_self _), hx]
        · rw [if_neg e]
          by_cases e2 : j < i
          · rw [if_pos e2, if_pos (by omega)]
          · rw [if_neg e2, if_neg (by omega)]
      have HSTEP := Aside0.mk hstep
      clear hstep
      generalize hb : bt a0 (i : Int) = b at l1 HSTEP
      have HBB := Aside0.mk hb
      clear hb
      by_cases h43 : b = 43
      · subst h43
        go_wp2
        go_roundg (a0.size - (i + 1))
        case measure => omega
        case rel =>
          refine ⟨i + 1, by omega, by omega, by rw [OPW i (by have := HS.out; omega)], ⟨HB.out.setCell (Nat.le_refl _) _⟩, ⟨HSTEP.out _ 45 rfl (fun j hj => ?_)⟩, ⟨fun j hj => by rw [World.frozen?_setCell]; exact HF.out j hj⟩⟩
          by_cases e : j = i
          · subst e; rw [if_pos rfl, World.cell?_setCell_same (h := l1)]
          · rw [if_neg e, World.cell?_setCell_other (h := by intro h; injection h with _ h2 _; exact e h2.symm)]; exact HC.out j hj
      · by_cases h45 : b = 45
        · subst h45
          have n43 : ((45 : Int) == 43) = false := rfl
          go_wp2
          go_roundg (a0.size - (i + 1))
          case measure => omega
          case rel =>
            refine ⟨i + 1, by omega, by omega, by rw [OPW i (by have := HS.out; omega)], ⟨HB.out.setCell (Nat.le_refl _) _⟩, ⟨HSTEP.out _ 43 rfl (fun j hj => ?_)⟩, ⟨fun j hj => by rw [World.frozen?_setCell]; exact HF.out j hj⟩⟩
            by_cases e : j = i
            · subst e; rw [if_pos rfl, World.cell?_setCell_same (h := l1)]
            · rw [if_neg e, World.cell?_setCell_other (h := by intro h; injection h with _ h2 _; exact e h2.symm)]; exact HC.out j hj
        · have n43 : (b == 43) = false := beq_eq_false_iff_ne.mpr h43
          have n45 : (b == 45) = false := beq_eq_false_iff_ne.mpr h45
          go_wp2
          go_roundg (a0.size - (i + 1))
          case measure => omega
          case rel =>
            refine ⟨i + 1, by omega, by omega, by rw [OPW i (by have := HS.out; omega)], HB, ⟨HSTEP.out _ b (by unfold oppI; rw [if_neg h43, if_neg h45]) (fun j hj => ?_)⟩, HF⟩
            by_cases e : j = i
            · subst e; rw [if_pos rfl]; exact l1
            · rw [if_neg e]; exact HC.out j hj
    · have hltz : ¬ (i : Int) < (a0.size : Int) := by omega
      have : i = a0.size := by omega
      subst this
      have hcv2 : ∀ W : World, (∀ j, j < a0.size → W.cell? ⟨w.heap.size, 0 + j, none⟩ = some (.int .u8 ((oppL a0).getD j 0))) → (convert 87 9 (Value.slice (some ⟨w.heap.size, 0, none⟩) a0.size cap)).run Try.prog W = .ok (.string (strOfNums (oppL a0))) W :=
        fun W hW => run_convert_bytes_arg W 87 5 Try.underlying87 Try.underlying5 w.heap.size 0 a0.size cap (oppL a0) (by rw [oppL, List.length_map, List.length_range]) hW 9 Try.underlying9
      have hcv3 := hcv2 wr (fun j hj => by
        rw [Nat.zero_add, HC.out j hj]
        unfold oppR oppL
        rw [if_pos hj, List.getD_eq_getElem?_getD, List.getElem?_map, List.getElem?_range hj]
        rfl)
      go_wp2
      go_ret
      exact ⟨rfl, HB.out⟩
end Go.Proofs.Ytbglgapndefcfaa.P
namespace Go.Proofs.Ytbglgapndefcfaa.Pure
set_option linter.unusedSimpArgs false
set_option linter.unusedVariables false
open Go.RowKit Go.Proofs.YtbglgapndefcfaaW.PrintWords Go.Proofs.Ytbglgapndefcfaa.P Go.Proofs.Ytbglgapndefcfaa.Pl
abbrev Q4 := S97
def quad : Nat → List Q4
  | 4 => [⟨0, 1, 2, 3⟩]
  | 5 => [⟨0, 1, 2, 3⟩, ⟨0, 1, 2, 4⟩, ⟨0, 1, 3, 4⟩, ⟨0, 2, 3, 4⟩, ⟨1, 2, 3, 4⟩]
  | 6 => [⟨0, 1, 2, 3⟩, ⟨0, 1, 2, 4⟩, ⟨0, 1, 2, 5⟩, ⟨0, 1, 3, 4⟩, ⟨0, 1, 3, 5⟩, ⟨0, 1, 4, 5⟩, ⟨0, 2, 3, 4⟩, ⟨0, 2, 3, 5⟩, ⟨0, 2, 4, 5⟩, ⟨0, 3, 4, 5⟩, ⟨1, 2, 3, 4⟩, ⟨1, 2, 3, 5⟩, ⟨1, 2, 4, 5⟩, ⟨1, 3, 4, 5⟩, ⟨2, 3, 4, 5⟩]
  | 7 => [⟨0, 1, 2, 3⟩, ⟨0, 1, 2, 4⟩, ⟨0, 1, 2, 5⟩, ⟨0, 1, 2, 6⟩, ⟨0, 1, 3, 4⟩, ⟨0, 1, 3, 5⟩, ⟨0, 1, 3, 6⟩, ⟨0, 1, 4, 5⟩, ⟨0, 1, 4, 6⟩, ⟨0, 1, 5, 6⟩, ⟨0, 2, 3, 4⟩, ⟨0, 2, 3, 5⟩, ⟨0, 2, 3, 6⟩, ⟨0, 2, 4, 5⟩, ⟨0, 2, 4, 6⟩, ⟨0, 2, 5, 6⟩, ⟨0, 3, 4, 5⟩, ⟨0, 3, 4, 6⟩, ⟨0, 3, 5, 6⟩, ⟨0, 4, 5, 6⟩, ⟨1, 2, 3, 4⟩, ⟨1, 2, 3, 5⟩, ⟨1, 2, 3, 6⟩, ⟨1, 2, 4, 5⟩, ⟨1, 2, 4, 6⟩, ⟨1, 2, 5, 6⟩, ⟨1, 3, 4, 5⟩, ⟨1, 3, 4, 6⟩, ⟨1, 3, 5, 6⟩, ⟨1, 4, 5, 6⟩, ⟨2, 3, 4, 5⟩, ⟨2, 3, 4, 6⟩, ⟨2, 3, 5, 6⟩, ⟨2, 4, 5, 6⟩, ⟨3, 4, 5, 6⟩]
  | _ => []
theorem quad_some : ∀ n : Nat, n ≤ 7 → impl_quadsOf.f 700 n = some (quad n)
  | 0, _ => by kernel_rfl
  | 1, _ => by kernel_rfl
  | 2, _ => by kernel_rfl
  | 3, _ => by kernel_rfl
  | 4, _ => by kernel_rfl
  | 5, _ => by kernel_rfl
  | 6, _ => by kernel_rfl
  | 7, _ => by kernel_rfl
  | n + 8, h => absurd h (by omega)
theorem quadsOf_ev (n : Nat) (h : n ≤ 7) : Ev (fun k => impl_quadsOf.f k n) (quad n) := Ev.of (impl_quadsOf.mono _) (quad_some n h)
def okQ (n : Nat) (q : Q4) : Bool := decide (0 ≤ q.f0 ∧ q.f0 < q.f1 ∧ q.f1 < q.f2 ∧ q.f2 < q.f3 ∧ q.f3 < n)
theorem all_q : (List.range 8).all (fun n => (quad n).all (okQ n) && decide ((quad n).length ≤ 1000)) = true := by decide +kernel
theorem quad_ok (n : Nat) (h : n ≤ 7) : (quad n).all (okQ n) = true ∧ (quad n).length ≤ 1000 := by
  have := all_q
  rw [List.all_eq_true] at this
  have := this n (by simp; omega)
  rw [Bool.and_eq_true, decide_eq_true_eq] at this
  exact this
def brk (n : Nat) (s : ByteArray) (a b c d e : Int) : Bool :=
  decide (wrap64 (sg n s a b c * sg n s a d e) = wrap64 (sg n s a b e * sg n s a c d)) && (wrap64 (sg n s a b e * sg n s a c d) == wrap64 ((wrap64 (-(sg n s a b d))) * sg n s a c e))
theorem breaks_eq (n : Nat) (hn : n ≤ 7) (s : ByteArray) (a b c d e : Nat) (ha : a < 7) (hb : b < 7) (hc : c < 7) (hd : d < 7) (he : e < 7) : impl_chi_breaks.f (tab n s) a b c d e = some (brk n s a b c d e) := by
  unfold impl_chi_breaks.f brk
  have hl := tab_length n s
  rw [if_pos (by omega), if_pos (by omega), if_pos (by omega), if_pos (by omega), if_pos (by omega), if_pos (by omega), if_pos (by omega), if_pos (by omega), if_pos (by omega), if_pos (by omega), if_pos (by omega)]
  rw [tab_at n hn s a b c ha hb hc, tab_at n hn s a d e ha hd he, tab_at n hn s a b e ha hb he, tab_at n hn s a c d ha hc hd, tab_at n hn s a b d ha hb hd, tab_at n hn s a c e ha hc he]
  by_cases h : wrap64 (sg n s a b c * sg n s a d e) = wrap64 (sg n s a b e * sg n s a c d)
  · rw [if_pos h, decide_eq_true h, Bool.true_and]
  · rw [if_neg h, decide_eq_false h, Bool.false_and]
theorem l4Breaks_ev (n : Nat) (hn : n ≤ 7) (s : ByteArray) (hs : s.size = (tri n).length) (a b c d e : Nat) (ha : a < n) (hb : b < n) (hc : c < n) (hd : d < n) (he : e < n)
    (hab : a ≠ b) (hac : a ≠ c) (had : a ≠ d) (hae : a ≠ e) (hbc : b < c) (hcd : c < d) (hde : d < e) : Ev (fun k => spec_l4Breaks.f k n s a b c d e) (brk n s a b c d e) := by
  unfold spec_l4Breaks.f brk
  refine Ev.bind (l3At_ev n hn s hs a b c ha hb hc hab (by omega) hac) (Ev.bind (l3At_ev n hn s hs a d e ha hd he had (by omega) hae) (Ev.bind (l3At_ev n hn s hs a b e ha hb he hab (by omega) hae) (Ev.bind (l3At_ev n hn s hs a c d ha hc hd hac (by omega) had) (Ev.bind (l3At_ev n hn s hs a b d ha hb hd hab (by omega) had) (Ev.bind (l3At_ev n hn s hs a c e ha hc he hac (by omega) hae) ?_)))))
  by_cases h : wrap64 (sg n s a b c * sg n s a d e) = wrap64 (sg n s a b e * sg n s a c d)
  · rw [decide_eq_true h, Bool.true_and]
    exact Ev.ite_pos h (Ev.now _)
  · rw [decide_eq_false h, Bool.false_and]
    exact Ev.ite_neg h (Ev.now _)
theorem loopE (g : Nat → Nat → Option (List Int)) (m : Nat) (P : Nat → Bool) (X : Bool) (lo : Nat) (hlo : lo ≤ m) (hend : ∃ r, Ev (g m) r ∧ r.isEmpty = !X)
    (hstep : ∀ i, lo ≤ i → i < m → (∃ r, Ev (g (i + 1)) r ∧ r.isEmpty = !(((List.range m).drop (i + 1)).any P || X)) → ∃ r, Ev (g i) r ∧ r.isEmpty = !(P i || (((List.range m).drop (i + 1)).any P || X))) :
    ∃ r, Ev (g lo) r ∧ r.isEmpty = !(((List.range m).drop lo).any P || X) := by
  have key : ∀ d i, lo ≤ i → i + d = m → ∃ r, Ev (g i) r ∧ r.isEmpty = !(((List.range m).drop i).any P || X) := by
    intro d
    induction d with
    | zero =>
      intro i _ hi
      obtain rfl : i = m := by omega
      rw [List.drop_of_length_le (by simp)]
      simpa using hend
    | succ d ih =>
      intro i hl hi
      rw [range_drop' m i (by omega), List.any_cons, Bool.or_assoc]
      exact hstep i hl (by omega) (ih (i + 1) (by omega) (by omega))
  exact key (m - lo) lo (Nat.le_refl _) (by omega)
def avoid (a : Int) (q : Q4) : Bool := !(q.f0 == a || q.f1 == a || q.f2 == a || q.f3 == a)
def brkQ (n : Nat) (s : ByteArray) (a : Int) (q : Q4) : Bool := brk n s a q.f0 q.f1 q.f2 q.f3
def anyA (n : Nat) (s : ByteArray) (a : Nat) : Bool := (quad n).any fun q => avoid a q && brkQ n s a q
def anyB (n : Nat) (s : ByteArray) : Bool := (List.range n).any (anyA n s)
theorem any_range (l : List Q4) (P : Q4 → Bool) : (List.range l.length).any (fun i => P (rd_T97 l (i : Int))) = l.any P := by
  rw [Bool.eq_iff_iff, List.any_eq_true, List.any_eq_true]
  have hr : ∀ i (h : i < l.length), rd_T97 l (i : Int) = l[i] := by
    intro i h
    unfold rd_T97
    rw [Int.toNat_natCast, getD_lt _ _ _ h]
  constructor
  · rintro ⟨i, hi, hp⟩
    rw [List.mem_range] at hi
    rw [hr i hi] at hp
    exact ⟨_, List.getElem_mem hi, hp⟩
  · rintro ⟨q, hq, hp⟩
    obtain ⟨i, hi, rfl⟩ := List.getElem_of_mem hq
    exact ⟨i, by simpa using hi, by rw [hr i hi]; exact hp⟩
theorem impl_first_ev (n : Nat) (hn : n ≤ 7) (s : ByteArray) : ∃ r, Ev (fun k => impl_chi_firstBreak.f k (tab n s)) r ∧ r.isEmpty = !anyB n s := by
  have hl := tab_length n s
  obtain ⟨hq, hq1⟩ := quad_ok n hn
  unfold impl_chi_firstBreak.f
  have key := loopE (fun a k => impl_chi_firstBreak.l0 k (tab n s) a) n (anyA n s) false 0 (by omega) ?_ ?_
  · simpa [anyB] using key
  · refine ⟨[], Ev.step (fun k => impl_chi_firstBreak.l0.eq_2 ..) (Ev.ite_pos (by omega) (Ev.ite_neg (by rw [tab_n]; omega) (Ev.now _))), rfl⟩
  · intro a _ ha h0
    rw [Bool.or_false] at h0 ⊢
    have key2 := loopE (fun i k => impl_chi_firstBreak.l1 k (tab n s) a (quad n) (quad n).length i) (quad n).length (fun i => avoid a (rd_T97 (quad n) (i : Int)) && brkQ n s a (rd_T97 (quad n) (i : Int))) (((List.range n).drop (a + 1)).any (anyA n s)) 0 (by omega) ?_ ?_
    · obtain ⟨r, h1, h2⟩ := key2
      rw [List.drop_zero, any_range (quad n) (fun q => avoid a q && brkQ n s a q)] at h2
      refine ⟨r, Ev.step (fun k => impl_chi_firstBreak.l0.eq_2 ..) (Ev.ite_pos (by omega) (Ev.ite_pos (by rw [tab_n]; omega) ?_)), h2⟩
      rw [tab_n]
      exact Ev.bind (quadsOf_ev n hn) h1
    · obtain ⟨r, h1, h2⟩ := h0
      refine ⟨r, Ev.step (fun k => impl_chi_firstBreak.l1.eq_2 ..) (Ev.ite_neg (by omega) ?_), h2⟩
      rw [wrap_nat a (by omega)]
      exact h1
    · intro i _ hi h1
      have hr : rd_T97 (quad n) (i : Int) = (quad n)[i] := by
        unfold rd_T97
        rw [Int.toNat_natCast, getD_lt _ _ _ hi]
      rw [List.all_eq_true] at hq
      have ht := hq _ (List.getElem_mem hi)
      rw [← hr] at ht
      obtain ⟨r, h1, h2⟩ := h1
      rw [← wrap_nat i (by omega)] at h1
      by_cases hav : avoid a (rd_T97 (quad n) (i : Int)) = true
      · have hav' := hav
        unfold avoid at hav'
        simp only [Bool.not_eq_true', Bool.or_eq_false_iff, beq_eq_false_iff_ne] at hav'
        obtain ⟨⟨⟨e0, e1⟩, e2⟩, e3⟩ := hav'
        have hb : impl_chi_breaks.f (tab n s) a (rd_T97 (quad n) (i : Int)).f0 (rd_T97 (quad n) (i : Int)).f1 (rd_T97 (quad n) (i : Int)).f2 (rd_T97 (quad n) (i : Int)).f3 = some (brkQ n s a (rd_T97 (quad n) (i : Int))) := by
          generalize rd_T97 (quad n) (i : Int) = q at ht ⊢
          obtain ⟨b, c, d, e⟩ := q
          unfold okQ at ht
          rw [decide_eq_true_eq] at ht
          dsimp only at ht
          obtain ⟨b, rfl⟩ := Int.eq_ofNat_of_zero_le ht.1
          obtain ⟨c, rfl⟩ := Int.eq_ofNat_of_zero_le (show 0 ≤ c by omega)
          obtain ⟨d, rfl⟩ := Int.eq_ofNat_of_zero_le (show 0 ≤ d by omega)
          obtain ⟨e, rfl⟩ := Int.eq_ofNat_of_zero_le (show 0 ≤ e by omega)
          exact breaks_eq n hn s a b c d e (by omega) (by omega) (by omega) (by omega) (by omega)
        rw [hav, Bool.true_and]
        by_cases hbk : brkQ n s a (rd_T97 (quad n) (i : Int)) = true
        · rw [hbk, Bool.true_or]
          exact ⟨_, Ev.step (fun k => impl_chi_firstBreak.l1.eq_2 ..) (Ev.ite_pos (by omega) (Ev.ite_pos (by omega) (Ev.ite_pos (by omega) (Ev.ite_neg e0 (Ev.ite_neg e1 (Ev.ite_neg e2 (Ev.ite_neg e3 (Ev.bind0 hb (Ev.ite_pos hbk (Ev.now _)))))))))), rfl⟩
        · rw [Bool.eq_false_iff.mpr hbk, Bool.false_or]
          exact ⟨r, Ev.step (fun k => impl_chi_firstBreak.l1.eq_2 ..) (Ev.ite_pos (by omega) (Ev.ite_pos (by omega) (Ev.ite_pos (by omega) (Ev.ite_neg e0 (Ev.ite_neg e1 (Ev.ite_neg e2 (Ev.ite_neg e3 (Ev.bind0 hb (Ev.ite_neg hbk h1))))))))), h2⟩
      · rw [Bool.eq_false_iff.mpr hav, Bool.false_and, Bool.false_or]
        refine ⟨r, Ev.step (fun k => impl_chi_firstBreak.l1.eq_2 ..) (Ev.ite_pos (by omega) (Ev.ite_pos (by omega) (Ev.ite_pos (by omega) ?_))), h2⟩
        unfold avoid at hav
        by_cases e0 : (rd_T97 (quad n) (i : Int)).f0 = a
        · exact Ev.ite_pos e0 h1
        refine Ev.ite_neg e0 ?_
        by_cases e1 : (rd_T97 (quad n) (i : Int)).f1 = a
        · exact Ev.ite_pos e1 h1
        refine Ev.ite_neg e1 ?_
        by_cases e2 : (rd_T97 (quad n) (i : Int)).f2 = a
        · exact Ev.ite_pos e2 h1
        refine Ev.ite_neg e2 ?_
        by_cases e3 : (rd_T97 (quad n) (i : Int)).f3 = a
        · exact Ev.ite_pos e3 h1
        · exact absurd (by simp [e0, e1, e2, e3]) hav
def oth (n a : Nat) : List Int := ((List.range n).filter fun x => x != a).map fun x : Nat => (x : Int)
theorem all_oth : (List.range 8).all (fun n => (List.range n).all fun a => spec_l3Others.f 40 n a == some (oth n a)) = true := by decide +kernel
theorem l3Others_ev (n a : Nat) (hn : n ≤ 7) (ha : a < n) : Ev (fun k => spec_l3Others.f k n a) (oth n a) := by
  have h := all_oth
  rw [List.all_eq_true] at h
  have h := h n (by simp; omega)
  rw [List.all_eq_true] at h
  have h := h a (by simpa using ha)
  exact Ev.of (spec_l3Others.mono _ _) (k := 40) (by simpa using h)
theorem all_o : (List.range 8).all (fun n => (List.range n).all fun a => decide ((oth n a).length ≤ 7) && (List.range (oth n a).length).all fun i => decide (0 ≤ rd (oth n a) (i : Int) ∧ rd (oth n a) (i : Int) < n ∧ rd (oth n a) (i : Int) ≠ a) && (List.range i).all fun j => decide (rd (oth n a) (j : Int) < rd (oth n a) (i : Int))) = true := by decide +kernel
theorem oth_ok (n a : Nat) (hn : n ≤ 7) (ha : a < n) : (oth n a).length ≤ 7 ∧ ∀ i, i < (oth n a).length → (∃ u : Nat, rd (oth n a) (i : Int) = u ∧ u < n ∧ u ≠ a) ∧ ∀ j, j < i → rd (oth n a) (j : Int) < rd (oth n a) (i : Int) := by
  have h := all_o
  rw [List.all_eq_true] at h
  have h := h n (by simp; omega)
  rw [List.all_eq_true] at h
  have h := h a (by simpa using ha)
  rw [Bool.and_eq_true, decide_eq_true_eq, List.all_eq_true] at h
  refine ⟨h.1, fun i hi => ?_⟩
  have g := h.2 i (by simpa using hi)
  rw [Bool.and_eq_true, decide_eq_true_eq, List.all_eq_true] at g
  refine ⟨⟨(rd (oth n a) (i : Int)).toNat, by omega, by omega, by omega⟩, fun j hj => ?_⟩
  simpa using g.2 j (by simpa using hj)
def listQ (n a : Nat) : List Q4 :=
  ((List.range (oth n a).length).drop 0).flatMap fun b : Nat => ((List.range (oth n a).length).drop (b + 1)).flatMap fun c : Nat => ((List.range (oth n a).length).drop (c + 1)).flatMap fun d : Nat => ((List.range (oth n a).length).drop (d + 1)).map fun e : Nat =>
    (⟨rd (oth n a) (b : Int), rd (oth n a) (c : Int), rd (oth n a) (d : Int), rd (oth n a) (e : Int)⟩ : Q4)
def tup (q : Q4) : Int × Int × Int × Int := (q.f0, q.f1, q.f2, q.f3)
def untup (q : Int × Int × Int × Int) : Q4 := ⟨q.1, q.2.1, q.2.2.1, q.2.2.2⟩
theorem untup_map (l : List Q4) : (l.map tup).map untup = l := by
  rw [List.map_map]
  exact List.map_id' l
theorem all_list : (List.range 8).all (fun n => (List.range n).all fun a => (listQ n a).map tup == ((quad n).filter (avoid a)).map tup) = true := by decide +kernel
theorem listQ_eq (n a : Nat) (hn : n ≤ 7) (ha : a < n) : listQ n a = (quad n).filter (avoid a) := by
  have h := all_list
  rw [List.all_eq_true] at h
  have h := h n (by simp; omega)
  rw [List.all_eq_true] at h
  have h := h a (by simpa using ha)
  have h := congrArg (List.map untup) (eq_of_beq h)
  rwa [untup_map, untup_map] at h
section
variable (n : Nat) (s : ByteArray) (a : Nat)
def b4 (b c d e : Nat) : Bool := brk n s a (rd (oth n a) (b : Int)) (rd (oth n a) (c : Int)) (rd (oth n a) (d : Int)) (rd (oth n a) (e : Int))
def b3 (b c d : Nat) : Bool := ((List.range (oth n a).length).drop (d + 1)).any (b4 n s a b c d)
def b2 (b c : Nat) : Bool := ((List.range (oth n a).length).drop (c + 1)).any (b3 n s a b c)
def b1 (b : Nat) : Bool := ((List.range (oth n a).length).drop (b + 1)).any (b2 n s a b)
end
theorem b1_eq (n : Nat) (s : ByteArray) (a : Nat) (hn : n ≤ 7) (ha : a < n) : (List.range (oth n a).length).any (b1 n s a) = anyA n s a := by
  unfold anyA
  rw [← List.any_filter, ← listQ_eq n a hn ha]
  unfold listQ
  rw [List.drop_zero, List.any_flatMap]
  simp only [List.any_flatMap, List.any_map]
  rfl
theorem spec_first_ev (n : Nat) (hn : n ≤ 7) (s : ByteArray) (hA : isS n s = true) : ∃ r, Ev (fun k => spec_FirstBreak.f k n s) r ∧ r.isEmpty = !anyB n s := by
  have hS := spec_AreSigns_ev n s
  rw [hA] at hS
  obtain ⟨_, _, hs, _⟩ := isS_bounds hA
  rw [Int.toNat_natCast] at hs
  unfold spec_FirstBreak.f
  have key := loopE (fun a k => spec_FirstBreak.l0 k a n s) n (anyA n s) false 0 (by omega) ?_ ?_
  · simpa [anyB] using key
  · exact ⟨[], Ev.step (fun k => spec_FirstBreak.l0.eq_2 ..) (Ev.ite_neg (by omega) (Ev.step (fun k => spec_FirstBreak.j1.eq_2 ..) (Ev.ite_neg (by simp) (Ev.now _)))), rfl⟩
  · intro a _ ha h0
    rw [Bool.or_false] at h0 ⊢
    obtain ⟨ho, hok⟩ := oth_ok n a hn ha
    rw [← b1_eq n s a hn ha]
    have key1 := loopE (fun b k => spec_FirstBreak.l1 k a (oth n a) b n s) (oth n a).length (b1 n s a) (((List.range n).drop (a + 1)).any (anyA n s)) 0 (by omega) ?_ ?_
    · obtain ⟨r, h1, h2⟩ := key1
      rw [List.drop_zero] at h2
      exact ⟨r, Ev.step (fun k => spec_FirstBreak.l0.eq_2 ..) (Ev.ite_pos (by omega) (Ev.bind hS (Ev.step (fun k => spec_FirstBreak.j1.eq_2 ..) (Ev.ite_pos rfl (Ev.bind (l3Others_ev n a hn ha) h1))))), h2⟩
    · obtain ⟨r, h1, h2⟩ := h0
      refine ⟨r, Ev.step (fun k => spec_FirstBreak.l1.eq_2 ..) (Ev.ite_neg (by omega) ?_), h2⟩
      rw [wrap_nat a (by omega)]
      exact h1
    · intro b _ hb h1
      have key2 := loopE (fun c k => spec_FirstBreak.l2 k a (oth n a) b c n s) (oth n a).length (b2 n s a b) (((List.range (oth n a).length).drop (b + 1)).any (b1 n s a) || ((List.range n).drop (a + 1)).any (anyA n s)) (b + 1) (by omega) ?_ ?_
      · obtain ⟨r, g1, g2⟩ := key2
        refine ⟨r, Ev.step (fun k => spec_FirstBreak.l1.eq_2 ..) (Ev.ite_pos (by omega) ?_), g2⟩
        rw [wrap_nat b (by omega)]
        exact g1
      · obtain ⟨r, g1, g2⟩ := h1
        refine ⟨r, Ev.step (fun k => spec_FirstBreak.l2.eq_2 ..) (Ev.ite_neg (by omega) ?_), g2⟩
        rw [wrap_nat b (by omega)]
        exact g1
      · intro c hbc hc h2
        have key3 := loopE (fun d k => spec_FirstBreak.l3 k a (oth n a) b c d n s) (oth n a).length (b3 n s a b c) (((List.range (oth n a).length).drop (c + 1)).any (b2 n s a b) || (((List.range (oth n a).length).drop (b + 1)).any (b1 n s a) || ((List.range n).drop (a + 1)).any (anyA n s))) (c + 1) (by omega) ?_ ?_
        · obtain ⟨r, g1, g2⟩ := key3
          refine ⟨r, Ev.step (fun k => spec_FirstBreak.l2.eq_2 ..) (Ev.ite_pos (by omega) ?_), g2⟩
          rw [wrap_nat c (by omega)]
          exact g1
        · obtain ⟨r, g1, g2⟩ := h2
          refine ⟨r, Ev.step (fun k => spec_FirstBreak.l3.eq_2 ..) (Ev.ite_neg (by omega) ?_), g2⟩
          rw [wrap_nat c (by omega)]
          exact g1
        · intro d hcd hd h3
          have key4 := loopE (fun e k => spec_FirstBreak.l4 k a (oth n a) b c d e n s) (oth n a).length (b4 n s a b c d) (((List.range (oth n a).length).drop (d + 1)).any (b3 n s a b c) || (((List.range (oth n a).length).drop (c + 1)).any (b2 n s a b) || (((List.range (oth n a).length).drop (b + 1)).any (b1 n s a) || ((List.range n).drop (a + 1)).any (anyA n s)))) (d + 1) (by omega) ?_ ?_
          · obtain ⟨r, g1, g2⟩ := key4
            refine ⟨r, Ev.step (fun k => spec_FirstBreak.l3.eq_2 ..) (Ev.ite_pos (by omega) ?_), g2⟩
            rw [wrap_nat d (by omega)]
            exact g1
          · obtain ⟨r, g1, g2⟩ := h3
            refine ⟨r, Ev.step (fun k => spec_FirstBreak.l4.eq_2 ..) (Ev.ite_neg (by omega) ?_), g2⟩
            rw [wrap_nat d (by omega)]
            exact g1
          · intro e hde he h4
            have hord : b < c ∧ c < d ∧ d < e := ⟨by omega, by omega, by omega⟩
            obtain ⟨⟨ub, eb, lb, nb⟩, _⟩ := hok b hb
            obtain ⟨⟨uc, ec, lc, nc⟩, oc⟩ := hok c hc
            obtain ⟨⟨ud, ed, ld, nd⟩, od⟩ := hok d hd
            obtain ⟨⟨ue, ee, le, ne⟩, oe⟩ := hok e he
            have kb := oc b hord.1
            have kc := od c hord.2.1
            have kd := oe d hord.2.2
            rw [eb, ec] at kb
            rw [ec, ed] at kc
            rw [ed, ee] at kd
            have hbr : Ev (fun k => spec_l4Breaks.f k n s a (rd (oth n a) (b : Int)) (rd (oth n a) (c : Int)) (rd (oth n a) (d : Int)) (rd (oth n a) (e : Int))) (b4 n s a b c d e) := by
              unfold b4
              rw [eb, ec, ed, ee]
              exact l4Breaks_ev n hn s hs a ub uc ud ue ha lb lc ld le (Ne.symm nb) (Ne.symm nc) (Ne.symm nd) (Ne.symm ne) (by omega) (by omega) (by omega)
            obtain ⟨r, g1, g2⟩ := h4
            rw [← wrap_nat e (by omega)] at g1
            by_cases hbk : b4 n s a b c d e = true
            · rw [hbk] at hbr
              rw [hbk, Bool.true_or]
              exact ⟨_, Ev.step (fun k => spec_FirstBreak.l4.eq_2 ..) (Ev.ite_pos (by omega) (Ev.ite_pos (by omega) (Ev.ite_pos (by omega) (Ev.ite_pos (by omega) (Ev.ite_pos (by omega) (Ev.ite_pos (by omega) (Ev.ite_pos (by omega) (Ev.ite_pos (by omega) (Ev.bind hbr (Ev.ite_pos rfl (Ev.now _))))))))))), rfl⟩
            · rw [Bool.eq_false_iff.mpr hbk] at hbr
              rw [Bool.eq_false_iff.mpr hbk, Bool.false_or]
              exact ⟨r, Ev.step (fun k => spec_FirstBreak.l4.eq_2 ..) (Ev.ite_pos (by omega) (Ev.ite_pos (by omega) (Ev.ite_pos (by omega) (Ev.ite_pos (by omega) (Ev.ite_pos (by omega) (Ev.ite_pos (by omega) (Ev.ite_pos (by omega) (Ev.ite_pos (by omega) (Ev.bind hbr (Ev.ite_neg (by simp) g1)))))))))), g2⟩
def isM (n : Int) (s : ByteArray) : Bool := isS n s && !anyB n.toNat s
theorem len_empty (r : List Int) : ((r.length : Int) = 0) ↔ r.isEmpty = true := by
  rw [List.isEmpty_iff, ← List.length_eq_zero_iff]
  omega
theorem spec_IsMatroid_ev (n : Int) (s : ByteArray) : Ev (fun k => spec_IsMatroid.f k n s) (isM n s) := by
  have hS := spec_AreSigns_ev n s
  unfold spec_IsMatroid.f isM
  cases hA : isS n s with
  | false =>
    rw [hA] at hS
    exact Ev.bind hS (Ev.ite_neg (by simp) (Ev.now _))
  | true =>
    rw [hA] at hS
    obtain ⟨h3, h7, _, _⟩ := isS_bounds hA
    obtain ⟨n, rfl⟩ := Int.eq_ofNat_of_zero_le (show 0 ≤ n by omega)
    obtain ⟨r, h1, h2⟩ := spec_first_ev n (by omega) s hA
    rw [Int.toNat_natCast, Bool.true_and, ← h2]
    refine Ev.bind hS (Ev.ite_pos rfl (Ev.bind h1 (Ev.const (congrArg some ?_))))
    rw [Bool.eq_iff_iff, beq_iff_eq]
    exact len_empty r
theorem impl_IsMatroid_ev (n : Int) (s : ByteArray) : Ev (fun k => impl_IsMatroid.f k n s) (isM n s) := by
  have hS := impl_AreSigns_ev n s
  unfold impl_IsMatroid.f isM
  cases hA : isS n s with
  | false =>
    rw [hA] at hS
    exact Ev.bind hS (Ev.ite_neg (by simp) (Ev.now _))
  | true =>
    rw [hA] at hS
    obtain ⟨h3, h7, hs, _⟩ := isS_bounds hA
    obtain ⟨n, rfl⟩ := Int.eq_ofNat_of_zero_le (show 0 ≤ n by omega)
    rw [Int.toNat_natCast] at hs
    obtain ⟨r, h1, h2⟩ := impl_first_ev n (by omega) s
    rw [Int.toNat_natCast, Bool.true_and, ← h2]
    have hF : Ev (fun k => impl_FirstBreak.f k n s) r := by
      unfold impl_FirstBreak.f
      exact Ev.bind hS (Ev.ite_pos rfl (Ev.bind (tableOf_ev n (by omega) s hs) (Ev.bind h1 (Ev.now _))))
    refine Ev.bind hS (Ev.ite_pos rfl (Ev.bind hF ?_))
    cases he : r.isEmpty with
    | true => exact Ev.ite_pos ((len_empty r).mpr he) (Ev.now _)
    | false => exact Ev.ite_neg (fun h => by rw [(len_empty r).mp h] at he; cases he) (Ev.now _)
def byteS (v : Int) : ByteArray := if v > 0 then ⟨#[43]⟩ else ⟨#[45]⟩
def circT (p q r t : Int) : ByteArray := (((⟨#[43]⟩ : ByteArray) ++ byteS (wrap64 ((wrap64 (-p)) * q))) ++ byteS (wrap64 (p * r))) ++ byteS (wrap64 ((wrap64 (-p)) * t))
theorem l3Byte_eq (v : Int) : spec_l3Byte.f v = some (byteS v) := by
  unfold spec_l3Byte.f byteS
  by_cases h : v > 0
  · rw [if_pos h, if_pos h]
  · rw [if_neg h, if_neg h]
theorem byteS_size (v : Int) : (byteS v).size = 1 := by
  unfold byteS
  by_cases h : v > 0
  · rw [if_pos h]; rfl
  · rw [if_neg h]; rfl
def pm1 : List Int := [1, -1]
theorem spec_circuit_ev (n : Nat) (hn : n ≤ 7) (s : ByteArray) (hs : s.size = (tri n).length) (a b c d : Nat) (hd : d < n) (hab : a < b) (hbc : b < c) (hcd : c < d) :
    Ev (fun k => spec_l4Circuit.f k n s a b c d) (circT (sg n s b c d) (sg n s a c d) (sg n s a b d) (sg n s a b c)) := by
  unfold spec_l4Circuit.f circT
  refine Ev.bind (l3At_ev n hn s hs b c d (by omega) (by omega) (by omega) (by omega) (by omega) (by omega)) (Ev.bind (l3At_ev n hn s hs a c d (by omega) (by omega) (by omega) (by omega) (by omega) (by omega)) (Ev.bind0 (l3Byte_eq _) (Ev.ite_pos (by rw [byteS_size]; omega) ?_)))
  refine Ev.bind (l3At_ev n hn s hs a b d (by omega) (by omega) (by omega) (by omega) (by omega) (by omega)) (Ev.bind0 (l3Byte_eq _) (Ev.ite_pos (by rw [ByteArray.size_append, byteS_size, byteS_size]; decide) ?_))
  exact Ev.bind (l3At_ev n hn s hs a b c (by omega) (by omega) (by omega) (by omega) (by omega) (by omega)) (Ev.bind0 (l3Byte_eq _) (Ev.ite_pos (by rw [ByteArray.size_append, ByteArray.size_append, byteS_size, byteS_size, byteS_size]; decide) (Ev.now _)))
def listC (n : Nat) : List Q4 :=
  ((List.range n).drop 0).flatMap fun a : Nat => ((List.range n).drop (a + 1)).flatMap fun b : Nat => ((List.range n).drop (b + 1)).flatMap fun c : Nat => ((List.range n).drop (c + 1)).map fun d : Nat => (⟨a, b, c, d⟩ : Q4)
theorem all_c : (List.range 8).all (fun n => (listC n).map tup == (quad n).map tup) = true := by decide +kernel
theorem listC_eq (n : Nat) (hn : n ≤ 7) : listC n = quad n := by
  have h := all_c
  rw [List.all_eq_true] at h
  have h := congrArg (List.map untup) (eq_of_beq (h n (by simp; omega)))
  rwa [untup_map, untup_map] at h
theorem loopA (g : Nat → Nat → Option Bool) (m : Nat) (P : Nat → Bool) (X : Bool) (lo : Nat) (hlo : lo ≤ m) (hend : Ev (g m) X)
    (hstep : ∀ i, lo ≤ i → i < m → Ev (g (i + 1)) (((List.range m).drop (i + 1)).all P && X) → Ev (g i) (P i && (((List.range m).drop (i + 1)).all P && X))) : Ev (g lo) (((List.range m).drop lo).all P && X) := by
  have key : ∀ d i, lo ≤ i → i + d = m → Ev (g i) (((List.range m).drop i).all P && X) := by
    intro d
    induction d with
    | zero =>
      intro i _ hi
      obtain rfl : i = m := by omega
      rw [List.drop_of_length_le (by simp)]
      simpa using hend
    | succ d ih =>
      intro i hl hi
      rw [range_drop' m i (by omega), List.all_cons, Bool.and_assoc]
      exact hstep i hl (by omega) (ih (i + 1) (by omega) (by omega))
  exact key (m - lo) lo (Nat.le_refl _) (by omega)
def mixed (n : Nat) (s : ByteArray) (a b c d : Int) : Bool := !decide ((circT (sg n s b c d) (sg n s a c d) (sg n s a b d) (sg n s a b c)).toList = ([43, 43, 43, 43] : List UInt8))
def mixQ (n : Nat) (s : ByteArray) (q : Q4) : Bool := mixed n s q.f0 q.f1 q.f2 q.f3
def acyT (n : Nat) (s : ByteArray) : Bool := (quad n).all (mixQ n s)
section
variable (n : Nat) (s : ByteArray)
def m4 (a b c d : Nat) : Bool := mixed n s a b c d
def m3 (a b c : Nat) : Bool := ((List.range n).drop (c + 1)).all (m4 n s a b c)
def m2 (a b : Nat) : Bool := ((List.range n).drop (b + 1)).all (m3 n s a b)
def m1 (a : Nat) : Bool := ((List.range n).drop (a + 1)).all (m2 n s a)
end
theorem acy_eq (n : Nat) (hn : n ≤ 7) (s : ByteArray) : (List.range n).all (m1 n s) = acyT n s := by
  unfold acyT
  rw [← listC_eq n hn]
  unfold listC
  rw [List.drop_zero, List.all_flatMap]
  simp only [List.all_flatMap, List.all_map]
  rfl
theorem spec_acy_ev (n : Nat) (hn : n ≤ 7) (s : ByteArray) (hs : s.size = (tri n).length) : Ev (fun k => spec_l4Acyclic.f k n s) (acyT n s) := by
  rw [← acy_eq n hn s]
  unfold spec_l4Acyclic.f
  have key := loopA (fun a k => spec_l4Acyclic.l0 k a n s) n (m1 n s) true 0 (by omega) ?_ ?_
  · simpa using key
  · exact Ev.step (fun k => spec_l4Acyclic.l0.eq_2 ..) (Ev.ite_neg (by omega) (Ev.now _))
  · intro a _ ha h0
    have key1 := loopA (fun b k => spec_l4Acyclic.l1 k a b n s) n (m2 n s a) (((List.range n).drop (a + 1)).all (m1 n s) && true) (a + 1) (by omega) ?_ ?_
    · refine Ev.step (fun k => spec_l4Acyclic.l0.eq_2 ..) (Ev.ite_pos (by omega) ?_)
      rw [wrap_nat a (by omega)]
      exact key1
    · refine Ev.step (fun k => spec_l4Acyclic.l1.eq_2 ..) (Ev.ite_neg (by omega) ?_)
      rw [wrap_nat a (by omega)]
      exact h0
    · intro b hab hb h1
      have key2 := loopA (fun c k => spec_l4Acyclic.l2 k a b c n s) n (m3 n s a b) (((List.range n).drop (b + 1)).all (m2 n s a) && (((List.range n).drop (a + 1)).all (m1 n s) && true)) (b + 1) (by omega) ?_ ?_
      · refine Ev.step (fun k => spec_l4Acyclic.l1.eq_2 ..) (Ev.ite_pos (by omega) ?_)
        rw [wrap_nat b (by omega)]
        exact key2
      · refine Ev.step (fun k => spec_l4Acyclic.l2.eq_2 ..) (Ev.ite_neg (by omega) ?_)
        rw [wrap_nat b (by omega)]
        exact h1
      · intro c hbc hc h2
        have key3 := loopA (fun d k => spec_l4Acyclic.l3 k a b c d n s) n (m4 n s a b c) (((List.range n).drop (c + 1)).all (m3 n s a b) && (((List.range n).drop (b + 1)).all (m2 n s a) && (((List.range n).drop (a + 1)).all (m1 n s) && true))) (c + 1) (by omega) ?_ ?_
        · refine Ev.step (fun k => spec_l4Acyclic.l2.eq_2 ..) (Ev.ite_pos (by omega) ?_)
          rw [wrap_nat c (by omega)]
          exact key3
        · refine Ev.step (fun k => spec_l4Acyclic.l3.eq_2 ..) (Ev.ite_neg (by omega) ?_)
          rw [wrap_nat c (by omega)]
          exact h2
        · intro d hcd hd h3
          refine Ev.step (fun k => spec_l4Acyclic.l3.eq_2 ..) (Ev.ite_pos (by omega) (Ev.bind (spec_circuit_ev n hn s hs a b c d (by omega) (by omega) (by omega) (by omega)) ?_))
          rw [show m4 n s a b c d = !decide ((circT (sg n s b c d) (sg n s a c d) (sg n s a b d) (sg n s a b c)).toList = ([43, 43, 43, 43] : List UInt8)) from rfl, wrap_nat d (by omega)]
          by_cases h : (circT (sg n s b c d) (sg n s a c d) (sg n s a b d) (sg n s a b c)).toList = ([43, 43, 43, 43] : List UInt8)
          · rw [decide_eq_true h]
            exact Ev.ite_pos h (Ev.now _)
          · rw [decide_eq_false h]
            exact Ev.ite_neg h (by simpa using h3)
def isA (n : Int) (s : ByteArray) : Bool := isM n s && acyT n.toNat s
theorem isM_S {n : Int} {s : ByteArray} (h : isM n s = true) : isS n s = true := by
  unfold isM at h
  rw [Bool.and_eq_true] at h
  exact h.1
theorem loopR {β ρ : Type} (g : List β → Nat → Nat → Option ρ) (m : Nat) (item : Nat → List β) (tail R : List β) (r : ρ) (lo : Nat) (hlo : lo ≤ m) (hend : ∀ acc, acc ++ tail = R → Ev (g acc m) r)
    (hstep : ∀ c, lo ≤ c → c < m → ∀ acc X, acc ++ (item c ++ X) = R → (∀ acc', acc' ++ X = R → Ev (g acc' (c + 1)) r) → Ev (g acc c) r) : ∀ acc, acc ++ (((List.range m).drop lo).flatMap item ++ tail) = R → Ev (g acc lo) r := by
  have key : ∀ d c, lo ≤ c → c + d = m → ∀ acc, acc ++ (((List.range m).drop c).flatMap item ++ tail) = R → Ev (g acc c) r := by
    intro d
    induction d with
    | zero =>
      intro c _ hc acc h
      obtain rfl : c = m := by omega
      rw [List.drop_of_length_le (by simp)] at h
      exact hend acc (by simpa using h)
    | succ d ih =>
      intro c hl hc acc h
      rw [range_drop' m c (by omega), List.flatMap_cons, List.append_assoc] at h
      exact hstep c hl (by omega) acc _ h (fun acc' h' => ih (c + 1) (by omega) (by omega) acc' h')
  exact key (m - lo) lo (Nat.le_refl _) (by omega)
theorem flat_range {α β : Type} (d : α) (f : α → List β) (l : List α) : l.flatMap f = (List.range l.length).flatMap fun i => f (l.getD i d) := by
  have h : l = (List.range l.length).map fun i => l.getD i d := by
    apply List.ext_getElem
    · simp
    · intro i h1 h2
      simp [h1]
  conv => lhs; rw [h]
  rw [List.flatMap_map]
def tup3 (q : T3) : Int × Int × Int := (q.f0, q.f1, q.f2)
def untup3 (q : Int × Int × Int) : T3 := ⟨q.1, q.2.1, q.2.2⟩
theorem untup3_map (l : List T3) : (l.map tup3).map untup3 = l := by
  rw [List.map_map]
  exact (List.map_congr_left (fun a _ => rfl)).trans (List.map_id l)
def list3 (n : Nat) : List T3 :=
  ((List.range n).drop 0).flatMap fun a : Nat => ((List.range n).drop (a + 1)).flatMap fun b : Nat => ((List.range n).drop (b + 1)).map fun c : Nat => (⟨a, b, c⟩ : T3)
theorem all_3 : (List.range 8).all (fun n => (list3 n).map tup3 == (tri n).map tup3) = true := by decide +kernel
theorem list3_eq (n : Nat) (hn : n ≤ 7) : list3 n = tri n := by
  have h := all_3
  rw [List.all_eq_true] at h
  have h := congrArg (List.map untup3) (eq_of_beq (h n (by simp; omega)))
  rwa [untup3_map, untup3_map] at h
def okIdx (n a b c : Nat) : Bool :=
  match src (tri n) 0 a b c, spec_l3Index.f 60 n a b c with
  | some (q, _), some m => m == (q : Int) && decide (q < (tri n).length)
  | _, _ => false
theorem all_idx : (List.range 8).all (fun n => (List.range n).all fun a => (List.range n).all fun b => (List.range n).all fun c => !(decide (a < b ∧ b < c)) || okIdx n a b c) = true := by decide +kernel
theorem idx_some (n a b c : Nat) (hn : n ≤ 7) (hab : a < b) (hbc : b < c) (hc : c < n) : ∃ q b', src (tri n) 0 a b c = some (q, b') ∧ q < (tri n).length ∧ Ev (fun k => spec_l3Index.f k n a b c) (q : Int) := by
  have h := all_idx
  rw [List.all_eq_true] at h
  have h := h n (by simp; omega)
  rw [List.all_eq_true] at h
  have h := h a (by simp; omega)
  rw [List.all_eq_true] at h
  have h := h b (by simp; omega)
  rw [List.all_eq_true] at h
  have h := h c (by simp; omega)
  simp only [hab, hbc, and_self, decide_true, Bool.not_true, Bool.false_or] at h
  unfold okIdx at h
  cases ha : src (tri n) 0 a b c with
  | none => rw [ha] at h; cases h
  | some p =>
    obtain ⟨q, b'⟩ := p
    cases hb : spec_l3Index.f 60 n a b c with
    | none => rw [ha, hb] at h; cases h
    | some m =>
      rw [ha, hb] at h
      simp only [Bool.and_eq_true, beq_iff_eq, decide_eq_true_eq] at h
      exact ⟨q, b', rfl, h.2, l3Index_ev (by rw [hb, h.1])⟩
def pass (fl : Bool) (n : Nat) (T : ByteArray) : Bool := isM n T && (!fl || acyT n T)
def itemT (fl : Bool) (n : Nat) (s : ByteArray) (t : T3) : List (List Int) := if pass fl n (exT n s t.f0 t.f1 t.f2) = true then [[t.f0, t.f1, t.f2]] else []
def item (fl : Bool) (n : Nat) (s : ByteArray) (a b c : Nat) : List (List Int) := itemT fl n s ⟨a, b, c⟩
def mutR (fl : Bool) (n : Nat) (s : ByteArray) : List (List Int) := (tri n).flatMap (itemT fl n s)
theorem mutR_eq (fl : Bool) (n : Nat) (hn : n ≤ 7) (s : ByteArray) : mutR fl n s = ((List.range n).drop 0).flatMap fun a => ((List.range n).drop (a + 1)).flatMap fun b => ((List.range n).drop (b + 1)).flatMap (item fl n s a b) := by
  unfold mutR
  rw [← list3_eq n hn]
  unfold list3
  simp only [List.flatMap_assoc, List.flatMap_map]
  rfl
theorem itemT_len (fl : Bool) (n : Nat) (s : ByteArray) (t : T3) : (itemT fl n s t).length ≤ 1 ∧ ∀ l ∈ itemT fl n s t, l.length ≤ 1000 := by
  unfold itemT
  split
  · exact ⟨by simp, by simp⟩
  · exact ⟨by simp, by simp⟩
theorem flat_len {α β : Type} (f : α → List β) (h : ∀ x, (f x).length ≤ 1) : ∀ l : List α, (l.flatMap f).length ≤ l.length := by
  intro l
  induction l with
  | nil => simp
  | cons x l ih =>
    have := h x
    rw [List.flatMap_cons, List.length_append, List.length_cons]
    omega
theorem tri_small (n : Nat) (hn : n ≤ 7) : (tri n).length ≤ 35 := by
  have h := tri_length n hn
  have : n = 0 ∨ n = 1 ∨ n = 2 ∨ n = 3 ∨ n = 4 ∨ n = 5 ∨ n = 6 ∨ n = 7 := by omega
  rcases this with rfl | rfl | rfl | rfl | rfl | rfl | rfl | rfl <;> simp [tri]
theorem mutR_small (fl : Bool) (n : Nat) (hn : n ≤ 7) (s : ByteArray) : ((mutR fl n s).length ≤ 1000 ∧ ∀ l ∈ mutR fl n s, l.length ≤ 1000) ∧ (mutR fl n s).length ≤ 35 := by
  have h1 := flat_len _ (fun t => (itemT_len fl n s t).1) (tri n)
  have h2 := tri_small n hn
  refine ⟨⟨by unfold mutR; omega, ?_⟩, by unfold mutR; omega⟩
  intro l hl
  unfold mutR at hl
  rw [List.mem_flatMap] at hl
  obtain ⟨t, _, hl⟩ := hl
  exact (itemT_len fl n s t).2 l hl
theorem acc_small {β : Type} {acc X R : List β} (h : acc ++ X = R) (hR : R.length ≤ 35) : acc.length ≤ 35 := by
  have := congrArg List.length h
  rw [List.length_append] at this
  omega
theorem exT_eq {n : Nat} {s : ByteArray} {x y z : Int} {q : Nat} {b : Bool} (h : src (tri n) 0 x y z = some (q, b)) : exT n s x y z = strOfNums (codesX s s.size q) := by
  unfold exT
  rw [h]
  rfl
theorem spec_l18_ev (n : Nat) (h7 : n ≤ 7) (s : ByteArray) (hs : s.size = (tri n).length) (fl : Bool) : Ev (fun k => spec_l18All.f k n s fl) (mutR fl n s) := by
  unfold spec_l18All.f
  have hR := (mutR_small fl n h7 s).2
  have ht := tri_small n h7
  have key := loopR (fun acc a k => spec_l18All.l0 k fl acc (a : Nat) n s) n (fun a => ((List.range n).drop (a + 1)).flatMap fun b => ((List.range n).drop (b + 1)).flatMap (item fl n s a b)) [] (mutR fl n s) (mutR fl n s) 0 (by omega) ?_ ?_ [] (by rw [mutR_eq fl n h7 s]; simp)
  · exact key
  · intro acc h
    rw [List.append_nil] at h
    exact Ev.step (fun k => spec_l18All.l0.eq_2 ..) (Ev.ite_neg (by omega) (Ev.const (by rw [h])))
  intro a _ ha acc X h ih
  refine Ev.step (fun k => spec_l18All.l0.eq_2 ..) (Ev.ite_pos (by omega) ?_)
  rw [wrap_nat a (by omega)]
  refine loopR (fun acc b k => spec_l18All.l1 k fl acc a (b : Nat) n s) n (fun b => ((List.range n).drop (b + 1)).flatMap (item fl n s a b)) X (mutR fl n s) (mutR fl n s) (a + 1) (by omega) ?_ ?_ acc h
  · intro acc h
    refine Ev.step (fun k => spec_l18All.l1.eq_2 ..) (Ev.ite_neg (by omega) ?_)
    rw [wrap_nat a (by omega)]
    exact ih acc h
  intro b hab hb acc X' h ih'
  refine Ev.step (fun k => spec_l18All.l1.eq_2 ..) (Ev.ite_pos (by omega) ?_)
  rw [wrap_nat b (by omega)]
  refine loopR (fun acc c k => spec_l18All.l2 k fl acc a b (c : Nat) n s) n (item fl n s a b) X' (mutR fl n s) (mutR fl n s) (b + 1) (by omega) ?_ ?_ acc h
  · intro acc h
    refine Ev.step (fun k => spec_l18All.l2.eq_2 ..) (Ev.ite_neg (by omega) ?_)
    rw [wrap_nat b (by omega)]
    exact ih' acc h
  intro c hbc hc acc X'' h ih''
  have hacc := acc_small h hR
  obtain ⟨q, b', e1, e2, e3⟩ := idx_some n a b c h7 (by omega) (by omega) hc
  have eX := exT_eq (s := s) e1
  refine Ev.step (fun k => spec_l18All.l2.eq_2 ..) (Ev.ite_pos (by omega) (Ev.bind e3 (Ev.bind0 (l14_eq n s q (by omega) (by omega)) ?_)))
  dsimp only
  rw [← eX, wrap_nat c (by omega)]
  have hM := spec_IsMatroid_ev n (exT n s a b c)
  have hit : item fl n s a b c = if pass fl n (exT n s a b c) = true then [[(a : Int), b, c]] else [] := rfl
  rw [hit] at h
  cases m : isM n (exT n s a b c) with
  | false =>
    rw [m] at hM
    rw [if_neg (by simp [pass, m])] at h
    exact Ev.bind hM (Ev.ite_neg (by simp) (ih'' acc h))
  | true =>
    rw [m] at hM
    refine Ev.bind hM (Ev.ite_pos rfl ?_)
    cases fl with
    | false =>
      rw [if_pos (by simp [pass, m])] at h
      exact Ev.ite_neg (by simp) (Ev.ite_pos (by omega) (ih'' _ (by rw [List.append_assoc]; exact h)))
    | true =>
      obtain ⟨_, _, hsz, _⟩ := isS_bounds (isM_S m)
      rw [Int.toNat_natCast] at hsz
      have hA := spec_acy_ev n h7 _ hsz
      refine Ev.ite_pos rfl (Ev.bind hA ?_)
      cases y : acyT n (exT n s a b c) with
      | false =>
        rw [if_neg (by simp [pass, m, y])] at h
        exact Ev.ite_neg (by simp) (ih'' acc h)
      | true =>
        rw [if_pos (by simp [pass, m, y])] at h
        exact Ev.ite_pos rfl (Ev.ite_pos (by omega) (ih'' _ (by rw [List.append_assoc]; exact h)))
theorem exS_good (n : Nat) (s : ByteArray) (hS : isS n s = true) (a b c : Nat) (hab : a < b) (hbc : b < c) (hc : c < n) : exS n s a b c = ((n : Int), exT n s a b c, true) := by
  unfold exS
  rw [if_pos ⟨hS, diff3_of ⟨by omega, by omega, by omega, by omega, by omega, by omega⟩⟩, Int.toNat_natCast]
theorem tri_item (fl : Bool) (n : Nat) (s : ByteArray) (i a b c : Nat) (hi : i < (tri n).length) (e : (tri n)[i] = ⟨a, b, c⟩) : itemT fl n s ((tri n).getD i ⟨0, 0, 0⟩) = if pass fl n (exT n s a b c) = true then [[(a : Int), b, c]] else [] := by
  rw [getD_lt _ _ _ hi, e]
  rfl
theorem impl_mutM_ev (n : Nat) (h7 : n ≤ 7) (s : ByteArray) (hS : isS n s = true) : Ev (fun k => impl_mutations_impl_IsMatroid.f k n s ()) (mutR false n s) := by
  unfold impl_mutations_impl_IsMatroid.f
  have hR := (mutR_small false n h7 s).2
  have ht := tri_small n h7
  refine Ev.bind (triplesOf_ev n h7) ?_
  refine loopR (fun acc (i : Nat) k => impl_mutations_impl_IsMatroid.l0 k acc (tri n) ((tri n).length : Int) (i : Int) n s) (tri n).length (fun i => itemT false n s ((tri n).getD i ⟨0, 0, 0⟩)) [] (mutR false n s) (mutR false n s) 0 (by omega) ?_ ?_ [] (by unfold mutR; rw [flat_range (⟨0, 0, 0⟩ : T3)]; simp)
  · intro acc h
    rw [List.append_nil] at h
    exact Ev.step (fun k => impl_mutations_impl_IsMatroid.l0.eq_2 ..) (Ev.ite_neg (by omega) (Ev.const (by rw [h])))
  intro i _ hi acc X h ih
  have hacc := acc_small h hR
  obtain ⟨a, b, c, hab, hbc, hc, e⟩ := tri_nat n h7 i hi
  rw [tri_item false n s i a b c hi e] at h
  refine Ev.step (fun k => impl_mutations_impl_IsMatroid.l0.eq_2 ..) (Ev.ite_pos (by omega) (Ev.ite_pos (by omega) (Ev.ite_pos (by omega) ?_)))
  rw [rdT_lt _ i hi, e, wrap_nat i (by omega)]
  have hE := impl_Exchange_ev n s a b c
  rw [exS_good n s hS a b c hab hbc hc] at hE
  have hM := impl_IsMatroid_ev n (exT n s a b c)
  refine Ev.bind hE ?_
  dsimp only
  cases m : isM n (exT n s a b c) with
  | false =>
    rw [m] at hM
    rw [if_neg (by simp [pass, m])] at h
    exact Ev.bind hM (Ev.ite_neg (by simp) (ih acc h))
  | true =>
    rw [m] at hM
    rw [if_pos (by simp [pass, m])] at h
    exact Ev.bind hM (Ev.ite_pos rfl (Ev.ite_pos (by omega) (ih _ (by rw [List.append_assoc]; exact h))))
theorem rd_ltZ (l : List Int) (i : Nat) (h : i < l.length) : rd l (i : Int) = l[i] := by
  unfold rd
  rw [Int.toNat_natCast, getD_lt _ _ _ h]
theorem eqIntS_selfZ (l : List Int) (hl : l.length ≤ 1048576) : Ev (fun k => laws_eqIntS.f k l l) true := by
  unfold laws_eqIntS.f
  refine Ev.ite_pos rfl ?_
  refine Ev.loop (fun i k => laws_eqIntS.l0 k l l i) l.length true ?_ ?_ 0 (by omega)
  · refine Ev.step (fun k => laws_eqIntS.l0.eq_2 ..) ?_
    exact Ev.ite_neg (by omega) (Ev.now _)
  · intro i hi ih
    refine Ev.step (fun k => laws_eqIntS.l0.eq_2 ..) ?_
    refine Ev.ite_pos (by omega) (Ev.ite_pos (by omega) (Ev.ite_pos (by omega) (Ev.ite_pos rfl ?_)))
    rw [wrap_nat i (by omega)]
    exact ih
def marksF (c n : Nat) : List Int := (List.range n).map fun i => ((c + i : Nat) : Int)
theorem marksF_length (c n : Nat) : (marksF c n).length = n := by simp [marksF]
theorem rd_marksF (c n i : Nat) (h : i < n) : rd (marksF c n) (i : Int) = ((c + i : Nat) : Int) := by
  rw [rd_ltZ _ _ (by rw [marksF_length]; exact h)]
  simp [marksF]
theorem marksF_set (l : List Int) (c n i : Nat) (hl : l.length = n) (hi : i < n) : (marksF c i ++ l.drop i).set i ((c + i : Nat) : Int) = marksF c (i + 1) ++ l.drop (i + 1) := by
  have h0 : (marksF c i).length = i := marksF_length c i
  rw [List.set_append_right _ _ (by omega), h0, Nat.sub_self, List.drop_eq_getElem_cons (by omega), List.set_cons_zero]
  simp [marksF, List.range_succ]
theorem markIntS_from (l : List Int) (c : Nat) (hc : c ≤ 100000000) (hl : l.length ≤ 1048576) : Ev (fun k => laws_markIntS.f k l c) (((c + l.length : Nat) : Int), marksF c l.length) := by
  have key := Ev.loop (fun i k => laws_markIntS.l0 k (marksF c i ++ l.drop i) ((c + i : Nat) : Int) i) l.length (((c + l.length : Nat) : Int), marksF c l.length) ?_ ?_ 0 (by omega)
  · unfold laws_markIntS.f
    simpa [marksF] using key
  · refine Ev.step (fun k => laws_markIntS.l0.eq_2 ..) ?_
    refine Ev.ite_neg (by simp [marksF_length]) (Ev.const ?_)
    simp
  · intro i hi ih
    refine Ev.step (fun k => laws_markIntS.l0.eq_2 ..) ?_
    refine Ev.ite_pos (by simp [marksF_length]; omega) (Ev.ite_pos (by omega) ?_)
    rw [wrap_nat i (by omega), wrap_nat (c + i) (by omega), Int.toNat_natCast, marksF_set l c l.length i rfl hi]
    exact ih
theorem heldIntS_from (c n : Nat) (hc : c ≤ 100000000) (hl : n ≤ 1048576) : Ev (fun k => laws_heldIntS.f k (marksF c n) c) ((c + n : Nat) : Int) := by
  have key := Ev.loop (fun i k => laws_heldIntS.l0 k (marksF c n) ((c + i : Nat) : Int) i) n ((c + n : Nat) : Int) ?_ ?_ 0 (by omega)
  · exact key
  · refine Ev.step (fun k => laws_heldIntS.l0.eq_2 ..) ?_
    exact Ev.ite_neg (by simp [marksF_length]) (Ev.now _)
  · intro i hi ih
    refine Ev.step (fun k => laws_heldIntS.l0.eq_2 ..) ?_
    refine Ev.ite_pos (by simp [marksF_length]; omega) (Ev.ite_pos (by omega) (Ev.ite_pos (rd_marksF c n i hi) ?_))
    rw [wrap_nat i (by omega), wrap_nat (c + i) (by omega)]
    exact ih
end Go.Proofs.Ytbglgapndefcfaa.Pure
namespace Go.Proofs.Ytbglgapndefcfaa.Pl
set_option linter.unusedSimpArgs false
set_option linter.unusedVariables false
open Go.RowKit Go.Proofs.YtbglgapndefcfaaW.PrintWords
theorem range_dropS (n i : Nat) (h : i < n) : (List.range n).drop i = i :: (List.range n).drop (i + 1) := by
  rw [List.drop_eq_getElem_cons (by simpa using h)]
  simp
def Srch {ρ : Type} (g : Nat → Nat → Option ρ) (m : Nat) (P : Nat → Bool) (v : ρ) (lo : Nat) : Prop :=
  ∀ r, (((List.range m).drop lo).any P = true → r = v) → (((List.range m).drop lo).any P = false → Ev (g m) r) → Ev (g lo) r
theorem Srch.of {ρ : Type} (g : Nat → Nat → Option ρ) (m : Nat) (P : Nat → Bool) (v : ρ) (lo : Nat) (hlo : lo ≤ m)
    (hstep : ∀ i, lo ≤ i → i < m → ∀ r, (P i = true → r = v) → (P i = false → Ev (g (i + 1)) r) → Ev (g i) r) : Srch g m P v lo := by
  have key : ∀ d i, lo ≤ i → i + d = m → Srch g m P v i := by
    intro d
    induction d with
    | zero =>
      intro i _ hi
      obtain rfl : i = m := by omega
      intro r _ h2
      exact h2 (by rw [List.drop_of_length_le (by simp)]; rfl)
    | succ d ih =>
      intro i hl hi r h1 h2
      rw [range_dropS m i (by omega), List.any_cons] at h1 h2
      refine hstep i hl (by omega) r (fun h => h1 (by rw [h, Bool.true_or])) (fun h => ih (i + 1) (by omega) (by omega) r (fun k => h1 (by rw [k, Bool.or_true])) (fun k => h2 (by rw [h, k]; rfl)))
  exact key (m - lo) lo (Nat.le_refl _) (by omega)
theorem Ev.up {ρ : Type} {f : Int → Nat → Option ρ} {i : Nat} {r : ρ} (hi : i < 1000000) (h : Ev (f ((i + 1 : Nat) : Int)) r) : Ev (f (wrap64 ((i : Int) + 1))) r := by
  rw [wrap_nat i (by omega)]
  exact h
end Go.Proofs.Ytbglgapndefcfaa.Pl
namespace Go.Proofs.Ytbglgapndefcfaa.Pure
set_option linter.unusedSimpArgs false
set_option linter.unusedVariables false
open Go.RowKit Go.Proofs.YtbglgapndefcfaaW.PrintWords Go.Proofs.Ytbglgapndefcfaa.P Go.Proofs.Ytbglgapndefcfaa.Pl
theorem szSigns_eqO (n : Int) (s : ByteArray) (a : Int) (h0 : 0 ≤ a) (h1 : a ≤ 1048576) (hl : s.size ≤ 9223372036854775807) : laws_szSigns.f n s a = some (if a < s.size then -1 else a - s.size) := by
  unfold laws_szSigns.f
  rw [wrap_in (by omega) (by omega)]
  by_cases h : a < (s.size : Int)
  · rw [if_pos h, if_pos (by omega)]
  · rw [if_neg h, if_neg (by omega)]
end Go.Proofs.Ytbglgapndefcfaa.Pure
