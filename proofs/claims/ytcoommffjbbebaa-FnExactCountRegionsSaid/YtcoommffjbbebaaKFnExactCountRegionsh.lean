/- What the law FnExactCountRegions reaches, part 8: functions as plain Lean functions with the proofs that their calls come to them, and plain lemmas over these. Put together by a program (wip/pack.py). -/
import Derived.Test.YtcoommffjbbebaaWWords
import Derived.Test.YtcoommffjbbebaaKFnExactCountRegionsa
import Derived.Test.YtcoommffjbbebaaKFnExactCountRegionsb
import Derived.Test.YtcoommffjbbebaaKFnExactCountRegionse
import Derived.Sort.Defs
import Derived.Test.YtcoommffjbbebaaKFnExactCountRegionsd
import Derived.Test.YtcoommffjbbebaaKFnExactCountRegionsg
import Derived.Test.YtcoommffjbbebaaKFnExactCountRegionsc
namespace Go.Proofs.Ytcoommffjbbebaa.Pure
set_option linter.unusedSimpArgs false
set_option linter.unusedVariables false
def sg1 (d : Int) : Int := if d > 0 then 1 else if d < 0 then -1 else 0
def prim (x y d : Int) : Prop := 0 < d ∧ Nat.gcd (Nat.gcd x.natAbs y.natAbs) d.natAbs = 1
theorem prim_dvd {x y d x' y' d' : Int} (h : prim x y d) (h' : prim x' y' d') (hx : x * d' = x' * d) (hy : y * d' = y' * d) : d.natAbs ∣ d'.natAbs := by
  have h1 : d.natAbs ∣ Nat.gcd (Nat.gcd (d'.natAbs * x.natAbs) (d'.natAbs * y.natAbs)) (d'.natAbs * d.natAbs) := by
    refine Nat.dvd_gcd (Nat.dvd_gcd ?_ ?_) (Nat.dvd_mul_left _ _)
    · rw [Nat.mul_comm, ← Int.natAbs_mul, hx, Int.natAbs_mul]; exact Nat.dvd_mul_left _ _
    · rw [Nat.mul_comm, ← Int.natAbs_mul, hy, Int.natAbs_mul]; exact Nat.dvd_mul_left _ _
  rw [Nat.gcd_mul_left, Nat.gcd_mul_left, h.2, Nat.mul_one] at h1
  exact h1
theorem prim_unique {x y d x' y' d' : Int} (h : prim x y d) (h' : prim x' y' d') (hx : x * d' = x' * d) (hy : y * d' = y' * d) : x = x' ∧ y = y' ∧ d = d' := by
  have h1 := prim_dvd h h' hx hy
  have h2 := prim_dvd h' h hx.symm hy.symm
  have h3 := Nat.dvd_antisymm h1 h2
  have h4 : d = d' := by have := h.1; have := h'.1; omega
  subst h4
  have h0 : d ≠ 0 := by have := h.1; omega
  exact ⟨Int.eq_of_mul_eq_mul_right h0 hx, Int.eq_of_mul_eq_mul_right h0 hy, rfl⟩
theorem reduce {x y d : Int} (hd : d ≠ 0) : ∃ g : Nat, g = Nat.gcd (Nat.gcd x.natAbs y.natAbs) d.natAbs ∧ (g : Int) * sg1 d ≠ 0 ∧
    x = (g : Int) * sg1 d * Int.tdiv x ((g : Int) * sg1 d) ∧ y = (g : Int) * sg1 d * Int.tdiv y ((g : Int) * sg1 d) ∧ d = (g : Int) * sg1 d * Int.tdiv d ((g : Int) * sg1 d) ∧
    prim (Int.tdiv x ((g : Int) * sg1 d)) (Int.tdiv y ((g : Int) * sg1 d)) (Int.tdiv d ((g : Int) * sg1 d)) := by
  obtain ⟨g, hg⟩ : ∃ g, g = Nat.gcd (Nat.gcd x.natAbs y.natAbs) d.natAbs := ⟨_, rfl⟩
  have g1 : 1 ≤ g := by rw [hg]; exact Nat.gcd_pos_of_pos_right _ (by omega)
  obtain ⟨s, hs⟩ : ∃ s : Int, s = (g : Int) * sg1 d := ⟨_, rfl⟩
  have hsn : s.natAbs = g := by
    rw [hs, Int.natAbs_mul]
    unfold sg1
    split
    · simp
    · split
      · simp
      · omega
  have hs0 : s ≠ 0 := by omega
  have dv : ∀ z : Int, g ∣ z.natAbs → s ∣ z := fun z hz => by
    rw [← Int.natAbs_dvd_natAbs, hsn]; exact hz
  have dx : s ∣ x := dv x (by rw [hg]; exact Nat.dvd_trans (Nat.gcd_dvd_left _ _) (Nat.gcd_dvd_left _ _))
  have dy : s ∣ y := dv y (by rw [hg]; exact Nat.dvd_trans (Nat.gcd_dvd_left _ _) (Nat.gcd_dvd_right _ _))
  have dd : s ∣ d := dv d (by rw [hg]; exact Nat.gcd_dvd_right _ _)
  have ex : x = s * Int.tdiv x s := (Int.mul_tdiv_cancel' dx).symm
  have ey : y = s * Int.tdiv y s := (Int.mul_tdiv_cancel' dy).symm
  have ed : d = s * Int.tdiv d s := (Int.mul_tdiv_cancel' dd).symm
  refine ⟨g, hg, by rw [← hs]; exact hs0, by rw [← hs]; exact ex, by rw [← hs]; exact ey, by rw [← hs]; exact ed, ?_⟩
  rw [← hs]
  generalize Int.tdiv x s = X at ex
  generalize Int.tdiv y s = Y at ey
  generalize Int.tdiv d s = D at ed
  refine ⟨?_, ?_⟩
  · have hD : D ≠ 0 := fun e => hd (by rw [ed, e, Int.mul_zero])
    rcases Int.lt_or_gt_of_ne hd with h | h
    · have : sg1 d = -1 := by unfold sg1; rw [if_neg (by omega), if_pos h]
      have h2 : s < 0 := by rw [hs, this]; omega
      rcases Int.lt_or_gt_of_ne hD with h3 | h3
      · exfalso
        have := Int.mul_pos_of_neg_of_neg h2 h3
        omega
      · exact h3
    · have : sg1 d = 1 := by unfold sg1; rw [if_pos h]
      have h2 : 0 < s := by rw [hs, this]; omega
      rcases Int.lt_or_gt_of_ne hD with h3 | h3
      · exfalso
        have := Int.mul_neg_of_pos_of_neg h2 h3
        omega
      · exact h3
  · have e2 : g = Nat.gcd (Nat.gcd (g * X.natAbs) (g * Y.natAbs)) (g * D.natAbs) := by
      conv => lhs; rw [hg, ex, ey, ed, Int.natAbs_mul, Int.natAbs_mul, Int.natAbs_mul, hsn]
    rw [Nat.gcd_mul_left, Nat.gcd_mul_left] at e2
    exact Nat.eq_of_mul_eq_mul_left (by omega) (e2.symm.trans (Nat.mul_one g).symm)
def cx (a0 a1 a2 b0 b1 b2 : Int) : Int := a2 * b1 - a1 * b2
def cy (a0 a1 a2 b0 b1 b2 : Int) : Int := a0 * b2 - a2 * b0
def cd (a0 a1 a2 b0 b1 b2 : Int) : Int := a0 * b1 - a1 * b0
theorem on_both {a0 a1 a2 b0 b1 b2 s X Y D : Int} (hs : s ≠ 0) (hx : a2 * b1 - a1 * b2 = s * X) (hy : a0 * b2 - a2 * b0 = s * Y) (hd : a0 * b1 - a1 * b0 = s * D) : a0 * X + a1 * Y = a2 * D ∧ b0 * X + b1 * Y = b2 * D := by
  constructor
  · refine Int.eq_of_mul_eq_mul_left hs ?_
    grind
  · refine Int.eq_of_mul_eq_mul_left hs ?_
    grind
theorem same_point {a0 a1 a2 c0 c1 c2 X Y D X' Y' D' : Int} (hp : a0 * c1 ≠ a1 * c0) (h1 : a0 * X + a1 * Y = a2 * D) (h2 : c0 * X + c1 * Y = c2 * D) (h3 : a0 * X' + a1 * Y' = a2 * D') (h4 : c0 * X' + c1 * Y' = c2 * D') (h : prim X Y D) (h' : prim X' Y' D') : X = X' ∧ Y = Y' ∧ D = D' := by
  have hd : a0 * c1 - a1 * c0 ≠ 0 := by omega
  refine prim_unique h h' ?_ ?_
  · have : (a0 * c1 - a1 * c0) * (X * D') = (a0 * c1 - a1 * c0) * (X' * D) := by grind
    exact Int.eq_of_mul_eq_mul_left hd this
  · have : (a0 * c1 - a1 * c0) * (Y * D') = (a0 * c1 - a1 * c0) * (Y' * D) := by grind
    exact Int.eq_of_mul_eq_mul_left hd this
theorem par_same {a0 a1 a2 c0 c1 c2 X Y D : Int} (hD : 0 < D) (hp : a0 * c1 = a1 * c0) (h1 : a0 * X + a1 * Y = a2 * D) (h2 : c0 * X + c1 * Y = c2 * D) : a0 * c2 = a2 * c0 ∧ a1 * c2 = a2 * c1 := by
  have h0 : D ≠ 0 := by omega
  constructor
  · refine Int.eq_of_mul_eq_mul_right h0 ?_
    grind
  · refine Int.eq_of_mul_eq_mul_right h0 ?_
    grind
end Go.Proofs.Ytcoommffjbbebaa.Pure
namespace Go.Proofs.Ytcoommffjbbebaa.Pl
set_option linter.unusedSimpArgs false
set_option linter.unusedVariables false
open Go.RowKit Go.Proofs.YtcoommffjbbebaaW.PrintWords
theorem wrap_in {n : Int} (h0 : -9223372036854775808 ≤ n) (h1 : n ≤ 9223372036854775807) : wrap64 n = n := by
  unfold wrap64
  omega
theorem wrap_nat (i : Nat) (h : i < 9223372036854775807) : wrap64 ((i : Int) + 1) = ((i + 1 : Nat) : Int) := by
  unfold wrap64
  omega
theorem Ev.const {α : Type} {x : Option α} {r : α} (h : x = some r) : Ev (fun _ => x) r := ⟨0, fun _ _ => h⟩
theorem Ev.ite_pos {α : Type} {c : Prop} [Decidable c] {g f : Nat → Option α} {r : α} (h : c) (k : Ev g r) : Ev (fun n => if c then g n else f n) r := by
  simpa only [if_pos h] using k
theorem Ev.ite_neg {α : Type} {c : Prop} [Decidable c] {g f : Nat → Option α} {r : α} (h : ¬ c) (k : Ev f r) : Ev (fun n => if c then g n else f n) r := by
  simpa only [if_neg h] using k
theorem Ev.bind0 {α β : Type} {x : Option α} {f : Nat → α → Option β} {a : α} {r : β} (h : x = some a) (k : Ev (fun n => f n a) r) : Ev (fun n => x.bind (f n)) r := by
  subst h
  exact k
theorem Ev.loop {ρ : Type} (g : Nat → Nat → Option ρ) (n : Nat) (r : ρ) (hend : Ev (g n) r) (hstep : ∀ i, i < n → Ev (g (i + 1)) r → Ev (g i) r) : ∀ i, i ≤ n → Ev (g i) r := by
  have key : ∀ d i, i + d = n → Ev (g i) r := by
    intro d
    induction d with
    | zero => intro i hi; obtain rfl : i = n := by omega
              exact hend
    | succ d ih => intro i hi; exact hstep i (by omega) (ih (i + 1) (by omega))
  intro i hi
  exact key (n - i) i (by omega)
theorem Ev.loop_to {ρ : Type} (g : Nat → Nat → Option ρ) (n : Nat) (R : Nat → ρ) (hend : Ev (g n) (R n)) (hstep : ∀ i, i < n → Ev (g (i + 1)) (R (i + 1)) → Ev (g i) (R i)) : ∀ i, i ≤ n → Ev (g i) (R i) := by
  have key : ∀ d i, i + d = n → Ev (g i) (R i) := by
    intro d
    induction d with
    | zero => intro i hi; obtain rfl : i = n := by omega
              exact hend
    | succ d ih => intro i hi; exact hstep i (by omega) (ih (i + 1) (by omega))
  intro i hi
  exact key (n - i) i (by omega)
theorem getD_lt {α : Type} (l : List α) (d : α) (i : Nat) (h : i < l.length) : l.getD i d = l[i] := by
  rw [List.getD_eq_getElem?_getD, List.getElem?_eq_getElem h]
  rfl
theorem fill_set {α : Type} (l : List α) (z : α) (n i : Nat) (hl : l.length = n) (hi : i < n) : (l.take i ++ List.replicate (n - i) z).set i (l[i]'(by omega)) = l.take (i + 1) ++ List.replicate (n - (i + 1)) z := by
  rw [List.set_append_right _ _ (by rw [List.length_take]; omega)]
  have h1 : i - (l.take i).length = 0 := by rw [List.length_take]; omega
  rw [h1, show n - i = (n - (i + 1)) + 1 by omega, List.replicate_succ, List.set_cons_zero, List.take_succ_eq_append_getElem (by omega), List.append_assoc]
  rfl
end Go.Proofs.Ytcoommffjbbebaa.Pl
namespace Go.Proofs.Ytcoommffjbbebaa.Pure
set_option linter.unusedSimpArgs false
set_option linter.unusedVariables false
open Go.RowKit Go.Proofs.YtcoommffjbbebaaW.PrintWords Go.Proofs.Ytcoommffjbbebaa.P Go.Proofs.Ytcoommffjbbebaa.Pl
abbrev LLine := S100
abbrev ILine := S98
def toL (x : LLine) : ILine := ⟨x.f0, x.f1, x.f2⟩
theorem szLineS_eq (l : List LLine) (a : Int) (h0 : 0 ≤ a) (h1 : a ≤ 1048576) (hl : l.length ≤ 9223372036854775807) : laws_szLineS.f l a = some (if a < l.length then -1 else a - l.length) := by
  unfold laws_szLineS.f
  rw [wrap_in (by omega) (by omega)]
  by_cases h : a < (l.length : Int)
  · rw [if_pos h, if_pos (by omega)]
  · rw [if_neg h, if_neg (by omega)]
theorem toLineS_ev (l : List LLine) (hl : l.length ≤ 1048576) : Ev (fun k => laws_toLineS.f k l) (l.map toL) := by
  have hm : (l.map toL).length = l.length := List.length_map ..
  have key := Ev.loop (fun i k => laws_toLineS.l0 k l ((l.map toL).take i ++ List.replicate (l.length - i) z98) i) l.length (l.map toL) ?_ ?_ 0 (by omega)
  · unfold laws_toLineS.f
    simp only [Int.toNat_natCast]
    exact Ev.ite_pos (by omega) (Ev.ite_pos (by omega) (by simpa using key))
  · refine Ev.step (fun k => laws_toLineS.l0.eq_2 ..) ?_
    refine Ev.ite_neg (by omega) (Ev.const ?_)
    rw [List.take_of_length_le (by omega)]
    simp
  · intro i hi ih
    refine Ev.step (fun k => laws_toLineS.l0.eq_2 ..) ?_
    refine Ev.ite_pos (by omega) (Ev.ite_pos (by omega) ?_)
    refine Ev.bind0 rfl ?_
    refine Ev.ite_pos (by simp; omega) ?_
    rw [wrap_nat i (by omega)]
    have hx : (⟨(rd_T100 l i).f0, (rd_T100 l i).f1, (rd_T100 l i).f2⟩ : ILine) = (l.map toL)[i]'(by omega) := by
      simp only [List.getElem_map, toL, rd_T100, Int.toNat_natCast]
      rw [getD_lt _ _ _ hi]
    have hs := fill_set (l.map toL) z98 l.length i hm hi
    rw [← hs, ← hx] at ih
    exact ih
theorem eqLine_self (a b c : Int) : laws_eqLine.f a b c a b c = some true := by
  unfold laws_eqLine.f
  simp
theorem eqLineS_self (l : List ILine) (hl : l.length ≤ 1048576) : Ev (fun k => laws_eqLineS.f k l l) true := by
  unfold laws_eqLineS.f
  refine Ev.ite_pos rfl ?_
  refine Ev.loop (fun i k => laws_eqLineS.l0 k l l i) l.length true ?_ ?_ 0 (by omega)
  · refine Ev.step (fun k => laws_eqLineS.l0.eq_2 ..) ?_
    exact Ev.ite_neg (by omega) (Ev.now _)
  · intro i hi ih
    refine Ev.step (fun k => laws_eqLineS.l0.eq_2 ..) ?_
    refine Ev.ite_pos (by omega) (Ev.ite_pos (by omega) (Ev.ite_pos (by omega) ?_))
    refine Ev.bind0 (eqLine_self _ _ _) ?_
    refine Ev.ite_pos rfl ?_
    rw [wrap_nat i (by omega)]
    exact ih
abbrev rdL (l : List ILine) (i : Nat) : ILine := rd_T98 l (i : Int)
def inB (x : Int) : Bool := decide (-20 ≤ x ∧ x ≤ 20)
def farB (m : ILine) : Bool := !(inB m.f0 && inB m.f1 && inB m.f2) || (m.f0 == 0 && m.f1 == 0)
def sameB (a b : ILine) : Bool := decide (wrap64 (a.f0 * b.f1) = wrap64 (a.f1 * b.f0)) && (decide (wrap64 (a.f0 * b.f2) = wrap64 (a.f2 * b.f0)) && decide (wrap64 (a.f1 * b.f2) = wrap64 (a.f2 * b.f1)))
theorem sameB_comm (a b : ILine) : sameB a b = sameB b a := by
  have h : ∀ x y z w : Int, decide (wrap64 (x * y) = wrap64 (z * w)) = decide (wrap64 (w * z) = wrap64 (y * x)) := by
    intro x y z w
    rw [Int.mul_comm w z, Int.mul_comm y x]
    exact decide_eq_decide.mpr eq_comm
  unfold sameB
  rw [h a.f0 b.f1, h a.f0 b.f2, h a.f1 b.f2]
def okL (l : List ILine) (i : Nat) : Bool := !(farB (rdL l i)) && !((List.range i).any fun j => sameB (rdL l i) (rdL l j))
def areFrom (l : List ILine) (i : Nat) : Bool := ((List.range l.length).drop i).all (okL l) && decide (1 ≤ l.length ∧ l.length ≤ 6)
def areL (l : List ILine) : Bool := areFrom l 0
theorem range_drop (n i : Nat) (h : i < n) : (List.range n).drop i = i :: (List.range n).drop (i + 1) := by
  rw [List.drop_eq_getElem_cons (by simpa using h)]
  simp
theorem areFrom_step (l : List ILine) (i : Nat) (h : i < l.length) : areFrom l i = (okL l i && areFrom l (i + 1)) := by
  unfold areFrom
  rw [range_drop _ _ h, List.all_cons, Bool.and_assoc]
theorem same_eq (a b : ILine) : spec_l24Same.f a.f0 a.f1 a.f2 b.f0 b.f1 b.f2 = some (sameB a b) := by
  unfold spec_l24Same.f sameB
  by_cases h1 : wrap64 (a.f0 * b.f1) = wrap64 (a.f1 * b.f0)
  · rw [if_pos h1]
    by_cases h2 : wrap64 (a.f0 * b.f2) = wrap64 (a.f2 * b.f0)
    · rw [if_pos h2]
      simp [h1, h2]
      rfl
    · rw [if_neg h2]
      simp [h2]
  · rw [if_neg h1]
    simp [h1]
theorem isame_eq (a b : ILine) : impl_areSame.f a.f0 a.f1 a.f2 b.f0 b.f1 b.f2 = some (sameB a b) := same_eq a b
theorem rd_take (l : List ILine) (n j : Nat) (h : j < n) : rdL (l.take n) j = rdL l j := by
  simp only [rdL, rd_T98, Int.toNat_natCast]
  simp [List.getD_eq_getElem?_getD, h]
theorem contains_ev (l : List ILine) (n : Nat) (hn : n ≤ l.length) (hl : l.length ≤ 9223372036854775806) (m : ILine) :
    Ev (fun k => slices_ContainsFunc_Simpl_Line_impl_Line_impl_AreLines_1.f k (l.take n) m.f0 m.f1 m.f2) ((List.range n).any fun j => sameB m (rdL l j)) := by
  have hlen : (l.take n).length = n := by rw [List.length_take]; omega
  have key : ∀ d i, i + d = n → ∃ r, Ev (fun k => slices_IndexFunc_Simpl_Line_impl_Line_impl_AreLines_1.l0 k (l.take n) n i m.f0 m.f1 m.f2) r ∧ decide (r ≥ 0) = ((List.range n).drop i).any fun j => sameB m (rdL l j) := by
    intro d
    induction d with
    | zero =>
      intro i hi
      obtain rfl : i = n := by omega
      refine ⟨-1, Ev.step (fun k => slices_IndexFunc_Simpl_Line_impl_Line_impl_AreLines_1.l0.eq_2 ..) (Ev.ite_neg (by omega) (Ev.now _)), ?_⟩
      rw [List.drop_of_length_le (by simp)]
      rfl
    | succ d ih =>
      intro i hi
      obtain ⟨r, hr, he⟩ := ih (i + 1) (by omega)
      rw [range_drop n i (by omega), List.any_cons]
      have hs : impl_AreLines_1.f (rdL (l.take n) i).f0 (rdL (l.take n) i).f1 (rdL (l.take n) i).f2 m.f0 m.f1 m.f2 = some (sameB m (rdL l i)) := by
        unfold impl_AreLines_1.f
        rw [isame_eq, rd_take l n i (by omega)]
        rfl
      by_cases hb : sameB m (rdL l i) = true
      · refine ⟨i, Ev.step (fun k => slices_IndexFunc_Simpl_Line_impl_Line_impl_AreLines_1.l0.eq_2 ..) (Ev.ite_pos (by omega) (Ev.ite_pos (by omega) (Ev.ite_pos (by omega) (Ev.bind0 hs (Ev.ite_pos hb (Ev.now _)))))), ?_⟩
        rw [hb]
        simp
      · refine ⟨r, Ev.step (fun k => slices_IndexFunc_Simpl_Line_impl_Line_impl_AreLines_1.l0.eq_2 ..) (Ev.ite_pos (by omega) (Ev.ite_pos (by omega) (Ev.ite_pos (by omega) (Ev.bind0 hs (Ev.ite_neg hb ?_))))), ?_⟩
        · rw [wrap_nat i (by omega)]
          exact hr
        · rw [he, Bool.eq_false_iff.mpr hb, Bool.false_or]
  obtain ⟨r, hr, he⟩ := key n 0 (by omega)
  unfold slices_ContainsFunc_Simpl_Line_impl_Line_impl_AreLines_1.f slices_IndexFunc_Simpl_Line_impl_Line_impl_AreLines_1.f
  rw [hlen]
  refine Ev.bind hr (Ev.const ?_)
  rw [he, List.drop_zero]
theorem l1In_eq (x a b : Int) : spec_l1In.f x a b = some (decide (a ≤ x ∧ x ≤ b)) := by
  unfold spec_l1In.f
  by_cases h : x ≥ a
  · rw [if_pos h]
    simp [h]
  · rw [if_neg h]
    simp [show ¬ a ≤ x by omega]
theorem isFar_eq (x b : Int) (hb : 0 ≤ b ∧ b ≤ 1000000) : impl_isFar.f x b = some (!decide (-b ≤ x ∧ x ≤ b)) := by
  unfold impl_isFar.f
  rw [wrap_in (by omega) (by omega)]
  by_cases h : x < -b
  · rw [if_pos h]
    simp [show ¬ -b ≤ x by omega]
  · rw [if_neg h]
    by_cases h2 : x ≤ b
    · simp [h2, show -b ≤ x by omega, show ¬ x > b by omega]
    · simp [h2, show x > b by omega]
theorem spec_j1_ev (l : List ILine) (hl : l.length ≤ 1048576) (i : Nat) (hi : i < l.length) (r : Bool) (h : Ev (fun k => spec_AreLines.l0 k l ((i + 1 : Nat) : Int)) r) (b : Bool) :
    Ev (fun k => spec_AreLines.j1 k l i b (rdL l i).f0 (rdL l i).f1 (rdL l i).f2) (!b && !((List.range i).any fun j => sameB (rdL l i) (rdL l j)) && r) := by
  refine Ev.step (fun k => spec_AreLines.j1.eq_2 ..) ?_
  cases b with
  | true => exact Ev.ite_pos rfl (Ev.now _)
  | false =>
    refine Ev.ite_neg (by simp) ?_
    have key := Ev.loop_to (fun j k => spec_AreLines.l1 k l i j (rdL l i).f0 (rdL l i).f1 (rdL l i).f2) i (fun j => !(((List.range i).drop j).any fun j => sameB (rdL l i) (rdL l j)) && r) ?_ ?_ 0 (by omega)
    · simpa using key
    · refine Ev.step (fun k => spec_AreLines.l1.eq_2 ..) (Ev.ite_neg (by omega) ?_)
      rw [wrap_nat i (by omega), List.drop_of_length_le (by simp)]
      simpa using h
    · intro j hj ih
      refine Ev.step (fun k => spec_AreLines.l1.eq_2 ..) (Ev.ite_pos (by omega) (Ev.ite_pos (by omega) (Ev.ite_pos (by omega) (Ev.bind0 (same_eq (rdL l j) (rdL l i)) ?_))))
      rw [range_drop i j hj, List.any_cons, sameB_comm (rdL l i) (rdL l j)]
      by_cases hb : sameB (rdL l j) (rdL l i) = true
      · rw [hb]
        exact Ev.ite_pos rfl (Ev.now _)
      · rw [Bool.eq_false_iff.mpr hb, Bool.false_or, wrap_nat j (by omega)]
        exact Ev.ite_neg (by simp) ih
theorem impl_j1_ev (l : List ILine) (hl : l.length ≤ 1048576) (i : Nat) (hi : i < l.length) (r : Bool) (h : Ev (fun k => impl_AreLines.l0 k l l l.length ((i + 1 : Nat) : Int)) r) (b : Bool) :
    Ev (fun k => impl_AreLines.j1 k l i l l.length i b (rdL l i).f0 (rdL l i).f1 (rdL l i).f2) (!b && !((List.range i).any fun j => sameB (rdL l i) (rdL l j)) && r) := by
  refine Ev.step (fun k => impl_AreLines.j1.eq_2 ..) ?_
  cases b with
  | true => exact Ev.ite_pos rfl (Ev.now _)
  | false =>
    refine Ev.ite_neg (by simp) (Ev.ite_pos (by omega) (Ev.ite_pos (by omega) ?_))
    rw [Int.toNat_natCast, wrap_nat i (by omega)]
    refine Ev.bind (contains_ev l i (by omega) (by omega) (rdL l i)) ?_
    by_cases hb : ((List.range i).any fun j => sameB (rdL l i) (rdL l j)) = true
    · rw [hb]
      exact Ev.ite_pos rfl (Ev.now _)
    · rw [Bool.eq_false_iff.mpr hb]
      exact Ev.ite_neg (by simp) h
theorem farB_of (m : ILine) : farB m = (!inB m.f0 || !inB m.f1 || !inB m.f2 || (m.f0 == 0 && m.f1 == 0)) := by
  unfold farB
  rw [Bool.not_and, Bool.not_and]
theorem spec_AreLines_ev (l : List ILine) (hl : l.length ≤ 1048576) : Ev (fun k => spec_AreLines.f k l) (areL l) := by
  unfold spec_AreLines.f areL
  refine Ev.loop_to (fun i k => spec_AreLines.l0 k l i) l.length (areFrom l) ?_ ?_ 0 (by omega)
  · refine Ev.step (fun k => spec_AreLines.l0.eq_2 ..) (Ev.ite_neg (by omega) (Ev.bind0 (l1In_eq ..) (Ev.const ?_)))
    unfold areFrom
    rw [List.drop_of_length_le (by simp)]
    simp only [List.all_nil, Bool.true_and, Option.some.injEq]
    exact decide_eq_decide.mpr (by omega)
  · intro i hi ih
    rw [areFrom_step l i hi]
    unfold okL
    refine Ev.step (fun k => spec_AreLines.l0.eq_2 ..) (Ev.ite_pos (by omega) (Ev.ite_pos (by omega) ?_))
    have hj := spec_j1_ev l hl i hi _ ih
    rw [farB_of]
    refine Ev.bind0 (l1In_eq ..) ?_
    change Ev (fun k => if inB (rdL l i).f0 = true then _ else _) _
    cases h0 : inB (rdL l i).f0 with
    | false => exact Ev.ite_neg (by simp) (by simpa using hj true)
    | true =>
      refine Ev.ite_pos rfl (Ev.bind0 (l1In_eq ..) ?_)
      change Ev (fun k => if inB (rdL l i).f1 = true then _ else _) _
      cases h1 : inB (rdL l i).f1 with
      | false => exact Ev.ite_neg (by simp) (by simpa using hj true)
      | true =>
        refine Ev.ite_pos rfl (Ev.bind0 (l1In_eq ..) ?_)
        change Ev (fun k => if inB (rdL l i).f2 = true then _ else _) _
        cases h2 : inB (rdL l i).f2 with
        | false => exact Ev.ite_neg (by simp) (by simpa using hj true)
        | true =>
          refine Ev.ite_pos rfl ?_
          by_cases hz : (rdL l i).f0 = 0
          · exact Ev.ite_pos hz (by simpa [hz] using hj ((rdL l i).f1 == 0))
          · exact Ev.ite_neg hz (by simpa [show ((rdL l i).f0 == 0) = false from beq_eq_false_iff_ne.mpr hz] using hj false)
theorem impl_AreLines_ev (l : List ILine) (hl : l.length ≤ 1048576) : Ev (fun k => impl_AreLines.f k l) (areL l) := by
  unfold impl_AreLines.f areL
  refine Ev.loop_to (fun i k => impl_AreLines.l0 k l l l.length i) l.length (areFrom l) ?_ ?_ 0 (by omega)
  · refine Ev.step (fun k => impl_AreLines.l0.eq_2 ..) (Ev.ite_neg (by omega) ?_)
    unfold areFrom
    rw [List.drop_of_length_le (by simp)]
    by_cases h1 : (l.length : Int) ≥ 1
    · refine Ev.ite_pos h1 (Ev.const ?_)
      simp only [List.all_nil, Bool.true_and, Option.some.injEq]
      exact decide_eq_decide.mpr (by omega)
    · refine Ev.ite_neg h1 (Ev.const ?_)
      simp only [List.all_nil, Bool.true_and, Option.some.injEq]
      exact (decide_eq_false (by omega)).symm
  · intro i hi ih
    rw [areFrom_step l i hi]
    unfold okL
    refine Ev.step (fun k => impl_AreLines.l0.eq_2 ..) (Ev.ite_pos (by omega) (Ev.ite_pos (by omega) (Ev.ite_pos (by omega) ?_)))
    have hj := impl_j1_ev l hl i hi _ ih
    rw [farB_of]
    refine Ev.bind0 (isFar_eq _ _ (by omega)) ?_
    change Ev (fun k => if (!inB (rdL l i).f0) = true then _ else _) _
    cases h0 : inB (rdL l i).f0 with
    | false => exact Ev.ite_pos rfl (by simpa using hj true)
    | true =>
      refine Ev.ite_neg (by simp) (Ev.bind0 (isFar_eq _ _ (by omega)) ?_)
      change Ev (fun k => if (!inB (rdL l i).f1) = true then _ else _) _
      cases h1 : inB (rdL l i).f1 with
      | false => exact Ev.ite_pos rfl (by simpa using hj true)
      | true =>
        refine Ev.ite_neg (by simp) (Ev.bind0 (isFar_eq _ _ (by omega)) ?_)
        change Ev (fun k => if (!inB (rdL l i).f2) = true then _ else _) _
        cases h2 : inB (rdL l i).f2 with
        | false => exact Ev.ite_pos rfl (by simpa using hj true)
        | true =>
          refine Ev.ite_neg (by simp) ?_
          by_cases hz : (rdL l i).f0 = 0
          · exact Ev.ite_pos hz (by simpa [hz] using hj ((rdL l i).f1 == 0))
          · exact Ev.ite_neg hz (by simpa [show ((rdL l i).f0 == 0) = false from beq_eq_false_iff_ne.mpr hz] using hj false)
theorem areL_bounds {l : List ILine} (h : areL l = true) : l.length ≤ 6 ∧ ∀ i, i < l.length → (-20 ≤ (rdL l i).f0 ∧ (rdL l i).f0 ≤ 20) ∧ (-20 ≤ (rdL l i).f1 ∧ (rdL l i).f1 ≤ 20) ∧ (-20 ≤ (rdL l i).f2 ∧ (rdL l i).f2 ≤ 20) := by
  unfold areL areFrom at h
  rw [Bool.and_eq_true, List.drop_zero, List.all_eq_true, decide_eq_true_eq] at h
  refine ⟨h.2.2, fun i hi => ?_⟩
  have h1 := h.1 i (by simpa using hi)
  unfold okL farB inB at h1
  simp only [Bool.and_eq_true, Bool.not_eq_true', Bool.or_eq_false_iff, Bool.not_eq_false', decide_eq_true_eq] at h1
  exact ⟨h1.1.1.1.1, h1.1.1.1.2, h1.1.1.2⟩
def sgn (x : Int) : Int := if x < 0 then -1 else if x > 0 then 1 else 0
theorem signOf_eq (x : Int) : impl_signOf.f x = some (sgn x) := by
  unfold impl_signOf.f cmp_Compare_int.f cmp_isNaN_int.f sgn
  simp only [bne_self_eq_false, Option.bind_some, Bool.false_eq_true, if_false]
  by_cases h : x < 0
  · simp [h]
  · by_cases h2 : x > 0
    · simp [h, h2]
    · simp [h, h2]
theorem l2Sign_eq (x : Int) : spec_l2Sign.f x = some (sgn x) := by
  unfold spec_l2Sign.f spec_l1Bit.f sgn
  by_cases h : x < 0
  · have h2 : ¬ x > 0 := by omega
    simp [h, h2, wrap64]
  · by_cases h2 : x > 0
    · simp [h, h2, wrap64]
    · simp [h, h2, wrap64]
theorem gcd_step (a b : Int) : Nat.gcd b.natAbs (Int.tmod a b).natAbs = Nat.gcd a.natAbs b.natAbs := by
  rw [Int.natAbs_tmod, Nat.gcd_comm b.natAbs, ← Nat.gcd_rec, Nat.gcd_comm]
theorem tmod_lt (a b : Int) (h : b ≠ 0) : (Int.tmod a b).natAbs < b.natAbs := by
  rw [Int.natAbs_tmod]
  exact Nat.mod_lt _ (by omega)
theorem l24Gcd_ev : ∀ (n : Nat) (a b : Int), b.natAbs ≤ n → a.natAbs ≤ 1000000 → b.natAbs ≤ 1000000 → Ev (fun k => spec_l24Gcd.l0 k a b) (Nat.gcd a.natAbs b.natAbs : Nat) := by
  intro n
  induction n with
  | zero =>
    intro a b hb ha _
    obtain rfl : b = 0 := by omega
    refine Ev.step (fun k => spec_l24Gcd.l0.eq_2 ..) (Ev.ite_pos rfl (Ev.const ?_))
    unfold spec_l1Max.f
    rw [wrap_in (by omega) (by omega)]
    by_cases h : a > -a
    · rw [if_pos h]
      simp
      omega
    · rw [if_neg h]
      simp
      omega
  | succ n ih =>
    intro a b hb ha hb2
    by_cases h0 : b = 0
    · exact ih a b (by omega) ha hb2
    · refine Ev.step (fun k => spec_l24Gcd.l0.eq_2 ..) (Ev.ite_neg h0 ?_)
      have h1 := tmod_lt a b h0
      have h2 := ih b (Int.tmod a b) (by omega) hb2 (by omega)
      rw [gcd_step] at h2
      exact h2
def gcdL (g : Nat) (l : List Int) : Nat := l.foldl (fun g n => Nat.gcd g n.natAbs) g
theorem divisor_ev (l : List Int) (hl : l.length ≤ 1000) (hb : ∀ i : Nat, i < l.length → (rd l i).natAbs ≤ 1000000) : ∀ d i, i + d = l.length → ∀ out : Int, out.natAbs ≤ 1000000 → Ev (fun k => impl_divisor.l0 k out l l.length i) (gcdL out.natAbs (l.drop i) : Nat) := by
  intro d
  induction d with
  | zero =>
    intro i hi out ho
    refine Ev.step (fun k => impl_divisor.l0.eq_2 ..) (Ev.ite_neg (by omega) (Ev.const ?_))
    rw [List.drop_of_length_le (by omega), wrap_in (by omega) (by omega)]
    unfold mx gcdL
    by_cases h : out < -out
    · rw [if_pos h]
      simp
      omega
    · rw [if_neg h]
      simp
      omega
  | succ d ih =>
    intro i hi out ho
    refine Ev.step (fun k => impl_divisor.l0.eq_2 ..) (Ev.ite_pos (by omega) (Ev.ite_pos (by omega) (Ev.ite_pos (by omega) ?_)))
    have he : l.drop i = rd l (i : Int) :: l.drop (i + 1) := by
      rw [List.drop_eq_getElem_cons (by omega)]
      unfold rd
      rw [Int.toNat_natCast, getD_lt _ _ _ (by omega)]
    have hb1 := hb i (by omega)
    rw [he]
    generalize rd l (i : Int) = x at hb1 ⊢
    have key : ∀ (n : Nat) (o x : Int), x.natAbs ≤ n → o.natAbs ≤ 1000000 → x.natAbs ≤ 1000000 → Ev (fun k => impl_divisor.l1 k o x l l.length i) (gcdL (Nat.gcd o.natAbs x.natAbs) (l.drop (i + 1)) : Nat) := by
      intro n
      induction n with
      | zero =>
        intro o x hx ho _
        obtain rfl : x = 0 := by omega
        refine Ev.step (fun k => impl_divisor.l1.eq_2 ..) (Ev.ite_pos rfl ?_)
        rw [wrap_nat i (by omega), Int.natAbs_zero, Nat.gcd_zero_right]
        exact ih (i + 1) (by omega) o ho
      | succ n ihn =>
        intro o x hx ho hx2
        by_cases h0 : x = 0
        · exact ihn o x (by omega) ho hx2
        · refine Ev.step (fun k => impl_divisor.l1.eq_2 ..) (Ev.ite_neg h0 ?_)
          have h1 := tmod_lt o x h0
          have h2 := ihn x (Int.tmod o x) (by omega) hx2 (by omega)
          rw [gcd_step] at h2
          exact h2
    exact key x.natAbs out x (Nat.le_refl _) ho hb1
end Go.Proofs.Ytcoommffjbbebaa.Pure
namespace Go.Proofs.Ytcoommffjbbebaa.Pl
set_option linter.unusedSimpArgs false
set_option linter.unusedVariables false
section
variable {α : Type} [Inhabited α]
def posR (lt : α → α → Bool) (x : α) (L : List α) : Nat → Nat
  | 0 => 0
  | p + 1 => if lt x L[p]! then posR lt x L p else p + 1
theorem posR_le (lt : α → α → Bool) (x : α) (L : List α) : ∀ p, posR lt x L p ≤ p
  | 0 => Nat.le_refl _
  | p + 1 => by
    unfold posR
    split
    · exact Nat.le_succ_of_le (posR_le lt x L p)
    · exact Nat.le_refl _
def insR (lt : α → α → Bool) (x : α) (L : List α) : List α := L.take (posR lt x L L.length) ++ x :: L.drop (posR lt x L L.length)
theorem insR_length (lt : α → α → Bool) (x : α) (L : List α) : (insR lt x L).length = L.length + 1 := by
  unfold insR
  have := posR_le lt x L L.length
  rw [List.length_append, List.length_take, List.length_cons, List.length_drop]
  omega
def insS (lt : α → α → Bool) : List α → List α → List α
  | S, [] => S
  | S, x :: r => insS lt (insR lt x S) r
end
section
variable {α β : Type} [Inhabited α] [Inhabited β]
end
theorem insR_permI {α : Type} [Inhabited α] (lt : α → α → Bool) (x : α) (L : List α) : (insR lt x L).Perm (x :: L) := by
  unfold insR
  have h := List.perm_middle (a := x) (l₁ := L.take (posR lt x L L.length)) (l₂ := L.drop (posR lt x L L.length))
  rwa [List.take_append_drop] at h
theorem insS_permI {α : Type} [Inhabited α] (lt : α → α → Bool) : ∀ (r S : List α), (insS lt S r).Perm (S ++ r)
  | [], S => by rw [insS, List.append_nil]
  | x :: r, S => by
    rw [insS]
    refine (insS_permI lt r _).trans ?_
    refine ((insR_permI lt x S).append_right r).trans ?_
    exact (List.perm_middle (a := x) (l₁ := S) (l₂ := r)).symm
def ltI (a b : Int) : Bool := decide (a < b)
theorem posR_spec (x : Int) (L : List Int) : ∀ p, p ≤ L.length → (∀ j, posR ltI x L p ≤ j → j < p → x < L[j]!) ∧ (0 < posR ltI x L p → L[posR ltI x L p - 1]! ≤ x)
  | 0, _ => ⟨fun j h1 h2 => absurd h2 (by omega), fun h => absurd h (Nat.lt_irrefl _)⟩
  | p + 1, hp => by
    unfold posR
    by_cases h : x < L[p]!
    · have hb : ltI x L[p]! = true := decide_eq_true h
      rw [if_pos hb]
      obtain ⟨h1, h2⟩ := posR_spec x L p (by omega)
      refine ⟨fun j h3 h4 => ?_, h2⟩
      rcases Nat.lt_or_ge j p with hj | hj
      · exact h1 j h3 hj
      · obtain rfl : j = p := by omega
        exact h
    · have hb : ltI x L[p]! = false := decide_eq_false h
      rw [hb, if_neg (by simp)]
      exact ⟨fun j h3 h4 => absurd h4 (by omega), fun _ => by rw [Nat.add_sub_cancel]; omega⟩
theorem insR_sorted (x : Int) (L : List Int) (h : L.Pairwise (· ≤ ·)) : (insR ltI x L).Pairwise (· ≤ ·) := by
  obtain ⟨h1, h2⟩ := posR_spec x L L.length (Nat.le_refl _)
  have hle := posR_le ltI x L L.length
  unfold insR
  generalize posR ltI x L L.length = p at h1 h2 hle
  have hT : ∀ a ∈ L.take p, a ≤ x := fun a ha => by
    obtain ⟨j, hj, rfl⟩ := List.mem_iff_getElem.1 ha
    rw [List.length_take] at hj
    have h3 := h2 (by omega)
    rw [getElem!_pos L (p - 1) (by omega)] at h3
    rw [List.getElem_take]
    rcases Nat.lt_or_ge j (p - 1) with hjp | hjp
    · exact Int.le_trans (List.pairwise_iff_getElem.1 h j (p - 1) (by omega) (by omega) hjp) h3
    · have e : j = p - 1 := by omega
      subst e
      exact h3
  have hD : ∀ b ∈ L.drop p, x ≤ b := fun b hb => by
    obtain ⟨j, hj, rfl⟩ := List.mem_iff_getElem.1 hb
    rw [List.length_drop] at hj
    rw [List.getElem_drop]
    have h3 := h1 (p + j) (by omega) (by omega)
    rw [getElem!_pos L (p + j) (by omega)] at h3
    omega
  rw [List.pairwise_append]
  refine ⟨h.sublist (List.take_sublist _ _), List.pairwise_cons.2 ⟨hD, h.sublist (List.drop_sublist _ _)⟩, fun a ha b hb => ?_⟩
  rcases List.mem_cons.1 hb with rfl | hb
  · exact hT a ha
  · exact Int.le_trans (hT a ha) (hD b hb)
theorem insS_sorted : ∀ (r S : List Int), S.Pairwise (· ≤ ·) → (insS ltI S r).Pairwise (· ≤ ·)
  | [], S, h => h
  | x :: r, S, h => insS_sorted r _ (insR_sorted x S h)
theorem insS_mergeSort (l : List Int) : insS ltI [] l = l.mergeSort fun x y => decide (x ≤ y) := by
  have p1 := insS_permI ltI l []
  have p2 := List.mergeSort_perm l fun x y => decide (x ≤ y)
  have s2 : (l.mergeSort fun x y => decide (x ≤ y)).Pairwise (· ≤ ·) := by
    have := List.pairwise_mergeSort (le := fun x y : Int => decide (x ≤ y)) (fun a b c h1 h2 => by simp at *; omega) (fun a b => by simp; omega) l
    exact this.imp (fun h => of_decide_eq_true h)
  refine List.Perm.eq_of_pairwise (le := (· ≤ ·)) (fun a b _ _ h1 h2 => by omega) (insS_sorted l [] List.Pairwise.nil) s2 ?_
  exact p1.trans (by rw [List.nil_append]; exact p2.symm)
end Go.Proofs.Ytcoommffjbbebaa.Pl
namespace Go.Proofs.Ytcoommffjbbebaa.Pure
set_option linter.unusedSimpArgs false
set_option linter.unusedVariables false
open Go.RowKit Go.Proofs.YtcoommffjbbebaaW.PrintWords Go.Proofs.Ytcoommffjbbebaa.P Go.Proofs.Ytcoommffjbbebaa.Pl
theorem rd_ltP (l : List Int) (i : Nat) (h : i < l.length) : rd l (i : Int) = l[i] := by
  unfold rd
  rw [Int.toNat_natCast, getD_lt _ _ _ h]
theorem put_down (S : List Int) (x : Int) (hS : S.length ≤ 1000) : ∀ p : Nat, p ≤ S.length → Ev (fun k => spec_l16Put.l0 k S x (p : Nat)) (S.take (posR ltI x S p) ++ x :: S.drop (posR ltI x S p))
  | 0, _ => by
    refine Ev.step (fun k => spec_l16Put.l0.eq_2 ..) (Ev.ite_neg (by omega) (Ev.bind0 rfl (Ev.ite_pos (by omega) (Ev.ite_pos (by omega) (Ev.bind0 rfl (Ev.ite_pos (by simp; omega) (Ev.bind0 rfl ?_)))))))
    refine Ev.bind0 rfl (Ev.ite_pos (by simp) (Ev.bind0 rfl (Ev.ite_pos (by simp; omega) (Ev.const ?_))))
    simp [posR]
  | p + 1, hp => by
    have hpl : p < S.length := by omega
    have hw : wrap64 (((p + 1 : Nat) : Int) - 1) = (p : Int) := by rw [wrap_in (by omega) (by omega)]; omega
    have hr : rd S (p : Int) = S[p]! := by rw [rd_ltP S p hpl, getElem!_pos S p hpl]
    unfold posR
    refine Ev.step (fun k => spec_l16Put.l0.eq_2 ..) (Ev.ite_pos (by omega) ?_)
    rw [hw]
    refine Ev.ite_pos (by omega) (Ev.ite_pos (by omega) ?_)
    rw [hr]
    by_cases hb : x < S[p]!
    · rw [if_pos (show ltI x S[p]! = true from decide_eq_true hb)]
      exact Ev.ite_pos hb (put_down S x hS p (by omega))
    · rw [if_neg (show ¬ ltI x S[p]! = true by unfold ltI; rw [decide_eq_true_eq]; exact hb)]
      refine Ev.ite_neg (by omega) (Ev.bind0 rfl (Ev.ite_pos (by omega) (Ev.ite_pos (by omega) (Ev.bind0 rfl (Ev.ite_pos (by simp; omega) (Ev.bind0 rfl ?_))))))
      refine Ev.bind0 rfl (Ev.ite_pos (by simp; omega) (Ev.bind0 rfl (Ev.ite_pos (by simp; omega) (Ev.const ?_))))
      simp
theorem l16Put_ev (S : List Int) (x : Int) (hS : S.length ≤ 1000) : Ev (fun k => spec_l16Put.f k S x) (insR ltI x S) := put_down S x hS S.length (Nat.le_refl _)
theorem sg1_sgn (d : Int) : sg1 d = sgn d := by unfold sg1 sgn; split <;> split <;> (try split) <;> omega
def okR (a : ILine) : Prop := (-20 ≤ a.f0 ∧ a.f0 ≤ 20) ∧ (-20 ≤ a.f1 ∧ a.f1 ≤ 20) ∧ (-20 ≤ a.f2 ∧ a.f2 ≤ 20)
def parR (a b : ILine) : Bool := a.f0 * b.f1 == a.f1 * b.f0
def mtX (a b : ILine) : P3 :=
  let s := ((Nat.gcd (Nat.gcd (a.f2 * b.f1 - a.f1 * b.f2).natAbs (a.f0 * b.f2 - a.f2 * b.f0).natAbs) (a.f0 * b.f1 - a.f1 * b.f0).natAbs : Nat) : Int) * sg1 (a.f0 * b.f1 - a.f1 * b.f0)
  (Int.tdiv (a.f2 * b.f1 - a.f1 * b.f2) s, Int.tdiv (a.f0 * b.f2 - a.f2 * b.f0) s, Int.tdiv (a.f0 * b.f1 - a.f1 * b.f0) s)
def onL (p : P3) (a : ILine) : Prop := a.f0 * p.1 + a.f1 * p.2.1 = a.f2 * p.2.2
instance (p : P3) (a : ILine) : Decidable (onL p a) := by unfold onL; exact inferInstance
def smallP (p : P3) : Prop := (-800 ≤ p.1 ∧ p.1 ≤ 800) ∧ (-800 ≤ p.2.1 ∧ p.2.1 ≤ 800) ∧ (-800 ≤ p.2.2 ∧ p.2.2 ≤ 800)
theorem mul_bound {a b : Int} (ha : -20 ≤ a ∧ a ≤ 20) (hb : -20 ≤ b ∧ b ≤ 20) : -400 ≤ a * b ∧ a * b ≤ 400 := by
  have h1 : (a * b).natAbs = a.natAbs * b.natAbs := Int.natAbs_mul a b
  have h2 : a.natAbs * b.natAbs ≤ 20 * 20 := Nat.mul_le_mul (by omega) (by omega)
  omega
theorem mul_bound8 {a b : Int} (ha : -20 ≤ a ∧ a ≤ 20) (hb : -800 ≤ b ∧ b ≤ 800) : -16000 ≤ a * b ∧ a * b ≤ 16000 := by
  have h1 : (a * b).natAbs = a.natAbs * b.natAbs := Int.natAbs_mul a b
  have h2 : a.natAbs * b.natAbs ≤ 20 * 800 := Nat.mul_le_mul (by omega) (by omega)
  omega
theorem tdiv_small {x s : Int} (hx : -800 ≤ x ∧ x ≤ 800) : -800 ≤ Int.tdiv x s ∧ Int.tdiv x s ≤ 800 := by
  have h1 : (Int.tdiv x s).natAbs = x.natAbs / s.natAbs := Int.natAbs_tdiv x s
  have h2 : x.natAbs / s.natAbs ≤ x.natAbs := Nat.div_le_self _ _
  omega
theorem parR_false {a b : ILine} (h : parR a b = false) : a.f0 * b.f1 ≠ a.f1 * b.f0 := by unfold parR at h; simpa using h
theorem mtX_facts {a b : ILine} (ha : okR a) (hb : okR b) (hp : parR a b = false) : prim (mtX a b).1 (mtX a b).2.1 (mtX a b).2.2 ∧ onL (mtX a b) a ∧ onL (mtX a b) b ∧ smallP (mtX a b) := by
  have hd : a.f0 * b.f1 - a.f1 * b.f0 ≠ 0 := by have := parR_false hp; omega
  obtain ⟨g, hg, hs, ex, ey, ed, hpr⟩ := reduce (x := a.f2 * b.f1 - a.f1 * b.f2) (y := a.f0 * b.f2 - a.f2 * b.f0) hd
  have m1 := mul_bound ha.1 hb.2.1
  have m2 := mul_bound ha.2.1 hb.1
  have m3 := mul_bound ha.2.2 hb.2.1
  have m4 := mul_bound ha.2.1 hb.2.2
  have m5 := mul_bound ha.1 hb.2.2
  have m6 := mul_bound ha.2.2 hb.1
  have e : mtX a b = (Int.tdiv (a.f2 * b.f1 - a.f1 * b.f2) ((g : Int) * sg1 (a.f0 * b.f1 - a.f1 * b.f0)), Int.tdiv (a.f0 * b.f2 - a.f2 * b.f0) ((g : Int) * sg1 (a.f0 * b.f1 - a.f1 * b.f0)), Int.tdiv (a.f0 * b.f1 - a.f1 * b.f0) ((g : Int) * sg1 (a.f0 * b.f1 - a.f1 * b.f0))) := by unfold mtX; rw [hg]
  obtain ⟨o1, o2⟩ := on_both hs ex ey ed
  rw [e]
  exact ⟨hpr, o1, o2, tdiv_small (by omega), tdiv_small (by omega), tdiv_small (by omega)⟩
def same3 (a b : ILine) : Prop := a.f0 * b.f1 = a.f1 * b.f0 ∧ a.f0 * b.f2 = a.f2 * b.f0 ∧ a.f1 * b.f2 = a.f2 * b.f1
theorem through {a c : ILine} {p : P3} (ha : okR a) (hc : okR c) (hp : prim p.1 p.2.1 p.2.2) (h1 : onL p a) (h2 : onL p c) (hn : ¬ same3 a c) : parR a c = false ∧ mtX a c = p := by
  have hpar : parR a c = false := by
    cases h : parR a c with
    | false => rfl
    | true =>
      have hh : a.f0 * c.f1 = a.f1 * c.f0 := by unfold parR at h; simpa using h
      obtain ⟨q1, q2⟩ := par_same hp.1 hh h1 h2
      exact absurd ⟨hh, q1, q2⟩ hn
  obtain ⟨g1, g2, g3, _⟩ := mtX_facts ha hc hpar
  obtain ⟨e1, e2, e3⟩ := same_point (parR_false hpar) g2 g3 h1 h2 g1 hp
  exact ⟨hpar, Prod.ext e1 (Prod.ext e2 e3)⟩
theorem sameB_iff {a b : ILine} (ha : okR a) (hb : okR b) : sameB a b = true ↔ same3 a b := by
  have m1 := mul_bound ha.1 hb.2.1
  have m2 := mul_bound ha.2.1 hb.1
  have m3 := mul_bound ha.2.2 hb.2.1
  have m4 := mul_bound ha.2.1 hb.2.2
  have m5 := mul_bound ha.1 hb.2.2
  have m6 := mul_bound ha.2.2 hb.1
  unfold sameB same3
  rw [wrap_in (n := a.f0 * b.f1) (by omega) (by omega), wrap_in (n := a.f1 * b.f0) (by omega) (by omega), wrap_in (n := a.f0 * b.f2) (by omega) (by omega), wrap_in (n := a.f2 * b.f0) (by omega) (by omega), wrap_in (n := a.f1 * b.f2) (by omega) (by omega), wrap_in (n := a.f2 * b.f1) (by omega) (by omega)]
  simp
theorem meet_parts (a b : ILine) (ha : okR a) (hb : okR b) (hp : parR a b = false) :
    Ev (fun k => spec_l24Meet.f k a.f0 a.f1 a.f2 b.f0 b.f1 b.f2) ((mtX a b).1, (mtX a b).2.1, (mtX a b).2.2) ∧ (areL [a, b] = true → Ev (fun k => impl_MeetLines.f k a.f0 a.f1 a.f2 b.f0 b.f1 b.f2) ((mtX a b).1, (mtX a b).2.1, (mtX a b).2.2, true)) := by
  have hI := impl_AreLines_ev [a, b] (by simp)
  have hd := parR_false hp
  have hsm := (mtX_facts ha hb hp).2.2.2
  have emt : mtX a b = (Int.tdiv (a.f2 * b.f1 - a.f1 * b.f2) (((Nat.gcd (Nat.gcd (a.f2 * b.f1 - a.f1 * b.f2).natAbs (a.f0 * b.f2 - a.f2 * b.f0).natAbs) (a.f0 * b.f1 - a.f1 * b.f0).natAbs : Nat) : Int) * sg1 (a.f0 * b.f1 - a.f1 * b.f0)), Int.tdiv (a.f0 * b.f2 - a.f2 * b.f0) (((Nat.gcd (Nat.gcd (a.f2 * b.f1 - a.f1 * b.f2).natAbs (a.f0 * b.f2 - a.f2 * b.f0).natAbs) (a.f0 * b.f1 - a.f1 * b.f0).natAbs : Nat) : Int) * sg1 (a.f0 * b.f1 - a.f1 * b.f0)), Int.tdiv (a.f0 * b.f1 - a.f1 * b.f0) (((Nat.gcd (Nat.gcd (a.f2 * b.f1 - a.f1 * b.f2).natAbs (a.f0 * b.f2 - a.f2 * b.f0).natAbs) (a.f0 * b.f1 - a.f1 * b.f0).natAbs : Nat) : Int) * sg1 (a.f0 * b.f1 - a.f1 * b.f0))) := rfl
  obtain ⟨a0, a1, a2⟩ := a
  obtain ⟨b0, b1, b2⟩ := b
  obtain ⟨ha0, ha1, ha2⟩ := ha
  obtain ⟨hb0, hb1, hb2⟩ := hb
  dsimp only at ha0 ha1 ha2 hb0 hb1 hb2 hI hd emt ⊢
  have m1 := mul_bound ha0 hb1
  have m2 := mul_bound ha1 hb0
  have m3 := mul_bound ha2 hb1
  have m4 := mul_bound ha1 hb2
  have m5 := mul_bound ha0 hb2
  have m6 := mul_bound ha2 hb0
  have w1 : wrap64 (a0 * b1) = a0 * b1 := wrap_in (by omega) (by omega)
  have w2 : wrap64 (a1 * b0) = a1 * b0 := wrap_in (by omega) (by omega)
  have w3 : wrap64 (a2 * b1) = a2 * b1 := wrap_in (by omega) (by omega)
  have w4 : wrap64 (a1 * b2) = a1 * b2 := wrap_in (by omega) (by omega)
  have w5 : wrap64 (a0 * b2) = a0 * b2 := wrap_in (by omega) (by omega)
  have w6 : wrap64 (a2 * b0) = a2 * b0 := wrap_in (by omega) (by omega)
  obtain ⟨x, hx⟩ : ∃ x, x = a2 * b1 - a1 * b2 := ⟨_, rfl⟩
  obtain ⟨y, hy⟩ : ∃ y, y = a0 * b2 - a2 * b0 := ⟨_, rfl⟩
  obtain ⟨d, hdd⟩ : ∃ d, d = a0 * b1 - a1 * b0 := ⟨_, rfl⟩
  have ex : wrap64 (a2 * b1 - a1 * b2) = x := by rw [hx]; exact wrap_in (by omega) (by omega)
  have ey : wrap64 (a0 * b2 - a2 * b0) = y := by rw [hy]; exact wrap_in (by omega) (by omega)
  have ed : wrap64 (a0 * b1 - a1 * b0) = d := by rw [hdd]; exact wrap_in (by omega) (by omega)
  rw [← hx, ← hy, ← hdd] at emt
  have xb : x.natAbs ≤ 800 := by omega
  have yb : y.natAbs ≤ 800 := by omega
  have db : d.natAbs ≤ 800 := by omega
  have d0 : d ≠ 0 := by omega
  obtain ⟨g, hg⟩ : ∃ g, g = Nat.gcd (Nat.gcd x.natAbs y.natAbs) d.natAbs := ⟨_, rfl⟩
  rw [← hg, sg1_sgn] at emt
  have g1 : 1 ≤ g := by rw [hg]; exact Nat.gcd_pos_of_pos_right _ (by omega)
  have g2 : g ≤ 800 := by rw [hg]; exact Nat.le_trans (Nat.gcd_le_right _ (by omega)) db
  have gxy : Nat.gcd x.natAbs y.natAbs ≤ 800 := by
    by_cases h : x = 0
    · subst h; simpa using yb
    · exact Nat.le_trans (Nat.gcd_le_left _ (by omega)) xb
  have hs : sgn d = 1 ∨ sgn d = -1 := by unfold sgn; split <;> simp_all <;> omega
  have hw : wrap64 ((g : Int) * sgn d) = (g : Int) * sgn d := wrap_in (by rcases hs with h | h <;> rw [h] <;> omega) (by rcases hs with h | h <;> rw [h] <;> omega)
  have hz : ¬ (g : Int) * sgn d = 0 := by rcases hs with h | h <;> rw [h] <;> omega
  have G1 := l24Gcd_ev y.natAbs x y (Nat.le_refl _) (by omega) (by omega)
  have G2 := l24Gcd_ev d.natAbs ((Nat.gcd x.natAbs y.natAbs : Nat) : Int) d (Nat.le_refl _) (by omega) (by omega)
  rw [Int.natAbs_natCast, ← hg] at G2
  have D := divisor_ev [x, y, d] (by simp) (by
    intro i hi
    match i, hi with
    | 0, _ => show x.natAbs ≤ _; omega
    | 1, _ => show y.natAbs ≤ _; omega
    | 2, _ => show d.natAbs ≤ _; omega) 3 0 rfl 0 (by simp)
  have eG : gcdL (Int.natAbs 0) ([x, y, d].drop 0) = g := by simp [gcdL, hg]
  rw [eG] at D
  obtain ⟨s1, s2, s3⟩ := hsm
  rw [emt] at s1 s2 s3 ⊢
  dsimp only at s1 s2 s3 ⊢
  have q1 : wrap64 (Int.tdiv x ((g : Int) * sgn d)) = Int.tdiv x ((g : Int) * sgn d) := wrap_in (by omega) (by omega)
  have q2 : wrap64 (Int.tdiv y ((g : Int) * sgn d)) = Int.tdiv y ((g : Int) * sgn d) := wrap_in (by omega) (by omega)
  have q3 : wrap64 (Int.tdiv d ((g : Int) * sgn d)) = Int.tdiv d ((g : Int) * sgn d) := wrap_in (by omega) (by omega)
  constructor
  · unfold spec_l24Meet.f
    simp only [w1, w2, w3, w4, w5, w6, ex, ey, ed]
    refine Ev.bind G1 (Ev.bind G2 (Ev.bind0 (l2Sign_eq d) ?_))
    rw [hw, q1, q2, q3]
    exact Ev.ite_neg hz (Ev.now _)
  · intro hA
    rw [hA] at hI
    unfold impl_MeetLines.f
    refine Ev.bind hI (Ev.ite_pos rfl (Ev.bind0 rfl (Ev.step (fun k => impl_MeetLines.j0.eq_2 ..) (Ev.ite_neg (by simpa [w1, w2] using hd) ?_))))
    rw [Int.mul_comm b2 a1, Int.mul_comm b0 a2]
    simp only [w1, w2, w3, w4, w5, w6, ex, ey, ed]
    refine Ev.bind D (Ev.bind0 (signOf_eq d) ?_)
    rw [hw, q1, q2, q3]
    exact Ev.ite_neg hz (Ev.now _)
theorem meet_par (a b : ILine) (ha : okR a) (hb : okR b) (hp : parR a b = true) (hA : areL [a, b] = true) : Ev (fun k => impl_MeetLines.f k a.f0 a.f1 a.f2 b.f0 b.f1 b.f2) (0, 0, 0, false) := by
  have hI := impl_AreLines_ev [a, b] (by simp)
  have hd : a.f0 * b.f1 = a.f1 * b.f0 := by unfold parR at hp; simpa using hp
  have m1 := mul_bound ha.1 hb.2.1
  have w1 : wrap64 (a.f0 * b.f1) = a.f0 * b.f1 := wrap_in (by omega) (by omega)
  have w2 : wrap64 (a.f1 * b.f0) = a.f1 * b.f0 := by rw [← hd]; exact w1
  rw [hA] at hI
  unfold impl_MeetLines.f
  exact Ev.bind hI (Ev.ite_pos rfl (Ev.bind0 rfl (Ev.step (fun k => impl_MeetLines.j0.eq_2 ..) (Ev.ite_pos (by simp [w1, w2, hd]) (Ev.now _)))))
theorem specPar_ev (a b : ILine) (ha : okR a) (hb : okR b) : spec_l24Parallel.f a.f0 a.f1 a.f2 b.f0 b.f1 b.f2 = some (parR a b) := by
  have m1 := mul_bound ha.1 hb.2.1
  have m2 := mul_bound ha.2.1 hb.1
  unfold spec_l24Parallel.f parR
  rw [wrap_in (n := a.f0 * b.f1) (by omega) (by omega), wrap_in (n := a.f1 * b.f0) (by omega) (by omega)]
theorem areL_ok {l : List ILine} (h : areL l = true) : (∀ i, i < l.length → okR (rdL l i)) ∧ (∀ i j, i < l.length → j < i → ¬ same3 (rdL l i) (rdL l j) ∧ areL [rdL l i, rdL l j] = true) := by
  obtain ⟨h6, hb⟩ := areL_bounds h
  have hok : ∀ i, i < l.length → okR (rdL l i) := fun i hi => hb i hi
  refine ⟨hok, fun i j hi hj => ?_⟩
  unfold areL areFrom at h
  rw [Bool.and_eq_true, List.drop_zero, List.all_eq_true] at h
  have ok1 := h.1 i (List.mem_range.2 hi)
  have ok2 := h.1 j (List.mem_range.2 (by omega))
  unfold okL at ok1 ok2
  rw [Bool.and_eq_true] at ok1 ok2
  have hs : sameB (rdL l i) (rdL l j) = false := by
    have := ok1.2
    rw [Bool.not_eq_true', List.any_eq_false] at this
    have := this j (List.mem_range.2 hj)
    simpa using this
  refine ⟨(fun hh => by rw [(sameB_iff (hok i hi) (hok j (by omega))).2 hh] at hs; cases hs), ?_⟩
  have e0 : rdL [rdL l i, rdL l j] 0 = rdL l i := rfl
  have e1 : rdL [rdL l i, rdL l j] 1 = rdL l j := rfl
  unfold areL areFrom
  rw [List.drop_zero, show ([rdL l i, rdL l j] : List ILine).length = 2 from rfl, show List.range 2 = [0, 1] from rfl]
  simp only [List.all_cons, List.all_nil, okL, e0, e1, show List.range 0 = [] from rfl, show List.range 1 = [0] from rfl, List.any_nil, List.any_cons]
  rw [ok1.1, ok2.1, sameB_comm, hs]
  decide
def mtL (l : List ILine) (i j : Nat) : Option P3 := if parR (rdL l i) (rdL l j) = true then none else some (mtX (rdL l i) (rdL l j))
def cntL (l : List ILine) (p : P3) : Nat := ((List.range l.length).filter fun k => decide (onL p (rdL l k))).length
def stepE (l : List ILine) (es : List (P3 × Int)) (i j : Nat) : List (P3 × Int) := match mtL l i j with
  | none => es
  | some p => putE es p (Go.bits .or .i64 (Go.bits .or .i64 (lookP es p) (shl .i64 1 (i : Int))) (shl .i64 1 (j : Int)))
def stepS (l : List ILine) (S : List (P3 × Int)) (i j : Nat) : List (P3 × Int) := match mtL l i j with
  | none => S
  | some p => if S.any (fun e => e.1 == p) = true then S else S ++ [(p, (cntL l p : Int))]
def inE (l : List ILine) (i : Nat) : Nat → Nat → List (P3 × Int) → List (P3 × Int)
  | 0, _, es => es
  | d + 1, j, es => inE l i d (j + 1) (stepE l es i j)
def outE (l : List ILine) : Nat → Nat → List (P3 × Int) → List (P3 × Int)
  | 0, _, es => es
  | d + 1, i, es => outE l d (i + 1) (inE l i i 0 es)
def inS (l : List ILine) (i : Nat) : Nat → Nat → List (P3 × Int) → List (P3 × Int)
  | 0, _, es => es
  | d + 1, j, es => inS l i d (j + 1) (stepS l es i j)
def outS (l : List ILine) : Nat → Nat → List (P3 × Int) → List (P3 × Int)
  | 0, _, es => es
  | d + 1, i, es => outS l d (i + 1) (inS l i i 0 es)
def orB (a i j : Nat) : Bool := Go.bits .or .i64 (Go.bits .or .i64 (a : Int) (shl .i64 1 (i : Int))) (shl .i64 1 (j : Int)) == (((a ||| 2 ^ i) ||| 2 ^ j : Nat) : Int)
theorem all_or : ((List.range 64).all fun a => (List.range 6).all fun i => (List.range 6).all fun j => orB a i j) = true := by decide +kernel
theorem or_at (a i j : Nat) (ha : a < 64) (hi : i < 6) (hj : j < 6) : Go.bits .or .i64 (Go.bits .or .i64 (a : Int) (shl .i64 1 (i : Int))) (shl .i64 1 (j : Int)) = (((a ||| 2 ^ i) ||| 2 ^ j : Nat) : Int) := by
  have h := List.all_eq_true.1 (List.all_eq_true.1 (List.all_eq_true.1 all_or a (List.mem_range.2 ha)) i (List.mem_range.2 hi)) j (List.mem_range.2 hj)
  exact eq_of_beq h
structure InvM (l : List ILine) (dn : Nat → Nat → Prop) (es S : List (P3 × Int)) : Prop where
  keys : es.map Prod.fst = S.map Prod.fst
  nd : (es.map Prod.fst).Nodup
  bits : ∀ e ∈ es, ∃ m : Nat, e.2 = (m : Int) ∧ m < 64 ∧ ∀ k, m.testBit k = true ↔ ∃ i j, dn i j ∧ mtL l i j = some e.1 ∧ (k = i ∨ k = j)
  key : ∀ i j p, dn i j → mtL l i j = some p → p ∈ es.map Prod.fst
  come : ∀ e ∈ es, ∃ i j, dn i j ∧ mtL l i j = some e.1
  cnt : ∀ e ∈ S, e.2 = (cntL l e.1 : Int)
theorem any_keys (es : List (P3 × Int)) (p : P3) : es.any (fun e => e.1 == p) = true ↔ p ∈ es.map Prod.fst := by
  rw [List.any_eq_true, List.mem_map]
  constructor
  · rintro ⟨e, he, hk⟩; exact ⟨e, he, by simpa using hk⟩
  · rintro ⟨e, he, hk⟩; exact ⟨e, he, by simpa using hk⟩
theorem look_mem {es : List (P3 × Int)} {p : P3} (h : p ∈ es.map Prod.fst) : (p, lookP es p) ∈ es := by
  unfold lookP
  cases hf : es.find? (fun e => e.1 == p) with
  | some e =>
    have hm := List.mem_of_find?_eq_some hf
    have hk : e.1 = p := by have := List.find?_some hf; simpa using this
    show (p, e.2) ∈ es
    rw [← hk]
    exact hm
  | none =>
    obtain ⟨e, he, hk⟩ := List.mem_map.1 h
    exact absurd hk (by have := List.find?_eq_none.1 hf e he; simpa using this)
theorem look_none {es : List (P3 × Int)} {p : P3} (h : p ∉ es.map Prod.fst) : lookP es p = 0 := by
  unfold lookP
  cases hf : es.find? (fun e => e.1 == p) with
  | some e => exact absurd (List.mem_map.2 ⟨e, List.mem_of_find?_eq_some hf, by have := List.find?_some hf; simpa using this⟩) h
  | none => rfl
theorem putE_mem {es : List (P3 × Int)} {p : P3} {m : Int} {e : P3 × Int} (he : e ∈ putE es p m) : e = (p, m) ∨ (e ∈ es ∧ e.1 ≠ p) := by
  unfold putE at he
  split at he
  · obtain ⟨e0, h0, rfl⟩ := List.mem_map.1 he
    split
    · exact .inl rfl
    · next hne => exact .inr ⟨h0, by simpa using hne⟩
  · next hany =>
    rcases List.mem_append.1 he with he | he
    · refine .inr ⟨he, fun e1 => hany (List.any_eq_true.2 ⟨e, he, by simpa using e1⟩)⟩
    · exact .inl (List.mem_singleton.1 he)
theorem InvM.step {l : List ILine} (h6 : l.length ≤ 6) {dn : Nat → Nat → Prop} {es S : List (P3 × Int)} (h : InvM l dn es S) (i j : Nat) (hi : i < 6) (hj : j < 6) : InvM l (fun x y => dn x y ∨ (x = i ∧ y = j)) (stepE l es i j) (stepS l S i j) := by
  unfold stepE stepS
  cases hm : mtL l i j with
  | none =>
    refine ⟨h.keys, h.nd, fun e he => ?_, fun x y p hd hp => ?_, fun e he => ?_, h.cnt⟩
    · obtain ⟨m, e1, e2, e3⟩ := h.bits e he
      refine ⟨m, e1, e2, fun k => (e3 k).trans ⟨?_, ?_⟩⟩
      · rintro ⟨x, y, hd, hx⟩; exact ⟨x, y, .inl hd, hx⟩
      · rintro ⟨x, y, hd | ⟨rfl, rfl⟩, hx, hk⟩
        · exact ⟨x, y, hd, hx, hk⟩
        · rw [hm] at hx; cases hx
    · rcases hd with hd | ⟨rfl, rfl⟩
      · exact h.key x y p hd hp
      · rw [hm] at hp; cases hp
    · obtain ⟨x, y, hd, hx⟩ := h.come e he
      exact ⟨x, y, .inl hd, hx⟩
  | some p =>
    show InvM l _ (putE es p (Go.bits .or .i64 (Go.bits .or .i64 (lookP es p) (shl .i64 1 (i : Int))) (shl .i64 1 (j : Int)))) (if S.any (fun e => e.1 == p) = true then S else S ++ [(p, (cntL l p : Int))])
    have hany : es.any (fun e => e.1 == p) = S.any (fun e => e.1 == p) := by
      have a1 := any_keys es p
      have a2 := any_keys S p
      rw [h.keys] at a1
      cases h1 : es.any (fun e => e.1 == p) <;> cases h2 : S.any (fun e => e.1 == p) <;> simp_all
    obtain ⟨m0, hm0, hm1, hm2⟩ : ∃ m : Nat, lookP es p = (m : Int) ∧ m < 64 ∧ ∀ k, m.testBit k = true ↔ ∃ i j, dn i j ∧ mtL l i j = some p ∧ (k = i ∨ k = j) := by
      by_cases hp : p ∈ es.map Prod.fst
      · exact h.bits _ (look_mem hp)
      · refine ⟨0, look_none hp, by omega, fun k => ⟨fun hk => by simp at hk, ?_⟩⟩
        rintro ⟨x, y, hd, hx, _⟩
        exact absurd (h.key x y p hd hx) hp
    have hnew := or_at m0 i j hm1 hi hj
    rw [hm0, hnew]
    have hlt : (m0 ||| 2 ^ i) ||| 2 ^ j < 64 := by
      have p1 : 2 ^ i < 2 ^ 6 := Nat.pow_lt_pow_right (by omega) hi
      have p2 : 2 ^ j < 2 ^ 6 := Nat.pow_lt_pow_right (by omega) hj
      exact Nat.or_lt_two_pow (n := 6) (Nat.or_lt_two_pow (n := 6) (by omega) p1) p2
    have hk2 := putE_keys es p (((m0 ||| 2 ^ i) ||| 2 ^ j : Nat) : Int)
    refine ⟨?_, ?_, fun e he => ?_, fun x y q hd hq => ?_, fun e he => ?_, fun e he => ?_⟩
    · rw [hk2, hany]
      split
      · exact h.keys
      · rw [List.map_append, h.keys]; rfl
    · rw [hk2]
      split
      · exact h.nd
      · next hne =>
        refine List.nodup_append.2 ⟨h.nd, by simp, fun a ha b hb e => ?_⟩
        rw [List.mem_singleton] at hb
        subst hb
        subst e
        exact hne ((any_keys es a).2 ha)
    · rcases putE_mem he with rfl | ⟨he, hne⟩
      · refine ⟨_, rfl, hlt, fun k => ?_⟩
        rw [Nat.testBit_or, Nat.testBit_or, Bool.or_eq_true, Bool.or_eq_true, hm2 k, Nat.testBit_two_pow, Nat.testBit_two_pow]
        constructor
        · rintro ((⟨x, y, hd, hx, hk⟩ | hk) | hk)
          · exact ⟨x, y, .inl hd, hx, hk⟩
          · exact ⟨i, j, .inr ⟨rfl, rfl⟩, hm, .inl (by have := of_decide_eq_true hk; omega)⟩
          · exact ⟨i, j, .inr ⟨rfl, rfl⟩, hm, .inr (by have := of_decide_eq_true hk; omega)⟩
        · rintro ⟨x, y, hd | ⟨rfl, rfl⟩, hx, hk⟩
          · exact .inl (.inl ⟨x, y, hd, hx, hk⟩)
          · rcases hk with rfl | rfl
            · exact .inl (.inr (by simp))
            · exact .inr (by simp)
      · obtain ⟨m, e1, e2, e3⟩ := h.bits e he
        refine ⟨m, e1, e2, fun k => (e3 k).trans ⟨?_, ?_⟩⟩
        · rintro ⟨x, y, hd, hx⟩; exact ⟨x, y, .inl hd, hx⟩
        · rintro ⟨x, y, hd | ⟨rfl, rfl⟩, hx, hk⟩
          · exact ⟨x, y, hd, hx, hk⟩
          · rw [hm] at hx; exact absurd (Option.some.inj hx).symm hne
    · rw [hk2]
      rcases hd with hd | ⟨rfl, rfl⟩
      · have := h.key x y q hd hq
        split
        · exact this
        · exact List.mem_append_left _ this
      · rw [hm] at hq
        obtain rfl := Option.some.inj hq
        split
        · next hh => exact (any_keys es p).1 hh
        · exact List.mem_append_right _ List.mem_cons_self
    · rcases putE_mem he with rfl | ⟨he, hne⟩
      · exact ⟨i, j, .inr ⟨rfl, rfl⟩, hm⟩
      · obtain ⟨x, y, hd, hx⟩ := h.come e he
        exact ⟨x, y, .inl hd, hx⟩
    · split at he
      · exact h.cnt e he
      · rcases List.mem_append.1 he with he | he
        · exact h.cnt e he
        · rw [List.mem_singleton.1 he]
theorem InvM.congr {l : List ILine} {dn dn' : Nat → Nat → Prop} {es S : List (P3 × Int)} (h : InvM l dn es S) (hd : ∀ x y, dn x y ↔ dn' x y) : InvM l dn' es S := by
  have : dn = dn' := by funext x y; exact propext (hd x y)
  exact this ▸ h
theorem InvM.inn {l : List ILine} (h6 : l.length ≤ 6) (i : Nat) (hi : i < 6) : ∀ (d j : Nat) (es S : List (P3 × Int)), j + d = i → InvM l (fun x y => (x < i ∧ y < x) ∨ (x = i ∧ y < j)) es S → InvM l (fun x y => (x < i ∧ y < x) ∨ (x = i ∧ y < i)) (inE l i d j es) (inS l i d j S)
  | 0, j, es, S, hj, h => h.congr (fun x y => by rw [show j = i by omega])
  | d + 1, j, es, S, hj, h => by
    refine InvM.inn h6 i hi d (j + 1) _ _ (by omega) ((h.step h6 i j hi (by omega)).congr (fun x y => ?_))
    constructor
    · rintro ((h1 | h1) | h1)
      · exact .inl h1
      · exact .inr ⟨h1.1, by omega⟩
      · exact .inr ⟨h1.1, by omega⟩
    · rintro (h1 | h1)
      · exact .inl (.inl h1)
      · by_cases hy : y = j
        · exact .inr ⟨h1.1, hy⟩
        · exact .inl (.inr ⟨h1.1, by omega⟩)
theorem InvM.out {l : List ILine} (h6 : l.length ≤ 6) : ∀ (d i : Nat) (es S : List (P3 × Int)), i + d = l.length → InvM l (fun x y => x < i ∧ y < x) es S → InvM l (fun x y => x < l.length ∧ y < x) (outE l d i es) (outS l d i S)
  | 0, i, es, S, hi, h => h.congr (fun x y => by rw [show i = l.length by omega])
  | d + 1, i, es, S, hi, h => by
    refine InvM.out h6 d (i + 1) _ _ (by omega) ((InvM.inn h6 i (by omega) i 0 es S (by omega) (h.congr (fun x y => ?_))).congr (fun x y => ?_))
    · constructor
      · exact .inl
      · rintro (h1 | h1)
        · exact h1
        · omega
    · constructor
      · rintro (h1 | h1)
        · exact ⟨by omega, h1.2⟩
        · exact ⟨by omega, by omega⟩
      · rintro ⟨h1, h2⟩
        by_cases hx : x = i
        · exact .inr ⟨hx, by omega⟩
        · exact .inl ⟨by omega, h2⟩
theorem inv_all (l : List ILine) (h6 : l.length ≤ 6) : InvM l (fun x y => x < l.length ∧ y < x) (outE l l.length 0 []) (outS l l.length 0 []) :=
  InvM.out h6 l.length 0 [] [] (by omega) ⟨rfl, List.nodup_nil, (fun e he => by cases he), (fun i j p hd _ => by omega), (fun e he => by cases he), (fun e he => by cases he)⟩
theorem bits_are {l : List ILine} (hA : areL l = true) {e : P3 × Int} (he : e ∈ outE l l.length 0 []) : ∃ m : Nat, e.2 = (m : Int) ∧ m < 64 ∧ ∀ k, m.testBit k = true ↔ (k < l.length ∧ onL e.1 (rdL l k)) := by
  obtain ⟨h6, _⟩ := areL_bounds hA
  obtain ⟨hok, hns⟩ := areL_ok hA
  have inv := inv_all l h6
  obtain ⟨m, e1, e2, e3⟩ := inv.bits e he
  refine ⟨m, e1, e2, fun k => (e3 k).trans ?_⟩
  have pair : ∀ i j, i < l.length → j < i → mtL l i j = some e.1 → prim e.1.1 e.1.2.1 e.1.2.2 ∧ onL e.1 (rdL l i) ∧ onL e.1 (rdL l j) := by
    intro i j hi hj hm
    unfold mtL at hm
    split at hm
    · cases hm
    · next hp =>
      rw [← Option.some.inj hm]
      have f := mtX_facts (hok i hi) (hok j (by omega)) (by simpa using hp)
      exact ⟨f.1, f.2.1, f.2.2.1⟩
  constructor
  · rintro ⟨i, j, ⟨hi, hj⟩, hm, hk⟩
    obtain ⟨_, p1, p2⟩ := pair i j hi hj hm
    rcases hk with rfl | rfl
    · exact ⟨hi, p1⟩
    · exact ⟨by omega, p2⟩
  · rintro ⟨hk, hon⟩
    obtain ⟨i, j, ⟨hi, hj⟩, hm⟩ := inv.come e he
    obtain ⟨hp, p1, p2⟩ := pair i j hi hj hm
    by_cases hki : k = i
    · exact ⟨i, j, ⟨hi, hj⟩, hm, .inl hki⟩
    · rcases Nat.lt_or_ge k i with hlt | hge
      · obtain ⟨t1, t2⟩ := through (hok i hi) (hok k hk) hp p1 hon (hns i k hi hlt).1
        exact ⟨i, k, ⟨hi, hlt⟩, by unfold mtL; rw [if_neg (by simp [t1]), t2], .inr rfl⟩
      · obtain ⟨t1, t2⟩ := through (hok k hk) (hok i hi) hp hon p1 (hns k i hk (by omega)).1
        exact ⟨k, i, ⟨hk, by omega⟩, by unfold mtL; rw [if_neg (by simp [t1]), t2], .inl rfl⟩
def rowF (e : P3 × Int) : List Int := [e.1.1, e.1.2.1, e.1.2.2, e.2]
theorem rdRows (S : List (P3 × Int)) (q : Nat) (h : q < S.length) : rd_L5 (S.map rowF) (q : Int) = rowF S[q] := by
  unfold rd_L5
  rw [Int.toNat_natCast, getD_lt _ _ _ (by rw [List.length_map]; exact h), List.getElem_map]
theorem any_take_succ (S : List (P3 × Int)) (p : P3) (q : Nat) (h : q < S.length) : (S.take (q + 1)).any (fun e => e.1 == p) = ((S.take q).any (fun e => e.1 == p) || S[q].1 == p) := by
  rw [List.take_succ_eq_append_getElem h, List.any_append, List.any_cons, List.any_nil, Bool.or_false]
theorem eq3 (a p : P3) : (a == p) = (a.1 == p.1 && (a.2.1 == p.2.1 && a.2.2 == p.2.2)) := rfl
theorem known_ev (l : List ILine) (S : List (P3 × Int)) (hS : S.length ≤ 1000) (i j : Nat) (p : P3) (R : List (List Int))
    (h : Ev (fun k => if S.any (fun e => e.1 == p) = true then spec_l24Points.l1 k l (S.map rowF) i (wrap64 ((j : Int) + 1)) else spec_l24Points.l3 k l (S.map rowF) i j p.1 p.2.1 p.2.2 0 0) R) :
    Ev (fun k => spec_l24Points.l2 k l (S.map rowF) i j p.1 p.2.1 p.2.2 false 0) R := by
  refine Ev.loop (fun q k => spec_l24Points.l2 k l (S.map rowF) i j p.1 p.2.1 p.2.2 ((S.take q).any fun e => e.1 == p) (q : Nat)) S.length R ?_ ?_ 0 (by omega)
  · refine Ev.step (fun k => spec_l24Points.l2.eq_2 ..) (Ev.ite_neg (by rw [List.length_map]; omega) ?_)
    rw [List.take_length]
    exact h
  · intro q hq ih
    rw [any_take_succ S p q hq] at ih
    refine Ev.step (fun k => spec_l24Points.l2.eq_2 ..) (Ev.ite_pos (by rw [List.length_map]; omega) ?_)
    rw [wrap_nat q (by omega)]
    cases ha : (S.take q).any fun e => e.1 == p with
    | true =>
      rw [ha, Bool.true_or] at ih
      exact Ev.ite_pos rfl ih
    | false =>
      rw [ha, Bool.false_or, eq3] at ih
      rw [rdRows S q hq]
      refine Ev.ite_neg (by simp) (Ev.ite_pos (by omega) (Ev.ite_pos (by simp [rowF]) ?_))
      have r0 : rd (rowF S[q]) 0 = S[q].1.1 := rfl
      have r1 : rd (rowF S[q]) 1 = S[q].1.2.1 := rfl
      have r2 : rd (rowF S[q]) 2 = S[q].1.2.2 := rfl
      rw [r0, r1, r2]
      by_cases h0 : S[q].1.1 = p.1
      · refine Ev.ite_pos h0 (Ev.ite_pos (by simp [rowF]) ?_)
        rw [show (S[q].1.1 == p.1) = true by simpa using h0, Bool.true_and] at ih
        by_cases h1 : S[q].1.2.1 = p.2.1
        · rw [show (S[q].1.2.1 == p.2.1) = true by simpa using h1, Bool.true_and] at ih
          exact Ev.ite_pos h1 (Ev.ite_pos (by simp [rowF]) ih)
        · rw [show (S[q].1.2.1 == p.2.1) = false by simpa using h1, Bool.false_and] at ih
          exact Ev.ite_neg h1 ih
      · rw [show (S[q].1.1 == p.1) = false by simpa using h0, Bool.false_and] at ih
        exact Ev.ite_neg h0 ih
theorem count_ev (l : List ILine) (hA : areL l = true) (S : List (P3 × Int)) (hS : S.length ≤ 1000) (i j : Nat) (p : P3) (hp : smallP p) (R : List (List Int))
    (h : Ev (fun k => spec_l24Points.l1 k l ((S ++ [(p, (cntL l p : Int))]).map rowF) i (wrap64 ((j : Int) + 1))) R) :
    Ev (fun k => spec_l24Points.l3 k l (S.map rowF) i j p.1 p.2.1 p.2.2 0 0) R := by
  obtain ⟨h6, _⟩ := areL_bounds hA
  obtain ⟨hok, _⟩ := areL_ok hA
  have key := Ev.loop (fun m k => spec_l24Points.l3 k l (S.map rowF) i j p.1 p.2.1 p.2.2 (((List.range m).filter fun k => decide (onL p (rdL l k))).length : Nat) (m : Nat)) l.length R ?_ ?_ 0 (by omega)
  · exact key
  · refine Ev.step (fun k => spec_l24Points.l3.eq_2 ..) (Ev.ite_neg (by omega) (Ev.ite_pos (by rw [List.length_map]; omega) ?_))
    rw [List.map_append] at h
    exact h
  · intro m hm ih
    obtain ⟨k0, k1, k2⟩ := hok m hm
    obtain ⟨p0, p1, p2⟩ := hp
    have b0 := mul_bound8 k0 p0
    have b1 := mul_bound8 k1 p1
    have b2 := mul_bound8 k2 p2
    have hle : ((List.range m).filter fun k => decide (onL p (rdL l k))).length ≤ m := Nat.le_trans (List.length_filter_le _ _) (by rw [List.length_range]; exact Nat.le_refl _)
    rw [List.range_succ, List.filter_append, List.length_append, List.filter_cons, List.filter_nil] at ih
    refine Ev.step (fun k => spec_l24Points.l3.eq_2 ..) (Ev.ite_pos (by omega) (Ev.ite_pos (by omega) ?_))
    show Ev (fun k => (spec_l1Bit.f (wrap64 (wrap64 ((rdL l m).f0 * p.1) + wrap64 ((rdL l m).f1 * p.2.1)) == wrap64 ((rdL l m).f2 * p.2.2))).bind _) R
    rw [wrap_in (n := (rdL l m).f0 * p.1) (by omega) (by omega), wrap_in (n := (rdL l m).f1 * p.2.1) (by omega) (by omega), wrap_in (n := (rdL l m).f2 * p.2.2) (by omega) (by omega), wrap_in (n := (rdL l m).f0 * p.1 + (rdL l m).f1 * p.2.1) (by omega) (by omega)]
    by_cases hon : onL p (rdL l m)
    · rw [if_pos (decide_eq_true hon)] at ih
      have hon1 : (rdL l m).f0 * p.1 + (rdL l m).f1 * p.2.1 = (rdL l m).f2 * p.2.2 := hon
      refine Ev.bind0 (a := 1) (by unfold spec_l1Bit.f; rw [if_pos (by simpa using hon1)]) ?_
      rw [wrap_in (by omega) (by omega), wrap_nat m (by omega)]
      simpa using ih
    · rw [if_neg (by simpa using hon)] at ih
      have hon1 : ¬ ((rdL l m).f0 * p.1 + (rdL l m).f1 * p.2.1 = (rdL l m).f2 * p.2.2) := hon
      refine Ev.bind0 (a := 0) (by unfold spec_l1Bit.f; rw [if_neg (by simpa using hon1)]) ?_
      rw [wrap_in (by omega) (by omega), wrap_nat m (by omega)]
      simpa using ih
theorem stepS_len (l : List ILine) (S : List (P3 × Int)) (i j : Nat) : (stepS l S i j).length ≤ S.length + 1 := by
  unfold stepS
  split
  · omega
  · split
    · omega
    · rw [List.length_append, List.length_singleton]; exact Nat.le_refl _
theorem inS_len (l : List ILine) (i : Nat) : ∀ (d j : Nat) (S : List (P3 × Int)), (inS l i d j S).length ≤ S.length + d
  | 0, _, _ => Nat.le_refl _
  | d + 1, j, S => by
    have h1 := inS_len l i d (j + 1) (stepS l S i j)
    have h2 := stepS_len l S i j
    unfold inS
    omega
theorem outS_len (l : List ILine) : ∀ (d i : Nat) (S : List (P3 × Int)), i + d ≤ 6 → (outS l d i S).length ≤ S.length + 6 * d
  | 0, _, _, _ => Nat.le_refl _
  | d + 1, i, S, h => by
    have h1 := outS_len l d (i + 1) (inS l i i 0 S) (by omega)
    have h2 := inS_len l i i 0 S
    unfold outS
    omega
theorem specIn_ev (l : List ILine) (hA : areL l = true) (i : Nat) (hi : i < l.length) (R : List (List Int)) : ∀ d j (S : List (P3 × Int)), j + d = i → S.length ≤ 100 + j →
    Ev (fun k => spec_l24Points.l0 k l ((inS l i d j S).map rowF) ((i + 1 : Nat) : Int)) R → Ev (fun k => spec_l24Points.l1 k l (S.map rowF) i j) R
  | 0, j, S, hj, hS, h => by
    refine Ev.step (fun k => spec_l24Points.l1.eq_2 ..) (Ev.ite_neg (by omega) ?_)
    obtain ⟨h6, _⟩ := areL_bounds hA
    rw [wrap_nat i (by omega)]
    exact h
  | d + 1, j, S, hj, hS, h => by
    obtain ⟨h6, _⟩ := areL_bounds hA
    obtain ⟨hok, _⟩ := areL_ok hA
    have hst := stepS_len l S i j
    have ih := specIn_ev l hA i hi R d (j + 1) (stepS l S i j) (by omega) (by omega) h
    refine Ev.step (fun k => spec_l24Points.l1.eq_2 ..) (Ev.ite_pos (by omega) (Ev.ite_pos (by omega) (Ev.ite_pos (by omega) (Ev.ite_pos (by omega) (Ev.ite_pos (by omega) (Ev.bind0 (specPar_ev (rdL l i) (rdL l j) (hok i hi) (hok j (by omega))) ?_))))))
    unfold stepS mtL at ih
    cases hp : parR (rdL l i) (rdL l j) with
    | true =>
      rw [hp, if_pos rfl] at ih
      refine Ev.ite_pos rfl ?_
      rw [wrap_nat j (by omega)]
      exact ih
    | false =>
      rw [hp, if_neg (by simp)] at ih
      have hsm := (mtX_facts (hok i hi) (hok j (by omega)) hp).2.2.2
      refine Ev.ite_neg (by simp) (Ev.bind (meet_parts (rdL l i) (rdL l j) (hok i hi) (hok j (by omega)) hp).1 ?_)
      generalize mtX (rdL l i) (rdL l j) = p at ih hsm ⊢
      refine known_ev l S (by omega) i j p R ?_
      dsimp only at ih
      by_cases ha : S.any (fun e => e.1 == p) = true
      · rw [if_pos ha] at ih
        refine Ev.ite_pos ha ?_
        rw [wrap_nat j (by omega)]
        exact ih
      · rw [if_neg ha] at ih
        refine Ev.ite_neg ha (count_ev l hA S (by omega) i j p hsm R ?_)
        rw [wrap_nat j (by omega)]
        exact ih
theorem specOut_ev (l : List ILine) (hA : areL l = true) : ∀ d i (S : List (P3 × Int)), i + d = l.length → S.length ≤ 6 * i → Ev (fun k => spec_l24Points.l0 k l (S.map rowF) i) ((outS l d i S).map rowF)
  | 0, i, S, hi, hS => Ev.step (fun k => spec_l24Points.l0.eq_2 ..) (Ev.ite_neg (by omega) (Ev.now _))
  | d + 1, i, S, hi, hS => by
    obtain ⟨h6, _⟩ := areL_bounds hA
    have h2 := inS_len l i i 0 S
    refine Ev.step (fun k => spec_l24Points.l0.eq_2 ..) (Ev.ite_pos (by omega) (specIn_ev l hA i (by omega) _ i 0 S (by omega) (by omega) ?_))
    exact specOut_ev l hA d (i + 1) (inS l i i 0 S) (by omega) (by omega)
theorem specRow_ev (T : List (P3 × Int)) (hT : T.length ≤ 100) : ∀ d q (acc : List Int), q + d = T.length → acc.length ≤ q → Ev (fun k => spec_MeetingRow.l0 k acc (T.map rowF) q) (insS ltI acc ((T.drop q).map Prod.snd))
  | 0, q, acc, hq, ha => by
    refine Ev.step (fun k => spec_MeetingRow.l0.eq_2 ..) (Ev.ite_neg (by rw [List.length_map]; omega) (Ev.const ?_))
    rw [List.drop_of_length_le (by omega)]
    rfl
  | d + 1, q, acc, hq, ha => by
    have hql : q < T.length := by omega
    refine Ev.step (fun k => spec_MeetingRow.l0.eq_2 ..) (Ev.ite_pos (by rw [List.length_map]; omega) (Ev.ite_pos (by omega) ?_))
    rw [rdRows T q hql]
    refine Ev.ite_pos (by simp [rowF]) (Ev.bind (l16Put_ev acc _ (by omega)) ?_)
    rw [wrap_nat q (by omega), List.drop_eq_getElem_cons hql, List.map_cons, insS]
    exact specRow_ev T hT d (q + 1) _ (by omega) (by rw [insR_length]; omega)
theorem wf_small {n : Int} (h : -800 ≤ n ∧ n ≤ 800) : (Lit.int .i64 n).wf = true := by
  simp [Lit.wf, IntKind.min, IntKind.max, IntKind.signed, IntKind.bits]
  omega
theorem implIn_ev (l : List ILine) (hA : areL l = true) (i : Nat) (hi : i < l.length) : ∀ d j (es : List (P3 × Int)), j + d = i → Ev (fun k => meetIn k (rdL l i) i ((l.take i).drop j) j es) (inE l i d j es)
  | 0, j, es, hj => by
    rw [List.drop_of_length_le (by rw [List.length_take]; omega)]
    exact Ev.now _
  | d + 1, j, es, hj => by
    obtain ⟨h6, _⟩ := areL_bounds hA
    obtain ⟨hok, hns⟩ := areL_ok hA
    have hlt : j < (l.take i).length := by rw [List.length_take]; omega
    have hg : (l.take i)[j] = rdL l j := by
      rw [List.getElem_take]
      unfold rdL rd_T98
      rw [Int.toNat_natCast, getD_lt _ _ _ (by omega)]
    have ih := implIn_ev l hA i hi d (j + 1) (stepE l es i j) (by omega)
    rw [List.drop_eq_getElem_cons hlt, hg]
    show Ev _ (inE l i d (j + 1) (stepE l es i j))
    obtain ⟨hn, hAA⟩ := hns i j hi (by omega)
    cases hp : parR (rdL l i) (rdL l j) with
    | true =>
      have hst : stepE l es i j = es := by unfold stepE mtL; rw [hp]; rfl
      rw [hst] at ih ⊢
      refine Ev.bind (meet_par (rdL l i) (rdL l j) (hok i hi) (hok j (by omega)) hp hAA) (Ev.ite_pos (by decide) ?_)
      rw [wrap_nat j (by omega)]
      exact ih
    | false =>
      have hst : stepE l es i j = putE es (mtX (rdL l i) (rdL l j)) (Go.bits .or .i64 (Go.bits .or .i64 (lookP es (mtX (rdL l i) (rdL l j))) (shl .i64 1 (i : Int))) (shl .i64 1 (j : Int))) := by unfold stepE mtL; rw [hp]; rfl
      rw [hst] at ih ⊢
      have hsm := (mtX_facts (hok i hi) (hok j (by omega)) hp).2.2.2
      refine Ev.bind ((meet_parts (rdL l i) (rdL l j) (hok i hi) (hok j (by omega)) hp).2 hAA) ?_
      generalize mtX (rdL l i) (rdL l j) = p at ih hsm ⊢
      refine Ev.ite_pos ?_ ?_
      · unfold okB
        obtain ⟨s1, s2, s3⟩ := hsm
        dsimp only
        rw [wf_small s1, wf_small s2, wf_small s3]
        rfl
      · rw [wrap_nat j (by omega)]
        exact ih
theorem implOut_ev (l : List ILine) (hA : areL l = true) : ∀ d i (es : List (P3 × Int)), i + d = l.length → Ev (fun k => meetOut k l d i es) (outE l d i es)
  | 0, i, es, hi => Ev.now _
  | d + 1, i, es, hi => by
    have h := implIn_ev l hA i (by omega) i 0 es (by omega)
    rw [List.drop_zero] at h
    exact Ev.bind h (implOut_ev l hA d (i + 1) _ (by omega))
def eltsM (A : Nat) : List Int := ((List.range 7).filter fun k => A.testBit k).map fun k : Nat => (k : Int)
theorem all_eltsM : (List.range 64).all (fun A => impl_elementsOf.f 70 (A : Int) == some (eltsM A)) = true := by decide +kernel
theorem eltsM_ev (A : Nat) (hA : A < 64) : Ev (fun k => impl_elementsOf.f k (A : Int)) (eltsM A) :=
  Ev.of (impl_elementsOf.mono _) (k := 70) (eq_of_beq (List.all_eq_true.1 all_eltsM A (List.mem_range.2 hA)))
theorem elts_count {l : List ILine} (h6 : l.length ≤ 6) {p : P3} {m : Nat} (h : ∀ k, m.testBit k = true ↔ (k < l.length ∧ onL p (rdL l k))) : (eltsM m).length = cntL l p := by
  unfold eltsM cntL
  rw [List.length_map]
  have e : List.range 7 = List.range l.length ++ (List.range' l.length (7 - l.length)) := by
    have h7 := List.range'_append_1 (s := 0) (m := l.length) (n := 7 - l.length)
    rw [Nat.zero_add, show l.length + (7 - l.length) = 7 by omega] at h7
    rw [List.range_eq_range', List.range_eq_range', h7]
  rw [e, List.filter_append, List.length_append]
  have e2 : (List.range' l.length (7 - l.length)).filter (fun k => m.testBit k) = [] := by
    rw [List.filter_eq_nil_iff]
    intro k hk hb
    have := (h k).1 hb
    have := (List.mem_range'_1.1 hk).1
    omega
  rw [e2, List.length_nil, Nat.add_zero]
  congr 1
  apply List.filter_congr
  intro k hk
  have hk' := List.mem_range.1 hk
  cases hb : m.testBit k with
  | true => exact (decide_eq_true ((h k).1 hb).2).symm
  | false =>
    refine (decide_eq_false fun hh => ?_).symm
    rw [(h k).2 ⟨hk', hh⟩] at hb
    cases hb
theorem sizes_ev {l : List ILine} (hA : areL l = true) : ∀ es : List (P3 × Int), (∀ e ∈ es, e ∈ outE l l.length 0 []) → Ev (fun k => sizesL k es) (es.map fun e => (cntL l e.1 : Int))
  | [], _ => Ev.now _
  | e :: r, h => by
    obtain ⟨h6, _⟩ := areL_bounds hA
    obtain ⟨m, e1, e2, e3⟩ := bits_are hA (h e List.mem_cons_self)
    have hl := elts_count h6 e3
    have hc : cntL l e.1 ≤ 6 := by unfold cntL; exact Nat.le_trans (List.length_filter_le _ _) (by rw [List.length_range]; exact h6)
    refine Ev.bind (a := eltsM m) (by rw [e1]; exact eltsM_ev m e2) (Ev.ite_pos (by omega) (Ev.bind (sizes_ev hA r (fun x hx => h x (List.mem_cons_of_mem _ hx))) (Ev.const ?_)))
    rw [hl]
    rfl
theorem meeting_both (l : List ILine) (hl : l.length ≤ 1048576) : ∃ L : List Int, L.length ≤ 36 ∧ (∀ x ∈ L, 0 ≤ x ∧ x ≤ 6) ∧ Ev (fun k => spec_MeetingRow.f k l) L ∧ Ev (fun k => impl_MeetingRow.f k l) L := by
  have hS := spec_AreLines_ev l hl
  have hI := impl_AreLines_ev l hl
  unfold spec_MeetingRow.f impl_MeetingRow.f
  cases hA : areL l with
  | false =>
    rw [hA] at hS hI
    exact ⟨[], by simp, by simp, Ev.bind0 rfl (Ev.bind hS (Ev.ite_neg (by simp) (Ev.now _))), Ev.bind hI (Ev.ite_neg (by simp) (Ev.now _))⟩
  | true =>
    rw [hA] at hS hI
    obtain ⟨h6, _⟩ := areL_bounds hA
    have inv := inv_all l h6
    have hlenS := outS_len l l.length 0 [] (by omega)
    have hlenE : (outE l l.length 0 []).length = (outS l l.length 0 []).length := by
      have := congrArg List.length inv.keys
      rwa [List.length_map, List.length_map] at this
    rw [List.length_nil] at hlenS
    have e1 := specOut_ev l hA l.length 0 [] (by omega) (by simp)
    have e2 := specRow_ev (outS l l.length 0 []) (by omega) _ 0 [] (Nat.zero_add _) (by simp)
    rw [List.drop_zero, insS_mergeSort] at e2
    have hmap : (outE l l.length 0 []).map (fun e => (cntL l e.1 : Int)) = (outS l l.length 0 []).map Prod.snd := by
      have h1 : (outE l l.length 0 []).map (fun e => (cntL l e.1 : Int)) = ((outE l l.length 0 []).map Prod.fst).map (fun p => (cntL l p : Int)) := by rw [List.map_map]; rfl
      rw [h1, inv.keys, List.map_map]
      apply List.map_congr_left
      intro e he
      exact (inv.cnt e he).symm
    have hc : ∀ p, cntL l p ≤ 6 := fun p => by unfold cntL; exact Nat.le_trans (List.length_filter_le _ _) (by rw [List.length_range]; exact h6)
    refine ⟨((outS l l.length 0 []).map Prod.snd).mergeSort fun x y => decide (x ≤ y), ?_, ?_, Ev.bind0 rfl (Ev.bind hS (Ev.ite_pos rfl (Ev.bind e1 e2))), Ev.bind hI (Ev.ite_pos rfl (Ev.bind (a := outE l l.length 0 []) ?_ (Ev.ite_pos (by omega) (Ev.bind (sizes_ev hA _ (fun e he => he)) ?_))))⟩
    · rw [List.length_mergeSort, List.length_map]; omega
    · intro x hx
      rw [List.mem_mergeSort] at hx
      obtain ⟨e, he, rfl⟩ := List.mem_map.1 hx
      have := hc e.1
      rw [inv.cnt e he]
      omega
    · unfold impl_meetings.f
      exact Ev.ite_pos h6 (implOut_ev l hA l.length 0 [] (by omega))
    · rw [hmap]
      unfold slices_Sort_Sint_int.f
      exact Ev.ite_pos (by rw [List.length_map]; omega) (Ev.now _)
end Go.Proofs.Ytcoommffjbbebaa.Pure
namespace Go.Proofs.Ytcoommffjbbebaa.Pure
set_option linter.unusedSimpArgs false
set_option linter.unusedVariables false
open Go.RowKit Go.Proofs.YtcoommffjbbebaaW.PrintWords Go.Proofs.Ytcoommffjbbebaa.P Go.Proofs.Ytcoommffjbbebaa.Pl Go.Proofs.Ytcoommffjbbebaa.Rk
def sumM : Int → List Int → Int
  | a, [] => a
  | a, x :: r => sumM (wrap64 (wrap64 (a + x) - 1)) r
theorem drop_rdM (w : List Int) (i : Nat) (h : i < w.length) : w.drop i = rd w (i : Int) :: w.drop (i + 1) := by
  rw [List.drop_eq_getElem_cons h]
  unfold rd
  rw [Int.toNat_natCast, getD_lt _ _ _ h]
theorem rest_ev (L : List Int) (hL : L.length ≤ 1000) : ∀ d i (a : Int), i + d = L.length → Ev (fun k => spec_l24Rest.l0 k a L i) (sumM a (L.drop i))
  | 0, i, a, hi => by
    refine Ev.step (fun k => spec_l24Rest.l0.eq_2 ..) (Ev.ite_neg (by omega) (Ev.const ?_))
    rw [List.drop_of_length_le (by omega)]
    rfl
  | d + 1, i, a, hi => by
    refine Ev.step (fun k => spec_l24Rest.l0.eq_2 ..) (Ev.ite_pos (by omega) (Ev.ite_pos (by omega) ?_))
    rw [wrap_nat i (by omega), drop_rdM L i (by omega)]
    exact rest_ev L hL d (i + 1) _ (by omega)
theorem excess_ev (L : List Int) (hL : L.length ≤ 1000) : ∀ d i (a : Int), i + d = L.length → Ev (fun k => impl_excess.l0 k a L (L.length : Int) i) (sumM a (L.drop i))
  | 0, i, a, hi => by
    refine Ev.step (fun k => impl_excess.l0.eq_2 ..) (Ev.ite_neg (by omega) (Ev.const ?_))
    rw [List.drop_of_length_le (by omega)]
    rfl
  | d + 1, i, a, hi => by
    refine Ev.step (fun k => impl_excess.l0.eq_2 ..) (Ev.ite_pos (by omega) (Ev.ite_pos (by omega) (Ev.ite_pos (by omega) ?_)))
    rw [wrap_nat i (by omega), drop_rdM L i (by omega)]
    exact excess_ev L hL d (i + 1) _ (by omega)
theorem regions_both (l : List ILine) (hl : l.length ≤ 1048576) : ∃ r : Int, Ev (fun k => spec_CountRegions.f k l) r ∧ Ev (fun k => impl_CountRegions.f k l) r := by
  have hS := spec_AreLines_ev l hl
  have hI := impl_AreLines_ev l hl
  obtain ⟨L, hL, _, h1, h2⟩ := meeting_both l hl
  unfold spec_CountRegions.f impl_CountRegions.f
  cases hA : areL l with
  | false =>
    rw [hA] at hS hI
    exact ⟨-1, Ev.bind hS (Ev.ite_neg (by simp) (Ev.now _)), Ev.bind hI (Ev.ite_neg (by simp) (Ev.now _))⟩
  | true =>
    rw [hA] at hS hI
    have e1 := rest_ev L (by omega) L.length 0 0 (by omega)
    have e2 := excess_ev L (by omega) L.length 0 0 (by omega)
    refine ⟨_, Ev.bind hS (Ev.ite_pos rfl (Ev.bind (a := sumM 0 (L.drop 0)) ?_ (Ev.now _))), Ev.bind hI (Ev.ite_pos rfl (Ev.bind (a := sumM 0 (L.drop 0)) ?_ (Ev.now _)))⟩
    · exact Ev.bind h1 e1
    · exact Ev.bind h2 e2
theorem FnExactCountRegions (l0 : List LLine) (h0 : l0.length ≤ 9223372036854775807) (_ : ∀ y ∈ l0, Q100 y) : ∃ k, laws_FnExactCountRegions.f k l0 = some true := by
  refine Ev.rounds (g := fun k => laws_FnExactCountRegions.f k l0) ?_
  unfold laws_FnExactCountRegions.f
  refine Ev.bind0 (szLineS_eq l0 1048576 (by omega) (by omega) h0) ?_
  by_cases hs : 1048576 < (l0.length : Int)
  · rw [if_pos hs]
    exact Ev.ite_pos (by omega) (Ev.now _)
  rw [if_neg hs]
  refine Ev.ite_neg (by omega) ?_
  have e0 := toLineS_ev l0 (by omega)
  have hl : (l0.map toL).length ≤ 1048576 := by simp; omega
  obtain ⟨r, h1, h2⟩ := regions_both (l0.map toL) hl
  exact Ev.bind e0 (Ev.bind h1 (Ev.bind e0 (Ev.bind h2 (Ev.ite_pos rfl (Ev.bind e0 (Ev.bind (eqLineS_self _ hl) (Ev.ite_pos rfl (Ev.now _))))))))
end Go.Proofs.Ytcoommffjbbebaa.Pure
