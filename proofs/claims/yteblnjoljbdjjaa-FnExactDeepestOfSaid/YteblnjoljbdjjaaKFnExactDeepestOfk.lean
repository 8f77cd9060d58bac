/- What the law FnExactDeepestOf reaches, part 11: functions as plain Lean functions with the proofs that their calls come to them, and plain lemmas over these. Put together by a program (wip/pack.py). -/
import Derived.Test.YteblnjoljbdjjaaKFnExactDeepestOfc
import Derived.Test.YteblnjoljbdjjaaKFnExactDeepestOfg
import Derived.Test.YteblnjoljbdjjaaKFnExactDeepestOfj
import Derived.Shelf.SlicesE.DeleteFunc
import Derived.Deep.RegionHeld3
namespace Go.Proofs.Yteblnjoljbdjjaa.P
open Go.RowKit Go.Proofs.YteblnjoljbdjjaaW.PrintWords Go.Proofs.YteblnjoljbdjjaaW.PrintLast Go.Proofs.YteblnjoljbdjjaaW.PrintMore
attribute [local go_sem] ptrOf_slice
attribute [local go_sem] min2_str max2_int min2_int max_two min_two max_three min_three max_four min_four
set_option linter.unusedVariables false
set_option linter.unusedSimpArgs false
def impl_chi_left.l0 : Nat → List Int → Int → Int → Int → Int → Option (Int)
 | 0, _, _, _, _, _ => none
 | k + 1, x0, x1, x2, x7, x8 => if 344 ≤ (x0.length : Int) then (if x8 < (chiN x0) then (if 0 ≤ x1 then (if x1 < 7 then (if 0 ≤ x2 then (if x2 < 7 then (if 0 ≤ x8 then (if x8 < 7 then (if (chiA x0 x1 x2 x8) = 1 then (impl_chi_left.l0 k x0 x1 x2 (wrap64 (x7 + 1)) (wrap64 (x8 + 1))) else (impl_chi_left.l0 k x0 x1 x2 x7 (wrap64 (x8 + 1)))) else (none)) else (none)) else (none)) else (none)) else (none)) else (none)) else (some x7)) else (none)
def impl_chi_left.f (k : Nat) (l0 : List Int) (a1 : Int) (a2 : Int) : Option (Int) := impl_chi_left.l0 k l0 a1 a2 0 0
theorem impl_chi_left.mono_l : ∀ k, (∀ y0 y1 y2 y3 y4, LeO (impl_chi_left.l0 k y0 y1 y2 y3 y4) (impl_chi_left.l0 (k + 1) y0 y1 y2 y3 y4))
 | 0 => fun _ _ _ _ _ r h => by simp [impl_chi_left.l0] at h
 | k + 1 => by
  have ih0 := impl_chi_left.mono_l k
  ·intro y0 y1 y2 y3 y4
   unfold impl_chi_left.l0
   repeat' first
   | (with_reducible exact ih0 _ _ _ _ _)
   | (with_reducible exact LeO.refl _)
   | (with_reducible exact LeO.none _)
   | (with_reducible refine LeO.ite ?_ ?_)
   | (with_reducible refine LeO.bind ?_ (fun _ => ?_))
   | exact ih0 _ _ _ _ _
   | exact LeO.none _
   | refine LeO.ite ?_ ?_
   | refine LeO.bind ?_ (fun _ => ?_)
theorem impl_chi_left.mono : ∀ a0 a1 a2 k, LeO (impl_chi_left.f k a0 a1 a2) (impl_chi_left.f (k + 1) a0 a1 a2) := by
 intro a0 a1 a2 k
 have ih0 := impl_chi_left.mono_l k
 unfold impl_chi_left.f
 repeat' first
   | (with_reducible exact ih0 _ _ _ _ _)
   | (with_reducible exact LeO.refl _)
   | (with_reducible exact LeO.none _)
   | (with_reducible refine LeO.ite ?_ ?_)
   | (with_reducible refine LeO.bind ?_ (fun _ => ?_))
   | exact ih0 _ _ _ _ _
   | exact LeO.none _
   | refine LeO.ite ?_ ?_
   | refine LeO.bind ?_ (fun _ => ?_)
set_option maxHeartbeats 8000000 in
set_option maxRecDepth 100000 in
theorem impl_chi_left.calls (k : Nat) (A0 : Option Addr) (c0 : Nat) (l0 : List Int) (a1 : Int) (a2 : Int) (r : Int) (w : World) (hr0 : Kd.C (Kd.int .i64) w A0 l0.length l0) (hc0 : l0.length ≤ c0) (h : impl_chi_left.f k l0 a1 a2 = some r) :
  Calls Try.prog 120 #[.pointer A0, .int .i64 a1, .int .i64 a2] w fun e w' => e = .returned (.int .i64 r) ∧ Drawn0 w w' := by
 have HR0 := Aside0.mk hr0
 have HC0 := Aside0.mk hc0
 clear hr0 hc0
 have H : (impl_chi_left.l0 k l0 a1 a2 0 0) = some r := h
 clear h
 have H' := Aside0.mk H
 clear H
 go_enter Try.func120, Try.ntmps120
 go_wp2
 go_loopg [7, 8] k (fun kq v7 v8 w' => ∃ (x7_1 : Int) (x8_1 : Int), v7 = .int .i64 x7_1 ∧ v8 = .int .i64 x8_1 ∧ Aside0 (impl_chi_left.l0 kq l0 a1 a2 x7_1 x8_1 = some r) ∧ Aside0 (kq ≤ k) ∧ Drawn0 w w')
 case atStart => exact ⟨(0), (0), (by first | rfl | (simp; done) | (simp [*]; done)), (by first | rfl | (simp; done) | (simp [*]; done)), H', ⟨Nat.le_refl _⟩, by repeat (first | exact Drawn0.refl _ | apply Drawn0.step)⟩
 case round =>
  clear H'
  try clear c1
  try clear p2
  obtain ⟨x7_1, x8_1, rfl, rfl, HA, HK1, ⟨m1, rfl⟩⟩ := hrel
  cases gk with
  | zero => exact absurd HA.out (by simp [impl_chi_left.l0])
  | succ k1 =>
   have H := HA.out
   clear HA
   simp only [impl_chi_left.l0] at H
   by_cases c4 : 344 ≤ (l0.length : Int)
   ·rw [if_pos c4] at H
    have c4b0 := eq_true c4
    have c4b1 : decide (344 ≤ (l0.length : Int)) = true := decide_eq_true c4
    clear c4
    by_cases c5 : x8_1 < (chiN l0)
    ·rw [if_pos c5] at H
     have c5b0 : decide (x8_1 < (chiN l0)) = true := decide_eq_true c5
     clear c5
     by_cases c6 : 0 ≤ a1
     ·rw [if_pos c6] at H
      have c6b0 : decide (0 ≤ a1) = true := decide_eq_true c6
      clear c6
      by_cases c7 : a1 < 7
      ·rw [if_pos c7] at H
       have c7b0 : decide (a1 < 7) = true := decide_eq_true c7
       clear c7
       by_cases c8 : 0 ≤ a2
       ·rw [if_pos c8] at H
        have c8b0 : decide (0 ≤ a2) = true := decide_eq_true c8
        clear c8
        by_cases c9 : a2 < 7
        ·rw [if_pos c9] at H
         have c9b0 : decide (a2 < 7) = true := decide_eq_true c9
         clear c9
         by_cases c10 : 0 ≤ x8_1
         ·rw [if_pos c10] at H
          have c10b0 : decide (0 ≤ x8_1) = true := decide_eq_true c10
          clear c10
          by_cases c11 : x8_1 < 7
          ·rw [if_pos c11] at H
           have c11b0 : decide (x8_1 < 7) = true := decide_eq_true c11
           clear c11
           by_cases c12 : (chiA l0 a1 a2 x8_1) = 1
           ·rw [if_pos c12] at H
            have c12b0 : ((chiA l0 a1 a2 x8_1) == 1) = true := beq_iff_eq.mpr c12
            have c12b1 : ((chiA l0 a1 a2 x8_1) != 1) = false := bne_eq_false_iff_eq.mpr c12
            clear c12
            have H' := Aside0.mk H
            clear H
            have q803 : 344 ≤ (l0.length : Int) := of_decide_eq_true (by first | (with_reducible assumption) | assumption)
            obtain ⟨ad803, e803, hx803_0⟩ := chi_n HR0.out q803
            cases e803
            have q804 : 344 ≤ (l0.length : Int) := of_decide_eq_true (by first | (with_reducible assumption) | assumption)
            have p804_0a : 0 ≤ (a1 : Int) := of_decide_eq_true (by first | (with_reducible assumption) | assumption)
            have p804_0b : (a1 : Int) < 7 := of_decide_eq_true (by first | (with_reducible assumption) | assumption)
            have p804_1a : 0 ≤ (a2 : Int) := of_decide_eq_true (by first | (with_reducible assumption) | assumption)
            have p804_1b : (a2 : Int) < 7 := of_decide_eq_true (by first | (with_reducible assumption) | assumption)
            have p804_2a : 0 ≤ (x8_1 : Int) := of_decide_eq_true (by first | (with_reducible assumption) | assumption)
            have p804_2b : (x8_1 : Int) < 7 := of_decide_eq_true (by first | (with_reducible assumption) | assumption)
            obtain ⟨ad804, e804, hx804_0⟩ := chi_at HR0.out q804 p804_0a p804_0b p804_1a p804_1b p804_2a p804_2b
            obtain rfl : ad803 = ad804 := (by injection e804)
            replace p804_0a := eq_true p804_0a
            replace p804_0b := eq_true p804_0b
            replace p804_1a := eq_true p804_1a
            replace p804_1b := eq_true p804_1b
            replace p804_2a := eq_true p804_2a
            replace p804_2b := eq_true p804_2b
            go_wp2
            go_roundg k1
            case measure => have := HK1.out; omega
            case rel => exact ⟨(wrap64 (x7_1 + 1)), (wrap64 (x8_1 + 1)), (by first | rfl | (simp; done) | (simp [*]; done)), (by first | rfl | (simp; done) | (simp [*]; done)), H', ⟨by have := HK1.out; omega⟩, by repeat (first | exact Drawn0.refl _ | apply Drawn0.step)⟩
           ·rw [if_neg c12] at H
            have c12b0 : ((chiA l0 a1 a2 x8_1) == 1) = false := beq_eq_false_iff_ne.mpr c12
            have c12b1 : ((chiA l0 a1 a2 x8_1) != 1) = true := bne_iff_ne.mpr c12
            have H' := Aside0.mk H
            clear H
            have q803 : 344 ≤ (l0.length : Int) := of_decide_eq_true (by first | (with_reducible assumption) | assumption)
            obtain ⟨ad803, e803, hx803_0⟩ := chi_n HR0.out q803
            cases e803
            have q804 : 344 ≤ (l0.length : Int) := of_decide_eq_true (by first | (with_reducible assumption) | assumption)
            have p804_0a : 0 ≤ (a1 : Int) := of_decide_eq_true (by first | (with_reducible assumption) | assumption)
            have p804_0b : (a1 : Int) < 7 := of_decide_eq_true (by first | (with_reducible assumption) | assumption)
            have p804_1a : 0 ≤ (a2 : Int) := of_decide_eq_true (by first | (with_reducible assumption) | assumption)
            have p804_1b : (a2 : Int) < 7 := of_decide_eq_true (by first | (with_reducible assumption) | assumption)
            have p804_2a : 0 ≤ (x8_1 : Int) := of_decide_eq_true (by first | (with_reducible assumption) | assumption)
            have p804_2b : (x8_1 : Int) < 7 := of_decide_eq_true (by first | (with_reducible assumption) | assumption)
            obtain ⟨ad804, e804, hx804_0⟩ := chi_at HR0.out q804 p804_0a p804_0b p804_1a p804_1b p804_2a p804_2b
            obtain rfl : ad803 = ad804 := (by injection e804)
            replace p804_0a := eq_true p804_0a
            replace p804_0b := eq_true p804_0b
            replace p804_1a := eq_true p804_1a
            replace p804_1b := eq_true p804_1b
            replace p804_2a := eq_true p804_2a
            replace p804_2b := eq_true p804_2b
            go_wp2
            go_roundg k1
            case measure => have := HK1.out; omega
            case rel => exact ⟨(x7_1), (wrap64 (x8_1 + 1)), (by first | rfl | (simp; done) | (simp [*]; done)), (by first | rfl | (simp; done) | (simp [*]; done)), H', ⟨by have := HK1.out; omega⟩, by repeat (first | exact Drawn0.refl _ | apply Drawn0.step)⟩
          ·rw [if_neg c11] at H
           exact absurd H (by simp)
         ·rw [if_neg c10] at H
          exact absurd H (by simp)
        ·rw [if_neg c9] at H
         exact absurd H (by simp)
       ·rw [if_neg c8] at H
        exact absurd H (by simp)
      ·rw [if_neg c7] at H
       exact absurd H (by simp)
     ·rw [if_neg c6] at H
      exact absurd H (by simp)
    ·rw [if_neg c5] at H
     have c5b0 : decide (x8_1 < (chiN l0)) = false := decide_eq_false c5
     clear c5
     obtain rfl := Option.some.inj H
     have q803 : 344 ≤ (l0.length : Int) := of_decide_eq_true (by first | (with_reducible assumption) | assumption)
     obtain ⟨ad803, e803, hx803_0⟩ := chi_n HR0.out q803
     cases e803
     go_wp2
     go_ret
     exact ⟨by first | rfl | (simp; done) | (simp [*]; done), by repeat (first | exact Drawn0.refl _ | apply Drawn0.step)⟩
   ·rw [if_neg c4] at H
    exact absurd H (by simp)
def impl_chi_depth.l0 : Nat → List Int → Int → Int → Int → Option (Int)
 | 0, _, _, _, _ => none
 | k + 1, x0, x1, x5, x6 => if 344 ≤ (x0.length : Int) then (if x6 < (chiN x0) then (if x6 = x1 then (impl_chi_depth.l0 k x0 x1 x5 (wrap64 (x6 + 1))) else ((impl_chi_left.f k x0 x1 x6).bind fun t807 => ((impl_chi_left.f k x0 x6 x1).bind fun t808 => (impl_chi_depth.l0 k x0 x1 (mn (mn x5 (wrap64 (t807 + 1))) (wrap64 (t808 + 1))) (wrap64 (x6 + 1)))))) else (some x5)) else (none)
def impl_chi_depth.f (k : Nat) (l0 : List Int) (a1 : Int) : Option (Int) := if 344 ≤ (l0.length : Int) then (impl_chi_depth.l0 k l0 a1 (chiN l0) 0) else (none)
theorem impl_chi_depth.mono_l : ∀ k, (∀ y0 y1 y2 y3, LeO (impl_chi_depth.l0 k y0 y1 y2 y3) (impl_chi_depth.l0 (k + 1) y0 y1 y2 y3))
 | 0 => fun _ _ _ _ r h => by simp [impl_chi_depth.l0] at h
 | k + 1 => by
  have ih0 := impl_chi_depth.mono_l k
  ·intro y0 y1 y2 y3
   unfold impl_chi_depth.l0
   repeat' first
   | (with_reducible exact ih0 _ _ _ _)
   | (with_reducible exact impl_chi_left.mono _ _ _ _)
   | (with_reducible exact LeO.refl _)
   | (with_reducible exact LeO.none _)
   | (with_reducible refine LeO.ite ?_ ?_)
   | (with_reducible refine LeO.bind ?_ (fun _ => ?_))
   | exact ih0 _ _ _ _
   | exact impl_chi_left.mono _ _ _ _
   | exact LeO.none _
   | refine LeO.ite ?_ ?_
   | refine LeO.bind ?_ (fun _ => ?_)
theorem impl_chi_depth.mono : ∀ a0 a1 k, LeO (impl_chi_depth.f k a0 a1) (impl_chi_depth.f (k + 1) a0 a1) := by
 intro a0 a1 k
 have ih0 := impl_chi_depth.mono_l k
 unfold impl_chi_depth.f
 repeat' first
   | (with_reducible exact ih0 _ _ _ _)
   | (with_reducible exact impl_chi_left.mono _ _ _ _)
   | (with_reducible exact LeO.refl _)
   | (with_reducible exact LeO.none _)
   | (with_reducible refine LeO.ite ?_ ?_)
   | (with_reducible refine LeO.bind ?_ (fun _ => ?_))
   | exact ih0 _ _ _ _
   | exact impl_chi_left.mono _ _ _ _
   | exact LeO.none _
   | refine LeO.ite ?_ ?_
   | refine LeO.bind ?_ (fun _ => ?_)
set_option maxHeartbeats 8000000 in
set_option maxRecDepth 100000 in
theorem impl_chi_depth.calls (k : Nat) (A0 : Option Addr) (c0 : Nat) (l0 : List Int) (a1 : Int) (r : Int) (w : World) (hr0 : Kd.C (Kd.int .i64) w A0 l0.length l0) (hc0 : l0.length ≤ c0) (h : impl_chi_depth.f k l0 a1 = some r) :
  Calls Try.prog 73 #[.pointer A0, .int .i64 a1] w fun e w' => e = .returned (.int .i64 r) ∧ Drawn0 w w' := by
 have HR0 := Aside0.mk hr0
 have HC0 := Aside0.mk hc0
 clear hr0 hc0
 have H : (if 344 ≤ (l0.length : Int) then (impl_chi_depth.l0 k l0 a1 (chiN l0) 0) else (none)) = some r := h
 clear h
 by_cases c3 : 344 ≤ (l0.length : Int)
 ·rw [if_pos c3] at H
  have c3b0 := eq_true c3
  have c3b1 : decide (344 ≤ (l0.length : Int)) = true := decide_eq_true c3
  clear c3
  have H' := Aside0.mk H
  clear H
  have q805 : 344 ≤ (l0.length : Int) := of_decide_eq_true (by first | (with_reducible assumption) | assumption)
  obtain ⟨ad805, e805, hx805_0⟩ := chi_n HR0.out q805
  cases e805
  go_enter Try.func73, Try.ntmps73
  go_wp2
  go_loopg [5, 6] k (fun kq v5 v6 w' => ∃ (x5_1 : Int) (x6_1 : Int), v5 = .int .i64 x5_1 ∧ v6 = .int .i64 x6_1 ∧ Aside0 (impl_chi_depth.l0 kq l0 a1 x5_1 x6_1 = some r) ∧ Aside0 (kq ≤ k) ∧ Drawn0 w w')
  case atStart => exact ⟨(chiN l0), (0), (by first | rfl | (simp; done) | (simp [*]; done)), (by first | rfl | (simp; done) | (simp [*]; done)), H', ⟨Nat.le_refl _⟩, by repeat (first | exact Drawn0.refl _ | apply Drawn0.step)⟩
  case round =>
   clear H'
   try clear p2
   try clear c3
   try clear c3b0
   try clear c3b1
   try clear hx805_0
   try clear q805
   obtain ⟨x5_1, x6_1, rfl, rfl, HA, HK1, ⟨m1, rfl⟩⟩ := hrel
   cases gk with
   | zero => exact absurd HA.out (by simp [impl_chi_depth.l0])
   | succ k1 =>
    have H := HA.out
    clear HA
    simp only [impl_chi_depth.l0] at H
    by_cases c4 : 344 ≤ (l0.length : Int)
    ·rw [if_pos c4] at H
     have c4b0 := eq_true c4
     have c4b1 : decide (344 ≤ (l0.length : Int)) = true := decide_eq_true c4
     clear c4
     by_cases c5 : x6_1 < (chiN l0)
     ·rw [if_pos c5] at H
      have c5b0 : decide (x6_1 < (chiN l0)) = true := decide_eq_true c5
      clear c5
      by_cases c6 : x6_1 = a1
      ·rw [if_pos c6] at H
       have c6b0 : (x6_1 == a1) = true := beq_iff_eq.mpr c6
       have c6b1 : (x6_1 != a1) = false := bne_eq_false_iff_eq.mpr c6
       clear c6
       have H' := Aside0.mk H
       clear H
       have q806 : 344 ≤ (l0.length : Int) := of_decide_eq_true (by first | (with_reducible assumption) | assumption)
       obtain ⟨ad806, e806, hx806_0⟩ := chi_n HR0.out q806
       obtain rfl : ad805 = ad806 := (by injection e806)
       go_wp2
       go_roundg k1
       case measure => have := HK1.out; omega
       case rel => exact ⟨(x5_1), (wrap64 (x6_1 + 1)), (by first | rfl | (simp; done) | (simp [*]; done)), (by first | rfl | (simp; done) | (simp [*]; done)), H', ⟨by have := HK1.out; omega⟩, by repeat (first | exact Drawn0.refl _ | apply Drawn0.step)⟩
      ·rw [if_neg c6] at H
       have c6b0 : (x6_1 == a1) = false := beq_eq_false_iff_ne.mpr c6
       have c6b1 : (x6_1 != a1) = true := bne_iff_ne.mpr c6
       replace H := Option.bind_eq_some_iff.mp H
       obtain ⟨t807, A70, H⟩ := H
       replace H : ((impl_chi_left.f k1 l0 x6_1 a1).bind fun t808 => (impl_chi_depth.l0 k1 l0 a1 (mn (mn x5_1 (wrap64 (t807 + 1))) (wrap64 (t808 + 1))) (wrap64 (x6_1 + 1)))) = some r := H
       have A7 := Aside0.mk A70
       clear A70
       replace H := Option.bind_eq_some_iff.mp H
       obtain ⟨t808, A80, H⟩ := H
       replace H : (impl_chi_depth.l0 k1 l0 a1 (mn (mn x5_1 (wrap64 (t807 + 1))) (wrap64 (t808 + 1))) (wrap64 (x6_1 + 1))) = some r := H
       have A8 := Aside0.mk A80
       clear A80
       obtain ⟨ji9, hji9⟩ : ∃ j_ : Int, (mn x5_1 (wrap64 (t807 + 1))) = j_ := ⟨_, rfl⟩
       replace H : (impl_chi_depth.l0 k1 l0 a1 (mn (ji9) (wrap64 (t808 + 1))) (wrap64 (x6_1 + 1))) = some r := by first | (rw [hji9] at H; exact H) | (simp only [hji9] at H ⊢; exact H)
       (try rw [hji9] at A7)
       (try rw [hji9] at A8)
       have hji9_ : (if (wrap64 (t807 + 1)) < x5_1 then (wrap64 (t807 + 1)) else x5_1) = ji9 := hji9
       obtain ⟨ji10, hji10⟩ : ∃ j_ : Int, (mn (ji9) (wrap64 (t808 + 1))) = j_ := ⟨_, rfl⟩
       replace H : (impl_chi_depth.l0 k1 l0 a1 ji10 (wrap64 (x6_1 + 1))) = some r := by first | (rw [hji10] at H; exact H) | (simp only [hji10] at H ⊢; exact H)
       (try rw [hji10] at A7)
       (try rw [hji10] at A8)
       have hji10_ : (if (wrap64 (t808 + 1)) < (ji9) then (wrap64 (t808 + 1)) else (ji9)) = ji10 := hji10
       have H' := Aside0.mk H
       clear H
       have q806 : 344 ≤ (l0.length : Int) := of_decide_eq_true (by first | (with_reducible assumption) | assumption)
       obtain ⟨ad806, e806, hx806_0⟩ := chi_n HR0.out q806
       obtain rfl : ad805 = ad806 := (by injection e806)
       go_wp2_with (first | ((with_reducible refine gate_callee (f := 120) rfl ?_); refine goesL_ (some 26) rfl rfl Try.func120 (by kernel_rfl) rfl #[.pointer (some ad805), .int .i64 a1, .int .i64 x6_1] rfl (by (try simp only [List.map_toArray, List.map_cons, List.map_nil]); first | done | rfl | (simp only [List.length_drop, List.length_take]; rfl)) ?_; (refine (impl_chi_left.calls k1 _ c0 l0 a1 x6_1 t807 _ ?side1 ?side2 A7.out).mono ?_); (case side1 => repeat (first | exact HR0.out | (with_reducible refine Kd.C_alloc ?_ _) | (with_reducible refine Kd.C_drewN ?_ _) | (with_reducible refine Kd.C_drew ?_))); (case side2 => exact HC0.out); rintro e w' ⟨rfl, ⟨nd, rfl⟩⟩; refine ⟨_, rfl, ?_⟩) | ((with_reducible refine gate_callee (f := 120) rfl ?_); refine goesL_ (some 31) rfl rfl Try.func120 (by kernel_rfl) rfl #[.pointer (some ad805), .int .i64 x6_1, .int .i64 a1] rfl (by (try simp only [List.map_toArray, List.map_cons, List.map_nil]); first | done | rfl | (simp only [List.length_drop, List.length_take]; rfl)) ?_; (refine (impl_chi_left.calls k1 _ c0 l0 x6_1 a1 t808 _ ?side1 ?side2 A8.out).mono ?_); (case side1 => repeat (first | exact HR0.out | (with_reducible refine Kd.C_alloc ?_ _) | (with_reducible refine Kd.C_drewN ?_ _) | (with_reducible refine Kd.C_drew ?_))); (case side2 => exact HC0.out); rintro e w' ⟨rfl, ⟨nd, rfl⟩⟩; refine ⟨_, rfl, ?_⟩))
       go_roundg k1
       case measure => have := HK1.out; omega
       case rel => exact ⟨(ji10), (wrap64 (x6_1 + 1)), (by first | rfl | (simp; done) | (simp only [← hji10] <;> (first | rfl | simp)) | (simp [*]; done)), (by first | rfl | (simp; done) | (simp [*]; done)), H', ⟨by have := HK1.out; omega⟩, by repeat (first | exact Drawn0.refl _ | apply Drawn0.step)⟩
     ·rw [if_neg c5] at H
      have c5b0 : decide (x6_1 < (chiN l0)) = false := decide_eq_false c5
      clear c5
      obtain rfl := Option.some.inj H
      have q806 : 344 ≤ (l0.length : Int) := of_decide_eq_true (by first | (with_reducible assumption) | assumption)
      obtain ⟨ad806, e806, hx806_0⟩ := chi_n HR0.out q806
      obtain rfl : ad805 = ad806 := (by injection e806)
      go_wp2
      go_ret
      exact ⟨by first | rfl | (simp; done) | (simp [*]; done), by repeat (first | exact Drawn0.refl _ | apply Drawn0.step)⟩
    ·rw [if_neg c4] at H
     exact absurd H (by simp)
 ·rw [if_neg c3] at H
  exact absurd H (by simp)
end Go.Proofs.Yteblnjoljbdjjaa.P
namespace Go.Proofs.Yteblnjoljbdjjaa.P
open Go.RowKit Go.Proofs.YteblnjoljbdjjaaW.PrintWords Go.Proofs.YteblnjoljbdjjaaW.PrintLast Go.Proofs.YteblnjoljbdjjaaW.PrintMore
attribute [local go_sem] ptrOf_slice
attribute [local go_sem] max2_int min2_int max_two min_two
set_option linter.unusedVariables false
set_option linter.unusedSimpArgs false
open Go.Shelf in
def delD10_ren : Go.Shelf.Ren := ⟨fun | 10 => 74 | 6 => 121 | n => n, fun | 22 => 35 | 23 => 3 | 25 => 83 | 3 => 3 | 4 => 4 | 0 => 0 | n => n, fun | n => n⟩
theorem delD10 : Go.Proofs.SlLaysH.n10 Try.prog delD10_ren :=
  { mixed := by kernel_rfl,
    f6 := ⟨Try.f121.name, by decide, Try.func121.trans (congrArg some (by kernel_rfl))⟩,
    f10 := ⟨Try.f74.name, by decide, Try.func74.trans (congrArg some (by kernel_rfl))⟩,
    t0 := Try.underlying0,
    a0 := Try.isAgg0,
    z0 := Try.sizeOf0,
    v0 := Try.zeroValue0,
    t3 := Try.underlying3,
    a3 := Try.isAgg3,
    z3 := Try.sizeOf3,
    v3 := Try.zeroValue3,
    t4 := Try.underlying4,
    a4 := Try.isAgg4,
    z4 := Try.sizeOf4,
    v4 := Try.zeroValue4,
    t22 := Try.underlying35,
    a22 := Try.isAgg35,
    z22 := Try.sizeOf35,
    v22 := Try.zeroValue35,
    a23 := Try.isAgg3,
    z23 := Try.sizeOf3,
    t25 := Try.underlying83,
    a25 := Try.isAgg83,
    z25 := Try.sizeOf83,
    v25 := Try.zeroValue83 }
def deepL : Nat → List Int → Int → Int → Int → Option Int
  | 0, _, _, _, _ => none
  | k + 1, l, n, m, i => if i < n then (impl_chi_depth.f k l i).bind fun d => deepL k l n (mx m d) (wrap64 (i + 1)) else some m
theorem deepL.mono : ∀ (k : Nat) (l : List Int) (n m i : Int), LeO (deepL k l n m i) (deepL (k + 1) l n m i)
  | 0, l, n, m, i => fun r h => by simp [deepL] at h
  | k + 1, l, n, m, i => by
    unfold deepL
    exact LeO.ite (LeO.bind (impl_chi_depth.mono _ _ _) (fun d => deepL.mono k l n (mx m d) (wrap64 (i + 1)))) (LeO.refl _)
def depV (k : Nat) (l : List Int) (x : Int) : Int := (impl_chi_depth.f k l x).getD 0
def deepG (k : Nat) (l : List Int) (u : List Int) : Prop := u.length ≤ 7 ∧ 0 < u.length ∧ (∀ x ∈ u, 0 ≤ x ∧ x < 7) ∧ ((List.range 7).all fun x : Nat => (impl_chi_depth.f k l (x : Int)).isSome) = true
instance (k : Nat) (l u : List Int) : Decidable (deepG k l u) := by unfold deepG; exact inferInstance
def deepR (k : Nat) (l u : List Int) (m : Int) : Option (List Int) := if deepG k l u then some (u.filter fun x => !(decide (depV k l x < m))) else none
theorem depV_mono (k : Nat) (l : List Int) (x : Int) (h : (impl_chi_depth.f k l x).isSome = true) : (impl_chi_depth.f (k + 1) l x).isSome = true ∧ depV (k + 1) l x = depV k l x := by
  obtain ⟨v, hv⟩ := Option.isSome_iff_exists.1 h
  have h2 := impl_chi_depth.mono l x k v hv
  unfold depV
  rw [h2, hv]
  exact ⟨rfl, rfl⟩
theorem deepR.mono (k : Nat) (l u : List Int) (m : Int) : LeO (deepR k l u m) (deepR (k + 1) l u m) := by
  intro r h
  unfold deepR at h ⊢
  by_cases hg : deepG k l u
  · rw [if_pos hg] at h
    obtain ⟨h1, h2, h3, h4⟩ := hg
    have h5 : ∀ x : Nat, x < 7 → (impl_chi_depth.f k l (x : Int)).isSome = true := fun x hx => List.all_eq_true.1 h4 x (by simpa using hx)
    rw [if_pos ⟨h1, h2, h3, List.all_eq_true.2 fun x hx => (depV_mono k l x (h5 x (by simpa using hx))).1⟩, ← h]
    congr 1
    apply List.filter_congr
    intro x hx
    obtain ⟨x0, x7⟩ := h3 x hx
    obtain ⟨y, rfl⟩ := Int.eq_ofNat_of_zero_le x0
    rw [(depV_mono k l y (h5 y (by omega))).2]
  · rw [if_neg hg] at h
    cases h
def impl_DeepestOf.f (k : Nat) (a0_0 : Int) (a0_1 : ByteArray) : Option (List Int) := (impl_orderOf.f k a0_0 a0_1).bind fun bt => (if bt.2 = true then ((deepL k bt.1 a0_0 0 0).bind fun m => ((impl_upTo.f k a0_0).bind fun u => deepR k bt.1 u m)) else (some ([] : List Int)))
theorem impl_DeepestOf.mono : ∀ a0 a1 k, LeO (impl_DeepestOf.f k a0 a1) (impl_DeepestOf.f (k + 1) a0 a1) := by
  intro a0 a1 k
  exact LeO.bind (impl_orderOf.mono _ _ _) (fun _ => LeO.ite (LeO.bind (deepL.mono _ _ _ _ _) (fun _ => LeO.bind (impl_upTo.mono _ _) (fun _ => deepR.mono _ _ _ _))) (LeO.refl _))
set_option maxHeartbeats 8000000 in
set_option maxRecDepth 100000 in
theorem deep1.calls (k : Nat) (l : List Int) (x d m : Int) (A0 : Option Addr) (c0 : Nat) (b3 b5 : Nat) (w : World) (hr0 : Kd.C (Kd.int .i64) w A0 l.length l) (hc0 : l.length ≤ c0) (hd : impl_chi_depth.f k l x = some d) (h3 : w.heap[b3]? = some (.cells #[.pointer A0] 77 (0, 0))) (h5 : w.heap[b5]? = some (.cells #[.int .i64 m] 3 (0, 0))) :
    Calls Try.prog 76 #[.int .i64 x, .pointer (some ⟨b3, 0, none⟩), .pointer (some ⟨b5, 0, none⟩)] w fun e w' => e = .returned (.bool (decide (d < m))) ∧ Drawn0 w w' := by
  have c3 : w.cell? ⟨b3, 0, none⟩ = some (.pointer A0) := (blk_cell h3 0).trans rfl
  have f3 := blk_frozen h3 0
  have c5 : w.cell? ⟨b5, 0, none⟩ = some (.int .i64 m) := (blk_cell h5 0).trans rfl
  have f5 := blk_frozen h5 0
  have HR := Aside0.mk hr0
  have HD := Aside0.mk hd
  have HC := Aside0.mk hc0
  have HDN : Aside0 (∀ n : Nat, Kd.C (Kd.int .i64) (w.drewN n) A0 l.length l) := ⟨fun n => Kd.C_below hr0 (pw_below_drewN (Below.refl _ _) n)⟩
  clear hr0 hd hc0 h3 h5
  go_enter Try.func76, Try.ntmps76
  go_wp2
  go_region_held3 (fun w' => w'.cell? ⟨b3, 0, none⟩ = some (.pointer A0) ∧ w'.cell? ⟨b5, 0, none⟩ = some (.int .i64 m)) (go_keep) (first | (go_at_call 73; refine (impl_chi_depth.calls k A0 c0 l x d _ (by first | exact HDN.out _ | exact HR.out) HC.out HD.out).mono ?_; rintro e w' ⟨rfl, ⟨nd, rfl⟩⟩))
  all_goals (try go_wp2)
  go_ret
  exact ⟨by first | rfl | (simp; done) | (simp [*]; done), by repeat (first | exact Drawn0.refl _ | apply Drawn0.step)⟩
theorem toList_getD (xs : List (Fin 7)) (j : Nat) : xs.toArray[j]! = xs[j]! := by simp
def finD (x : Int) : Fin 7 := Fin.ofNat 7 x.toNat
theorem finD_val (x : Int) (h0 : 0 ≤ x) (h7 : x < 7) : (((finD x).val : Nat) : Int) = x := by
  unfold finD
  rw [Fin.val_ofNat]
  omega
theorem filter_fin (p : Int → Bool) (u : List Int) (h : ∀ x ∈ u, 0 ≤ x ∧ x < 7) : ((u.map finD).filter fun x : Fin 7 => p x.val).map (fun x => ((x.val : Nat) : Int)) = u.filter p := by
  induction u with
  | nil => rfl
  | cons x r ih =>
    have hx := h x List.mem_cons_self
    have e := finD_val x hx.1 hx.2
    rw [List.map_cons, List.filter_cons, List.filter_cons, e]
    split
    · rw [List.map_cons, e, ih (fun y hy => h y (List.mem_cons_of_mem _ hy))]
    · exact ih (fun y hy => h y (List.mem_cons_of_mem _ hy))
theorem delD_calls (k : Nat) (l u : List Int) (m : Int) (A0 : Option Addr) (c0 b3 b5 g cap : Nat) (cur : Array Value) (w : World) (hgd : deepG k l u) (hr0 : Kd.C (Kd.int .i64) w A0 l.length l) (hc0 : l.length ≤ c0)
    (hr1 : ∀ n os dk, Kd.C (Kd.int .i64) (Sort.grow (Sort.putRow (fun x : Fin 7 => Value.int .i64 (x.val : Nat)) (Sort.ahead w n) g 0 dk) os) A0 l.length l)
    (hcur : w.heap[g]? = some (.cells cur 3 (0, 0))) (hj : ∀ j, j < u.length → cur[j]? = some (.int .i64 u[j]!)) (hcs : cur.size = cap) (hlc : u.length ≤ cap) (hcm : cap ≤ maxLen)
    (h3 : w.heap[b3]? = some (.cells #[.pointer A0] 77 (0, 0))) (h5 : w.heap[b5]? = some (.cells #[.int .i64 m] 3 (0, 0))) (hne3 : b3 ≠ g) (hne5 : b5 ≠ g) :
    Calls Try.prog 74 #[.slice (some ⟨g, 0, none⟩) u.length cap, .func (.func 76) #[] #[.pointer (some ⟨b3, 0, none⟩), .pointer (some ⟨b5, 0, none⟩)]] w fun e w' => e = .returned (.slice (some ⟨g, 0, none⟩) (u.filter fun x => !(decide (depV k l x < m))).length cap) ∧ (∃ cur', w'.heap[g]? = some (.cells cur' 3 (0, 0)) ∧ cur'.size = cap ∧ ∀ j, j < (u.filter fun x => !(decide (depV k l x < m))).length → cur'[j]? = some (.int .i64 (u.filter fun x => !(decide (depV k l x < m)))[j]!)) ∧ (∀ base, base ≤ g → Below base w w') := by
  obtain ⟨hu7, hu0, hu, hall⟩ := hgd
  have hlt : g < w.heap.size := (Array.getElem?_eq_some_iff.1 hcur).1
  have h3lt : b3 < w.heap.size := (Array.getElem?_eq_some_iff.1 h3).1
  have h5lt : b5 < w.heap.size := (Array.getElem?_eq_some_iff.1 h5).1
  have eg : ∀ args w, (callFunc 76 args).run Try.prog w = .ok (.enter 76 args) w := enters_of Try.func76 (by kernel_rfl) rfl
  let enc : Fin 7 → Value := fun x => .int .i64 (x.val : Nat)
  let p : Fin 7 → Bool := fun x => decide (depV k l (x.val : Nat) < m)
  have hgive : ∀ (W : World) (x : Fin 7), Kd.C (Kd.int .i64) W A0 l.length l → W.heap[b3]? = some (.cells #[.pointer A0] 77 (0, 0)) → W.heap[b5]? = some (.cells #[.int .i64 m] 3 (0, 0)) → FnGives Try.prog 76 #[.pointer (some ⟨b3, 0, none⟩), .pointer (some ⟨b5, 0, none⟩)] #[enc x] (.bool (p x)) W := fun W x hC hW3 hW5 => by
    have hs : (impl_chi_depth.f k l ((x.val : Nat) : Int)).isSome = true := List.all_eq_true.1 hall x.val (List.mem_range.2 x.isLt)
    obtain ⟨d, hd⟩ := Option.isSome_iff_exists.1 hs
    have hp : p x = decide (d < m) := by
      show decide (depV k l ((x.val : Nat) : Int) < m) = _
      unfold depV
      rw [hd]
      rfl
    rw [hp]
    exact (deep1.calls k l ((x.val : Nat) : Int) d m A0 c0 b3 b5 W hC hc0 hd hW3 hW5).mono fun _ _ ⟨he, hdr⟩ => ⟨he, hdr.out⟩
  have hp : PredAt Try.prog 76 #[.pointer (some ⟨b3, 0, none⟩), .pointer (some ⟨b5, 0, none⟩)] enc p w := fun W x hb => hgive W x (Kd.C_below hr0 hb) ((hb.block b3 h3lt).trans h3) ((hb.block b5 h5lt).trans h5)
  have hpo : PredOver Try.prog 76 #[.pointer (some ⟨b3, 0, none⟩), .pointer (some ⟨b5, 0, none⟩)] enc p g 0 (u.map finD).toArray.size w := fun n os dk x _ => hgive _ x (hr1 n os dk) ((put_far enc w n g 0 dk os b3 h3lt hne3).trans h3) ((put_far enc w n g 0 dk os b5 h5lt hne5).trans h5)
  have hH : Sort.Holds enc w g 0 (u.map finD).toArray := by
    intro j hjl
    have hl : j < u.length := by simpa using hjl
    have hb := hu u[j]! (by rw [getElem!_pos u j hl]; exact List.getElem_mem hl)
    have hv := finD_val u[j]! hb.1 hb.2
    refine ⟨?_, ?_⟩
    · have h := blk_cell hcur j
      rw [hj j hl] at h
      rw [Nat.zero_add, h]
      have e1 : (u.map finD).toArray[j]! = finD u[j]! := by
        rw [toList_getD, getElem!_pos _ j (by simpa using hl), List.getElem_map, getElem!_pos u j hl]
      rw [e1]
      show _ = some (Value.int .i64 ((finD u[j]!).val : Nat))
      rw [hv]
    · simp [World.frozen?, hcur]
  have hcon := AnyE.slices_DeleteFunc delD10 enc (fun _ => rfl) p 76 #[.pointer (some ⟨b3, 0, none⟩), .pointer (some ⟨b5, 0, none⟩)] eg (0 : Fin 7) Try.zeroValue3 g 0 cap (u.map finD).toArray w hp hpo hH (by simp; omega) (by simpa using hlc)
  have hF := filter_fin (fun x => !(decide (depV k l x < m))) u hu
  have hsz : (u.map finD).toArray.size = u.length := by simp
  have htl : (u.map finD).toArray.toList = u.map finD := by simp
  rw [hsz, htl] at hcon
  have hfl : ((u.map finD).filter fun x => !p x).length = (u.filter fun x => !(decide (depV k l x < m))).length := by rw [← hF, List.length_map]
  rw [hfl] at hcon
  refine hcon.mono ?_
  rintro e w' ⟨rfl, q, rfl⟩
  have hle : (u.filter fun x => !(decide (depV k l x < m))).length ≤ u.length := List.length_filter_le _ _
  rw [← Sort.grow_empty (Sort.putRow enc (Sort.ahead w q) g 0 _)]
  refine ⟨rfl, ⟨_, put_cur enc w q g 0 _ #[] hcur, by rw [putCells_size]; exact hcs, fun j hjl => ?_⟩, fun base hb => put_below _ w q g 0 _ #[] hb hlt⟩
  rw [putCells_at _ _ _ j (by simp; omega) (by simp; omega)]
  congr 1
  rw [toList_getD, getElem!_pos _ j (by simp; omega), List.getElem_append_left (by omega), getElem!_pos _ j hjl]
  simp only [← hF, List.getElem_map]
  rfl
set_option maxHeartbeats 8000000 in
set_option maxRecDepth 2000 in
theorem impl_DeepestOf.calls (k : Nat) (a0_0 : Int) (a0_1 : ByteArray) (r : List Int) (w : World) (h : impl_DeepestOf.f k a0_0 a0_1 = some r) :
    Calls Try.prog 34 #[.agg #[.int .i64 a0_0, .string a0_1]] w fun e w' => ∃ v0_ : Value, e = .returned (v0_) ∧ Kd.R (Kd.int .i64) 3 w' w.heap.size (fun _ => True) v0_ r ∧ Below w.heap.size w w' := by
  have hu25 := Try.underlying25
  obtain ⟨⟨tl, tb⟩, h1, h⟩ := Option.bind_eq_some_iff.mp h
  have A1 := Aside0.mk h1
  clear h1
  cases tb with
  | false =>
    obtain rfl := Option.some.inj (show some ([] : List Int) = some r from h)
    clear h
    go_enter Try.func34, Try.ntmps34
    go_wp2_with (first
      | ((with_reducible refine gate_dst (N := 1) rfl ?_); refine box_event ?hg (N := 1) ?hd (cs := #[.int .i64 a0_0, .string a0_1]) (t := 25) ?hr ?_; (case hd => rfl); (case hg => rfl); (case hr => first | (go_simp; done) | (go_simp; rfl)); intro gb1 hg1 w1 hb1 hB1; have BX1 := Aside0.mk hb1; have HB1 := Aside0.mk hB1; have x10_ : w1.cell? ⟨gb1, 0, none⟩ = some (.int .i64 a0_0) := (blk_cell hb1 0).trans rfl; have x11_ : w1.cell? ⟨gb1, 1, none⟩ = some (.string a0_1) := (blk_cell hb1 1).trans rfl; clear hg1 hb1 hB1)
      | (go_at_call 72
         refine (impl_orderOf.calls k a0_0 a0_1 tl false _ A1.out).mono ?_
         rintro e w3 ⟨v0, rfl, hR, hB3⟩
         obtain ⟨A, c, rfl⟩ := Kd.R_slice hR
         rw [ptrOf_slice]
         have HR := Aside0.mk (Kd.R_lower hR HB1.out.size)
         have HB3 := Aside0.mk (below_step HB1.out hB3)
         have BY1 := Aside0.mk ((hB3.block gb1 (Array.getElem?_eq_some_iff.1 BX1.out).1).trans BX1.out)
         clear hR hB3 x10_ x11_)
      | ((with_reducible refine gate_dst (N := 3) rfl ?_); refine box_event ?hg (N := 3) ?hd (cs := #[.pointer none]) (t := 77) ?hr ?_; (case hd => rfl); (case hg => rfl); (case hr => first | (go_simp; done) | (go_simp; rfl)); intro gb3 hg3 w4 hb3 hB4
         have y3_ : w4.cell? ⟨gb3, 0, none⟩ = some (.pointer none) := (blk_cell hb3 0).trans rfl
         have f3_ := blk_frozen hb3 0
         have hne_ : gb1 ≠ gb3 := Nat.ne_of_lt (by rw [hg3]; exact (Array.getElem?_eq_some_iff.1 BY1.out).1)
         have Z3 := Aside0.mk (blk_put hb3 0 (.pointer A) (cs' := #[.pointer A]) rfl)
         have Z1 := Aside0.mk (blk_far ((hB4.block gb1 (Array.getElem?_eq_some_iff.1 BY1.out).1).trans BY1.out) (p := ⟨gb3, 0, none⟩) hne_ (.pointer A))
         have ZR := Aside0.mk (Kd.R_set (Kd.R_below HR.out hB4) hb3 (by decide) 0 (.pointer A))
         have ZB := Aside0.mk (below_set (below_step HB3.out hB4) (g := gb3) (j := 0) (v := .pointer A) (by rw [hg3]; exact HB3.out.size))
         clear hg3 hb3 hB4)
      | ((with_reducible refine gate_dst (N := 5) rfl ?_)
         refine box_event ?hg (N := 5) ?hd (cs := #[.int .i64 0]) (t := 3) ?hr ?_; (case hd => rfl); (case hg => rfl); (case hr => first | (go_simp; done) | (go_simp; rfl)); intro gb5 hg5 w5 hb5 hB5
         have Y5 := Aside0.mk hb5
         have y5_ : w5.cell? ⟨gb5, 0, none⟩ = some (.int .i64 0) := (blk_cell hb5 0).trans rfl
         have f5_ := blk_frozen hb5 0
         have Y3 := Aside0.mk ((hB5.block gb3 (Array.getElem?_eq_some_iff.1 Z3.out).1).trans Z3.out)
         have Y1 := Aside0.mk ((hB5.block gb1 (Array.getElem?_eq_some_iff.1 Z1.out).1).trans Z1.out)
         have YR := Aside0.mk (Kd.R_below ZR.out hB5)
         have YB := Aside0.mk (below_step ZB.out hB5)
         have YG := Aside0.mk (show w.heap.size ≤ gb5 from by rw [hg5]; exact ZB.out.size)
         have YN := Aside0.mk (show gb3 ≠ gb5 ∧ gb1 ≠ gb5 from ⟨Nat.ne_of_lt (by rw [hg5]; exact (Array.getElem?_eq_some_iff.1 Z3.out).1), Nat.ne_of_lt (by rw [hg5]; exact (Array.getElem?_eq_some_iff.1 Z1.out).1)⟩)
         clear hg5 hb5 hB5))
    go_ret
    exact ⟨_, rfl, Kd.R_nil _ _ _ _ _, by repeat (first | exact ZB.out | apply below_alloc | apply pw_below_drewN)⟩
  | true =>
    obtain ⟨M, h2, h⟩ := Option.bind_eq_some_iff.mp (show ((deepL k tl a0_0 0 0).bind fun m => ((impl_upTo.f k a0_0).bind fun u => deepR k tl u m)) = some r from h)
    obtain ⟨u, h4, h⟩ := Option.bind_eq_some_iff.mp h
    have hgd : deepG k tl u := by
      unfold deepR at h
      by_cases hg : deepG k tl u
      · exact hg
      · rw [if_neg hg] at h; cases h
    have hr : (u.filter fun x => !(decide (depV k tl x < M))) = r := by
      unfold deepR at h
      rw [if_pos hgd] at h
      exact Option.some.inj h
    have HL := Aside0.mk h2
    have HU := Aside0.mk h4
    have HG := Aside0.mk hgd
    have HRR := Aside0.mk hr
    clear h2 h4 hgd hr h
    go_enter Try.func34, Try.ntmps34
    go_wp2_with (first
      | ((with_reducible refine gate_dst (N := 1) rfl ?_); refine box_event ?hg (N := 1) ?hd (cs := #[.int .i64 a0_0, .string a0_1]) (t := 25) ?hr ?_; (case hd => rfl); (case hg => rfl); (case hr => first | (go_simp; done) | (go_simp; rfl)); intro gb1 hg1 w1 hb1 hB1; have BX1 := Aside0.mk hb1; have HB1 := Aside0.mk hB1; have x10_ : w1.cell? ⟨gb1, 0, none⟩ = some (.int .i64 a0_0) := (blk_cell hb1 0).trans rfl; have x11_ : w1.cell? ⟨gb1, 1, none⟩ = some (.string a0_1) := (blk_cell hb1 1).trans rfl; clear hg1 hb1 hB1)
      | (go_at_call 72
         refine (impl_orderOf.calls k a0_0 a0_1 tl true _ A1.out).mono ?_
         rintro e w3 ⟨v0, rfl, hR, hB3⟩
         obtain ⟨A, c, rfl⟩ := Kd.R_slice hR
         rw [ptrOf_slice]
         have HR := Aside0.mk (Kd.R_lower hR HB1.out.size)
         have HB3 := Aside0.mk (below_step HB1.out hB3)
         have BY1 := Aside0.mk ((hB3.block gb1 (Array.getElem?_eq_some_iff.1 BX1.out).1).trans BX1.out)
         clear hR hB3 x10_ x11_)
      | ((with_reducible refine gate_dst (N := 3) rfl ?_); refine box_event ?hg (N := 3) ?hd (cs := #[.pointer none]) (t := 77) ?hr ?_; (case hd => rfl); (case hg => rfl); (case hr => first | (go_simp; done) | (go_simp; rfl)); intro gb3 hg3 w4 hb3 hB4
         have y3_ : w4.cell? ⟨gb3, 0, none⟩ = some (.pointer none) := (blk_cell hb3 0).trans rfl
         have f3_ := blk_frozen hb3 0
         have hne_ : gb1 ≠ gb3 := Nat.ne_of_lt (by rw [hg3]; exact (Array.getElem?_eq_some_iff.1 BY1.out).1)
         have Z3 := Aside0.mk (blk_put hb3 0 (.pointer A) (cs' := #[.pointer A]) rfl)
         have Z1 := Aside0.mk (blk_far ((hB4.block gb1 (Array.getElem?_eq_some_iff.1 BY1.out).1).trans BY1.out) (p := ⟨gb3, 0, none⟩) hne_ (.pointer A))
         have ZR := Aside0.mk (Kd.R_set (Kd.R_below HR.out hB4) hb3 (by decide) 0 (.pointer A))
         have ZB := Aside0.mk (below_set (below_step HB3.out hB4) (g := gb3) (j := 0) (v := .pointer A) (by rw [hg3]; exact HB3.out.size))
         clear hg3 hb3 hB4)
      | ((with_reducible refine gate_dst (N := 5) rfl ?_)
         refine box_event ?hg (N := 5) ?hd (cs := #[.int .i64 0]) (t := 3) ?hr ?_; (case hd => rfl); (case hg => rfl); (case hr => first | (go_simp; done) | (go_simp; rfl)); intro gb5 hg5 w5 hb5 hB5
         have Y5 := Aside0.mk hb5
         have y5_ : w5.cell? ⟨gb5, 0, none⟩ = some (.int .i64 0) := (blk_cell hb5 0).trans rfl
         have f5_ := blk_frozen hb5 0
         have Y3 := Aside0.mk ((hB5.block gb3 (Array.getElem?_eq_some_iff.1 Z3.out).1).trans Z3.out)
         have Y1 := Aside0.mk ((hB5.block gb1 (Array.getElem?_eq_some_iff.1 Z1.out).1).trans Z1.out)
         have YR := Aside0.mk (Kd.R_below ZR.out hB5)
         have YB := Aside0.mk (below_step ZB.out hB5)
         have YG := Aside0.mk (show w.heap.size ≤ gb5 from by rw [hg5]; exact ZB.out.size)
         have YN := Aside0.mk (show gb3 ≠ gb5 ∧ gb1 ≠ gb5 from ⟨Nat.ne_of_lt (by rw [hg5]; exact (Array.getElem?_eq_some_iff.1 Z3.out).1), Nat.ne_of_lt (by rw [hg5]; exact (Array.getElem?_eq_some_iff.1 Z1.out).1)⟩)
         clear hg5 hb5 hB5))
    go_loopg [6] k (fun kq v6 w' => ∃ (m x6 : Int), v6 = .int .i64 x6 ∧ Aside0 (deepL kq tl a0_0 m x6 = some M) ∧ Aside0 (kq ≤ k) ∧ Aside0 (w'.heap[gb1]? = some (.cells #[.int .i64 a0_0, .string a0_1] 25 (0, 0))) ∧ Aside0 (w'.heap[gb3]? = some (.cells #[.pointer A] 77 (0, 0))) ∧ Aside0 (w'.heap[gb5]? = some (.cells #[.int .i64 m] 3 (0, 0))) ∧ Aside0 (Kd.R (Kd.int .i64) 93 w' w.heap.size (fun _ => True) (.slice A tl.length c) tl) ∧ Aside0 (Below w.heap.size w w'))
    case atStart => exact ⟨0, 0, rfl, HL, ⟨Nat.le_refl _⟩, ⟨blk_far Y1.out (p := ⟨gb5, 0, none⟩) YN.out.2 _⟩, ⟨blk_far Y3.out (p := ⟨gb5, 0, none⟩) YN.out.1 _⟩, ⟨blk_put Y5.out 0 (.int .i64 0) rfl⟩, ⟨Kd.R_set YR.out Y5.out (by decide) 0 _⟩, ⟨below_set YB.out YG.out⟩⟩
    case round =>
      clear HL Y1 Y3 Y5 YR YB Z1 Z3 ZR ZB BX1 BY1 HR HB1 HB3 y5_ f5_ y3_ f3_
      obtain ⟨m, x6, rfl, HA, HK1, Y1, Y3, Y5, YR, YB⟩ := hrel
      have y1_ : wr.cell? ⟨gb1, 0, none⟩ = some (.int .i64 a0_0) := (blk_cell Y1.out 0).trans rfl
      have y3_ : wr.cell? ⟨gb3, 0, none⟩ = some (.pointer A) := (blk_cell Y3.out 0).trans rfl
      have y5_ : wr.cell? ⟨gb5, 0, none⟩ = some (.int .i64 m) := (blk_cell Y5.out 0).trans rfl
      have f5_ := blk_frozen Y5.out 0
      cases gk with
      | zero => exact absurd HA.out (by simp [deepL])
      | succ k1 =>
        have H := HA.out
        clear HA
        unfold deepL at H
        by_cases c1 : x6 < a0_0
        · rw [if_pos c1] at H
          have c1b : decide (x6 < a0_0) = true := decide_eq_true c1
          clear c1
          obtain ⟨d, hd, H⟩ := Option.bind_eq_some_iff.mp H
          have HD := Aside0.mk hd
          have H' := Aside0.mk H
          clear hd H
          have HCN : Aside0 (∀ n : Nat, Kd.C (Kd.int .i64) (wr.drewN n) A tl.length tl) := ⟨fun n => Kd.C_below (Kd.R_reads' YR.out).2.2 (pw_below_drewN (Below.refl _ _) n)⟩
          have HLC := Aside0.mk (Kd.R_reads' YR.out).2.1
          go_wp2
          have n35_ := YN.out.1
          have n53_ := Ne.symm YN.out.1
          go_region_with (first | (go_at_call 73; refine (impl_chi_depth.calls k1 A c tl x6 d _ (HCN.out _) HLC.out HD.out).mono ?_; rintro e w' ⟨rfl, ⟨nd, rfl⟩⟩))
          all_goals (try go_wp2)
          all_goals
            go_roundg k1
            case measure => have := HK1.out; omega
            case rel => exact ⟨mx m d, wrap64 (x6 + 1), (by first | rfl | (simp; done)), H', ⟨by have := HK1.out; omega⟩, ⟨blk_far (w := wr.drewN _) (p := ⟨gb5, 0, none⟩) Y1.out YN.out.2 _⟩, ⟨blk_far (w := wr.drewN _) (p := ⟨gb5, 0, none⟩) Y3.out YN.out.1 _⟩, ⟨(blk_put (w := wr.drewN _) Y5.out 0 _ rfl).trans (by first | rfl | (unfold mx; rw [if_pos (by omega)]; rfl) | (unfold mx; rw [if_neg (by omega)]; rfl))⟩, ⟨Kd.R_set (w := wr.drewN _) (Kd.R_drewN YR.out _) Y5.out (by decide) 0 _⟩, ⟨below_set (pw_below_drewN YB.out _) YG.out⟩⟩
        · rw [if_neg c1] at H
          have c1b : decide (x6 < a0_0) = false := decide_eq_false c1
          clear c1
          obtain rfl := Option.some.inj H
          clear H
          go_wp2_with (first
            | (go_at_call 75; refine (impl_upTo.calls k a0_0 u _ HU.out).mono ?_; rintro e w7 ⟨v7, rfl, ho, hb⟩; obtain ⟨g, cap, cur, rfl, hgb, hok_, hcur, hlc, hcm, hcs, hj⟩ := row_blk ho HG.out.2.1; have GB := Aside0.mk hgb; have CUR := Aside0.mk hcur; have LC := Aside0.mk hlc; have CM := Aside0.mk hcm; have CS := Aside0.mk hcs; have CJ := Aside0.mk hj; have HB7 := Aside0.mk hb; clear ho hb hgb hcur hlc hcm hcs hj hok_ y1_ y3_ y5_ f5_)
            | (go_at_call 74
               have h3_ := (HB7.out.block gb3 (Array.getElem?_eq_some_iff.1 Y3.out).1).trans Y3.out
               have h5_ := (HB7.out.block gb5 (Array.getElem?_eq_some_iff.1 Y5.out).1).trans Y5.out
               have hC7_ := Kd.C_below (Kd.R_reads' YR.out).2.2 HB7.out
               have hgb_ := GB.out
               have hn3_ : gb3 ≠ g := by have := (Array.getElem?_eq_some_iff.1 Y3.out).1; omega
               have hn5_ : gb5 ≠ g := by have := (Array.getElem?_eq_some_iff.1 Y5.out).1; omega
               have hC8_ : ∀ n os dk, Kd.C (Kd.int .i64) (Sort.grow (Sort.putRow (fun x : Fin 7 => Value.int .i64 (x.val : Nat)) (Sort.ahead w7 n) g 0 dk) os) A tl.length tl := fun n os dk => Kd.C_below (Kd.R_reads' YR.out).2.2 (HB7.out.trans (put_below (base := wr.heap.size) (fun x : Fin 7 => Value.int .i64 (x.val : Nat)) w7 n g 0 dk os hgb_ (Array.getElem?_eq_some_iff.1 CUR.out).1))
               have hw7_ := below_step YB.out HB7.out
               have hsz_ := YB.out.size
               have hd_ := delD_calls k tl u m A c gb3 gb5 g cap cur w7 HG.out hC7_ (Kd.R_reads' YR.out).2.1 hC8_ CUR.out CJ.out CS.out LC.out CM.out h3_ h5_ hn3_ hn5_
               rw [HRR.out] at hd_
               refine hd_.mono ?_
               rintro e w8 ⟨rfl, ⟨cur8, hc8, hs8, hj8⟩, hb8⟩
               have CUR8 := Aside0.mk hc8; have CS8 := Aside0.mk hs8; have CJ8 := Aside0.mk hj8
               have HB8 := Aside0.mk (hw7_.trans (hb8 w.heap.size (by omega)))
               have HGB := Aside0.mk (show w.heap.size ≤ g from by omega)
               have HLE := Aside0.mk (show r.length ≤ cap from by rw [← HRR.out]; exact Nat.le_trans (List.length_filter_le _ _) LC.out)
               clear hc8 hs8 hj8 hb8 hd_ hw7_ hC8_ hC7_ h3_ h5_ hgb_ hn3_ hn5_ hsz_))
          go_ret
          exact ⟨_, rfl, blk_row (enc := Value.int .i64) (h1 := fun _ => rfl) (xs := r) (base := w.heap.size) (ok := fun _ => True) HGB.out trivial CUR8.out HLE.out CM.out CS8.out CJ8.out, HB8.out⟩
end Go.Proofs.Yteblnjoljbdjjaa.P
