/- What the law FnExactTypesOf reaches, part 6: functions as plain Lean functions with the proofs that their calls come to them, and plain lemmas over these. Put together by a program (wip/pack.py). -/
import Derived.Test.YtoajlmlobaccdaaKFnExactTypesOfd
import Derived.Test.YtoajlmlobaccdaaKFnExactTypesOfc
import Derived.Test.YtoajlmlobaccdaaKFnExactTypesOfe
import Derived.Sort.Grow
import Derived.Shelf.SortM.Plain
import Derived.Shelf.SortM.SortNone
import Derived.Shelf.SlicesG.CompactS
namespace Go.Proofs.Ytoajlmlobaccdaa.P
open Go.RowKit Go.Proofs.YtoajlmlobaccdaaW.PrintWords Go.Proofs.YtoajlmlobaccdaaW.PrintLast Go.Proofs.YtoajlmlobaccdaaW.PrintMore
attribute [local go_sem] ptrOf_slice
attribute [local go_sem] min2_str max2_int min2_int max_two min_two max_three min_three max_four min_four
set_option linter.unusedVariables false
set_option linter.unusedSimpArgs false
def slices_Index_Sint_int.l0 : Nat → List Int → Int → Int → Int → Option (Int)
 | 0, _, _, _, _ => none
 | k + 1, x0, x1, x7, x8 => if x8 < x7 then (if 0 ≤ x8 then (if x8 < (x0.length : Int) then (if x1 = (rd x0 x8) then (some x8) else (slices_Index_Sint_int.l0 k x0 x1 x7 (wrap64 (x8 + 1)))) else (none)) else (none)) else (some (-1))
def slices_Index_Sint_int.f (k : Nat) (l0 : List Int) (a1 : Int) : Option (Int) := slices_Index_Sint_int.l0 k l0 a1 (l0.length : Int) 0
set_option maxHeartbeats 8000000 in
set_option maxRecDepth 100000 in
theorem slices_Index_Sint_int.calls (k : Nat) (A0 : Option Addr) (c0 : Nat) (l0 : List Int) (a1 : Int) (r : Int) (w : World) (hr0 : Kd.C (Kd.int .i64) w A0 l0.length l0) (hc0 : l0.length ≤ c0) (h : slices_Index_Sint_int.f k l0 a1 = some r) :
  Calls Try.prog 188 #[.slice A0 l0.length c0, .int .i64 a1] w fun e w' => e = .returned (.int .i64 r) ∧ Drawn0 w w' := by
 have HR0 := am_ hr0; have HC0 := am_ hc0; clear hr0 hc0; have H : (slices_Index_Sint_int.l0 k l0 a1 (l0.length : Int) 0) = some r := h; clear h; have H' := am_ H; clear H; go_enter Try.func188, Try.ntmps188
 go_wp2; go_loopg [8] k (fun kq v8 w' => ∃ (x8_1 : Int), v8 = .int .i64 x8_1 ∧ Aside0 (slices_Index_Sint_int.l0 kq l0 a1 (l0.length : Int) x8_1 = some r) ∧ Aside0 (kq ≤ k) ∧ Drawn0 w w')
 case atStart => exact ⟨(0), vt_, H', ⟨Nat.le_refl _⟩, dr_⟩
 case round =>
  clear H'; obtain ⟨x8_1, rfl, HA, HK1, ⟨m1, rfl⟩⟩ := hrel; cases gk with
  | zero => exact absurd HA.out (by simp [slices_Index_Sint_int.l0])
  | succ k1 =>
   have H := HA.out; clear HA; simp only [slices_Index_Sint_int.l0] at H
   by_cases c3 : x8_1 < (l0.length : Int)
   ·rw [if_pos c3] at H; have c3b0 := decide_eq_true c3; clear c3; by_cases c4 : 0 ≤ x8_1
    ·rw [if_pos c4] at H; have c4b0 := decide_eq_true c4; clear c4; by_cases c5 : x8_1 < (l0.length : Int)
     ·rw [if_pos c5] at H; have c5b0 := decide_eq_true c5; clear c5; by_cases c6 : a1 = (rd l0 x8_1)
      ·rw [if_pos c6] at H; obtain ⟨c6b0, c6b1⟩ := eqT_ c6; clear c6; obtain rfl := Option.some.inj H; have p435 : 0 ≤ (x8_1 : Int) := oda_; have q435 : x8_1 < (l0.length : Int) := oda_; obtain ⟨ad435, e435, hx435_0⟩ := Kd.at_int HR0.out x8_1 p435 q435; cases e435; replace p435 := eq_true p435; replace q435 := eq_true q435; go_wp2; go_ret; exact ⟨by first | rfl | (simp; done) | (simp [*]; done), dr_⟩
      ·rw [if_neg c6] at H; obtain ⟨c6b0, c6b1⟩ := eqF_ c6; have H' := am_ H; clear H; have p435 : 0 ≤ (x8_1 : Int) := oda_; have q435 : x8_1 < (l0.length : Int) := oda_; obtain ⟨ad435, e435, hx435_0⟩ := Kd.at_int HR0.out x8_1 p435 q435; cases e435; replace p435 := eq_true p435; replace q435 := eq_true q435; go_wp2; go_roundg k1
       case measure => have := HK1.out; omega
       case rel => exact ⟨(wrap64 (x8_1 + 1)), vt_, H', hl_ HK1, dr_⟩
     ·rw [if_neg c5] at H; exact absurd H (by simp)
    ·rw [if_neg c4] at H; exact absurd H (by simp)
   ·rw [if_neg c3] at H; have c3b0 := decide_eq_false c3; clear c3; obtain rfl := Option.some.inj H; go_wp2; go_ret; exact ⟨by first | rfl | (simp; done) | (simp [*]; done), dr_⟩
def slices_Contains_Sint_int.f (k : Nat) (l0 : List Int) (a1 : Int) : Option (Bool) := (slices_Index_Sint_int.f k l0 a1).bind fun t436 => (some (decide (t436 ≥ 0)))
set_option maxHeartbeats 8000000 in
set_option maxRecDepth 100000 in
theorem slices_Contains_Sint_int.calls (k : Nat) (A0 : Option Addr) (c0 : Nat) (l0 : List Int) (a1 : Int) (r : Bool) (w : World) (hr0 : Kd.C (Kd.int .i64) w A0 l0.length l0) (hc0 : l0.length ≤ c0) (h : slices_Contains_Sint_int.f k l0 a1 = some r) :
  Calls Try.prog 136 #[.slice A0 l0.length c0, .int .i64 a1] w fun e w' => e = .returned (.bool r) ∧ Drawn0 w w' := by
 have HR0 := am_ hr0; have HC0 := am_ hc0; clear hr0 hc0; have H : ((slices_Index_Sint_int.f k l0 a1).bind fun t436 => (some (decide (t436 ≥ 0)))) = some r := h; clear h; obtain ⟨t436, A3, H⟩ := bnd_ H; obtain rfl := Option.some.inj H; go_enter Try.func136, Try.ntmps136
 go_wp2_with (first | ((with_reducible refine gc_ 188 rfl ?_); refine gL_ (some 7) Try.func188 #[.slice A0 l0.length c0, .int .i64 a1] ?_; (with_reducible refine (slices_Index_Sint_int.calls k _ _ l0 a1 t436 _ ?side1 ?side2 A3.out).mono ?_); (case side1 => repeat (first | exact HR0.out | (with_reducible refine Kd.C_alloc ?_ _) | (with_reducible refine Kd.C_drewN ?_ _) | (with_reducible refine Kd.C_drew ?_))); (case side2 => exact HC0.out); rintro e w' ⟨rfl, ⟨nd, rfl⟩⟩; refine ⟨_, rfl, ?_⟩))
 go_ret; exact ⟨by first | rfl | (simp; done) | (simp [*]; done), dr_⟩
mutual
def impl_allNames.l0 : Nat → Int → List (List Int) → Int → Option ((List (List Int)))
 | 0, _, _, _ => none
 | k + 1, x0, x3, x4 => if x4 < x0 then (impl_allNames.l1 k x0 x4 ([] : List (List Int)) x3 (x3.length : Int) 0) else (some x3)
def impl_allNames.l1 : Nat → Int → Int → List (List Int) → List (List Int) → Int → Int → Option ((List (List Int)))
 | 0, _, _, _, _, _, _ => none
 | k + 1, x0, x4, x5, x15, x16, x17 => if x17 < x16 then (if 0 ≤ x17 then (if x17 < (x15.length : Int) then (impl_allNames.l2 k x0 x4 x5 (rd_L1 x15 x17) 0 x15 x16 x17) else (none)) else (none)) else (impl_allNames.l0 k x0 x5 (wrap64 (x4 + 1)))
def impl_allNames.l2 : Nat → Int → Int → List (List Int) → List Int → Int → List (List Int) → Int → Int → Option ((List (List Int)))
 | 0, _, _, _, _, _, _, _, _ => none
 | k + 1, x0, x4, x5, x7, x8, x15, x16, x17 => if x8 < x0 then ((slices_Contains_Sint_int.f k x7 x8).bind fun t441 => (if t441 = true then (impl_allNames.l2 k x0 x4 x5 x7 (wrap64 (x8 + 1)) x15 x16 x17) else ((slices_Clone_Sint_int.f x7).bind fun t442 => (if t442.length < 17592186044416 then (if x5.length < 5864062014805 then (impl_allNames.l2 k x0 x4 (x5 ++ [(t442 ++ [x8])]) x7 (wrap64 (x8 + 1)) x15 x16 x17) else (none)) else (none))))) else (impl_allNames.l1 k x0 x4 x5 x15 x16 (wrap64 (x17 + 1)))
end
def impl_allNames.f (k : Nat) (a0 : Int) : Option ((List (List Int))) := impl_allNames.l0 k a0 (([[]] : List (List Int))) 0
set_option maxHeartbeats 8000000 in
set_option maxRecDepth 100000 in
theorem impl_allNames.calls (k : Nat) (a0 : Int) (r : List (List Int)) (w : World) (h : impl_allNames.f k a0 = some r) :
  Calls Try.prog 198 #[.int .i64 a0] w fun e w' => ∃ v0_ : Value, e = .returned (v0_) ∧ Kd.S (Kd.slice 3 (Kd.int .i64)) 34 w' w.heap.size (fun _ => True) v0_ r ∧ Below w.heap.size w w' := by
 have HB := am_ (Below.refl w.heap.size w); have H : (impl_allNames.l0 k a0 (([[]] : List (List Int))) 0) = some r := h; clear h; obtain ⟨y437, hy437⟩ : ∃ y_ : List (List Int), y_ = (([[]] : List (List Int))) := ⟨_, rfl⟩; replace H : (impl_allNames.l0 k a0 y437 0) = some r := yH_ hy437 H; have Ny437 := am_ hy437; clear hy437; have H' := am_ H; clear H; go_enter Try.func198, Try.ntmps198
 go_wp2_with (first | ((with_reducible refine gd_ 9 rfl ?_); refine Kd.S_lit (Kd.slice 3 (Kd.int .i64)) _ 34 ?hg (N := 9) ?hd (xs := ([[]] : List (List Int))) (inner := [.slice none 0 0]) (ok := fun _ => True) (okp := fun _ => True) ?hr ?hp (fun _ hk => hk) trivial (Below.refl _ _) (Nat.le_refl _) (by simp) ?_; (case hd => rfl); (case hg => rfl); (case hr => first | (go_simp; done) | (go_simp; rfl)); (case hp => exact (Reps.one (show Kd.M (Kd.slice 3 (Kd.int .i64)) _ _ _ [] [.slice none 0 0] from ⟨_, rfl, Kd.R_nil _ _ _ _ _⟩) (Reps.none _ _))); intro v438 w2 ho3 hb hg_ hnew_; clear hg_ hnew_; (first | rw [← Ny437.out] at ho3 | (simp only [Int.reduceToNat] at ho3; rw [← Ny437.out] at ho3)); have HO439 := am_ (Kd.S_lower ho3 (below_size (bx0 HB.out))); replace HB := bs0_ HB hb; clear hb ho3))
 go_loopg [3, 4] k (fun kq v3 v4 w' => ∃ (x3_1 : List (List Int)) (x4_1 : Int), v4 = .int .i64 x4_1 ∧ Aside0 (impl_allNames.l0 kq a0 x3_1 x4_1 = some r) ∧ Aside0 (kq ≤ k) ∧ Aside0 (Kd.S (Kd.slice 3 (Kd.int .i64)) 34 w' w.heap.size (fun _ => True) v3 x3_1) ∧ Aside0 (Below w.heap.size w w'))
 case atStart => exact ⟨(y437), (0), vt_, H', ⟨Nat.le_refl _⟩, ⟨sx_ HO439.out⟩, bX0_ HB⟩
 case round =>
  clear H'; obtain ⟨x3_1, x4_1, rfl, HA, HK1, HO_3, HB⟩ := hrel; cases gk with
  | zero => exact absurd HA.out (by simp [impl_allNames.l0])
  | succ k1 =>
   have H := HA.out; clear HA; simp only [impl_allNames.l0] at H
   by_cases c4 : x4_1 < a0
   ·rw [if_pos c4] at H; have c4b0 := decide_eq_true c4; clear c4; have H' := am_ H; clear H; obtain ⟨Ao5, co5, eo5⟩ := Kd.S_slice HO_3.out; subst eo5; go_wp2; go_loopg [5, 17] k1 (fun kq v5 v17 w' => ∃ (x5_2 : List (List Int)) (x17_2 : Int), v17 = .int .i64 x17_2 ∧ Aside0 (impl_allNames.l1 kq a0 x4_1 x5_2 x3_1 (x3_1.length : Int) x17_2 = some r) ∧ Aside0 (kq ≤ k1) ∧ Aside0 (Kd.S (Kd.slice 3 (Kd.int .i64)) 34 w' w.heap.size (fun k_ => some k_ ≠ ((.slice Ao5 x3_1.length co5) : Value).ownBlock) v5 x5_2) ∧ Aside0 (Kd.S (Kd.slice 3 (Kd.int .i64)) 34 w' w.heap.size (fun k_ => some k_ ≠ (v5 : Value).ownBlock) (.slice Ao5 x3_1.length co5) x3_1) ∧ Aside0 (Below w.heap.size w w'))
    case atStart => exact ⟨(([] : List (List Int))), (0), vt_, H', ⟨Nat.le_refl _⟩, ⟨by first | exact Kd.S_nil _ _ _ _ _ | exact Kd.N_nil _ _ _ _ _ | exact Kd.V_nil _ _ _ _ _ | exact Kd.Q_nil _ _ _ _ _ | exact Kd.R_nil _ _ _ _ _⟩, ⟨by refine sx_ ?_; exact Kd.S_mono HO_3.out (fun _ hk => (by simp [Value.ownBlock]))⟩, bX0_ HB⟩
    case round =>
     clear H'; try clear c4b0
     obtain ⟨x5_2, x17_2, rfl, HA, HK2, HO_5, HO_15, HB⟩ := hrel; cases gk with
     | zero => exact absurd HA.out (by simp [impl_allNames.l1])
     | succ k2 =>
      have H := HA.out; clear HA; simp only [impl_allNames.l1] at H
      by_cases c6 : x17_2 < (x3_1.length : Int)
      ·rw [if_pos c6] at H; have c6b0 := decide_eq_true c6; clear c6; by_cases c7 : 0 ≤ x17_2
       ·rw [if_pos c7] at H; have c7b0 := decide_eq_true c7; clear c7; by_cases c8 : x17_2 < (x3_1.length : Int)
        ·rw [if_pos c8] at H; have c8b0 := decide_eq_true c8; clear c8; have H' := am_ H; clear H; have p440 : 0 ≤ (x17_2 : Int) := oda_; have q440 : x17_2 < (x3_1.length : Int) := oda_; obtain ⟨ad440, A440_0, c440_0, e440, hx440_0, hl440_0, hi440_0⟩ := at_L1 (Kd.S_reads' HO_15.out).2.2 x17_2 p440 q440; cases e440; obtain ⟨ce440, hce440, hMe440, hcc440⟩ := Kd.S_get HO_15.out [] x17_2 p440 (by first | exact q440 | exact oda_ | (have e_ := (Kd.S_reads' HO_15.out).1; omega)); obtain ⟨ve440_0, rfl, ge440_0⟩ := hMe440; have hv440_0 := hcc440 0 _ rfl; rw [Nat.add_zero, show ((Kd.slice 3 (Kd.int .i64))).sz = 1 from rfl, Nat.mul_one] at hv440_0; replace hv440_0 := Option.some.inj (hv440_0.symm.trans hx440_0); rw [hv440_0] at ge440_0; have HL440_0 := am_ (show Kd.R (Kd.int .i64) 3 _ _ _ _ (rd_L1 x3_1 x17_2) from ge440_0); clear hv440_0 ge440_0; clear hcc440 hce440; have HR440_0 := am_ hi440_0; have HC440_0 := am_ hl440_0; clear hi440_0 hl440_0; replace p440 := eq_true p440; replace q440 := eq_true q440; go_wp2; go_loopg [5, 8] k2 (fun kq v5 v8 w' => ∃ (x5_3 : List (List Int)) (x8_3 : Int), v8 = .int .i64 x8_3 ∧ Aside0 (impl_allNames.l2 kq a0 x4_1 x5_3 (rd_L1 x3_1 x17_2) x8_3 x3_1 (x3_1.length : Int) x17_2 = some r) ∧ Aside0 (kq ≤ k2) ∧ Aside0 (Kd.S (Kd.slice 3 (Kd.int .i64)) 34 w' w.heap.size (fun k_ => some k_ ≠ ((.slice (some ad440) x3_1.length co5) : Value).ownBlock) v5 x5_3) ∧ Aside0 (Kd.R (Kd.int .i64) 3 w' w.heap.size (fun _ => True) (.slice A440_0 (rd_L1 x3_1 x17_2).length c440_0) (rd_L1 x3_1 x17_2)) ∧ Aside0 (Kd.S (Kd.slice 3 (Kd.int .i64)) 34 w' w.heap.size (fun k_ => some k_ ≠ (v5 : Value).ownBlock) (.slice (some ad440) x3_1.length co5) x3_1) ∧ Aside0 (Below w.heap.size w w'))
         case atStart => exact ⟨(x5_2), (0), vt_, H', ⟨Nat.le_refl _⟩, ⟨sx_ HO_5.out⟩, ⟨by refine rx_ ?_; exact Kd.R_mono HL440_0.out (fun _ hk => trivial)⟩, ⟨sx_ HO_15.out⟩, bX0_ HB⟩
         case round =>
          clear H'; try clear c4b0 c6b0 c7b0 c8b0 hx440_0 p440 q440
          obtain ⟨x5_3, x8_3, rfl, HA, HK3, HO_5, HO_7, HO_15, HB⟩ := hrel; cases gk with
          | zero => exact absurd HA.out (by simp [impl_allNames.l2])
          | succ k3 =>
           have H := HA.out; clear HA; simp only [impl_allNames.l2] at H
           by_cases c9 : x8_3 < a0
           ·rw [if_pos c9] at H; have c9b0 := decide_eq_true c9; clear c9; obtain ⟨t441, A10, H⟩ := bnd_ H; by_cases c11 : t441 = true
            ·subst c11; replace H := ifT_ H; have H' := am_ H; clear H; go_wp2_with (first | ((with_reducible refine gc_ 136 rfl ?_); refine gL_ (some 28) Try.func136 #[.slice A440_0 (rd_L1 x3_1 x17_2).length c440_0, .int .i64 x8_3] ?_; (with_reducible refine (slices_Contains_Sint_int.calls k3 _ _ (rd_L1 x3_1 x17_2) x8_3 true _ ?side1 ?side2 A10.out).mono ?_); (case side1 => exact cR_ HO_7); (case side2 => exact (Kd.R_reads' HO_7.out).2.1); rintro e w' ⟨rfl, ⟨nd, rfl⟩⟩; refine ⟨_, rfl, ?_⟩))
             go_roundg k3
             case measure => have := HK1.out; have := HK2.out; have := HK3.out; omega
             case rel => exact ⟨(x5_3), (wrap64 (x8_3 + 1)), vt_, H', hl3_ HK1 HK2 HK3, ⟨sx_ HO_5.out⟩, rX_ HO_7, ⟨sx_ HO_15.out⟩, bX0_ HB⟩
            ·replace c11 := Bool.eq_false_iff.mpr c11; subst c11; replace H := ifF_ H; obtain ⟨t442, A12, H⟩ := bnd_ H; by_cases c13 : t442.length < 17592186044416
             ·rw [if_pos c13] at H; have LMc13 := am_ c13; clear c13; obtain ⟨y445, hy445⟩ : ∃ y_ : List Int, y_ = (t442 ++ [x8_3]) := ⟨_, rfl⟩; replace H : (if x5_3.length < 5864062014805 then (impl_allNames.l2 k3 a0 x4_1 (x5_3 ++ [y445]) (rd_L1 x3_1 x17_2) (wrap64 (x8_3 + 1)) x3_1 (x3_1.length : Int) x17_2) else (none)) = some r := yH_ hy445 H; have Ny445 := am_ hy445; clear hy445; by_cases c14 : x5_3.length < 5864062014805
              ·rw [if_pos c14] at H; have LMc14 := am_ c14; clear c14; obtain ⟨y448, hy448⟩ : ∃ y_ : List (List Int), y_ = (x5_3 ++ [y445]) := ⟨_, rfl⟩; replace H : (impl_allNames.l2 k3 a0 x4_1 y448 (rd_L1 x3_1 x17_2) (wrap64 (x8_3 + 1)) x3_1 (x3_1.length : Int) x17_2) = some r := yH_ hy448 H; have Ny448 := am_ hy448; clear hy448; have H' := am_ H; clear H; go_wp2_with (first | ((with_reducible refine gc_ 136 rfl ?_); refine gL_ (some 28) Try.func136 #[.slice A440_0 (rd_L1 x3_1 x17_2).length c440_0, .int .i64 x8_3] ?_; (with_reducible refine (slices_Contains_Sint_int.calls k3 _ _ (rd_L1 x3_1 x17_2) x8_3 false _ ?side1 ?side2 A10.out).mono ?_); (case side1 => exact cR_ HO_7); (case side2 => exact (Kd.R_reads' HO_7.out).2.1); rintro e w' ⟨rfl, ⟨nd, rfl⟩⟩; refine ⟨_, rfl, ?_⟩) | ((with_reducible refine gc_ 112 rfl ?_); refine gL_ (some 32) Try.func112 #[.slice A440_0 (rd_L1 x3_1 x17_2).length c440_0] ?_; (with_reducible refine (slices_Clone_Sint_int.calls _ _ (rd_L1 x3_1 x17_2) t442 _ ?side1 ?side2 A12.out).mono ?_); (case side1 => exact cR_ HO_7); (case side2 => exact (Kd.R_reads' HO_7.out).2.1); rintro e w15 ⟨v443, rfl, ho0, hb⟩; refine ⟨_, rfl, ?_⟩; replace HO_5 := am_ (Kd.S_elder' (sx_ HO_5.out) (Kd.R_base ho0) hb); replace HO_15 := am_ (Kd.S_elder' (sx_ HO_15.out) (Kd.R_base ho0) hb); have HO444 := am_ (Kd.R_lower (Kd.R_new' ho0 (Kd.R_lt (rx_ HO_7.out))) (below_size (bx0 HB.out))); replace HO_7 := re_ HO_7 ho0 hb; replace HB := bs0_ HB hb; try clear hb; (try clear ho0)) | ((with_reducible refine gate_builtin (b := .append) (xs := #[.tmp 32, .tmp 34]) rfl ?_); at_builtin; refine Kd.R_append (Kd.int .i64) (w0 := w) w.heap.size rfl (.tmp 32) (.tmp 34) 34 3 (.int .i64 0) 8 rfl Try.underlying34 info3 rfl (by decide) (by omega) v443 t442 x8_3 [.int .i64 x8_3] (fun k_ => some k_ ≠ (.slice A440_0 (rd_L1 x3_1 x17_2).length c440_0 : Value).ownBlock) (fun _ => False) rfl rfl ?aP (fun _ hk => hk.elim) ?aF ?aO ?aB ?aS ?aL ?_; (case aP => exact rfl); (case aB => exact (bx0 HB.out)); (case aF => exact (fun k_ hk => Kd.fresh' (Kd.R_lt (rx_ HO_7.out)) k_ hk)); (case aO => exact (by refine rx_ ?_; exact Kd.R_mono HO444.out (fun _ hk => hk.2))); (case aS => exact (below_size (bx0 HB.out))); (case aL => have := LMc13.out; omega); intro v446 w16 ho hb hg hat; rw [← Ny445.out] at ho; replace HO_5 := am_ (Kd.S_after (ok := (fun k_ => some k_ ≠ (.slice (some ad440) x3_1.length co5 : Value).ownBlock)) (by refine sx_ ?_; first | exact HO_5.out | exact Kd.R_len HO_5.out) hg hat); replace HO_7 := am_ (Kd.R_after (ok := (fun _ => True)) (by refine rx_ ?_; first | exact HO_7.out | exact Kd.R_len HO_7.out) hg hat); replace HO_15 := am_ (Kd.S_after (ok := (fun k_ => some k_ ≠ (u5 : Value).ownBlock)) (by refine sx_ ?_; first | exact HO_15.out | exact Kd.R_len HO_15.out) hg hat); replace HB := am_ hb; have HO447 := am_ ho; clear HO444; clear ho hb hg hat; obtain ⟨Ao18, co18, eo18⟩ := Kd.R_slice HO447.out; subst eo18) | ((with_reducible refine gate_builtin (b := .append) (xs := #[.tmp 30, .tmp 36]) rfl ?_); at_builtin; refine Kd.S_append (Kd.slice 3 (Kd.int .i64)) (w0 := w) w.heap.size rfl (.tmp 30) (.tmp 36) 39 34 (.slice none 0 0) 24 rfl Try.underlying39 info34 rfl (by decide) (by omega) u5 x5_3 y445 [.slice Ao18 y445.length co18] (fun k_ => some k_ ≠ (.slice (some ad440) x3_1.length co5 : Value).ownBlock) (fun k_ => some k_ = (.slice Ao18 y445.length co18 : Value).ownBlock) rfl rfl ?aP (fun k_ hk_ => ((Kd.R_mono (ok' := fun k_ => ((fun k_ => some k_ ≠ (.slice (some ad440) x3_1.length co5 : Value).ownBlock)) k_ ∧ some k_ ≠ (u5 : Value).ownBlock) (Kd.R_apart' (Kd.R_apart' (HO447.out) (Kd.S_typed HO_15.out) (by decide)) (Kd.S_typed HO_5.out) (by decide)) (fun k_ hk => ⟨hk.1.2, hk.2⟩))).1 k_ hk_.symm) ?aF ?aO ?aB ?aS ?aL ?_; (case aP => exact Kd.M_row (Kd.R_mono (Kd.R_tight rfl (Kd.R_mono (ok' := fun k_ => ((fun k_ => some k_ ≠ (.slice (some ad440) x3_1.length co5 : Value).ownBlock)) k_ ∧ some k_ ≠ (u5 : Value).ownBlock) (Kd.R_apart' (Kd.R_apart' (HO447.out) (Kd.S_typed HO_15.out) (by decide)) (Kd.S_typed HO_5.out) (by decide)) (fun k_ hk => ⟨hk.1.2, hk.2⟩))) (fun _ h_ => h_))); (case aB => exact (bx0 HB.out)); (case aF => exact (fun k_ hk => Kd.fresh' (Kd.S_lt (sx_ HO_15.out)) k_ hk)); (case aO => exact (by refine sx_ ?_; exact Kd.S_mono HO_5.out (fun k_ hk => ⟨hk.1, fun e_ => hk.2 e_⟩))); (case aS => exact (below_size (bx0 HB.out))); (case aL => have := LMc14.out; omega); intro v449 w17 ho hb hg hat; rw [← Ny448.out] at ho; replace HO_7 := am_ (Kd.R_over' (rx_ HO_7.out) (Kd.S_typed (sx_ HO_5.out)) (by decide) hg); replace HO_15 := am_ (Kd.S_after (ok := (fun k_ => some k_ ≠ (.slice Ao18 y445.length co18 : Value).ownBlock)) (by refine sx_ ?_; exact Kd.S_mono HO_15.out (fun _ hk => ⟨hk.2, by first | exact hk.1 | exact Kd.ne_len hk.1⟩)) hg hat); replace HB := am_ hb; have HO450 := am_ ho; clear HO_5; clear HO447; clear ho hb hg hat))
               go_roundg k3
               case measure => have := HK1.out; have := HK2.out; have := HK3.out; omega
               case rel => exact ⟨(y448), (wrap64 (x8_3 + 1)), vt_, H', hl3_ HK1 HK2 HK3, ⟨sx_ HO450.out⟩, ⟨by refine rx_ ?_; exact Kd.R_mono HO_7.out (fun _ hk => trivial)⟩, ⟨by refine sx_ ?_; exact Kd.S_mono HO_15.out (fun _ hk => hk.2)⟩, bX0_ HB⟩
              ·rw [if_neg c14] at H; exact absurd H (by simp)
             ·rw [if_neg c13] at H; exact absurd H (by simp)
           ·rw [if_neg c9] at H; have c9b0 := decide_eq_false c9; clear c9; have H' := am_ H; clear H; go_wp2; go_roundg k3
            case measure => have := HK1.out; have := HK2.out; have := HK3.out; omega
            case rel => exact ⟨(x5_3), (wrap64 (x17_2 + 1)), vt_, H', hl3_ HK1 HK2 HK3, ⟨sx_ HO_5.out⟩, ⟨sx_ HO_15.out⟩, bX0_ HB⟩
        ·rw [if_neg c8] at H; exact absurd H (by simp)
       ·rw [if_neg c7] at H; exact absurd H (by simp)
      ·rw [if_neg c6] at H; have c6b0 := decide_eq_false c6; clear c6; have H' := am_ H; clear H; go_wp2; go_roundg k2
       case measure => have := HK1.out; have := HK2.out; omega
       case rel => exact ⟨(x5_2), (wrap64 (x4_1 + 1)), vt_, H', hl2_ HK1 HK2, ⟨by refine sx_ ?_; exact Kd.S_mono HO_5.out (fun _ hk => trivial)⟩, bX0_ HB⟩
   ·rw [if_neg c4] at H; have c4b0 := decide_eq_false c4; clear c4; obtain rfl := Option.some.inj H; go_wp2; go_ret; exact ⟨_, by first | rfl | (simp [errW_none, errW_some] <;> rfl) | (simp [*, errW_none, errW_some] <;> rfl), sx_ HO_3.out, bx0 HB.out⟩
def impl_chi_rename.l0 : Nat → List Int → List Int → List Int → List (S89) → Int → Int → Option (Int × ByteArray)
 | 0, _, _, _, _, _, _ => none
 | k + 1, x0, x1, x5, x18, x19, x20 => if x20 < x19 then (if 0 ≤ x20 then (if x20 < (x18.length : Int) then (if 0 ≤ ((rd_T89 x18 x20).f0) then (if ((rd_T89 x18 x20).f0) < (x1.length : Int) then (if 0 ≤ ((rd_T89 x18 x20).f1) then (if ((rd_T89 x18 x20).f1) < (x1.length : Int) then (if 0 ≤ ((rd_T89 x18 x20).f2) then (if ((rd_T89 x18 x20).f2) < (x1.length : Int) then (if 344 ≤ (x0.length : Int) then (if ((rd_T89 x18 x20).f0) < 7 then (if ((rd_T89 x18 x20).f1) < 7 then (if ((rd_T89 x18 x20).f2) < 7 then ((impl_chi_set.f x5 (rd x1 ((rd_T89 x18 x20).f0)) (rd x1 ((rd_T89 x18 x20).f1)) (rd x1 ((rd_T89 x18 x20).f2)) (chiA x0 ((rd_T89 x18 x20).f0) ((rd_T89 x18 x20).f1) ((rd_T89 x18 x20).f2))).bind fun t466 => (impl_chi_rename.l0 k x0 x1 t466 x18 x19 (wrap64 (x20 + 1)))) else (none)) else (none)) else (none)) else (none)) else (none)) else (none)) else (none)) else (none)) else (none)) else (none)) else (none)) else (none)) else ((impl_chi_signs.f k x5).bind fun bt467 => (some (bt467.1, bt467.2)))
def impl_chi_rename.f (k : Nat) (l0 : List Int) (l1 : List Int) : Option (Int × ByteArray) := if 344 ≤ (l0.length : Int) then ((impl_triplesOf.f k (chiN l0)).bind fun t457 => (impl_chi_rename.l0 k l0 l1 (chiNew (chiN l0)) t457 (t457.length : Int) 0)) else (none)
def impl_chi_rename.T5 : Bool × List (List Nat × List Nat) := (true, [([], []), ([], []), ([], []), ([2], [2]), ([1, 3], [1, 3]), ([4], [4]), ([], []), ([], []), ([7], [7]), ([6, 8], [6, 8]), ([9], [9]), ([], []), ([], []), ([12], [12]), ([11, 13], [11, 13]), ([14], [14]), ([], []), ([], []), ([17], [17]), ([], []), ([19], [19]), ([], []), ([21], [21]), ([16], [16]), ([23], [23]), ([24, 18], [18, 24]), ([25, 20], [20, 25]), ([26, 22], [22, 26]), ([27], [27]), ([0, 5, 10, 15, 28], [0, 5, 10, 15, 28])])
def impl_chi_rename.B5 : List Nat := [0, 0, 0, 4, 14, 30, 0, 0, 128, 448, 960, 0, 0, 4096, 14336, 30720, 0, 0, 131072, 0, 524288, 0, 2097152, 65536, 8454144, 25624576, 60751872, 134152192, 268369920, 536870911]
theorem impl_chi_rename.tab5 : rtab .any (opsOf Try.f199 5) = impl_chi_rename.T5 := by kernel_rfl
theorem impl_chi_rename.bits5 : waitsOk impl_chi_rename.T5.2 impl_chi_rename.B5 = true := by kernel_rfl
set_option maxHeartbeats 8000000 in
set_option maxRecDepth 100000 in
theorem impl_chi_rename.calls (k : Nat) (A0 : Option Addr) (c0 : Nat) (l0 : List Int) (A1 : Option Addr) (c1 : Nat) (l1 : List Int) (r1 : Int) (r2 : ByteArray) (w : World) (hr0 : Kd.C (Kd.int .i64) w A0 l0.length l0) (hc0 : l0.length ≤ c0) (hr1 : Kd.C (Kd.int .i64) w A1 l1.length l1) (hc1 : l1.length ≤ c1) (h : impl_chi_rename.f k l0 l1 = some (r1, r2)) :
  Calls Try.prog 199 #[.pointer A0, .slice A1 l1.length c1] w fun e w' => e = .returned (.agg #[.int .i64 r1, .string r2]) ∧ Below w.heap.size w w' := by
 have hu31 := Try.underlying31; have hu89 := Try.underlying89; have HR0 := am_ hr0; have HC0 := am_ hc0; clear hr0 hc0; have HR1 := am_ hr1; have HC1 := am_ hc1; clear hr1 hc1; have HB := am_ (Below.refl w.heap.size w); have H : (if 344 ≤ (l0.length : Int) then ((impl_triplesOf.f k (chiN l0)).bind fun t457 => (impl_chi_rename.l0 k l0 l1 (chiNew (chiN l0)) t457 (t457.length : Int) 0)) else (none)) = some (r1, r2) := h; clear h; by_cases c3 : 344 ≤ (l0.length : Int)
 ·rw [if_pos c3] at H; have c3b0 := eq_true c3; have c3b1 := decide_eq_true c3; clear c3; obtain ⟨y453, hy453⟩ : ∃ y_ : List Int, y_ = (chiNew (chiN l0)) := ⟨_, rfl⟩; replace H : ((impl_triplesOf.f k (chiN l0)).bind fun t457 => (impl_chi_rename.l0 k l0 l1 y453 t457 (t457.length : Int) 0)) = some (r1, r2) := yH_ hy453 H; have Ny453 := am_ hy453; clear hy453; obtain ⟨t457, A4, H⟩ := bnd_ H; have H' := am_ H; clear H; go_enter Try.func199, Try.ntmps199
  go_wp2_with (first | ((with_reducible refine gd_ 4 rfl ?_); refine be_ 4 #[.int .i64 0, .string (⟨#[]⟩ : ByteArray)] 31 ?_; intro gb451 hg w5 hbox hb; have BK451 := am_ hbox; have GW451 := gw0_ HB hg; have GE451 := GW451; replace HB := bs0_ HB hb; clear hb hbox hg; have q452 : 344 ≤ (l0.length : Int) := oda_; obtain ⟨ad452, e452, hx452_0⟩ := chi_n HR0.out q452; cases e452; replace hx452_0 := (HB.out.cell (World.block_lt_of_cell? w _ hx452_0)).trans hx452_0) | ((with_reducible refine gd_ 12 rfl ?_); refine chi_build (N := 12) ?hg ?hd (n := (chiN l0)) ?hr ?_; (case hd => rfl); (case hg => rfl); (case hr => first | (go_simp; done) | (go_simp; rfl))) | ((with_reducible refine gd_ 13 rfl ?_); refine chi_make _ 88 ?hg (N := 13) ?hd (n := (chiN l0)) (ok := fun _ => True) ?hr trivial (Below.refl _ _) (Nat.le_refl _) ?_; (case hd => rfl); (case hg => rfl); (case hr => first | (go_simp; done) | (go_simp; rfl)); intro v454 w6 ho7 hb hg_ hnew_; clear hg_ hnew_; (first | rw [← Ny453.out] at ho7 | (simp only [Int.reduceToNat] at ho7; rw [← Ny453.out] at ho7)); have HO455 := rl1_ ho7 HB GE451; replace BK451 := bb_ BK451 hb; replace HB := bs1_ HB hb GE451; clear hb ho7; have q456 : 344 ≤ (l0.length : Int) := oda_; obtain ⟨ad456, e456, hx456_0⟩ := chi_n HR0.out q456; obtain rfl : ad452 = ad456 := (by injection e456); replace hx456_0 := (HB.out.cell (World.block_lt_of_cell? w _ hx456_0)).trans hx456_0) | ((with_reducible refine gc_ 84 rfl ?_); refine gR_ (some 18) Try.func84 #[.int .i64 (chiN l0)] (impl_triplesOf.calls k (chiN l0) t457 _ A4.out) ?_; intro w8 v458 ho0 hb; replace HO455 := rb_ HO455 hb; have HO459 := rl1_ ho0 HB GE451; replace BK451 := bb_ BK451 hb; replace HB := bs1_ HB hb GE451; try clear hb; (try clear ho0); obtain ⟨Ao9, co9, eo9⟩ := Kd.R_slice HO459.out; subst eo9))
  go_loopg [20] k (fun kq v20 w' => ∃ (x5_1 : List Int) (x20_1 : Int), v20 = .int .i64 x20_1 ∧ Aside0 (impl_chi_rename.l0 kq l0 l1 x5_1 t457 (t457.length : Int) x20_1 = some (r1, r2)) ∧ Aside0 (kq ≤ k) ∧ Aside0 (Kd.R (Kd.int .i64) 88 w' w.heap.size (fun _ => True) v454 x5_1) ∧ Aside0 (Kd.R k89 89 w' w.heap.size (fun _ => True) (.slice Ao9 t457.length co9) t457) ∧ Aside0 (w'.heap[gb451]? = some (.cells #[.int .i64 0, .string (⟨#[]⟩ : ByteArray)] 31 (0, 0))) ∧ Aside0 (Below w.heap.size w w'))
  case atStart => exact ⟨(y453), (0), vt_, H', ⟨Nat.le_refl _⟩, rX_ HO455, rX_ HO459, kX_ BK451, bX1_ HB GE451⟩
  case round =>
   clear H'; try clear c3b0 c3b1 hx452_0 hx456_0 q452 q456
   obtain ⟨x5_1, x20_1, rfl, HA, HK1, HO_5, HO_18, BK451, HB⟩ := hrel; cases gk with
   | zero => exact absurd HA.out (by simp [impl_chi_rename.l0])
   | succ k1 =>
    have H := HA.out; clear HA; simp only [impl_chi_rename.l0] at H
    by_cases c10 : x20_1 < (t457.length : Int)
    ·rw [if_pos c10] at H; have c10b0 := decide_eq_true c10; clear c10; by_cases c11 : 0 ≤ x20_1
     ·rw [if_pos c11] at H; have c11b0 := decide_eq_true c11; clear c11; by_cases c12 : x20_1 < (t457.length : Int)
      ·rw [if_pos c12] at H; have c12b0 := decide_eq_true c12; clear c12; by_cases c13 : 0 ≤ ((rd_T89 t457 x20_1).f0)
       ·rw [if_pos c13] at H; have c13b0 := decide_eq_true c13; clear c13; by_cases c14 : ((rd_T89 t457 x20_1).f0) < (l1.length : Int)
        ·rw [if_pos c14] at H; have c14b0 := decide_eq_true c14; clear c14; by_cases c15 : 0 ≤ ((rd_T89 t457 x20_1).f1)
         ·rw [if_pos c15] at H; have c15b0 := decide_eq_true c15; clear c15; by_cases c16 : ((rd_T89 t457 x20_1).f1) < (l1.length : Int)
          ·rw [if_pos c16] at H; have c16b0 := decide_eq_true c16; clear c16; by_cases c17 : 0 ≤ ((rd_T89 t457 x20_1).f2)
           ·rw [if_pos c17] at H; have c17b0 := decide_eq_true c17; clear c17; by_cases c18 : ((rd_T89 t457 x20_1).f2) < (l1.length : Int)
            ·rw [if_pos c18] at H; have c18b0 := decide_eq_true c18; clear c18; by_cases c19 : 344 ≤ (l0.length : Int)
             ·rw [if_pos c19] at H; have c19b0 := eq_true c19; have c19b1 := decide_eq_true c19; clear c19; by_cases c20 : ((rd_T89 t457 x20_1).f0) < 7
              ·rw [if_pos c20] at H; have c20b0 := decide_eq_true c20; clear c20; by_cases c21 : ((rd_T89 t457 x20_1).f1) < 7
               ·rw [if_pos c21] at H; have c21b0 := decide_eq_true c21; clear c21; by_cases c22 : ((rd_T89 t457 x20_1).f2) < 7
                ·rw [if_pos c22] at H; have c22b0 := decide_eq_true c22; clear c22; obtain ⟨t466, A23, H⟩ := bnd_ H; have H' := am_ H; clear H; have p460 : 0 ≤ (x20_1 : Int) := oda_; have q460 : x20_1 < (t457.length : Int) := oda_; obtain ⟨ad460, e460, hx460_0, hx460_1, hx460_2⟩ := at_T89 (Kd.R_reads' HO_18.out).2.2 x20_1 p460 q460; cases e460; replace p460 := eq_true p460; replace q460 := eq_true q460; try go_wp2_with (first | ((with_reducible refine gd_ 7 rfl ?_); refine be_ 7 #[.int .i64 0, .int .i64 0, .int .i64 0] 89 ?_; intro gb461 hg w24 hbox hb; replace HO_5 := rb_ HO_5 hb; replace HO_18 := am_ (Kd.R_below (Kd.R_elderB (rx_ HO_18.out) gb461 (Nat.le_of_eq hg.symm)) hb); have BK461 := am_ hbox; have GW461 := gw1_ HB hg GE451; have GE461 := GW461; replace HB := bs1_ HB hb GE451; have NB451_461 := nl_ BK451 hg; have NB461_451 := ng_ BK451 hg; replace BK451 := bb_ BK451 hb; clear hb hbox hg; have hnb25 := NB461_451.out; have hnc25 := NB451_461.out; obtain ⟨hcz26_0, hfz26_0, hcz26_1, hfz26_1, hcz26_2, hfz26_2⟩ := bk3_ BK461))
                 have n0_ : Aside0 (Kd.R (Kd.int .i64) 88 (((w24.setCell ⟨gb461, 0, none⟩ (.int .i64 ((rd_T89 t457 x20_1).f0))).setCell ⟨gb461, 1, none⟩ (.int .i64 ((rd_T89 t457 x20_1).f1))).setCell ⟨gb461, 2, none⟩ (.int .i64 ((rd_T89 t457 x20_1).f2))) w.heap.size (fun _ => True) v454 x5_1) := ⟨by refine rx_ ?_; exact Kd.R_mono (Kd.R_far (p := ⟨gb461, 2, none⟩) (Kd.R_far (p := ⟨gb461, 1, none⟩) (Kd.R_far (p := ⟨gb461, 0, none⟩) (Kd.R_types HO_5.out BK461.out (by decide)) (fun _ hk => hk.2) (.int .i64 ((rd_T89 t457 x20_1).f0))) (fun _ hk => hk.2) (.int .i64 ((rd_T89 t457 x20_1).f1))) (fun _ hk => hk.2) (.int .i64 ((rd_T89 t457 x20_1).f2))) (fun _ hk => trivial)⟩; have n1_ : Aside0 (Kd.R k89 89 (((w24.setCell ⟨gb461, 0, none⟩ (.int .i64 ((rd_T89 t457 x20_1).f0))).setCell ⟨gb461, 1, none⟩ (.int .i64 ((rd_T89 t457 x20_1).f1))).setCell ⟨gb461, 2, none⟩ (.int .i64 ((rd_T89 t457 x20_1).f2))) w.heap.size (fun k_ => k_ ≠ gb461) (.slice (some ad460) t457.length co9) t457) := ⟨by refine rx_ ?_; exact Kd.R_mono (Kd.R_far (p := ⟨gb461, 2, none⟩) (Kd.R_far (p := ⟨gb461, 1, none⟩) (Kd.R_far (p := ⟨gb461, 0, none⟩) (Kd.R_mono HO_18.out (fun k_ hk => (⟨hk, hk.2⟩ : _ ∧ k_ ≠ gb461))) (fun _ hk => hk.2) (.int .i64 ((rd_T89 t457 x20_1).f0))) (fun _ hk => hk.2) (.int .i64 ((rd_T89 t457 x20_1).f1))) (fun _ hk => hk.2) (.int .i64 ((rd_T89 t457 x20_1).f2))) (fun _ hk => hk.1.2)⟩; have n2_ : Aside0 ((((w24.setCell ⟨gb461, 0, none⟩ (.int .i64 ((rd_T89 t457 x20_1).f0))).setCell ⟨gb461, 1, none⟩ (.int .i64 ((rd_T89 t457 x20_1).f1))).setCell ⟨gb461, 2, none⟩ (.int .i64 ((rd_T89 t457 x20_1).f2))).heap[gb451]? = some (.cells #[.int .i64 0, .string (⟨#[]⟩ : ByteArray)] 31 (0, 0))) := ⟨by refine kx_ ?_; refine blk_far ?_ NB451_461.out _; refine kx_ ?_; refine blk_far ?_ NB451_461.out _; refine kx_ ?_; refine blk_far ?_ NB451_461.out _; refine kx_ ?_; exact BK451.out⟩; have n3_ : Aside0 ((((w24.setCell ⟨gb461, 0, none⟩ (.int .i64 ((rd_T89 t457 x20_1).f0))).setCell ⟨gb461, 1, none⟩ (.int .i64 ((rd_T89 t457 x20_1).f1))).setCell ⟨gb461, 2, none⟩ (.int .i64 ((rd_T89 t457 x20_1).f2))).heap[gb461]? = some (.cells #[.int .i64 ((rd_T89 t457 x20_1).f0), .int .i64 ((rd_T89 t457 x20_1).f1), .int .i64 ((rd_T89 t457 x20_1).f2)] 89 (0, 0))) := ⟨by refine kx_ ?_; refine blk_put (cs := #[.int .i64 ((rd_T89 t457 x20_1).f0), .int .i64 ((rd_T89 t457 x20_1).f1), .int .i64 0]) ?_ 2 _ rfl; refine kx_ ?_; refine blk_put (cs := #[.int .i64 ((rd_T89 t457 x20_1).f0), .int .i64 0, .int .i64 0]) ?_ 1 _ rfl; refine kx_ ?_; refine blk_put (cs := #[.int .i64 0, .int .i64 0, .int .i64 0]) ?_ 0 _ rfl; refine kx_ ?_; exact BK461.out⟩
                 have n4_ : Aside0 (Below w.heap.size w (((w24.setCell ⟨gb461, 0, none⟩ (.int .i64 ((rd_T89 t457 x20_1).f0))).setCell ⟨gb461, 1, none⟩ (.int .i64 ((rd_T89 t457 x20_1).f1))).setCell ⟨gb461, 2, none⟩ (.int .i64 ((rd_T89 t457 x20_1).f2)))) := bX2_ HB GE451 GE461; (try clear HO_5)
                 (try clear HO_18)
                 (try clear BK451)
                 (try clear BK461)
                 (try clear HB)
                 generalize (((w24.setCell ⟨gb461, 0, none⟩ (.int .i64 ((rd_T89 t457 x20_1).f0))).setCell ⟨gb461, 1, none⟩ (.int .i64 ((rd_T89 t457 x20_1).f1))).setCell ⟨gb461, 2, none⟩ (.int .i64 ((rd_T89 t457 x20_1).f2))) = w27 at n0_ n1_ n2_ n3_ n4_ ⊢
                 have HO_5 := n0_; have HO_18 := n1_; have BK451 := n2_; have BK461 := n3_; have HB := n4_; clear n0_ n1_ n2_ n3_ n4_; replace HO_5 := am_ (Kd.R_drew HO_5.out); replace HO_18 := am_ (Kd.R_drew HO_18.out); replace BK451 := am_ (blk_drew BK451.out); replace BK461 := am_ (blk_drew BK461.out); replace HB := bd_ HB; have p462 : 0 ≤ (((rd_T89 t457 x20_1).f0) : Int) := oda_; have q462 : ((rd_T89 t457 x20_1).f0) < (l1.length : Int) := oda_; obtain ⟨ad462, e462, hx462_0⟩ := Kd.at_int HR1.out ((rd_T89 t457 x20_1).f0) p462 q462; have hw462_0 := hx462_0; cases e462; replace hx462_0 := hc_ HB hx462_0; replace p462 := eq_true p462; replace q462 := eq_true q462; have p463 : 0 ≤ (((rd_T89 t457 x20_1).f1) : Int) := oda_; have q463 : ((rd_T89 t457 x20_1).f1) < (l1.length : Int) := oda_; obtain ⟨ad463, e463, hx463_0⟩ := Kd.at_int HR1.out ((rd_T89 t457 x20_1).f1) p463 q463; have hw463_0 := hx463_0; obtain rfl : ad462 = ad463 := (by injection e463); replace hx463_0 := hc_ HB hx463_0; replace p463 := eq_true p463; replace q463 := eq_true q463; have p464 : 0 ≤ (((rd_T89 t457 x20_1).f2) : Int) := oda_; have q464 : ((rd_T89 t457 x20_1).f2) < (l1.length : Int) := oda_; obtain ⟨ad464, e464, hx464_0⟩ := Kd.at_int HR1.out ((rd_T89 t457 x20_1).f2) p464 q464; have hw464_0 := hx464_0; obtain rfl : ad462 = ad464 := (by injection e464); replace hx464_0 := hc_ HB hx464_0; replace p464 := eq_true p464; replace q464 := eq_true q464; have q465 : 344 ≤ (l0.length : Int) := oda_; have p465_0a : 0 ≤ (((rd_T89 t457 x20_1).f0) : Int) := oda_; have p465_0b : (((rd_T89 t457 x20_1).f0) : Int) < 7 := oda_; have p465_1a : 0 ≤ (((rd_T89 t457 x20_1).f1) : Int) := oda_; have p465_1b : (((rd_T89 t457 x20_1).f1) : Int) < 7 := oda_; have p465_2a : 0 ≤ (((rd_T89 t457 x20_1).f2) : Int) := oda_; have p465_2b : (((rd_T89 t457 x20_1).f2) : Int) < 7 := oda_; obtain ⟨ad465, e465, hx465_0⟩ := chi_at HR0.out q465 p465_0a p465_0b p465_1a p465_1b p465_2a p465_2b; have hw465_0 := hx465_0; obtain rfl : ad452 = ad465 := (by injection e465)
                 replace hx465_0 := hc_ HB hx465_0; replace p465_0a := eq_true p465_0a; replace p465_0b := eq_true p465_0b; replace p465_1a := eq_true p465_1a; replace p465_1b := eq_true p465_1b; replace p465_2a := eq_true p465_2a; replace p465_2b := eq_true p465_2b; obtain ⟨Ao29, co29, eo29⟩ := Kd.R_slice HO_5.out; (first | subst eo29 | (injection eo29 with f1_ f2_ f3_; have f4_ := f1_.symm; have f5_ := f3_.symm; clear f1_ f2_ f3_; subst f4_; subst f5_))
                 refine start_ (n := 30) (S := fun w' => w'.cell? ⟨gb461, 0, none⟩ = some (.int .i64 ((rd_T89 t457 x20_1).f0)) ∧ w'.cell? ⟨gb461, 1, none⟩ = some (.int .i64 ((rd_T89 t457 x20_1).f1)) ∧ w'.cell? ⟨gb461, 2, none⟩ = some (.int .i64 ((rd_T89 t457 x20_1).f2)) ∧ w'.cell? (ad462.add (((rd_T89 t457 x20_1).f0)).toNat) = some (.int .i64 (rd l1 ((rd_T89 t457 x20_1).f0))) ∧ w'.cell? (ad462.add (((rd_T89 t457 x20_1).f1)).toNat) = some (.int .i64 (rd l1 ((rd_T89 t457 x20_1).f1))) ∧ w'.cell? (ad462.add (((rd_T89 t457 x20_1).f2)).toNat) = some (.int .i64 (rd l1 ((rd_T89 t457 x20_1).f2))) ∧ w'.cell? ⟨ad452.block, ad452.off + 1 + (((rd_T89 t457 x20_1).f0) : Int).toNat * 49 + (((rd_T89 t457 x20_1).f1) : Int).toNat * 7 + (((rd_T89 t457 x20_1).f2) : Int).toNat, none⟩ = some (.int .i64 (chiA l0 ((rd_T89 t457 x20_1).f0) ((rd_T89 t457 x20_1).f1) ((rd_T89 t457 x20_1).f2)))) (ds := []) #[false, false, false, false, false, false, false, false, false, false, false, false, false, false, false, false, false, false, false, false, false, false, false, false, false, false, false, false, false, false] (by kernel_rfl) rfl rfl ⟨c0_ BK461, c1_ BK461, c2_ BK461, (hc_ HB hw462_0), (hc_ HB hw463_0), (hc_ HB hw464_0), (hc_ HB hw465_0)⟩ (fun hHeld => ?_); refine with_tabW impl_chi_rename.tab5 impl_chi_rename.bits5 (fun HT_ HW_ => ?_); generalize w27.drew = w28 at HO_5 HO_18 BK451 BK461 HB hx462_0 hx463_0 hx464_0 hx465_0 hHeld ⊢
                 refine pD_ 0 (some 24) HT_ (h := ?_); refine pD_ 1 (some 25) HT_ (h := ?_); refine pD_ 2 (some 26) HT_ (h := ?_); refine pD_ 6 (some 30) HT_ (h := ?_); refine pD_ 7 (some 31) HT_ (h := ?_); refine pD_ 11 (some 35) HT_ (h := ?_); refine pD_ 12 (some 36) HT_ (h := ?_); refine pD_ 16 (some 40) HT_ (h := ?_); refine pD_ 17 (some 41) HT_ (h := ?_); refine pD_ 19 (some 43) HT_ (h := ?_); refine pD_ 21 (some 45) HT_ (h := ?_); refine pD_ 23 (some 47) HT_ (h := ?_); refine pD_ 24 (some 48) HT_ (h := ?_); refine tD7_ 3 (some 27) HT_ HW_ hHeld (h := ?_); refine pD_ 4 (some 28) HT_ (h := ?_); refine tD7_ 5 (some 29) HT_ HW_ hHeld (h := ?_); refine tD7_ 8 (some 32) HT_ HW_ hHeld (h := ?_); refine pD_ 9 (some 33) HT_ (h := ?_); refine tD7_ 10 (some 34) HT_ HW_ hHeld (h := ?_); refine tD7_ 13 (some 37) HT_ HW_ hHeld (h := ?_); refine pD_ 14 (some 38) HT_ (h := ?_); refine tD7_ 15 (some 39) HT_ HW_ hHeld (h := ?_); refine tD7_ 18 (some 42) HT_ HW_ hHeld (h := ?_); refine pD_ 25 (some 49) HT_ (h := ?_); refine tD7_ 20 (some 44) HT_ HW_ hHeld (h := ?_); refine pD_ 26 (some 50) HT_ (h := ?_); refine tD7_ 22 (some 46) HT_ HW_ hHeld (h := ?_); refine pD_ 27 (some 51) HT_ (h := ?_); refine tD7_ 28 (some 52) HT_ HW_ hHeld (h := ?_); refine oN_ 29 (some 53) HT_ (fun K hK => ?_); refine gO_ Try.func85 #[.pointer Ao29, .int .i64 (rd l1 ((rd_T89 t457 x20_1).f0)), .int .i64 (rd l1 ((rd_T89 t457 x20_1).f1)), .int .i64 (rd l1 ((rd_T89 t457 x20_1).f2)), .int .i64 (chiA l0 ((rd_T89 t457 x20_1).f0) ((rd_T89 t457 x20_1).f1) ((rd_T89 t457 x20_1).f2))] ?_; refine (impl_chi_set.calls (fun k_ => some k_ = (.slice Ao29 x5_1.length co29 : Value).ownBlock) (.slice Ao29 x5_1.length co29) x5_1 (rd l1 ((rd_T89 t457 x20_1).f0)) (rd l1 ((rd_T89 t457 x20_1).f1)) (rd l1 ((rd_T89 t457 x20_1).f2)) (chiA l0 ((rd_T89 t457 x20_1).f0) ((rd_T89 t457 x20_1).f1) ((rd_T89 t457 x20_1).f2)) t466 w _ ?side1 ?side2 A23.out).mono ?_; (case side1 => exact bx2 HB.out GE451.out GE461.out)
                 (case side2 => exact Kd.R_tight rfl HO_5.out)
                 rintro e w30 ⟨rfl, hy0, hb, hkp⟩; refine ⟨_, rfl, ?_⟩; replace HO_18 := am_ (Kd.R_mono (ok' := fun k_ => k_ ≠ gb461) (Kd.R_keptB ((Kd.R_apart' HO_18.out (Kd.R_typed HO_5.out) (by decide))) hkp (fun k_ hk_ hs_ => (hk_.2) hs_)) (fun k_ hk_ => hk_.1.1)); replace BK451 := am_ (blk_kept (kx_ BK451.out) hkp (fun hs_ => (fun e_ => (Kd.R_ne HO_5.out BK451.out (by decide)) e_) hs_)); replace BK461 := am_ (blk_kept (kx_ BK461.out) hkp (fun hs_ => (fun e_ => (Kd.R_ne HO_5.out BK461.out (by decide)) e_) hs_)); replace HO_5 := am_ (Kd.R_reok rfl hy0 (fun k_ e_ => HO_5.out.1 k_ e_)); replace HB := am_ hb; (try clear hb)
                 (try clear hkp)
                 (try clear hy0)
                 refine hK.out _ _ ⟨c0_ BK461, c1_ BK461, c2_ BK461, (hc_ HB hw462_0), (hc_ HB hw463_0), (hc_ HB hw464_0), (hc_ HB hw465_0)⟩ (fun hHeld => ?_); clear hK K; refine nm_ 53 (h := ?_); refine done_ (done_of HT_.out (by kernel_rfl)) ?_; try go_wp2
                 go_roundg k1
                 case measure => have := HK1.out; omega
                 case rel => exact ⟨(t466), (wrap64 (x20_1 + 1)), vt_, H', hl_ HK1, rX_ HO_5, ⟨by refine rx_ ?_; exact Kd.R_mono HO_18.out (fun _ hk => trivial)⟩, kX_ BK451, bX2_ HB GE451 GE461⟩
                ·rw [if_neg c22] at H; exact absurd H (by simp)
               ·rw [if_neg c21] at H; exact absurd H (by simp)
              ·rw [if_neg c20] at H; exact absurd H (by simp)
             ·rw [if_neg c19] at H; exact absurd H (by simp)
            ·rw [if_neg c18] at H; exact absurd H (by simp)
           ·rw [if_neg c17] at H; exact absurd H (by simp)
          ·rw [if_neg c16] at H; exact absurd H (by simp)
         ·rw [if_neg c15] at H; exact absurd H (by simp)
        ·rw [if_neg c14] at H; exact absurd H (by simp)
       ·rw [if_neg c13] at H; exact absurd H (by simp)
      ·rw [if_neg c12] at H; exact absurd H (by simp)
     ·rw [if_neg c11] at H; exact absurd H (by simp)
    ·rw [if_neg c10] at H; have c10b0 := decide_eq_false c10; clear c10; replace H := Option.bind_eq_some_iff.mp H; obtain ⟨⟨t467, t468⟩, A310, H⟩ := H; replace H : (some (t467, t468)) = some (r1, r2) := H; have A31 := am_ A310; clear A310; simp only [Option.some.injEq, Prod.mk.injEq] at H
     obtain ⟨rfl, rfl⟩ := H; obtain ⟨Ao32, co32, eo32⟩ := Kd.R_slice HO_5.out; subst eo32; go_wp2_with (first | ((with_reducible refine gc_ 86 rfl ?_); refine gL_ (some 56) Try.func86 #[.pointer Ao32] ?_; (refine (impl_chi_signs.calls k1 _ co32 x5_1 t467 t468 _ ?side1 ?side2 A31.out).mono ?_); (case side1 => exact cR_ HO_5); (case side2 => exact (Kd.R_reads' HO_5.out).2.1); rintro e w33 ⟨rfl, hb⟩; refine ⟨_, rfl, ?_⟩; replace HO_5 := rb_ HO_5 hb; replace HO_18 := rb_ HO_18 hb; replace BK451 := bb_ BK451 hb; replace HB := bs1_ HB hb GE451; try clear hb; obtain ⟨hcz34_0, hfz34_0, hcz34_1, hfz34_1⟩ := bk2_ BK451))
     refine bodyPost_ret (results_cell_row rfl _ _ gb451 31 #[.int .i64 t467, .string t468] (0, 0) _ rfl (by refine kx_ ?_; refine blk_put (cs := #[.int .i64 t467, .string (⟨#[]⟩ : ByteArray)]) ?_ 1 _ rfl; refine kx_ ?_; refine blk_put (cs := #[.int .i64 0, .string (⟨#[]⟩ : ByteArray)]) ?_ 0 _ rfl; refine kx_ ?_; exact BK451.out) Try.underlying31 rfl (by kernel_rfl)) rfl ?_; exact ⟨er_, bx1 HB.out GE451.out⟩
 ·rw [if_neg c3] at H; exact absurd H (by simp)
mutual
def impl_renamed.j0 : Nat → Bool → Int → ByteArray → Option (List ByteArray × Bool)
 | 0, _, _, _ => none
 | k + 1, x15, x470000, x470001 => if x15 = true then (some (([] : List ByteArray), false)) else ((impl_tableOf.f k x470000 x470001).bind fun t471 => ((impl_allNames.f k x470000).bind fun t474 => (impl_renamed.l0 k t471 ([] : List ByteArray) t474 (t474.length : Int) 0)))
def impl_renamed.l0 : Nat → List Int → List ByteArray → List (List Int) → Int → Int → Option (List ByteArray × Bool)
 | 0, _, _, _, _, _ => none
 | k + 1, x4, x5, x20, x21, x22 => if x22 < x21 then (if 0 ≤ x22 then (if x22 < (x20.length : Int) then ((impl_chi_rename.f k x4 (rd_L1 x20 x22)).bind fun bt478 => (if x5.length < 8796093022208 then (impl_renamed.l0 k x4 (x5 ++ [bt478.2]) x20 x21 (wrap64 (x22 + 1))) else (none))) else (none)) else (none)) else (some (x5, true))
end
def impl_renamed.f (k : Nat) (a0_0 : Int) (a0_1 : ByteArray) : Option (List ByteArray × Bool) := (impl_AreSigns.f k a0_0 a0_1).bind fun t470 => (if t470 = true then (impl_renamed.j0 k (decide (a0_0 > 6)) a0_0 a0_1) else (impl_renamed.j0 k true a0_0 a0_1))
set_option maxHeartbeats 8000000 in
set_option maxRecDepth 100000 in
theorem impl_renamed.calls (k : Nat) (a0_0 : Int) (a0_1 : ByteArray) (r1 : List ByteArray) (r2 : Bool) (w : World) (h : impl_renamed.f k a0_0 a0_1 = some (r1, r2)) :
  Calls Try.prog 158 #[.agg #[.int .i64 a0_0, .string a0_1]] w fun e w' => ∃ v0_ : Value, e = .returned (.tuple #[v0_, .bool r2]) ∧ Kd.R Kd.string 9 w' w.heap.size (fun _ => True) v0_ r1 ∧ Below w.heap.size w w' := by
 have hu31 := Try.underlying31; have HB := am_ (Below.refl w.heap.size w); have hud31_1 := Try.underlying31; have hfd31_1 : ∀ (x0 x1 : Value) (w : World), (Instr.field 31 (.agg #[x0, x1]) 1).run Try.prog w = .ok x1 w := by
  intro x0 x1 w; first | (go_simp; done) | (go_simp; rfl) | kernel_rfl
 clear hud31_1; have H : ((impl_AreSigns.f k a0_0 a0_1).bind fun t470 => (if t470 = true then (impl_renamed.j0 k (decide (a0_0 > 6)) a0_0 a0_1) else (impl_renamed.j0 k true a0_0 a0_1))) = some (r1, r2) := h; clear h; have HC2 := am_ H; clear H; go_enter Try.func158, Try.ntmps158
 go_upto_region 1 with (first | ((with_reducible refine gd_ 1 rfl ?_); refine be_ 1 #[.int .i64 a0_0, .string a0_1] 31 ?_; intro gb469 hg w3 hbox hb; have BK469 := am_ hbox; have GW469 := gw0_ HB hg; have GE469 := GW469; replace HB := bs0_ HB hb; clear hb hbox hg))
 (try simp only [Act.put, sA_, sZ_, sS_])
 go_cut [15] (fun v15 wc => ∃ (kq : Nat) (x15_1 : Bool), v15 = .bool x15_1 ∧ Aside0 (impl_renamed.j0 kq x15_1 a0_0 a0_1 = some (r1, r2)) ∧ Aside0 (kq ≤ k) ∧ Aside0 (wc.heap[gb469]? = some (.cells #[.int .i64 a0_0, .string a0_1] 31 (0, 0))) ∧ Aside0 (Below w.heap.size w wc))
 case first =>
  have H := HC2.out; clear HC2; obtain ⟨t470, A4, H⟩ := bnd_ H; by_cases c5 : t470 = true
  ·subst c5; replace H := ifT_ H; have H' := am_ H; clear H; obtain ⟨hcz6_0, hfz6_0, hcz6_1, hfz6_1⟩ := bk2_ BK469; go_wp2_with (first | ((with_reducible refine gc_ 130 rfl ?_); refine gB_ (some 9) Try.func130 #[.agg #[.int .i64 a0_0, .string a0_1]] (impl_AreSigns.calls k a0_0 a0_1 true _ A4.out) ?_; intro w7 hb; replace BK469 := bb_ BK469 hb; replace HB := bs1_ HB hb GE469; try clear hb; obtain ⟨hcz8_0, hfz8_0, hcz8_1, hfz8_1⟩ := bk2_ BK469))
   go_meet
   case rel => exact ⟨_, (decide (a0_0 > 6)), vt_, H', le_, kX_ BK469, bX1_ HB GE469⟩
  ·replace c5 := Bool.eq_false_iff.mpr c5; subst c5; replace H := ifF_ H; have H' := am_ H; clear H; obtain ⟨hcz9_0, hfz9_0, hcz9_1, hfz9_1⟩ := bk2_ BK469; go_wp2_with (first | ((with_reducible refine gc_ 130 rfl ?_); refine gB_ (some 9) Try.func130 #[.agg #[.int .i64 a0_0, .string a0_1]] (impl_AreSigns.calls k a0_0 a0_1 false _ A4.out) ?_; intro w10 hb; replace BK469 := bb_ BK469 hb; replace HB := bs1_ HB hb GE469; try clear hb))
   go_meet
   case rel => exact ⟨_, (true), vt_, H', le_, kX_ BK469, bX1_ HB GE469⟩
 case rest =>
  clear HC2; obtain ⟨kq, x15_1, rfl, HA, HJ1, BK469, HB⟩ := hcut; cases kq with
  | zero => exact absurd HA.out (by simp [impl_renamed.j0])
  | succ kj1 =>
   have H := HA.out; clear HA; simp only [impl_renamed.j0] at H
   by_cases c11 : x15_1 = true
   ·subst c11; replace H := ifT_ H; simp only [Option.some.injEq, Prod.mk.injEq] at H
    obtain ⟨rfl, rfl⟩ := H; go_wp2; go_ret2
    exact ⟨_, by first | rfl | (simp [errW_none, errW_some] <;> rfl) | (simp [*, errW_none, errW_some] <;> rfl), by first | exact Kd.R_nil _ _ _ _ _ | exact Kd.N_nil _ _ _ _ _ | exact Kd.V_nil _ _ _ _ _ | exact Kd.Q_nil _ _ _ _ _ | exact Kd.S_nil _ _ _ _ _, bx1 HB.out GE469.out⟩
   ·replace c11 := Bool.eq_false_iff.mpr c11; subst c11; replace H := ifF_ H; obtain ⟨t471, A12, H⟩ := bnd_ H; obtain ⟨t474, A13, H⟩ := bnd_ H; have H' := am_ H; clear H; obtain ⟨hcz14_0, hfz14_0, hcz14_1, hfz14_1⟩ := bk2_ BK469; go_wp2_with (first | ((with_reducible refine gc_ 98 rfl ?_); refine gR_ (some 17) Try.func98 #[.agg #[.int .i64 a0_0, .string a0_1]] (impl_tableOf.calls kj1 a0_0 a0_1 t471 _ A12.out) ?_; intro w15 v472 ho0 hb; have HO473 := rl1_ ho0 HB GE469; replace BK469 := bb_ BK469 hb; replace HB := bs1_ HB hb GE469; try clear hb; (try clear ho0); obtain ⟨hcz16_0, hfz16_0, hcz16_1, hfz16_1⟩ := bk2_ BK469) | ((with_reducible refine gc_ 198 rfl ?_); refine gR_ (some 20) Try.func198 #[.int .i64 a0_0] (impl_allNames.calls kj1 a0_0 t474 _ A13.out) ?_; intro w17 v475 ho0 hb; replace HO473 := rb_ HO473 hb; have HO476 := am_ (Kd.S_lower ho0 (below_size (bx1 HB.out GE469.out))); replace BK469 := bb_ BK469 hb; replace HB := bs1_ HB hb GE469; try clear hb; (try clear ho0); obtain ⟨Ao18, co18, eo18⟩ := Kd.S_slice HO476.out; subst eo18))
    go_loopg [5, 22] kj1 (fun kq v5 v22 w' => ∃ (x5_2 : List ByteArray) (x22_2 : Int), v22 = .int .i64 x22_2 ∧ Aside0 (impl_renamed.l0 kq t471 x5_2 t474 (t474.length : Int) x22_2 = some (r1, r2)) ∧ Aside0 (kq ≤ kj1) ∧ Aside0 (Kd.R (Kd.int .i64) 88 w' w.heap.size (fun _ => True) v472 t471) ∧ Aside0 (Kd.R Kd.string 9 w' w.heap.size (fun _ => True) v5 x5_2) ∧ Aside0 (Kd.S (Kd.slice 3 (Kd.int .i64)) 34 w' w.heap.size (fun _ => True) (.slice Ao18 t474.length co18) t474) ∧ Aside0 (w'.heap[gb469]? = some (.cells #[.int .i64 a0_0, .string a0_1] 31 (0, 0))) ∧ Aside0 (Below w.heap.size w w'))
    case atStart => exact ⟨(([] : List ByteArray)), (0), vt_, H', ⟨Nat.le_refl _⟩, rX_ HO473, ⟨by first | exact Kd.R_nil _ _ _ _ _ | exact Kd.N_nil _ _ _ _ _ | exact Kd.V_nil _ _ _ _ _ | exact Kd.Q_nil _ _ _ _ _ | exact Kd.S_nil _ _ _ _ _⟩, ⟨sx_ HO476.out⟩, kX_ BK469, bX1_ HB GE469⟩
    case round =>
     clear H'; try clear c11 hcz14_0 hcz14_1 hcz16_0 hcz16_1 hfz14_0 hfz14_1 hfz16_0 hfz16_1
     obtain ⟨x5_2, x22_2, rfl, HA, HK2, HO_4, HO_5, HO_20, BK469, HB⟩ := hrel; cases gk with
     | zero => exact absurd HA.out (by simp [impl_renamed.l0])
     | succ k2 =>
      have H := HA.out; clear HA; simp only [impl_renamed.l0] at H
      by_cases c19 : x22_2 < (t474.length : Int)
      ·rw [if_pos c19] at H; have c19b0 := decide_eq_true c19; clear c19; by_cases c20 : 0 ≤ x22_2
       ·rw [if_pos c20] at H; have c20b0 := decide_eq_true c20; clear c20; by_cases c21 : x22_2 < (t474.length : Int)
        ·rw [if_pos c21] at H; have c21b0 := decide_eq_true c21; clear c21; replace H := Option.bind_eq_some_iff.mp H; obtain ⟨⟨t478, t479⟩, A220, H⟩ := H; replace H : (if x5_2.length < 8796093022208 then (impl_renamed.l0 k2 t471 (x5_2 ++ [t479]) t474 (t474.length : Int) (wrap64 (x22_2 + 1))) else (none)) = some (r1, r2) := H; have A22 := am_ A220; clear A220; by_cases c23 : x5_2.length < 8796093022208
         ·rw [if_pos c23] at H; have LMc23 := am_ c23; clear c23; obtain ⟨y480, hy480⟩ : ∃ y_ : List ByteArray, y_ = (x5_2 ++ [t479]) := ⟨_, rfl⟩; replace H : (impl_renamed.l0 k2 t471 y480 t474 (t474.length : Int) (wrap64 (x22_2 + 1))) = some (r1, r2) := yH_ hy480 H; have Ny480 := am_ hy480; clear hy480; have H' := am_ H; clear H; have p477 : 0 ≤ (x22_2 : Int) := oda_; have q477 : x22_2 < (t474.length : Int) := oda_; obtain ⟨ad477, A477_0, c477_0, e477, hx477_0, hl477_0, hi477_0⟩ := at_L1 (Kd.S_reads' HO_20.out).2.2 x22_2 p477 q477; cases e477; obtain ⟨ce477, hce477, hMe477, hcc477⟩ := Kd.S_get HO_20.out [] x22_2 p477 (by first | exact q477 | exact oda_ | (have e_ := (Kd.S_reads' HO_20.out).1; omega)); obtain ⟨ve477_0, rfl, ge477_0⟩ := hMe477; have hv477_0 := hcc477 0 _ rfl; rw [Nat.add_zero, show ((Kd.slice 3 (Kd.int .i64))).sz = 1 from rfl, Nat.mul_one] at hv477_0; replace hv477_0 := Option.some.inj (hv477_0.symm.trans hx477_0); rw [hv477_0] at ge477_0; have HL477_0 := am_ (show Kd.R (Kd.int .i64) 3 _ _ _ _ (rd_L1 t474 x22_2) from ge477_0); clear hv477_0 ge477_0; clear hcc477 hce477; have HR477_0 := am_ hi477_0; have HC477_0 := am_ hl477_0; clear hi477_0 hl477_0; replace p477 := eq_true p477; replace q477 := eq_true q477; obtain ⟨Ao24, co24, eo24⟩ := Kd.R_slice HO_4.out; subst eo24; go_wp2_with (first | ((with_reducible refine gc_ 199 rfl ?_); refine gL_ (some 29) Try.func199 #[.pointer Ao24, .slice A477_0 (rd_L1 t474 x22_2).length c477_0] ?_; (refine (impl_chi_rename.calls k2 _ co24 t471 _ _ (rd_L1 t474 x22_2) t478 t479 _ ?side1 ?side2 ?side3 ?side4 A22.out).mono ?_); (case side1 => exact cR_ HO_4); (case side2 => exact (Kd.R_reads' HO_4.out).2.1); (case side3 => repeat (first | exact (by repeat (first | (with_reducible exact HR477_0.out) | (with_reducible refine Kd.C_alloc ?_ _) | (with_reducible refine Kd.C_drewN ?_ _) | (with_reducible refine Kd.C_drew ?_) | exact HR477_0.out)) | (with_reducible refine Kd.C_alloc ?_ _) | (with_reducible refine Kd.C_drewN ?_ _) | (with_reducible refine Kd.C_drew ?_))); (case side4 => exact HC477_0.out); rintro e w25 ⟨rfl, hb⟩; refine ⟨_, rfl, ?_⟩; replace HO_4 := rb_ HO_4 hb; replace HO_5 := rb_ HO_5 hb; replace HO_20 := am_ (Kd.S_below (sx_ HO_20.out) hb); replace HL477_0 := rb_ HL477_0 hb; replace BK469 := bb_ BK469 hb; replace HR477_0 := am_ (Kd.C_below (by repeat (first | (with_reducible exact HR477_0.out) | (with_reducible refine Kd.C_alloc ?_ _) | (with_reducible refine Kd.C_drewN ?_ _) | (with_reducible refine Kd.C_drew ?_) | exact HR477_0.out)) hb); replace HB := bs1_ HB hb GE469; try clear hb) | ((with_reducible refine gate_builtin (b := .append) (xs := #[.tmp 26, .tmp 31]) rfl ?_); at_builtin; refine Kd.R_append Kd.string (w0 := w) w.heap.size rfl (.tmp 26) (.tmp 31) 22 9 (.string ⟨#[]⟩) 16 rfl Try.underlying22 info9 rfl (by decide) (by omega) u5 x5_2 t479 [.string t479] (fun _ => True) (fun _ => False) rfl rfl ?aP (fun _ hk => hk.elim) ?aF ?aO ?aB ?aS ?aL ?_; (case aP => exact rfl); (case aB => exact (bx1 HB.out GE469.out)); (case aF => exact (fun _ _ => trivial)); (case aO => exact (rx_ HO_5.out)); (case aS => exact (below_size (bx1 HB.out GE469.out))); (case aL => have := LMc23.out; omega); intro v481 w26 ho hb hg hat; rw [← Ny480.out] at ho; replace HO_4 := am_ (Kd.R_over' (rx_ HO_4.out) (Kd.R_typed (rx_ HO_5.out)) (by decide) hg); replace HO_20 := am_ (Kd.S_over' (sx_ HO_20.out) (Kd.R_typed (rx_ HO_5.out)) (by decide) hg); replace BK469 := am_ (blk_grown (g := gb469) (o := .cells #[.int .i64 a0_0, .string a0_1] 31 (0, 0)) (kx_ BK469.out) hg (Kd.R_ne HO_5.out BK469.out (by decide))); replace HL477_0 := am_ (Kd.R_over' (rx_ HL477_0.out) (Kd.R_typed (rx_ HO_5.out)) (by decide) hg); replace HB := am_ hb; have HO482 := am_ ho; clear HO_5; clear ho hb hg hat))
          go_roundg k2
          case measure => have := HJ1.out; have := HK2.out; omega
          case rel => exact ⟨(y480), (wrap64 (x22_2 + 1)), vt_, H', hl2_ HJ1 HK2, rX_ HO_4, rX_ HO482, ⟨sx_ HO_20.out⟩, kX_ BK469, bX1_ HB GE469⟩
         ·rw [if_neg c23] at H; exact absurd H (by simp)
        ·rw [if_neg c21] at H; exact absurd H (by simp)
       ·rw [if_neg c20] at H; exact absurd H (by simp)
      ·rw [if_neg c19] at H; have c19b0 := decide_eq_false c19; clear c19; simp only [Option.some.injEq, Prod.mk.injEq] at H
       obtain ⟨rfl, rfl⟩ := H; go_wp2; go_ret2
       exact ⟨_, by first | rfl | (simp [errW_none, errW_some] <;> rfl) | (simp [*, errW_none, errW_some] <;> rfl), rx_ HO_5.out, bx1 HB.out GE469.out⟩
def impl_LeastSigns.l0 : Nat → ByteArray → List ByteArray → Int → Int → Int → ByteArray → Option (Int × ByteArray × Bool)
 | 0, _, _, _, _, _, _ => none
 | k + 1, x6, x20, x21, x22, x484000, x484001 => if x22 < x21 then (if 0 ≤ x22 then (if x22 < (x20.length : Int) then ((impl_opposite.f (rdOf ByteArray.empty x20 x22)).bind fun t491 => (impl_LeastSigns.l0 k (mnT (mnT x6 (rdOf ByteArray.empty x20 x22)) t491) x20 x21 (wrap64 (x22 + 1)) x484000 x484001)) else (none)) else (none)) else (some (x484000, x6, true))
def impl_LeastSigns.f (k : Nat) (a0_0 : Int) (a0_1 : ByteArray) : Option (Int × ByteArray × Bool) := (impl_renamed.f k a0_0 a0_1).bind fun bt485 => (if bt485.2 = true then (if 0 < (bt485.1.length : Int) then (impl_LeastSigns.l0 k (rdOf ByteArray.empty bt485.1 0) bt485.1 (bt485.1.length : Int) 0 a0_0 a0_1) else (none)) else (some (0, (⟨#[]⟩ : ByteArray), false)))
set_option maxHeartbeats 8000000 in
set_option maxRecDepth 100000 in
theorem impl_LeastSigns.calls (k : Nat) (a0_0 : Int) (a0_1 : ByteArray) (r1 : Int) (r2 : ByteArray) (r3 : Bool) (w : World) (h : impl_LeastSigns.f k a0_0 a0_1 = some (r1, r2, r3)) :
  Calls Try.prog 88 #[.agg #[.int .i64 a0_0, .string a0_1]] w fun e w' => e = .returned (.tuple #[.agg #[.int .i64 r1, .string r2], .bool r3]) ∧ Below w.heap.size w w' := by
 have hu31 := Try.underlying31; have HB := am_ (Below.refl w.heap.size w); have H : ((impl_renamed.f k a0_0 a0_1).bind fun bt485 => (if bt485.2 = true then (if 0 < (bt485.1.length : Int) then (impl_LeastSigns.l0 k (rdOf ByteArray.empty bt485.1 0) bt485.1 (bt485.1.length : Int) 0 a0_0 a0_1) else (none)) else (some (0, (⟨#[]⟩ : ByteArray), false)))) = some (r1, r2, r3) := h; clear h; replace H := Option.bind_eq_some_iff.mp H; obtain ⟨⟨t485, t488⟩, A20, H⟩ := H; replace H : (if t488 = true then (if 0 < (t485.length : Int) then (impl_LeastSigns.l0 k (rdOf ByteArray.empty t485 0) t485 (t485.length : Int) 0 a0_0 a0_1) else (none)) else (some (0, (⟨#[]⟩ : ByteArray), false))) = some (r1, r2, r3) := H; have A2 := am_ A20; clear A20; by_cases c3 : t488 = true
 ·subst c3; replace H := ifT_ H; by_cases c4 : 0 < (t485.length : Int)
  ·rw [if_pos c4] at H; have c4b0 := decide_eq_true c4; have c4b1 : decide (0 < t485.length) = true := decide_eq_true (by omega); clear c4; have H' := am_ H; clear H; go_enter Try.func88, Try.ntmps88
   go_wp2_with (first | ((with_reducible refine gd_ 1 rfl ?_); refine be_ 1 #[.int .i64 a0_0, .string a0_1] 31 ?_; intro gb483 hg w5 hbox hb; have BK483 := am_ hbox; have GW483 := gw0_ HB hg; have GE483 := GW483; replace HB := bs0_ HB hb; clear hb hbox hg) | ((with_reducible refine gd_ 2 rfl ?_); refine be_ 2 #[.int .i64 0, .string (⟨#[]⟩ : ByteArray)] 31 ?_; intro gb484 hg w6 hbox hb; have BK484 := am_ hbox; have GW484 := gw1_ HB hg GE483; have GE484 := GW484; replace HB := bs1_ HB hb GE483; have NB483_484 := nl_ BK483 hg; have NB484_483 := ng_ BK483 hg; replace BK483 := bb_ BK483 hb; clear hb hbox hg; have hnb7 := NB483_484.out; have hnc7 := NB484_483.out; obtain ⟨hcz8_0, hfz8_0, hcz8_1, hfz8_1⟩ := bk2_ BK483) | ((with_reducible refine gc_ 158 rfl ?_); refine gR_ (some 11) Try.func158 #[.agg #[.int .i64 a0_0, .string a0_1]] (impl_renamed.calls k a0_0 a0_1 t485 true _ A2.out) ?_; intro w9 v486 ho0 hb; have HO487 := rl2_ ho0 HB GE483 GE484; replace BK483 := bb_ BK483 hb; replace BK484 := bb_ BK484 hb; replace HB := bs2_ HB hb GE483 GE484; try clear hb; (try clear ho0); obtain ⟨Ao10, co10, eo10⟩ := Kd.R_slice HO487.out; subst eo10; have p489 : 0 ≤ (0 : Int) := (by omega); have q489 : 0 < (t485.length : Int) := oda_; obtain ⟨ad489, e489, hx489_0⟩ := Kd.at_string (Kd.R_reads' HO487.out).2.2 0 p489 q489; cases e489; have qi489 : (0 < t485.length) = True := eq_true (by omega); (try rw [show ((0 : Int)).toNat = 0 from rfl] at hx489_0); (try rw [Addr.add_zero'] at hx489_0); replace p489 := eq_true p489; replace q489 := eq_true q489))
   go_loopg [6, 22] k (fun kq v6 v22 w' => ∃ (x6_1 : ByteArray) (x22_1 : Int), v6 = .string x6_1 ∧ v22 = .int .i64 x22_1 ∧ Aside0 (impl_LeastSigns.l0 kq x6_1 t485 (t485.length : Int) x22_1 a0_0 a0_1 = some (r1, r2, r3)) ∧ Aside0 (kq ≤ k) ∧ Aside0 (Kd.R Kd.string 9 w' w.heap.size (fun _ => True) (.slice (some ad489) t485.length co10) t485) ∧ Aside0 (w'.heap[gb483]? = some (.cells #[.int .i64 a0_0, .string a0_1] 31 (0, 0))) ∧ Aside0 (w'.heap[gb484]? = some (.cells #[.int .i64 0, .string (⟨#[]⟩ : ByteArray)] 31 (0, 0))) ∧ Aside0 (Below w.heap.size w w'))
   case atStart => exact ⟨(rdOf ByteArray.empty t485 0), (0), vt_, vt_, H', ⟨Nat.le_refl _⟩, rX_ HO487, kX_ BK483, kX_ BK484, bX2_ HB GE483 GE484⟩
   case round =>
    clear H'; try clear c3 c4b0 c4b1 hcz8_0 hcz8_1 hfz8_0 hfz8_1 hx489_0 p489 q489
    obtain ⟨x6_1, x22_1, rfl, rfl, HA, HK1, HO_20, BK483, BK484, HB⟩ := hrel; cases gk with
    | zero => exact absurd HA.out (by simp [impl_LeastSigns.l0])
    | succ k1 =>
     have H := HA.out; clear HA; simp only [impl_LeastSigns.l0] at H
     by_cases c11 : x22_1 < (t485.length : Int)
     ·rw [if_pos c11] at H; have c11b0 := decide_eq_true c11; clear c11; by_cases c12 : 0 ≤ x22_1
      ·rw [if_pos c12] at H; have c12b0 := decide_eq_true c12; clear c12; by_cases c13 : x22_1 < (t485.length : Int)
       ·rw [if_pos c13] at H; have c13b0 := decide_eq_true c13; clear c13; obtain ⟨t491, A14, H⟩ := bnd_ H; have H' := am_ H; clear H; have p490 : 0 ≤ (x22_1 : Int) := oda_; have q490 : x22_1 < (t485.length : Int) := oda_; obtain ⟨ad490, e490, hx490_0⟩ := Kd.at_string (Kd.R_reads' HO_20.out).2.2 x22_1 p490 q490; obtain rfl : ad489 = ad490 := (by injection e490); replace p490 := eq_true p490; replace q490 := eq_true q490; go_wp2_with (first | ((with_reducible refine gc_ 159 rfl ?_); refine gB_ (some 29) Try.func159 #[.string (rdOf ByteArray.empty t485 x22_1)] (impl_opposite.calls (rdOf ByteArray.empty t485 x22_1) t491 _ A14.out) ?_; intro w15 hb; replace HO_20 := rb_ HO_20 hb; replace BK483 := bb_ BK483 hb; replace BK484 := bb_ BK484 hb; replace HB := bs2_ HB hb GE483 GE484; try clear hb))
        go_roundg k1
        case measure => have := HK1.out; omega
        case rel => exact ⟨((mnT (mnT x6_1 (rdOf ByteArray.empty t485 x22_1)) t491)), (wrap64 (x22_1 + 1)), vt_, vt_, H', hl_ HK1, rX_ HO_20, kX_ BK483, kX_ BK484, bX2_ HB GE483 GE484⟩
       ·rw [if_neg c13] at H; exact absurd H (by simp)
      ·rw [if_neg c12] at H; exact absurd H (by simp)
     ·rw [if_neg c11] at H; have c11b0 := decide_eq_false c11; clear c11; simp only [Option.some.injEq, Prod.mk.injEq] at H
      obtain ⟨rfl, rfl, rfl⟩ := H; have hnb16 := NB483_484.out; have hnc16 := NB484_483.out; obtain ⟨hcz17_0, hfz17_0, hcz17_1, hfz17_1⟩ := bk2_ BK483; obtain ⟨hcz18_0, hfz18_0, hcz18_1, hfz18_1⟩ := bk2_ BK484; go_wp2; refine bodyPost_ret (results_ct rfl _ _ gb484 31 #[.int .i64 a0_0, .string x6_1] (0, 0) _ rfl (by refine kx_ ?_; refine blk_put (cs := #[.int .i64 a0_0, .string (⟨#[]⟩ : ByteArray)]) ?_ 1 _ rfl; refine kx_ ?_; refine blk_put (cs := #[.int .i64 0, .string (⟨#[]⟩ : ByteArray)]) ?_ 0 _ rfl; refine kx_ ?_; exact BK484.out) Try.underlying31 rfl (by kernel_rfl)) rfl ?_; exact ⟨er_, bx2 HB.out GE483.out GE484.out⟩
  ·rw [if_neg c4] at H; exact absurd H (by simp)
 ·replace c3 := Bool.eq_false_iff.mpr c3; subst c3; replace H := ifF_ H; simp only [Option.some.injEq, Prod.mk.injEq] at H
  obtain ⟨rfl, rfl, rfl⟩ := H; go_enter Try.func88, Try.ntmps88
  go_wp2_with (first | ((with_reducible refine gd_ 1 rfl ?_); refine be_ 1 #[.int .i64 a0_0, .string a0_1] 31 ?_; intro gb483 hg w19 hbox hb; have BK483 := am_ hbox; have GW483 := gw0_ HB hg; have GE483 := GW483; replace HB := bs0_ HB hb; clear hb hbox hg) | ((with_reducible refine gd_ 2 rfl ?_); refine be_ 2 #[.int .i64 0, .string (⟨#[]⟩ : ByteArray)] 31 ?_; intro gb484 hg w20 hbox hb; have BK484 := am_ hbox; have GW484 := gw1_ HB hg GE483; have GE484 := GW484; replace HB := bs1_ HB hb GE483; have NB483_484 := nl_ BK483 hg; have NB484_483 := ng_ BK483 hg; replace BK483 := bb_ BK483 hb; clear hb hbox hg; have hnb21 := NB483_484.out; have hnc21 := NB484_483.out; obtain ⟨hcz22_0, hfz22_0, hcz22_1, hfz22_1⟩ := bk2_ BK483) | ((with_reducible refine gc_ 158 rfl ?_); refine gR_ (some 11) Try.func158 #[.agg #[.int .i64 a0_0, .string a0_1]] (impl_renamed.calls k a0_0 a0_1 t485 false _ A2.out) ?_; intro w23 v486 ho0 hb; have HO487 := rl2_ ho0 HB GE483 GE484; replace BK483 := bb_ BK483 hb; replace BK484 := bb_ BK484 hb; replace HB := bs2_ HB hb GE483 GE484; try clear hb; (try clear ho0); obtain ⟨hcz24_0, hfz24_0, hcz24_1, hfz24_1⟩ := bk2_ BK484))
  refine bodyPost_ret (results_ct rfl _ _ gb484 31 #[.int .i64 0, .string (⟨#[]⟩ : ByteArray)] (0, 0) _ rfl (by refine kx_ ?_; refine blk_put (cs := #[.int .i64 0, .string (⟨#[]⟩ : ByteArray)]) ?_ 1 _ rfl; refine kx_ ?_; refine blk_put (cs := #[.int .i64 0, .string (⟨#[]⟩ : ByteArray)]) ?_ 0 _ rfl; refine kx_ ?_; exact BK484.out) Try.underlying31 rfl (by kernel_rfl)) rfl ?_; exact ⟨er_, bx2 HB.out GE483.out GE484.out⟩
end Go.Proofs.Ytoajlmlobaccdaa.P
namespace Go.Proofs.Ytoajlmlobaccdaa.P
open Go.RowKit Go.Proofs.YtoajlmlobaccdaaW.PrintWords Go.Proofs.YtoajlmlobaccdaaW.PrintLast Go.Proofs.YtoajlmlobaccdaaW.PrintMore
set_option linter.unusedVariables false
set_option linter.unusedSimpArgs false
section
variable {α : Type} [Inhabited α] {enc : α → Value} {h1 : ∀ x, (enc x).oneCell' = true} {e base : Nat} {ok : Nat → Prop} {w : World} {v : Value} {xs : List α}
theorem row_blk (h : (Kd.scalar enc h1).R e w base ok v xs) (hne : 0 < xs.length) :
    ∃ g cap cur, v = .slice (some ⟨g, 0, none⟩) xs.length cap ∧ base ≤ g ∧ ok g ∧ w.heap[g]? = some (.cells cur e (0, 0)) ∧ xs.length ≤ cap ∧ cap ≤ maxLen ∧ cur.size = cap ∧ ∀ j, j < xs.length → cur[j]? = some (enc xs[j]!) := by
  obtain ⟨h0, inner, ⟨hl, ho⟩, hr⟩ := h
  rcases ho with ⟨rfl, h2⟩ | ⟨g, cap, cur, rfl, hg, hh, hc, hm, hs, ht⟩
  · omega
  · refine ⟨g, cap, cur, rfl, hg, h0 g rfl, hh, hc, hm, ?_, ?_⟩
    · rw [hs]; exact Nat.mul_one _
    · intro j hj
      have h3 := hr.2 j xs[j]! (by rw [List.getElem?_eq_getElem hj, getElem!_pos xs j hj])
      have h3' : (inner.drop (j * 1)).take 1 = [enc xs[j]!] := h3
      rw [Nat.mul_one] at h3'
      have h4 : inner[j]? = some (enc xs[j]!) := by
        have h5 : ((inner.drop j).take 1)[0]? = some (enc xs[j]!) := by rw [h3']; rfl
        rw [List.getElem?_take_of_lt (by omega), List.getElem?_drop, Nat.add_zero] at h5
        exact h5
      rw [← ht] at h4
      have hjl : j < xs.length * (Kd.scalar enc h1).sz := by show j < xs.length * 1; omega
      rw [List.getElem?_take_of_lt hjl, Array.getElem?_toList] at h4
      exact h4
theorem blk_row {g cap : Nat} {cur : Array Value} (hg : base ≤ g) (hok : ok g) (hh : w.heap[g]? = some (.cells cur e (0, 0))) (hc : xs.length ≤ cap) (hm : cap ≤ maxLen) (hs : cur.size = cap) (hj : ∀ j, j < xs.length → cur[j]? = some (enc xs[j]!)) :
    (Kd.scalar enc h1).R e w base ok (.slice (some ⟨g, 0, none⟩) xs.length cap) xs := by
  refine ⟨fun k hk => ?_, cur.toList.take xs.length, ⟨?_, .inr ⟨g, cap, cur, rfl, hg, hh, hc, hm, ?_, ?_⟩⟩, ?_, ?_⟩
  · have : g = k := by simpa [Value.ownBlock] using hk
    subst this; exact hok
  · show (cur.toList.take xs.length).length = xs.length * 1
    have hcl : cur.toList.length = cur.size := Array.length_toList
    rw [List.length_take, hcl]; omega
  · show cur.size = cap * 1
    omega
  · show cur.toList.take (xs.length * 1) = _
    rw [Nat.mul_one]
  · show (cur.toList.take xs.length).length = xs.length * 1
    have hcl : cur.toList.length = cur.size := Array.length_toList
    rw [List.length_take, hcl]; omega
  · intro j p hp
    have hjl := (List.getElem?_eq_some_iff.1 hp).1
    have hpx : p = xs[j]! := by rw [getElem!_pos xs j hjl]; exact (List.getElem?_eq_some_iff.1 hp).2.symm
    subst hpx
    show ((cur.toList.take xs.length).drop (j * 1)).take 1 = [enc xs[j]!]
    rw [Nat.mul_one]
    have h4 : (cur.toList.take xs.length)[j]? = some (enc xs[j]!) := by
      rw [List.getElem?_take_of_lt hjl, Array.getElem?_toList]; exact hj j hjl
    apply List.ext_getElem?
    intro i
    cases i with
    | zero => rw [List.getElem?_take_of_lt (by omega), List.getElem?_drop, Nat.add_zero, h4]; rfl
    | succ i =>
      rw [List.getElem?_eq_none (by rw [List.length_take]; omega)]
      rfl
theorem put_cur (enc : α → Value) (w : World) (n g off : Nat) (D : Array α) (os : Array Obj) {cur : Array Value} (hb : w.heap[g]? = some (.cells cur e (0, 0))) :
    (Sort.grow (Sort.putRow enc (Sort.ahead w n) g off D) os).heap[g]? = some (.cells (Sort.putCells enc off D cur) e (0, 0)) := by
  have hlt : g < w.heap.size := (Array.getElem?_eq_some_iff.1 hb).1
  show ((w.heap.modify g (Sort.onCells (Sort.putCells enc off D))) ++ os)[g]? = _
  rw [Array.getElem?_append_left (by rw [Array.size_modify]; exact hlt), Array.getElem?_modify, if_pos rfl, hb]
  rfl
theorem put_far (enc : α → Value) (w : World) (n g off : Nat) (D : Array α) (os : Array Obj) (k : Nat) (hk : k < w.heap.size) (hne : k ≠ g) :
    (Sort.grow (Sort.putRow enc (Sort.ahead w n) g off D) os).heap[k]? = w.heap[k]? := by
  show ((w.heap.modify g (Sort.onCells (Sort.putCells enc off D))) ++ os)[k]? = _
  rw [Array.getElem?_append_left (by rw [Array.size_modify]; exact hk), Array.getElem?_modify, if_neg (Ne.symm hne)]
theorem put_size (enc : α → Value) (w : World) (n g off : Nat) (D : Array α) (os : Array Obj) : w.heap.size ≤ (Sort.grow (Sort.putRow enc (Sort.ahead w n) g off D) os).heap.size := by
  show _ ≤ ((w.heap.modify g (Sort.onCells (Sort.putCells enc off D))) ++ os).size
  rw [Array.size_append, Array.size_modify]; omega
theorem put_below (enc : α → Value) (w : World) (n g off : Nat) (D : Array α) (os : Array Obj) (hg : base ≤ g) (hlt : g < w.heap.size) : Below base w (Sort.grow (Sort.putRow enc (Sort.ahead w n) g off D) os) :=
  ⟨rfl, rfl, rfl, put_size enc w n g off D os, fun k hk => put_far enc w n g off D os k (by omega) (by omega)⟩
theorem put_kept (enc : α → Value) (w : World) (n g off : Nat) (D : Array α) (os : Array Obj) (hok : ok g) : Kept w (Sort.grow (Sort.putRow enc (Sort.ahead w n) g off D) os) ok :=
  ⟨put_size enc w n g off D os, fun k hk hn => put_far enc w n g off D os k hk (fun e => hn (e ▸ hok))⟩
theorem putCells_size (enc : α → Value) (off : Nat) (D : Array α) (c : Array Value) : (Sort.putCells enc off D c).size = c.size := by simp [Sort.putCells]
theorem putCells_in (enc : α → Value) (off : Nat) (D : Array α) (c : Array Value) (j : Nat) (hj : j < D.size) (hc : off + D.size ≤ c.size) : (Sort.putCells enc off D c)[off + j]? = some (enc D[j]!) := by
  unfold Sort.putCells
  rw [Array.getElem?_mapIdx, Array.getElem?_eq_getElem (by omega)]
  simp only [Option.map_some]
  rw [if_pos ⟨by omega, by omega⟩, Nat.add_sub_cancel_left]
theorem putCells_at (enc : α → Value) (D : Array α) (c : Array Value) (j : Nat) (hj : j < D.size) (hc : D.size ≤ c.size) : (Sort.putCells enc 0 D c)[j]? = some (enc D[j]!) := by
  have h := putCells_in enc 0 D c j hj (by omega)
  rwa [Nat.zero_add] at h
theorem row_holds (h : (Kd.scalar enc h1).R e w base ok v xs) {g cap : Nat} {cur : Array Value} (hh : w.heap[g]? = some (.cells cur e (0, 0))) (hj : ∀ j, j < xs.length → cur[j]? = some (enc xs[j]!)) : Sort.Holds enc w g 0 xs.toArray := by
  intro j hlt
  have hl : j < xs.length := by simpa using hlt
  have e1 : xs.toArray[j]! = xs[j]! := by simp
  refine ⟨?_, ?_⟩
  · rw [e1]
    have := hj j hl
    simp [World.cell?, hh, this]
  · simp [World.frozen?, hh]
end
end Go.Proofs.Ytoajlmlobaccdaa.P
namespace Go.Proofs.Ytoajlmlobaccdaa.P
open Go.RowKit Go.Proofs.YtoajlmlobaccdaaW.PrintWords Go.Proofs.YtoajlmlobaccdaaW.PrintLast Go.Proofs.YtoajlmlobaccdaaW.PrintMore
set_option linter.unusedVariables false
set_option linter.unusedSimpArgs false
open Go.Shelf in
def sortM6_ren : Go.Shelf.Ren := ⟨fun | 6 => 89 | 8 => 161 | 9 => 160 | 19 => 209 | 20 => 210 | 21 => 200 | 22 => 201 | 23 => 202 | 24 => 203 | 25 => 204 | 26 => 205 | 27 => 206 | 28 => 207 | 29 => 208 | 36 => 247 | 31 => 248 | 32 => 249 | 37 => 250 | 38 => 251 | 39 => 252 | 41 => 264 | n => n, fun | 27 => 22 | 29 => 9 | 3 => 3 | 32 => 153 | 26 => 22 | 0 => 0 | 44 => 192 | 46 => 194 | 4 => 4 | 36 => 185 | 35 => 184 | 41 => 118 | 5 => 5 | 9 => 9 | 53 => 218 | 57 => 222 | 63 => 233 | 64 => 234 | n => n, fun | n => n⟩
theorem sortM6 : Go.Proofs.SlLaysM.n6 Try.prog sortM6_ren :=
  { mixed := by kernel_rfl,
    f6 := ⟨Try.f89.name, by decide, Try.func89.trans (congrArg some (by kernel_rfl))⟩,
    f8 := Try.func161.trans (congrArg some (by kernel_rfl)),
    f9 := ⟨Try.f160.name, by decide, Try.func160.trans (congrArg some (by kernel_rfl))⟩,
    f19 := Try.func209.trans (congrArg some (by kernel_rfl)),
    f20 := Try.func210.trans (congrArg some (by kernel_rfl)),
    f21 := ⟨Try.f200.name, by decide, Try.func200.trans (congrArg some (by kernel_rfl))⟩,
    f22 := ⟨Try.f201.name, by decide, Try.func201.trans (congrArg some (by kernel_rfl))⟩,
    f23 := ⟨Try.f202.name, by decide, Try.func202.trans (congrArg some (by kernel_rfl))⟩,
    f24 := ⟨Try.f203.name, by decide, Try.func203.trans (congrArg some (by kernel_rfl))⟩,
    f25 := ⟨Try.f204.name, by decide, Try.func204.trans (congrArg some (by kernel_rfl))⟩,
    f26 := ⟨Try.f205.name, by decide, Try.func205.trans (congrArg some (by kernel_rfl))⟩,
    f27 := ⟨Try.f206.name, by decide, Try.func206.trans (congrArg some (by kernel_rfl))⟩,
    f28 := ⟨Try.f207.name, by decide, Try.func207.trans (congrArg some (by kernel_rfl))⟩,
    f29 := ⟨Try.f208.name, by decide, Try.func208.trans (congrArg some (by kernel_rfl))⟩,
    f31 := Try.func248.trans (congrArg some (by kernel_rfl)),
    f32 := Try.func249.trans (congrArg some (by kernel_rfl)),
    f36 := ⟨Try.f247.name, by decide, Try.func247.trans (congrArg some (by kernel_rfl))⟩,
    f37 := ⟨Try.f250.name, by decide, Try.func250.trans (congrArg some (by kernel_rfl))⟩,
    f38 := ⟨Try.f251.name, by decide, Try.func251.trans (congrArg some (by kernel_rfl))⟩,
    f39 := ⟨Try.f252.name, by decide, Try.func252.trans (congrArg some (by kernel_rfl))⟩,
    f41 := ⟨Try.f264.name, by decide, Try.func264.trans (congrArg some (by kernel_rfl))⟩,
    t0 := Try.underlying0,
    a0 := Try.isAgg0,
    z0 := Try.sizeOf0,
    v0 := Try.zeroValue0,
    t3 := Try.underlying3,
    a3 := Try.isAgg3,
    z3 := Try.sizeOf3,
    v3 := Try.zeroValue3,
    t4 := Try.underlying4,
    a4 := Try.isAgg4,
    z4 := Try.sizeOf4,
    v4 := Try.zeroValue4,
    t5 := Try.underlying5,
    a5 := Try.isAgg5,
    z5 := Try.sizeOf5,
    v5 := Try.zeroValue5,
    t9 := Try.underlying9,
    a9 := Try.isAgg9,
    z9 := Try.sizeOf9,
    v9 := Try.zeroValue9,
    t26 := Try.underlying22,
    a26 := Try.isAgg22,
    z26 := Try.sizeOf22,
    v26 := Try.zeroValue22,
    t27 := Try.underlying22,
    a27 := Try.isAgg22,
    z27 := Try.sizeOf22,
    v27 := Try.zeroValue22,
    t29 := Try.underlying9,
    a29 := Try.isAgg9,
    z29 := Try.sizeOf9,
    v29 := Try.zeroValue9,
    t32 := Try.underlying153,
    a32 := Try.isAgg153,
    z32 := Try.sizeOf153,
    v32 := Try.zeroValue153,
    t35 := Try.underlying184,
    a35 := Try.isAgg184,
    z35 := Try.sizeOf184,
    v35 := Try.zeroValue184,
    t36 := Try.underlying185,
    a36 := Try.isAgg185,
    z36 := Try.sizeOf185,
    v36 := Try.zeroValue185,
    t41 := Try.underlying118,
    a41 := Try.isAgg118,
    z41 := Try.sizeOf118,
    v41 := Try.zeroValue118,
    t44 := Try.underlying192,
    a44 := Try.isAgg192,
    z44 := Try.sizeOf192,
    v44 := Try.zeroValue192,
    t46 := Try.underlying194,
    a46 := Try.isAgg194,
    z46 := Try.sizeOf194,
    v46 := Try.zeroValue194,
    t53 := Try.underlying218,
    a53 := Try.isAgg218,
    z53 := Try.sizeOf218,
    v53 := Try.zeroValue218,
    t57 := Try.underlying222,
    a57 := Try.isAgg222,
    z57 := Try.sizeOf222,
    v57 := Try.zeroValue222,
    t63 := Try.underlying233,
    a63 := Try.isAgg233,
    z63 := Try.sizeOf233,
    v63 := Try.zeroValue233,
    t64 := Try.underlying234,
    a64 := Try.isAgg234,
    z64 := Try.sizeOf234,
    v64 := Try.zeroValue234 }
def toS (s : ByteArray) : List UInt8 := s.data.toList
def ofS (s : List UInt8) : ByteArray := ⟨s.toArray⟩
theorem ofS_toS (s : ByteArray) : ofS (toS s) = s := rfl
def sortS (l : List ByteArray) : List ByteArray := ((l.map toS).mergeSort fun x y => decide (x ≤ y)).map ofS
theorem sortS_length (l : List ByteArray) : (sortS l).length = l.length := by
  unfold sortS
  rw [List.length_map, List.length_mergeSort, List.length_map]
def slices_Sort_Sstring_string.f (l : List ByteArray) : Option (List ByteArray) := if l.length < 4611686018427387904 then some (sortS l) else none
theorem slices_Sort_Sstring_string.calls (P0_ : Nat → Prop) (u9000_ : Value) (l : List ByteArray) (r : List ByteArray) (w0 w : World) (hB : Below w0.heap.size w0 w) (ho0 : Kd.R Kd.string 9 w w0.heap.size P0_ u9000_ l) (h : slices_Sort_Sstring_string.f l = some r) :
    Calls Try.prog 89 #[u9000_] w fun e w' => e = .returned (.tuple #[]) ∧ Kd.R Kd.string 9 w' w0.heap.size (fun k_ => (P0_ k_ ∨ w.heap.size ≤ k_)) u9000_ r ∧ Below w0.heap.size w0 w' ∧ Kept w w' (fun k_ => P0_ k_) := by
  unfold slices_Sort_Sstring_string.f at h
  by_cases hl : l.length < 4611686018427387904
  case neg => rw [if_neg hl] at h; cases h
  rw [if_pos hl] at h
  obtain rfl := Option.some.inj h
  by_cases hne : 0 < l.length
  · obtain ⟨g, cap, cur, rfl, hg, hok, hcur, hlc, hcm, hcs, hj⟩ := row_blk ho0 hne
    have hlt : g < w.heap.size := (Array.getElem?_eq_some_iff.1 hcur).1
    have hH : Sort.Holds encStr w g 0 (l.map toS).toArray := by
      intro j hjl
      have hl : j < l.length := by simpa using hjl
      have h1 := row_holds (cap := cap) ho0 hcur hj j (by simpa using hl)
      refine ⟨?_, h1.2⟩
      rw [h1.1]
      have e1 : l.toArray[j]! = l[j] := by rw [getElem!_pos _ _ (by simpa using hl)]; simp
      have e2 : (l.map toS).toArray[j]! = toS l[j] := by rw [getElem!_pos _ _ (by simpa using hl)]; simp
      rw [e1, e2]
      rfl
    have hcon := AnyM.slices_Sort_string sortM6 g 0 cap (l.map toS) w hH hlt (by rw [List.length_map]; exact hl)
    rw [List.length_map] at hcon
    refine hcon.mono ?_
    rintro e w' ⟨rfl, n, os, rfl⟩
    refine ⟨rfl, ?_, hB.trans (put_below encStr w n g 0 _ os hg hlt), put_kept encStr w n g 0 _ os hok⟩
    have hlen := sortS_length l
    have hlen2 : ((l.map toS).mergeSort fun x y => decide (x ≤ y)).length = l.length := by rw [List.length_mergeSort, List.length_map]
    have hR := blk_row (enc := Value.string) (h1 := fun _ => rfl) (ok := P0_) (xs := sortS l) (cap := cap) hg hok (put_cur encStr w n g 0 ((l.map toS).mergeSort fun x y => decide (x ≤ y)).toArray os hcur) (by omega) hcm (by rw [putCells_size]; exact hcs) (fun j hj => by
      rw [putCells_at _ _ _ j (by simp; omega) (by simp; omega)]
      congr 1
      rw [getElem!_pos _ _ (by simp; omega), getElem!_pos (sortS l) j hj]
      simp only [sortS, List.getElem_map]
      simp [encStr, ofS])
    rw [hlen] at hR
    exact Kd.R_mono hR (fun k_ hk => .inl hk)
  · have hnil : l = [] := List.eq_nil_of_length_eq_zero (by omega)
    subst hnil
    obtain ⟨A, c, rfl⟩ := Kd.R_slice ho0
    have hS := AnyM.slices_Sort_string_none sortM6 A c w
    refine hS.mono ?_
    rintro e w' ⟨rfl, rfl⟩
    exact ⟨rfl, Kd.R_mono (by rw [show sortS [] = [] by simp [sortS]]; exact ho0) (fun k_ hk => .inl hk), hB, Kept.refl _ _⟩
def compN44_ren : Go.Shelf.Ren := ⟨fun | 44 => 90 | n => n, fun | 25 => 22 | 26 => 9 | 3 => 3 | 4 => 4 | 0 => 0 | n => n, fun | n => n⟩
theorem compN44 : Go.Proofs.SlLaysN.n44 Try.prog compN44_ren :=
  { mixed := by kernel_rfl,
    f44 := ⟨Try.f90.name, by decide, Try.func90.trans (congrArg some (by kernel_rfl))⟩,
    t0 := Try.underlying0,
    a0 := Try.isAgg0,
    z0 := Try.sizeOf0,
    v0 := Try.zeroValue0,
    t3 := Try.underlying3,
    a3 := Try.isAgg3,
    z3 := Try.sizeOf3,
    v3 := Try.zeroValue3,
    t4 := Try.underlying4,
    a4 := Try.isAgg4,
    z4 := Try.sizeOf4,
    v4 := Try.zeroValue4,
    t25 := Try.underlying22,
    a25 := Try.isAgg22,
    z25 := Try.sizeOf22,
    v25 := Try.zeroValue22,
    t26 := Try.underlying9,
    a26 := Try.isAgg9,
    z26 := Try.sizeOf9,
    v26 := Try.zeroValue9,
    i26 := by kernel_rfl }
def compS (l : List ByteArray) : List ByteArray := (Lib.compact (l.map toS)).map ofS
theorem compS_le (l : List ByteArray) : (compS l).length ≤ l.length := by
  unfold compS Lib.compact Lib.compactUpTo
  rw [List.length_map, List.length_map]
  refine Nat.le_trans (List.length_filter_le _ _) ?_
  simp
def slices_Compact_Sstring_string.f (l : List ByteArray) : Option (List ByteArray) := some (compS l)
theorem slices_Compact_Sstring_string.calls (P0_ : Nat → Prop) (u9000_ : Value) (l : List ByteArray) (r : List ByteArray) (w0 w : World) (hB : Below w0.heap.size w0 w) (ho0 : Kd.R Kd.string 9 w w0.heap.size P0_ u9000_ l) (h : slices_Compact_Sstring_string.f l = some r) :
    Calls Try.prog 90 #[u9000_] w fun e w' => ∃ v0_ : Value, e = .returned (v0_) ∧ Kd.R Kd.string 9 w' w0.heap.size (fun k_ => (P0_ k_ ∨ w.heap.size ≤ k_)) v0_ r ∧ Below w0.heap.size w0 w' ∧ Kept w w' (fun k_ => P0_ k_) := by
  obtain rfl := Option.some.inj h
  by_cases hne : 0 < l.length
  · obtain ⟨g, cap, cur, rfl, hg, hok, hcur, hlc, hcm, hcs, hj⟩ := row_blk ho0 hne
    have hlt : g < w.heap.size := (Array.getElem?_eq_some_iff.1 hcur).1
    have hH : Sort.Holds encStr w g 0 (l.map toS).toArray := by
      intro j hjl
      have hl : j < l.length := by simpa using hjl
      have h1 := row_holds (cap := cap) ho0 hcur hj j (by simpa using hl)
      refine ⟨?_, h1.2⟩
      rw [h1.1]
      have e1 : l.toArray[j]! = l[j] := by rw [getElem!_pos _ _ (by simpa using hl)]; simp
      have e2 : (l.map toS).toArray[j]! = toS l[j] := by rw [getElem!_pos _ _ (by simpa using hl)]; simp
      rw [e1, e2]
      rfl
    have hlen := compS_le l
    have hl2 : (Lib.compact (l.map toS)).length = (compS l).length := by unfold compS; rw [List.length_map]
    have hcon := AnyG.slices_Compact_string compN44 g 0 cap (l.map toS) w hH (by rw [List.length_map]; unfold maxLen at hcm; omega) (by rw [List.length_map]; exact hlc)
    rw [List.length_map, hl2] at hcon
    refine hcon.mono ?_
    rintro e w' ⟨rfl, q, rfl⟩
    rw [← Sort.grow_empty (Sort.putRow encStr (Sort.ahead w q) g 0 _)]
    refine ⟨_, rfl, ?_, hB.trans (put_below encStr w q g 0 _ #[] hg hlt), put_kept encStr w q g 0 _ #[] hok⟩
    have hR := blk_row (enc := Value.string) (h1 := fun _ => rfl) (ok := P0_) (xs := compS l) (cap := cap) hg hok (put_cur encStr w q g 0 (Lib.compact (l.map toS) ++ List.replicate (l.length - (compS l).length) []).toArray #[] hcur) (by omega) hcm (by rw [putCells_size]; exact hcs) (fun j hj => by
      rw [putCells_at _ _ _ j (by simp; omega) (by simp; omega)]
      congr 1
      rw [getElem!_pos _ _ (by simp; omega), getElem!_pos (compS l) j hj]
      simp only [compS, List.getElem_map, List.getElem_toArray]
      rw [List.getElem_append_left (by omega)]
      simp [encStr, ofS])
    exact Kd.R_mono hR (fun k_ hk => .inl hk)
  · have hnil : l = [] := List.eq_nil_of_length_eq_zero (by omega)
    subst hnil
    obtain ⟨A, c, rfl⟩ := Kd.R_slice ho0
    refine (AnyG.slices_Compact_string_empty compN44 A c w).mono ?_
    rintro e w' ⟨rfl, rfl⟩
    exact ⟨_, rfl, Kd.R_mono (by rw [show compS [] = [] by simp [compS, Lib.compact, Lib.compactUpTo]]; exact ho0) (fun k_ hk => .inl hk), hB, Kept.refl _ _⟩
end Go.Proofs.Ytoajlmlobaccdaa.P
