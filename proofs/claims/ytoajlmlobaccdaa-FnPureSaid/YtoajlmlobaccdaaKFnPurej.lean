/- What the law FnPure reaches, part 10: functions as plain Lean functions with the proofs that their calls come to them, and plain lemmas over these. Put together by a program (wip/pack.py). -/
import Derived.Test.YtoajlmlobaccdaaKFnPured
import Derived.Test.YtoajlmlobaccdaaKFnPurec
import Derived.Test.YtoajlmlobaccdaaKFnPureg
import Derived.Test.YtoajlmlobaccdaaKFnPurei
import Derived.Test.YtoajlmlobaccdaaKFnPuree
import Derived.Sort.Grow
import Derived.Test.YtoajlmlobaccdaaKFnPuref
namespace Go.Proofs.Ytoajlmlobaccdaa.P
open Go.RowKit Go.Proofs.YtoajlmlobaccdaaW.PrintWords Go.Proofs.YtoajlmlobaccdaaW.PrintLast Go.Proofs.YtoajlmlobaccdaaW.PrintMore
attribute [local go_sem] ptrOf_slice
attribute [local go_sem] min2_str max2_int min2_int max_two min_two max_three min_three max_four min_four
set_option linter.unusedVariables false
set_option linter.unusedSimpArgs false
mutual
def spec_CellTable.l0 : Nat → Int → List Int → List (List Int) → Int → Option ((List (List Int)))
 | 0, _, _, _, _ => none
 | k + 1, x0, x1, x5, x6 => if x6 ≤ x0 then (spec_CellTable.l1 k x0 x1 x5 x6 (([] : List Int)) 0 0) else (some x5)
def spec_CellTable.l1 : Nat → Int → List Int → List (List Int) → Int → List Int → Int → Int → Option ((List (List Int)))
 | 0, _, _, _, _, _, _, _ => none
 | k + 1, x0, x1, x5, x6, x7, x8, x9 => if x9 < (x1.length : Int) then (if 0 ≤ x9 then ((spec_l1Bit.f ((rd x1 x9) == (wrap64 (x6 - 1)))).bind fun t1549 => (spec_CellTable.l1 k x0 x1 x5 x6 x7 (wrap64 (x8 + t1549)) (wrap64 (x9 + 1)))) else (none)) else (spec_CellTable.l2 k x0 x1 x5 x6 x7 x8 0)
def spec_CellTable.l2 : Nat → Int → List Int → List (List Int) → Int → List Int → Int → Int → Option ((List (List Int)))
 | 0, _, _, _, _, _, _, _ => none
 | k + 1, x0, x1, x5, x6, x7, x8, x10 => if x10 ≤ x8 then ((spec_l16Sides.f k x0 x1 x6 x10).bind fun t1550 => (if x7.length < 17592186044416 then (spec_CellTable.l2 k x0 x1 x5 x6 (x7 ++ [t1550]) x8 (wrap64 (x10 + 1))) else (none))) else (if x5.length < 5864062014805 then (spec_CellTable.l0 k x0 x1 (x5 ++ [x7]) (wrap64 (x6 + 1))) else (none))
end
def spec_CellTable.f (k : Nat) (a0 : Int) (l1 : List Int) : Option ((List (List Int))) := (some (([] : List (List Int)) : List (List Int))).bind fun y1541 => ((spec_IsWiring.f k a0 l1).bind fun t1544 => (if t1544 = true then (spec_CellTable.l0 k a0 l1 y1541 0) else (some y1541)))
set_option maxHeartbeats 8000000 in
set_option maxRecDepth 100000 in
theorem spec_CellTable.calls (k : Nat) (a0 : Int) (A1 : Option Addr) (c1 : Nat) (l1 : List Int) (r : List (List Int)) (w : World) (hr1 : Kd.C (Kd.int .i64) w A1 l1.length l1) (hc1 : l1.length ≤ c1) (h : spec_CellTable.f k a0 l1 = some r) :
  Calls Try.prog 45 #[.int .i64 a0, .slice A1 l1.length c1] w fun e w' => ∃ v0_ : Value, e = .returned (v0_) ∧ Kd.S (Kd.slice 3 (Kd.int .i64)) 34 w' w.heap.size (fun _ => True) v0_ r ∧ Below w.heap.size w w' := by
 have HR1 := am_ hr1; have HC1 := am_ hc1; clear hr1 hc1; have HB := am_ (Below.refl w.heap.size w); have H : ((some (([] : List (List Int)) : List (List Int))).bind fun y1541 => ((spec_IsWiring.f k a0 l1).bind fun t1544 => (if t1544 = true then (spec_CellTable.l0 k a0 l1 y1541 0) else (some y1541)))) = some r := h; clear h; obtain ⟨y1541, hy1541⟩ : ∃ y_ : List (List Int), y_ = (([] : List (List Int))) := ⟨_, rfl⟩; replace H : ((spec_IsWiring.f k a0 l1).bind fun t1544 => (if t1544 = true then (spec_CellTable.l0 k a0 l1 y1541 0) else (some y1541))) = some r := yH_ hy1541 H; have Ny1541 := am_ hy1541; clear hy1541; obtain ⟨t1544, A3, H⟩ := bnd_ H; by_cases c4 : t1544 = true
 ·subst c4; replace H := ifT_ H; have H' := am_ H; clear H; go_enter Try.func45, Try.ntmps45
  go_wp2_with (first | ((with_reducible refine gd_ 11 rfl ?_); refine Kd.S_lit (Kd.slice 3 (Kd.int .i64)) _ 34 ?hg (N := 11) ?hd (xs := ([] : List (List Int))) (inner := []) (ok := fun _ => True) (okp := fun _ => True) ?hr ?hp (fun _ hk => hk) trivial (Below.refl _ _) (Nat.le_refl _) (by simp) ?_; (case hd => rfl); (case hg => rfl); (case hr => first | (go_simp; done) | (go_simp; rfl)); (case hp => exact (Reps.none _ _)); intro v1542 w5 ho6 hb hg_ hnew_; clear hg_ hnew_; (first | rw [← Ny1541.out] at ho6 | (simp only [Int.reduceToNat] at ho6; rw [← Ny1541.out] at ho6)); have HO1543 := am_ (Kd.S_lower ho6 (below_size (bx0 HB.out))); replace HB := bs0_ HB hb; clear hb ho6) | ((with_reducible refine gc_ 78 rfl ?_); refine gL_ (some 14) Try.func78 #[.int .i64 a0, .slice A1 l1.length c1] ?_; (with_reducible refine (spec_IsWiring.calls k a0 _ _ l1 true _ ?side1 ?side2 A3.out).mono ?_); (case side1 => exact cS_ HR1 HB); (case side2 => exact HC1.out); rintro e w7 ⟨rfl, hb⟩; refine ⟨_, rfl, ?_⟩; replace HO1543 := am_ (Kd.S_below (sx_ HO1543.out) hb); replace HB := bs0_ HB hb; try clear hb))
  go_loopg [5, 6] k (fun kq v5 v6 w' => ∃ (x5_1 : List (List Int)) (x6_1 : Int), v6 = .int .i64 x6_1 ∧ Aside0 (spec_CellTable.l0 kq a0 l1 x5_1 x6_1 = some r) ∧ Aside0 (kq ≤ k) ∧ Aside0 (Kd.S (Kd.slice 3 (Kd.int .i64)) 34 w' w.heap.size (fun _ => True) v5 x5_1) ∧ Aside0 (Below w.heap.size w w'))
  case atStart => exact ⟨(y1541), (0), vt_, H', ⟨Nat.le_refl _⟩, ⟨sx_ HO1543.out⟩, bX0_ HB⟩
  case round =>
   clear H'; try clear c4
   obtain ⟨x5_1, x6_1, rfl, HA, HK1, HO_5, HB⟩ := hrel; cases gk with
   | zero => exact absurd HA.out (by simp [spec_CellTable.l0])
   | succ k1 =>
    have H := HA.out; clear HA; simp only [spec_CellTable.l0] at H
    by_cases c8 : x6_1 ≤ a0
    ·rw [if_pos c8] at H; have c8b0 := decide_eq_true c8; clear c8; obtain ⟨y1545, hy1545⟩ : ∃ y_ : List Int, y_ = (([] : List Int)) := ⟨_, rfl⟩; replace H : (spec_CellTable.l1 k1 a0 l1 x5_1 x6_1 y1545 0 0) = some r := yH_ hy1545 H; have Ny1545 := am_ hy1545; clear hy1545; have H' := am_ H; clear H; go_wp2_with (first | ((with_reducible refine gd_ 22 rfl ?_); refine Kd.R_lit (Kd.int .i64) _ 3 ?hg (N := 22) ?hd (xs := ([] : List Int)) (inner := []) (ok := fun _ => True) (okp := fun _ => True) ?hr ?hp (fun _ hk => hk) trivial (Below.refl _ _) (Nat.le_refl _) (by simp) ?_; (case hd => rfl); (case hg => rfl); (case hr => first | (go_simp; done) | (go_simp; rfl)); (case hp => exact (Reps.none _ _)); intro v1546 w9 ho10 hb hg_ hnew_; clear hg_ hnew_; (first | rw [← Ny1545.out] at ho10 | (simp only [Int.reduceToNat] at ho10; rw [← Ny1545.out] at ho10)); replace HO_5 := am_ (Kd.S_elder' (sx_ HO_5.out) (Kd.R_base ho10) hb); have HO1547 := rl0_ ho10 HB; replace HB := bs0_ HB hb; clear hb ho10))
     go_loopg [8, 9] k1 (fun kq v8 v9 w' => ∃ (x8_2 : Int) (x9_2 : Int), v8 = .int .i64 x8_2 ∧ v9 = .int .i64 x9_2 ∧ Aside0 (spec_CellTable.l1 kq a0 l1 x5_1 x6_1 y1545 x8_2 x9_2 = some r) ∧ Aside0 (kq ≤ k1) ∧ Aside0 (Kd.S (Kd.slice 3 (Kd.int .i64)) 34 w' w.heap.size (fun k_ => some k_ ≠ (v1546 : Value).ownBlock) u5 x5_1) ∧ Aside0 (Kd.R (Kd.int .i64) 3 w' w.heap.size (fun _ => True) v1546 y1545) ∧ Aside0 (Below w.heap.size w w'))
     case atStart => exact ⟨(0), (0), vt_, vt_, H', ⟨Nat.le_refl _⟩, ⟨by refine sx_ ?_; exact Kd.S_mono HO_5.out (fun _ hk => hk.2)⟩, rX_ HO1547, bX0_ HB⟩
     case round =>
      clear H'; try clear c4 c8b0
      obtain ⟨x8_2, x9_2, rfl, rfl, HA, HK2, HO_5, HO_7, HB⟩ := hrel; cases gk with
      | zero => exact absurd HA.out (by simp [spec_CellTable.l1])
      | succ k2 =>
       have H := HA.out; clear HA; simp only [spec_CellTable.l1] at H
       by_cases c11 : x9_2 < (l1.length : Int)
       ·rw [if_pos c11] at H; have c11b0 := decide_eq_true c11; clear c11; by_cases c12 : 0 ≤ x9_2
        ·rw [if_pos c12] at H; have c12b0 := decide_eq_true c12; clear c12; obtain ⟨t1549, A13, H⟩ := bnd_ H; have H' := am_ H; clear H; have p1548 : 0 ≤ (x9_2 : Int) := oda_; have q1548 : x9_2 < (l1.length : Int) := oda_; obtain ⟨ad1548, e1548, hx1548_0⟩ := Kd.at_int HR1.out x9_2 p1548 q1548; cases e1548; replace hx1548_0 := hc_ HB hx1548_0; replace p1548 := eq_true p1548; replace q1548 := eq_true q1548; go_wp2_with (first | ((with_reducible refine gc_ 124 rfl ?_); refine gP_ (some 37) Try.func124 #[.bool ((rd l1 x9_2) == (wrap64 (x6_1 - 1)))] (spec_l1Bit.calls ((rd l1 x9_2) == (wrap64 (x6_1 - 1))) t1549 _ A13.out) ?_; intro nd))
         go_roundg k2
         case measure => have := HK1.out; have := HK2.out; omega
         case rel => exact ⟨(wrap64 (x8_2 + t1549)), (wrap64 (x9_2 + 1)), vt_, vt_, H', hl2_ HK1 HK2, ⟨sx_ HO_5.out⟩, rX_ HO_7, bX0_ HB⟩
        ·rw [if_neg c12] at H; exact absurd H (by simp)
       ·rw [if_neg c11] at H; have c11b0 := decide_eq_false c11; clear c11; have H' := am_ H; clear H; go_wp2; go_loopg [7, 10] k2 (fun kq v7 v10 w' => ∃ (x7_3 : List Int) (x10_3 : Int), v10 = .int .i64 x10_3 ∧ Aside0 (spec_CellTable.l2 kq a0 l1 x5_1 x6_1 x7_3 x8_2 x10_3 = some r) ∧ Aside0 (kq ≤ k2) ∧ Aside0 (Kd.S (Kd.slice 3 (Kd.int .i64)) 34 w' w.heap.size (fun k_ => some k_ ≠ (v7 : Value).ownBlock) u5 x5_1) ∧ Aside0 (Kd.R (Kd.int .i64) 3 w' w.heap.size (fun _ => True) v7 x7_3) ∧ Aside0 (Below w.heap.size w w'))
        case atStart => exact ⟨(y1545), (0), vt_, H', ⟨Nat.le_refl _⟩, ⟨sx_ HO_5.out⟩, rX_ HO_7, bX0_ HB⟩
        case round =>
         clear H'; try clear c4 c8b0 c11b0
         obtain ⟨x7_3, x10_3, rfl, HA, HK3, HO_5, HO_7, HB⟩ := hrel; cases gk with
         | zero => exact absurd HA.out (by simp [spec_CellTable.l2])
         | succ k3 =>
          have H := HA.out; clear HA; simp only [spec_CellTable.l2] at H
          by_cases c14 : x10_3 ≤ x8_2
          ·rw [if_pos c14] at H; have c14b0 := decide_eq_true c14; clear c14; obtain ⟨t1550, A15, H⟩ := bnd_ H; by_cases c16 : x7_3.length < 17592186044416
           ·rw [if_pos c16] at H; have LMc16 := am_ c16; clear c16; obtain ⟨y1551, hy1551⟩ : ∃ y_ : List Int, y_ = (x7_3 ++ [t1550]) := ⟨_, rfl⟩; replace H : (spec_CellTable.l2 k3 a0 l1 x5_1 x6_1 y1551 x8_2 (wrap64 (x10_3 + 1))) = some r := yH_ hy1551 H; have Ny1551 := am_ hy1551; clear hy1551; have H' := am_ H; clear H; go_wp2_with (first | ((with_reducible refine gc_ 125 rfl ?_); refine gL_ (some 49) Try.func125 #[.int .i64 a0, .slice A1 l1.length c1, .int .i64 x6_1, .int .i64 x10_3] ?_; (with_reducible refine (spec_l16Sides.calls k3 a0 _ _ l1 x6_1 x10_3 t1550 _ ?side1 ?side2 A15.out).mono ?_); (case side1 => exact cS_ HR1 HB); (case side2 => exact HC1.out); rintro e w' ⟨rfl, ⟨nd, rfl⟩⟩; refine ⟨_, rfl, ?_⟩) | ((with_reducible refine gate_builtin (b := .append) (xs := #[.tmp 44, .tmp 50]) rfl ?_); at_builtin; refine Kd.R_append (Kd.int .i64) (w0 := w) w.heap.size rfl (.tmp 44) (.tmp 50) 34 3 (.int .i64 0) 8 rfl Try.underlying34 info3 rfl (by decide) (by omega) u7 x7_3 t1550 [.int .i64 t1550] (fun _ => True) (fun _ => False) rfl rfl ?aP (fun _ hk => hk.elim) ?aF ?aO ?aB ?aS ?aL ?_; (case aP => exact rfl); (case aB => exact (bx0 HB.out)); (case aF => exact (fun _ _ => trivial)); (case aO => exact (rx_ HO_7.out)); (case aS => exact (below_size (bx0 HB.out))); (case aL => have := LMc16.out; omega); intro v1552 w17 ho hb hg hat; rw [← Ny1551.out] at ho; replace HO_5 := am_ (Kd.S_after (ok := (fun _ => True)) (by refine sx_ ?_; exact Kd.S_mono HO_5.out (fun _ hk => ⟨trivial, hk⟩)) hg hat); replace HB := am_ hb; have HO1553 := am_ ho; clear HO_7; clear ho hb hg hat))
            go_roundg k3
            case measure => have := HK1.out; have := HK2.out; have := HK3.out; omega
            case rel => exact ⟨(y1551), (wrap64 (x10_3 + 1)), vt_, H', hl3_ HK1 HK2 HK3, ⟨by refine sx_ ?_; exact Kd.S_mono HO_5.out (fun _ hk => hk.2)⟩, rX_ HO1553, bX0_ HB⟩
           ·rw [if_neg c16] at H; exact absurd H (by simp)
          ·rw [if_neg c14] at H; have c14b0 := decide_eq_false c14; clear c14; by_cases c18 : x5_1.length < 5864062014805
           ·rw [if_pos c18] at H; have LMc18 := am_ c18; clear c18; obtain ⟨y1554, hy1554⟩ : ∃ y_ : List (List Int), y_ = (x5_1 ++ [x7_3]) := ⟨_, rfl⟩; replace H : (spec_CellTable.l0 k3 a0 l1 y1554 (wrap64 (x6_1 + 1))) = some r := yH_ hy1554 H; have Ny1554 := am_ hy1554; clear hy1554; have H' := am_ H; clear H; obtain ⟨Ao20, co20, eo20⟩ := Kd.R_slice HO_7.out; subst eo20; go_wp2_with (first | ((with_reducible refine gate_builtin (b := .append) (xs := #[.tmp 52, .tmp 54]) rfl ?_); at_builtin; refine Kd.S_append (Kd.slice 3 (Kd.int .i64)) (w0 := w) w.heap.size rfl (.tmp 52) (.tmp 54) 39 34 (.slice none 0 0) 24 rfl Try.underlying39 info34 rfl (by decide) (by omega) u5 x5_1 x7_3 [.slice Ao20 x7_3.length co20] (fun _ => True) (fun k_ => some k_ = (.slice Ao20 x7_3.length co20 : Value).ownBlock) rfl rfl ?aP (fun k_ hk_ => ((Kd.R_mono (ok' := fun k_ => ((fun _ => True)) k_ ∧ some k_ ≠ (u5 : Value).ownBlock) (Kd.R_apart' (HO_7.out) (Kd.S_typed HO_5.out) (by decide)) (fun k_ hk => ⟨trivial, hk.2⟩))).1 k_ hk_.symm) ?aF ?aO ?aB ?aS ?aL ?_; (case aP => exact Kd.M_row (Kd.R_mono (Kd.R_tight rfl (Kd.R_mono (ok' := fun k_ => ((fun _ => True)) k_ ∧ some k_ ≠ (u5 : Value).ownBlock) (Kd.R_apart' (HO_7.out) (Kd.S_typed HO_5.out) (by decide)) (fun k_ hk => ⟨trivial, hk.2⟩))) (fun _ h_ => h_))); (case aB => exact (bx0 HB.out)); (case aF => exact (fun _ _ => trivial)); (case aO => exact (by refine sx_ ?_; exact Kd.S_mono HO_5.out (fun k_ hk => ⟨trivial, fun e_ => hk e_⟩))); (case aS => exact (below_size (bx0 HB.out))); (case aL => have := LMc18.out; omega); intro v1555 w19 ho hb hg hat; rw [← Ny1554.out] at ho; replace HB := am_ hb; have HO1556 := am_ ho; clear HO_5; clear HO_7; clear ho hb hg hat))
            go_roundg k3
            case measure => have := HK1.out; have := HK2.out; have := HK3.out; omega
            case rel => exact ⟨(y1554), (wrap64 (x6_1 + 1)), vt_, H', hl3_ HK1 HK2 HK3, ⟨sx_ HO1556.out⟩, bX0_ HB⟩
           ·rw [if_neg c18] at H; exact absurd H (by simp)
    ·rw [if_neg c8] at H; have c8b0 := decide_eq_false c8; clear c8; obtain rfl := Option.some.inj H; go_wp2; go_ret; exact ⟨_, by first | rfl | (simp [errW_none, errW_some] <;> rfl) | (simp [*, errW_none, errW_some] <;> rfl), sx_ HO_5.out, bx0 HB.out⟩
 ·replace c4 := Bool.eq_false_iff.mpr c4; subst c4; replace H := ifF_ H; obtain rfl := Option.some.inj H; go_enter Try.func45, Try.ntmps45
  go_wp2_with (first | ((with_reducible refine gd_ 11 rfl ?_); refine Kd.S_lit (Kd.slice 3 (Kd.int .i64)) _ 34 ?hg (N := 11) ?hd (xs := ([] : List (List Int))) (inner := []) (ok := fun _ => True) (okp := fun _ => True) ?hr ?hp (fun _ hk => hk) trivial (Below.refl _ _) (Nat.le_refl _) (by simp) ?_; (case hd => rfl); (case hg => rfl); (case hr => first | (go_simp; done) | (go_simp; rfl)); (case hp => exact (Reps.none _ _)); intro v1542 w21 ho22 hb hg_ hnew_; clear hg_ hnew_; (first | rw [← Ny1541.out] at ho22 | (simp only [Int.reduceToNat] at ho22; rw [← Ny1541.out] at ho22)); have HO1543 := am_ (Kd.S_lower ho22 (below_size (bx0 HB.out))); replace HB := bs0_ HB hb; clear hb ho22) | ((with_reducible refine gc_ 78 rfl ?_); refine gL_ (some 14) Try.func78 #[.int .i64 a0, .slice A1 l1.length c1] ?_; (with_reducible refine (spec_IsWiring.calls k a0 _ _ l1 false _ ?side1 ?side2 A3.out).mono ?_); (case side1 => exact cS_ HR1 HB); (case side2 => exact HC1.out); rintro e w23 ⟨rfl, hb⟩; refine ⟨_, rfl, ?_⟩; replace HO1543 := am_ (Kd.S_below (sx_ HO1543.out) hb); replace HB := bs0_ HB hb; try clear hb))
  go_ret; exact ⟨_, by first | rfl | (simp [errW_none, errW_some] <;> rfl) | (simp [*, errW_none, errW_some] <;> rfl), sx_ HO1543.out, bx0 HB.out⟩
def laws_sameInts.l0 : Nat → List Int → List Int → Int → Option (Bool)
 | 0, _, _, _ => none
 | k + 1, x0, x1, x5 => if x5 < (x0.length : Int) then (if 0 ≤ x5 then (if x5 < (x1.length : Int) then (if (rd x0 x5) = (rd x1 x5) then (laws_sameInts.l0 k x0 x1 (wrap64 (x5 + 1))) else (some false)) else (none)) else (none)) else (some true)
def laws_sameInts.f (k : Nat) (l0 : List Int) (l1 : List Int) : Option (Bool) := if (l0.length : Int) = (l1.length : Int) then (laws_sameInts.l0 k l0 l1 0) else (some false)
set_option maxHeartbeats 8000000 in
set_option maxRecDepth 100000 in
theorem laws_sameInts.calls (k : Nat) (A0 : Option Addr) (c0 : Nat) (l0 : List Int) (A1 : Option Addr) (c1 : Nat) (l1 : List Int) (r : Bool) (w : World) (hr0 : Kd.C (Kd.int .i64) w A0 l0.length l0) (hc0 : l0.length ≤ c0) (hr1 : Kd.C (Kd.int .i64) w A1 l1.length l1) (hc1 : l1.length ≤ c1) (h : laws_sameInts.f k l0 l1 = some r) :
  Calls Try.prog 40 #[.slice A0 l0.length c0, .slice A1 l1.length c1] w fun e w' => e = .returned (.bool r) ∧ Drawn0 w w' := by
 have HR0 := am_ hr0; have HC0 := am_ hc0; clear hr0 hc0; have HR1 := am_ hr1; have HC1 := am_ hc1; clear hr1 hc1; have H : (if (l0.length : Int) = (l1.length : Int) then (laws_sameInts.l0 k l0 l1 0) else (some false)) = some r := h; clear h; by_cases c3 : (l0.length : Int) = (l1.length : Int)
 ·rw [if_pos c3] at H; obtain ⟨c3b0, c3b1⟩ := eqT_ c3; have c3b2 : (l0.length == l1.length) = true := by first | simpa using c3 | (simp at c3 ⊢; omega)
  clear c3; have H' := am_ H; clear H; go_enter Try.func40, Try.ntmps40
  go_wp2; repeat (go_quiet (fail); try go_wp2)
  go_loopg [5] k (fun kq v5 w' => ∃ (x5_1 : Int), v5 = .int .i64 x5_1 ∧ Aside0 (laws_sameInts.l0 kq l0 l1 x5_1 = some r) ∧ Aside0 (kq ≤ k) ∧ Drawn0 w w')
  case atStart => exact ⟨(0), vt_, H', ⟨Nat.le_refl _⟩, dr_⟩
  case round =>
   clear H'; try clear c3b0 c3b1 c3b2
   obtain ⟨x5_1, rfl, HA, HK1, ⟨m1, rfl⟩⟩ := hrel; cases gk with
   | zero => exact absurd HA.out (by simp [laws_sameInts.l0])
   | succ k1 =>
    have H := HA.out; clear HA; simp only [laws_sameInts.l0] at H
    by_cases c4 : x5_1 < (l0.length : Int)
    ·rw [if_pos c4] at H; have c4b0 := decide_eq_true c4; clear c4; by_cases c5 : 0 ≤ x5_1
     ·rw [if_pos c5] at H; have c5b0 := decide_eq_true c5; clear c5; by_cases c6 : x5_1 < (l1.length : Int)
      ·rw [if_pos c6] at H; have c6b0 := decide_eq_true c6; clear c6; by_cases c7 : (rd l0 x5_1) = (rd l1 x5_1)
       ·rw [if_pos c7] at H; obtain ⟨c7b0, c7b1⟩ := eqT_ c7; clear c7; have H' := am_ H; clear H; have p1461 : 0 ≤ (x5_1 : Int) := oda_; have q1461 : x5_1 < (l0.length : Int) := oda_; obtain ⟨ad1461, e1461, hx1461_0⟩ := Kd.at_int HR0.out x5_1 p1461 q1461; cases e1461; replace p1461 := eq_true p1461; replace q1461 := eq_true q1461; have p1462 : 0 ≤ (x5_1 : Int) := oda_; have q1462 : x5_1 < (l1.length : Int) := oda_; obtain ⟨ad1462, e1462, hx1462_0⟩ := Kd.at_int HR1.out x5_1 p1462 q1462; cases e1462; replace p1462 := eq_true p1462; replace q1462 := eq_true q1462; go_wp2; repeat (go_quiet (fail); try go_wp2)
        go_roundg k1
        case measure => have := HK1.out; omega
        case rel => exact ⟨(wrap64 (x5_1 + 1)), vt_, H', hl_ HK1, dr_⟩
       ·rw [if_neg c7] at H; obtain ⟨c7b0, c7b1⟩ := eqF_ c7; obtain rfl := Option.some.inj H; have p1461 : 0 ≤ (x5_1 : Int) := oda_; have q1461 : x5_1 < (l0.length : Int) := oda_; obtain ⟨ad1461, e1461, hx1461_0⟩ := Kd.at_int HR0.out x5_1 p1461 q1461; cases e1461; replace p1461 := eq_true p1461; replace q1461 := eq_true q1461; have p1462 : 0 ≤ (x5_1 : Int) := oda_; have q1462 : x5_1 < (l1.length : Int) := oda_; obtain ⟨ad1462, e1462, hx1462_0⟩ := Kd.at_int HR1.out x5_1 p1462 q1462; cases e1462; replace p1462 := eq_true p1462; replace q1462 := eq_true q1462; go_wp2; repeat (go_quiet (fail); try go_wp2)
        go_ret; exact ⟨by first | rfl | (simp; done) | (simp [*]; done), dr_⟩
      ·rw [if_neg c6] at H; exact absurd H (by simp)
     ·rw [if_neg c5] at H; exact absurd H (by simp)
    ·rw [if_neg c4] at H; have c4b0 := decide_eq_false c4; clear c4; obtain rfl := Option.some.inj H; go_wp2; repeat (go_quiet (fail); try go_wp2)
     go_ret; exact ⟨by first | rfl | (simp; done) | (simp [*]; done), dr_⟩
 ·rw [if_neg c3] at H; obtain ⟨c3b0, c3b1⟩ := eqF_ c3; have c3b2 : (l0.length == l1.length) = false := by first | simpa using c3 | (simp at c3 ⊢; omega)
  obtain rfl := Option.some.inj H; go_enter Try.func40, Try.ntmps40
  go_wp2; repeat (go_quiet (fail); try go_wp2)
  go_ret; exact ⟨by first | rfl | (simp; done) | (simp [*]; done), dr_⟩
def laws_sameLists.l0 : Nat → List (List Int) → List (List Int) → Int → Option (Bool)
 | 0, _, _, _ => none
 | k + 1, x0, x1, x5 => if x5 < (x0.length : Int) then (if 0 ≤ x5 then (if x5 < (x1.length : Int) then ((laws_sameInts.f k (rd_L1 x0 x5) (rd_L1 x1 x5)).bind fun t1467 => (if t1467 = true then (laws_sameLists.l0 k x0 x1 (wrap64 (x5 + 1))) else (some false))) else (none)) else (none)) else (some true)
def laws_sameLists.f (k : Nat) (l0 : List (List Int)) (l1 : List (List Int)) : Option (Bool) := if (l0.length : Int) = (l1.length : Int) then (laws_sameLists.l0 k l0 l1 0) else (some false)
set_option maxHeartbeats 8000000 in
set_option maxRecDepth 100000 in
theorem laws_sameLists.calls (k : Nat) (A0 : Option Addr) (c0 : Nat) (l0 : List (List Int)) (A1 : Option Addr) (c1 : Nat) (l1 : List (List Int)) (r : Bool) (w : World) (hr0 : Kd.C (Kd.slice 3 (Kd.int .i64)) w A0 l0.length l0) (hc0 : l0.length ≤ c0) (hr1 : Kd.C (Kd.slice 3 (Kd.int .i64)) w A1 l1.length l1) (hc1 : l1.length ≤ c1) (h : laws_sameLists.f k l0 l1 = some r) :
  Calls Try.prog 42 #[.slice A0 l0.length c0, .slice A1 l1.length c1] w fun e w' => e = .returned (.bool r) ∧ Drawn0 w w' := by
 have HR0 := am_ hr0; have HC0 := am_ hc0; clear hr0 hc0; have HR1 := am_ hr1; have HC1 := am_ hc1; clear hr1 hc1; have H : (if (l0.length : Int) = (l1.length : Int) then (laws_sameLists.l0 k l0 l1 0) else (some false)) = some r := h; clear h; by_cases c3 : (l0.length : Int) = (l1.length : Int)
 ·rw [if_pos c3] at H; obtain ⟨c3b0, c3b1⟩ := eqT_ c3; have c3b2 : (l0.length == l1.length) = true := by first | simpa using c3 | (simp at c3 ⊢; omega)
  clear c3; have H' := am_ H; clear H; go_enter Try.func42, Try.ntmps42
  go_wp2; repeat (go_quiet (fail); try go_wp2)
  go_loopg [5] k (fun kq v5 w' => ∃ (x5_1 : Int), v5 = .int .i64 x5_1 ∧ Aside0 (laws_sameLists.l0 kq l0 l1 x5_1 = some r) ∧ Aside0 (kq ≤ k) ∧ Drawn0 w w')
  case atStart => exact ⟨(0), vt_, H', ⟨Nat.le_refl _⟩, dr_⟩
  case round =>
   clear H'; try clear c3b0 c3b1 c3b2
   obtain ⟨x5_1, rfl, HA, HK1, ⟨m1, rfl⟩⟩ := hrel; cases gk with
   | zero => exact absurd HA.out (by simp [laws_sameLists.l0])
   | succ k1 =>
    have H := HA.out; clear HA; simp only [laws_sameLists.l0] at H
    by_cases c4 : x5_1 < (l0.length : Int)
    ·rw [if_pos c4] at H; have c4b0 := decide_eq_true c4; clear c4; by_cases c5 : 0 ≤ x5_1
     ·rw [if_pos c5] at H; have c5b0 := decide_eq_true c5; clear c5; by_cases c6 : x5_1 < (l1.length : Int)
      ·rw [if_pos c6] at H; have c6b0 := decide_eq_true c6; clear c6; obtain ⟨t1467, A7, H⟩ := bnd_ H; by_cases c8 : t1467 = true
       ·subst c8; replace H := ifT_ H; have H' := am_ H; clear H; have p1465 : 0 ≤ (x5_1 : Int) := oda_; have q1465 : x5_1 < (l0.length : Int) := oda_; obtain ⟨ad1465, A1465_0, c1465_0, e1465, hx1465_0, hl1465_0, hi1465_0⟩ := at_L1 HR0.out x5_1 p1465 q1465; cases e1465; have HR1465_0 := am_ hi1465_0; have HC1465_0 := am_ hl1465_0; clear hi1465_0 hl1465_0; replace p1465 := eq_true p1465; replace q1465 := eq_true q1465; have p1466 : 0 ≤ (x5_1 : Int) := oda_; have q1466 : x5_1 < (l1.length : Int) := oda_; obtain ⟨ad1466, A1466_0, c1466_0, e1466, hx1466_0, hl1466_0, hi1466_0⟩ := at_L1 HR1.out x5_1 p1466 q1466; cases e1466; have HR1466_0 := am_ hi1466_0; have HC1466_0 := am_ hl1466_0; clear hi1466_0 hl1466_0; replace p1466 := eq_true p1466; replace q1466 := eq_true q1466; go_wp2_with (first | (go_at_call 40; (with_reducible refine (laws_sameInts.calls k1 _ _ (rd_L1 l0 x5_1) _ _ (rd_L1 l1 x5_1) true _ ?side1 ?side2 ?side3 ?side4 A7.out).mono ?_); (case side1 => repeat (first | exact HR1465_0.out | (with_reducible refine Kd.C_alloc ?_ _) | (with_reducible refine Kd.C_drewN ?_ _) | (with_reducible refine Kd.C_drew ?_))); (case side2 => exact HC1465_0.out); (case side3 => repeat (first | exact HR1466_0.out | (with_reducible refine Kd.C_alloc ?_ _) | (with_reducible refine Kd.C_drewN ?_ _) | (with_reducible refine Kd.C_drew ?_))); (case side4 => exact HC1466_0.out); rintro e w' ⟨rfl, ⟨nd, rfl⟩⟩; (try first | exact ⟨rfl, _, World.drewN_drewN _ _ _⟩ | exact ⟨rfl, _, Eq.trans (World.drewN_drewN _ _ _) (congrArg (World.drewN _) (Nat.add_assoc _ _ _))⟩)))
        repeat (go_quiet (first | (go_at_call 40; (with_reducible refine (laws_sameInts.calls k1 _ _ (rd_L1 l0 x5_1) _ _ (rd_L1 l1 x5_1) true _ ?side1 ?side2 ?side3 ?side4 A7.out).mono ?_); (case side1 => repeat (first | exact HR1465_0.out | (with_reducible refine Kd.C_alloc ?_ _) | (with_reducible refine Kd.C_drewN ?_ _) | (with_reducible refine Kd.C_drew ?_))); (case side2 => exact HC1465_0.out); (case side3 => repeat (first | exact HR1466_0.out | (with_reducible refine Kd.C_alloc ?_ _) | (with_reducible refine Kd.C_drewN ?_ _) | (with_reducible refine Kd.C_drew ?_))); (case side4 => exact HC1466_0.out); rintro e w' ⟨rfl, ⟨nd, rfl⟩⟩; (try first | exact ⟨rfl, _, World.drewN_drewN _ _ _⟩ | exact ⟨rfl, _, Eq.trans (World.drewN_drewN _ _ _) (congrArg (World.drewN _) (Nat.add_assoc _ _ _))⟩))); try go_wp2_with (first | (go_at_call 40; (with_reducible refine (laws_sameInts.calls k1 _ _ (rd_L1 l0 x5_1) _ _ (rd_L1 l1 x5_1) true _ ?side1 ?side2 ?side3 ?side4 A7.out).mono ?_); (case side1 => repeat (first | exact HR1465_0.out | (with_reducible refine Kd.C_alloc ?_ _) | (with_reducible refine Kd.C_drewN ?_ _) | (with_reducible refine Kd.C_drew ?_))); (case side2 => exact HC1465_0.out); (case side3 => repeat (first | exact HR1466_0.out | (with_reducible refine Kd.C_alloc ?_ _) | (with_reducible refine Kd.C_drewN ?_ _) | (with_reducible refine Kd.C_drew ?_))); (case side4 => exact HC1466_0.out); rintro e w' ⟨rfl, ⟨nd, rfl⟩⟩; (try first | exact ⟨rfl, _, World.drewN_drewN _ _ _⟩ | exact ⟨rfl, _, Eq.trans (World.drewN_drewN _ _ _) (congrArg (World.drewN _) (Nat.add_assoc _ _ _))⟩))))
        go_roundg k1
        case measure => have := HK1.out; omega
        case rel => exact ⟨(wrap64 (x5_1 + 1)), vt_, H', hl_ HK1, dr_⟩
       ·replace c8 := Bool.eq_false_iff.mpr c8; subst c8; replace H := ifF_ H; obtain rfl := Option.some.inj H; have p1465 : 0 ≤ (x5_1 : Int) := oda_; have q1465 : x5_1 < (l0.length : Int) := oda_; obtain ⟨ad1465, A1465_0, c1465_0, e1465, hx1465_0, hl1465_0, hi1465_0⟩ := at_L1 HR0.out x5_1 p1465 q1465; cases e1465; have HR1465_0 := am_ hi1465_0; have HC1465_0 := am_ hl1465_0; clear hi1465_0 hl1465_0; replace p1465 := eq_true p1465; replace q1465 := eq_true q1465; have p1466 : 0 ≤ (x5_1 : Int) := oda_; have q1466 : x5_1 < (l1.length : Int) := oda_; obtain ⟨ad1466, A1466_0, c1466_0, e1466, hx1466_0, hl1466_0, hi1466_0⟩ := at_L1 HR1.out x5_1 p1466 q1466; cases e1466; have HR1466_0 := am_ hi1466_0; have HC1466_0 := am_ hl1466_0; clear hi1466_0 hl1466_0; replace p1466 := eq_true p1466; replace q1466 := eq_true q1466; go_wp2_with (first | (go_at_call 40; (with_reducible refine (laws_sameInts.calls k1 _ _ (rd_L1 l0 x5_1) _ _ (rd_L1 l1 x5_1) false _ ?side1 ?side2 ?side3 ?side4 A7.out).mono ?_); (case side1 => repeat (first | exact HR1465_0.out | (with_reducible refine Kd.C_alloc ?_ _) | (with_reducible refine Kd.C_drewN ?_ _) | (with_reducible refine Kd.C_drew ?_))); (case side2 => exact HC1465_0.out); (case side3 => repeat (first | exact HR1466_0.out | (with_reducible refine Kd.C_alloc ?_ _) | (with_reducible refine Kd.C_drewN ?_ _) | (with_reducible refine Kd.C_drew ?_))); (case side4 => exact HC1466_0.out); rintro e w' ⟨rfl, ⟨nd, rfl⟩⟩; (try first | exact ⟨rfl, _, World.drewN_drewN _ _ _⟩ | exact ⟨rfl, _, Eq.trans (World.drewN_drewN _ _ _) (congrArg (World.drewN _) (Nat.add_assoc _ _ _))⟩)))
        repeat (go_quiet (first | (go_at_call 40; (with_reducible refine (laws_sameInts.calls k1 _ _ (rd_L1 l0 x5_1) _ _ (rd_L1 l1 x5_1) false _ ?side1 ?side2 ?side3 ?side4 A7.out).mono ?_); (case side1 => repeat (first | exact HR1465_0.out | (with_reducible refine Kd.C_alloc ?_ _) | (with_reducible refine Kd.C_drewN ?_ _) | (with_reducible refine Kd.C_drew ?_))); (case side2 => exact HC1465_0.out); (case side3 => repeat (first | exact HR1466_0.out | (with_reducible refine Kd.C_alloc ?_ _) | (with_reducible refine Kd.C_drewN ?_ _) | (with_reducible refine Kd.C_drew ?_))); (case side4 => exact HC1466_0.out); rintro e w' ⟨rfl, ⟨nd, rfl⟩⟩; (try first | exact ⟨rfl, _, World.drewN_drewN _ _ _⟩ | exact ⟨rfl, _, Eq.trans (World.drewN_drewN _ _ _) (congrArg (World.drewN _) (Nat.add_assoc _ _ _))⟩))); try go_wp2_with (first | (go_at_call 40; (with_reducible refine (laws_sameInts.calls k1 _ _ (rd_L1 l0 x5_1) _ _ (rd_L1 l1 x5_1) false _ ?side1 ?side2 ?side3 ?side4 A7.out).mono ?_); (case side1 => repeat (first | exact HR1465_0.out | (with_reducible refine Kd.C_alloc ?_ _) | (with_reducible refine Kd.C_drewN ?_ _) | (with_reducible refine Kd.C_drew ?_))); (case side2 => exact HC1465_0.out); (case side3 => repeat (first | exact HR1466_0.out | (with_reducible refine Kd.C_alloc ?_ _) | (with_reducible refine Kd.C_drewN ?_ _) | (with_reducible refine Kd.C_drew ?_))); (case side4 => exact HC1466_0.out); rintro e w' ⟨rfl, ⟨nd, rfl⟩⟩; (try first | exact ⟨rfl, _, World.drewN_drewN _ _ _⟩ | exact ⟨rfl, _, Eq.trans (World.drewN_drewN _ _ _) (congrArg (World.drewN _) (Nat.add_assoc _ _ _))⟩))))
        go_ret; exact ⟨by first | rfl | (simp; done) | (simp [*]; done), dr_⟩
      ·rw [if_neg c6] at H; exact absurd H (by simp)
     ·rw [if_neg c5] at H; exact absurd H (by simp)
    ·rw [if_neg c4] at H; have c4b0 := decide_eq_false c4; clear c4; obtain rfl := Option.some.inj H; go_wp2; repeat (go_quiet (fail); try go_wp2)
     go_ret; exact ⟨by first | rfl | (simp; done) | (simp [*]; done), dr_⟩
 ·rw [if_neg c3] at H; obtain ⟨c3b0, c3b1⟩ := eqF_ c3; have c3b2 : (l0.length == l1.length) = false := by first | simpa using c3 | (simp at c3 ⊢; omega)
  obtain rfl := Option.some.inj H; go_enter Try.func42, Try.ntmps42
  go_wp2; repeat (go_quiet (fail); try go_wp2)
  go_ret; exact ⟨by first | rfl | (simp; done) | (simp [*]; done), dr_⟩
end Go.Proofs.Ytoajlmlobaccdaa.P
namespace Go.Proofs.Ytoajlmlobaccdaa.P
open Go.RowKit Go.Proofs.YtoajlmlobaccdaaW.PrintWords Go.Proofs.YtoajlmlobaccdaaW.PrintLast Go.Proofs.YtoajlmlobaccdaaW.PrintMore
attribute [local go_sem] ptrOf_slice
attribute [local go_sem] min2_str max2_int min2_int max_two min_two max_three min_three max_four min_four
set_option linter.unusedVariables false
set_option linter.unusedSimpArgs false
attribute [local go_sem high] eqA56
def laws_samePoints.l0 : Nat → List (S56) → List (S56) → Int → Option (Bool)
 | 0, _, _, _ => none
 | k + 1, x0, x1, x5 => if x5 < (x0.length : Int) then (if 0 ≤ x5 then (if x5 < (x1.length : Int) then (if (!(((rd_T56 x0 x5).f0) == ((rd_T56 x1 x5).f0)) || (!(((rd_T56 x0 x5).f1) == ((rd_T56 x1 x5).f1)))) = true then (some false) else (laws_samePoints.l0 k x0 x1 (wrap64 (x5 + 1)))) else (none)) else (none)) else (some true)
def laws_samePoints.f (k : Nat) (l0 : List (S56)) (l1 : List (S56)) : Option (Bool) := if (l0.length : Int) = (l1.length : Int) then (laws_samePoints.l0 k l0 l1 0) else (some false)
set_option maxHeartbeats 8000000 in
set_option maxRecDepth 100000 in
theorem laws_samePoints.calls (k : Nat) (A0 : Option Addr) (c0 : Nat) (l0 : List (S56)) (A1 : Option Addr) (c1 : Nat) (l1 : List (S56)) (r : Bool) (w : World) (hr0 : Kd.C k56 w A0 l0.length l0) (hc0 : l0.length ≤ c0) (hr1 : Kd.C k56 w A1 l1.length l1) (hc1 : l1.length ≤ c1) (h : laws_samePoints.f k l0 l1 = some r) :
  Calls Try.prog 41 #[.slice A0 l0.length c0, .slice A1 l1.length c1] w fun e w' => e = .returned (.bool r) ∧ Drawn0 w w' := by
 have hu56 := Try.underlying56; have HR0 := am_ hr0; have HC0 := am_ hc0; clear hr0 hc0; have HR1 := am_ hr1; have HC1 := am_ hc1; clear hr1 hc1; have H : (if (l0.length : Int) = (l1.length : Int) then (laws_samePoints.l0 k l0 l1 0) else (some false)) = some r := h; clear h; by_cases c3 : (l0.length : Int) = (l1.length : Int)
 ·rw [if_pos c3] at H; obtain ⟨c3b0, c3b1⟩ := eqT_ c3; have c3b2 : (l0.length == l1.length) = true := by first | simpa using c3 | (simp at c3 ⊢; omega)
  clear c3; have H' := am_ H; clear H; go_enter Try.func41, Try.ntmps41
  go_wp2; repeat (go_quiet (fail); try go_wp2)
  go_loopg [5] k (fun kq v5 w' => ∃ (x5_1 : Int), v5 = .int .i64 x5_1 ∧ Aside0 (laws_samePoints.l0 kq l0 l1 x5_1 = some r) ∧ Aside0 (kq ≤ k) ∧ Drawn0 w w')
  case atStart => exact ⟨(0), vt_, H', ⟨Nat.le_refl _⟩, dr_⟩
  case round =>
   clear H'; try clear c3b0 c3b1 c3b2
   obtain ⟨x5_1, rfl, HA, HK1, ⟨m1, rfl⟩⟩ := hrel; cases gk with
   | zero => exact absurd HA.out (by simp [laws_samePoints.l0])
   | succ k1 =>
    have H := HA.out; clear HA; simp only [laws_samePoints.l0] at H
    by_cases c4 : x5_1 < (l0.length : Int)
    ·rw [if_pos c4] at H; have c4b0 := decide_eq_true c4; clear c4; by_cases c5 : 0 ≤ x5_1
     ·rw [if_pos c5] at H; have c5b0 := decide_eq_true c5; clear c5; by_cases c6 : x5_1 < (l1.length : Int)
      ·rw [if_pos c6] at H; have c6b0 := decide_eq_true c6; clear c6; by_cases c7 : (!(((rd_T56 l0 x5_1).f0) == ((rd_T56 l1 x5_1).f0)) || (!(((rd_T56 l0 x5_1).f1) == ((rd_T56 l1 x5_1).f1)))) = true
       ·rw [if_pos c7] at H; have c7b0 : (!(((rd_T56 l0 x5_1).f0) == ((rd_T56 l1 x5_1).f0)) || (!(((rd_T56 l0 x5_1).f1) == ((rd_T56 l1 x5_1).f1)))) = true := c7; clear c7; obtain rfl := Option.some.inj H; have p1463 : 0 ≤ (x5_1 : Int) := oda_; have q1463 : x5_1 < (l0.length : Int) := oda_; obtain ⟨ad1463, e1463, hx1463_0, hx1463_1⟩ := at_T56 HR0.out x5_1 p1463 q1463; cases e1463; replace p1463 := eq_true p1463; replace q1463 := eq_true q1463; have p1464 : 0 ≤ (x5_1 : Int) := oda_; have q1464 : x5_1 < (l1.length : Int) := oda_; obtain ⟨ad1464, e1464, hx1464_0, hx1464_1⟩ := at_T56 HR1.out x5_1 p1464 q1464; cases e1464; replace p1464 := eq_true p1464; replace q1464 := eq_true q1464; go_wp2; repeat (go_quiet (fail); try go_wp2)
        go_ret; exact ⟨by first | rfl | (simp; done) | (simp [*]; done), dr_⟩
       ·rw [if_neg c7] at H; have c7b0 : (!(((rd_T56 l0 x5_1).f0) == ((rd_T56 l1 x5_1).f0)) || (!(((rd_T56 l0 x5_1).f1) == ((rd_T56 l1 x5_1).f1)))) = false := by simpa using c7
        clear c7; have H' := am_ H; clear H; have p1463 : 0 ≤ (x5_1 : Int) := oda_; have q1463 : x5_1 < (l0.length : Int) := oda_; obtain ⟨ad1463, e1463, hx1463_0, hx1463_1⟩ := at_T56 HR0.out x5_1 p1463 q1463; cases e1463; replace p1463 := eq_true p1463; replace q1463 := eq_true q1463; have p1464 : 0 ≤ (x5_1 : Int) := oda_; have q1464 : x5_1 < (l1.length : Int) := oda_; obtain ⟨ad1464, e1464, hx1464_0, hx1464_1⟩ := at_T56 HR1.out x5_1 p1464 q1464; cases e1464; replace p1464 := eq_true p1464; replace q1464 := eq_true q1464; go_wp2; repeat (go_quiet (fail); try go_wp2)
        go_roundg k1
        case measure => have := HK1.out; omega
        case rel => exact ⟨(wrap64 (x5_1 + 1)), vt_, H', hl_ HK1, dr_⟩
      ·rw [if_neg c6] at H; exact absurd H (by simp)
     ·rw [if_neg c5] at H; exact absurd H (by simp)
    ·rw [if_neg c4] at H; have c4b0 := decide_eq_false c4; clear c4; obtain rfl := Option.some.inj H; go_wp2; repeat (go_quiet (fail); try go_wp2)
     go_ret; exact ⟨by first | rfl | (simp; done) | (simp [*]; done), dr_⟩
 ·rw [if_neg c3] at H; obtain ⟨c3b0, c3b1⟩ := eqF_ c3; have c3b2 : (l0.length == l1.length) = false := by first | simpa using c3 | (simp at c3 ⊢; omega)
  obtain rfl := Option.some.inj H; go_enter Try.func41, Try.ntmps41
  go_wp2; repeat (go_quiet (fail); try go_wp2)
  go_ret; exact ⟨by first | rfl | (simp; done) | (simp [*]; done), dr_⟩
end Go.Proofs.Ytoajlmlobaccdaa.P
namespace Go.Proofs.Ytoajlmlobaccdaa.P
open Go.RowKit Go.Proofs.YtoajlmlobaccdaaW.PrintWords Go.Proofs.YtoajlmlobaccdaaW.PrintLast Go.Proofs.YtoajlmlobaccdaaW.PrintMore
set_option linter.unusedVariables false
set_option linter.unusedSimpArgs false
section
variable {α : Type} [Inhabited α] {enc : α → Value} {h1 : ∀ x, (enc x).oneCell' = true} {e base : Nat} {ok : Nat → Prop} {w : World} {v : Value} {xs : List α}
end
end Go.Proofs.Ytoajlmlobaccdaa.P
namespace Go.Proofs.Ytoajlmlobaccdaa.P
open Go.RowKit Go.Proofs.YtoajlmlobaccdaaW.PrintWords Go.Proofs.YtoajlmlobaccdaaW.PrintLast Go.Proofs.YtoajlmlobaccdaaW.PrintMore
attribute [local go_sem] ptrOf_slice
set_option linter.unusedVariables false
set_option linter.unusedSimpArgs false
def hdr : Kd (Option Addr × Nat × Nat) := Kd.scalar (fun h => .slice h.1 h.2.1 h.2.2) (fun _ => rfl)
def hd2 (b : Nat) : Option Addr × Nat × Nat := (some ⟨b, 0, none⟩, 2, 2)
def Inn (w : World) (base : Nat) (bs : List Nat) (xs : List (List Int)) : Prop := bs.length = xs.length ∧ bs.Nodup ∧ ∀ (j : Nat) (b : Nat) (x : List Int), bs[j]? = some b → xs[j]? = some x → base ≤ b ∧ x.length = 2 ∧ w.heap[b]? = some (.cells #[.int .i64 (rd x 0), .int .i64 (rd x 1)] 3 (0, 0))
theorem Inn_step {w w1 : World} {base : Nat} {bs : List Nat} {xs : List (List Int)} (h : Inn w base bs xs) (hm : ∀ k c, k ∈ bs → w.heap[k]? = some (.cells c 3 (0, 0)) → w1.heap[k]? = some (.cells c 3 (0, 0))) : Inn w1 base bs xs :=
  ⟨h.1, h.2.1, fun j b x hb hx => by
    obtain ⟨h1, h2, h3⟩ := h.2.2 j b x hb hx; exact ⟨h1, h2, hm b _ (List.mem_of_getElem? hb) h3⟩⟩
theorem Inn_lt {w : World} {base : Nat} {bs : List Nat} {xs : List (List Int)} (h : Inn w base bs xs) : ∀ b ∈ bs, b < w.heap.size := by
  intro b hb; obtain ⟨j, hj, e⟩ := List.mem_iff_getElem.1 hb; have hx : j < xs.length := by have := h.1; omega
  obtain ⟨_, _, h3⟩ := h.2.2 j b xs[j] (by rw [List.getElem?_eq_getElem hj, e]) (List.getElem?_eq_getElem hx); exact blk_lt h3
theorem Inn_snoc {w w1 : World} {base b : Nat} {bs : List Nat} {xs : List (List Int)} {x y : Int} (h : Inn w base bs xs) (hb : base ≤ b) (hn : w.heap.size ≤ b) (hx : w1.heap[b]? = some (.cells #[.int .i64 x, .int .i64 y] 3 (0, 0))) (hm : ∀ k c, k ∈ bs → w.heap[k]? = some (.cells c 3 (0, 0)) → w1.heap[k]? = some (.cells c 3 (0, 0))) : Inn w1 base (bs ++ [b]) (xs ++ [[x, y]]) := by
  have hlt := Inn_lt h; have h' := Inn_step h hm; refine ⟨by rw [List.length_append, List.length_append, h.1]; rfl, ?_, fun j b' x' hb' hx' => ?_⟩
  · rw [List.nodup_append]; refine ⟨h.2.1, by simp, fun a ha c hc => ?_⟩; rw [List.mem_singleton] at hc; subst hc; have := hlt a ha; omega
  · rcases Nat.lt_or_ge j bs.length with hj | hj
    · rw [List.getElem?_append_left hj] at hb'; rw [List.getElem?_append_left (by have := h.1; omega)] at hx'; exact h'.2.2 j b' x' hb' hx'
    · rw [List.getElem?_append_right hj] at hb'; rw [List.getElem?_append_right (by have := h.1; omega), ← h.1] at hx'; cases hk : j - bs.length with
      | zero =>
        rw [hk] at hb' hx'; have e1 : b = b' := by simpa using hb'
        have e2 : [x, y] = x' := by simpa using hx'
        subst e1; subst e2; exact ⟨hb, rfl, hx⟩
      | succ m => rw [hk] at hb'; simp at hb'
theorem alloc_at (w : World) (o : Obj) : (w.alloc o).heap[w.heap.size]? = some o := by
  show (w.heap.push o)[w.heap.size]? = some o
  exact Array.getElem?_push_size
def SwI (base gb : Nat) (uw : Option Nat) (xs : List (List Int)) (w : World) : Prop := ∃ (AV : Option Addr) (cV : Nat) (bs : List Nat), w.heap[gb]? = some (.cells #[.slice AV bs.length cV] 39 (0, 0)) ∧ hdr.R 34 w base (fun k => some k ≠ uw) (.slice AV bs.length cV) (bs.map hd2) ∧ Inn w base bs xs ∧ base ≤ gb ∧ some gb ≠ uw ∧ ∀ b ∈ bs, some b ≠ uw
theorem SwI_step {base gb : Nat} {uw : Option Nat} {xs : List (List Int)} {w w1 : World} (h : SwI base gb uw xs w) (hm : ∀ k, k < w.heap.size → some k ≠ uw → w1.heap[k]? = w.heap[k]?) : SwI base gb uw xs w1 := by
  obtain ⟨AV, cV, bs, h1, h2, h3, h4, h5, h6⟩ := h; exact ⟨AV, cV, bs, (hm gb (blk_lt h1) h5).trans h1, Kd.R_step h2 (fun k hk hlt => hm k hlt hk), Inn_step h3 (fun k c hk hc => (hm k (blk_lt hc) (h6 k hk)).trans hc), h4, h5, h6⟩
theorem SwI_drew {base gb : Nat} {uw : Option Nat} {xs : List (List Int)} {w : World} (h : SwI base gb uw xs w) : SwI base gb uw xs w.drew := SwI_step h (fun _ _ _ => rfl)
theorem SwI_set {base gb g j : Nat} {uw : Option Nat} {xs : List (List Int)} {w : World} {u : Value} (h : SwI base gb uw xs w) (hu : uw = some g) : SwI base gb uw xs (w.setCell ⟨g, j, none⟩ u) := SwI_step h (fun k _ hk => Below.heap_setCell w ⟨g, j, none⟩ u k (fun e => hk (by rw [hu, e])))
def sw1.T0 : Bool × List (List Nat × List Nat) := (true, [([], []), ([], []), ([], []), ([1, 2], [1, 2]), ([3], [3]), ([], []), ([], []), ([6], [6]), ([5, 7], [5, 7]), ([8], [8]), ([4, 9], [4, 9]), ([10], [10]), ([0, 11], [0, 11]), ([12, 12, 0, 1, 2, 3, 4, 5, 6, 7, 8, 9, 10, 11, 12], [12])])
def sw1.B0 : List Nat := [0, 0, 0, 6, 14, 0, 0, 64, 224, 480, 1022, 2046, 4095, 8191]
theorem sw1.tab0 : rtab .any (opsOf Try.f114 0) = sw1.T0 := by kernel_rfl
theorem sw1.bits0 : waitsOk sw1.T0.2 sw1.B0 = true := by kernel_rfl
set_option maxHeartbeats 8000000 in
set_option maxRecDepth 100000 in
theorem sw1_calls (uw : Option Nat) (gb : Nat) (xs : List (List Int)) (A0 : Option Addr) (c0 : Nat) (l0 : List Int) (p q : Int) (w0 w : World) (hB : Below w0.heap.size w0 w) (hr0 : Kd.C (Kd.int .i64) w A0 l0.length l0) (hc0 : l0.length ≤ c0) (hI : SwI w0.heap.size gb uw xs w) (hu : ∀ k, uw = some k → k < w.heap.size ∧ ∃ c, w.heap[k]? = some (.cells c 3 (0, 0))) (hp0 : 0 ≤ p) (hp1 : p < l0.length) (hq : wrap64 (p + 1) = q) (hq0 : 0 ≤ q) (hq1 : q < l0.length) (hl : xs.length < 5864062014805) :
    Calls Try.prog 114 #[.slice A0 l0.length c0, .int .i64 p, .pointer (some ⟨gb, 0, none⟩)] w fun e w' => e = .returned (.tuple #[]) ∧ SwI w0.heap.size gb uw (xs ++ [[rd l0 p, rd l0 q]]) w' ∧ Below w0.heap.size w0 w' ∧ ∀ k, uw = some k → w'.heap[k]? = w.heap[k]? := by
  obtain ⟨AV, cV, bs, hbx, hR, hIn, hgb, hne, hbn⟩ := hI; have cB : w.cell? ⟨gb, 0, none⟩ = some (.slice AV bs.length cV) := (blk_cell hbx 0).trans rfl; obtain ⟨ad, e0, hx0⟩ := Kd.at_int hr0 p hp0 hp1; subst e0; obtain ⟨ad', e1, hx1⟩ := Kd.at_int hr0 q hq0 hq1; obtain rfl : ad = ad' := by injection e1
  clear e1; have hqw : (IntKind.i64.wrap (p + 1)) = q := (i64_w _).trans hq; have P0_ := eq_true hp0; have P1_ := eq_true hp1; have Q0_ := eq_true hq0; have Q1_ := eq_true hq1; have P0b_ : decide (0 ≤ p) = true := decide_eq_true hp0; have P1b_ : decide (p < (l0.length : Int)) = true := decide_eq_true hp1; have Q0b_ : decide (0 ≤ q) = true := decide_eq_true hq0; have Q1b_ : decide (q < (l0.length : Int)) = true := decide_eq_true hq1; have HR := am_ (Kd.R_drew hR); have HC := am_ (Kd.C_drew hr0); have HB := am_ (below_drew1 hB); have HI := am_ (show Inn w.drew w0.heap.size bs xs from hIn); have HX := am_ (show w.drew.heap[gb]? = some (.cells #[.slice AV bs.length cV] 39 (0, 0)) from hbx); have HU := am_ (show ∀ k, uw = some k → k < w.drew.heap.size from fun k e => (hu k e).1); have HUT := am_ (fun k e => (hu k e).2); have HL := am_ (show bs.length < 5864062014805 by have := hIn.1; omega); have HGB := am_ hgb; have HNE := am_ hne; have HBN := am_ hbn; clear hR hr0 hB hIn hbx hu hgb hne hbn hl hp0 hp1 hq hq0 hq1; go_enter Try.func114, Try.ntmps114
  try go_wp2
  refine start_ (n := 14) (S := fun w' => w'.cell? ⟨gb, 0, none⟩ = some (.slice AV bs.length cV) ∧ w'.cell? (ad.add p.toNat) = some (.int .i64 (rd l0 p)) ∧ w'.cell? (ad.add q.toNat) = some (.int .i64 (rd l0 q))) (ds := [12, 13]) #[false, false, false, false, false, false, false, false, false, false, false, false, false, false] (by kernel_rfl) rfl rfl ⟨cB, hx0, hx1⟩ (fun hHeld => ?_); refine with_tabW sw1.tab0 sw1.bits0 (fun HT_ HW_ => ?_); generalize hw10 : w.drew = w10 at HR HC HB HI HX HU hHeld ⊢
  refine pD_ 1 (some 6) HT_ (h := ?_); refine pD_ 2 (some 7) HT_ (h := ?_); refine pD_ 3 (some 8) HT_ (h := ?_); refine pD_ 5 (some 10) HT_ (h := ?_); refine pD_ 6 (some 11) HT_ (h := ?_); refine pD_ 7 (some 12) HT_ (h := ?_); refine pD_ 8 (some 13) HT_ (h := ?_); refine tD3_ 0 (some 5) HT_ HW_ hHeld (h := ?_); refine tD3_ 4 (some 9) HT_ HW_ hHeld (h := ?_); refine tD3_ 9 (some 14) HT_ HW_ hHeld (h := ?_); refine oN_ 10 (some 15) HT_ (fun K hK => ?_); refine value_ (w1 := ?_) (v := ?_) (by rfl) rfl ?_ ?_; rotate_left 2
  · go_simp
    constructor
    · rfl
    · rfl
  refine hK.out _ _ ⟨((below_alloc (Below.refl w10.heap.size w10) _).cell (World.block_lt_of_cell? _ _ hHeld.1)).trans hHeld.1, ((below_alloc (Below.refl w10.heap.size w10) _).cell (World.block_lt_of_cell? _ _ hHeld.2.1)).trans hHeld.2.1, ((below_alloc (Below.refl w10.heap.size w10) _).cell (World.block_lt_of_cell? _ _ hHeld.2.2)).trans hHeld.2.2⟩ (fun hHeld => ?_); clear hK K; refine nm_ 15 (h := ?_); obtain ⟨b, hb⟩ : ∃ b, b = w10.heap.size := ⟨_, rfl⟩; obtain ⟨w11, hw11⟩ : ∃ w11, w11 = w10.alloc (.cells #[.int .i64 (rd l0 p), .int .i64 (rd l0 q)] 3) := ⟨_, rfl⟩; rw [← hw11] at hHeld ⊢; rw [← hb]; have BL := am_ (show Below w10.heap.size w10 w11 from hw11 ▸ below_alloc (Below.refl w10.heap.size w10) _); have HNB := am_ (show w11.heap[b]? = some (.cells #[.int .i64 (rd l0 p), .int .i64 (rd l0 q)] 3 (0, 0)) from by rw [hw11, hb]; exact alloc_at _ _); have HSZ := am_ (show w11.heap.size = w10.heap.size + 1 from by rw [hw11]; exact Array.size_push _); have HBB := am_ hb; clear hb hw11; refine oN_ 11 (some 16) HT_ (fun K hK => ?_); refine value_ (w1 := ?_) (v := ?_) (by rfl) rfl ?_ ?_; rotate_left 2
  · go_simp
    constructor
    · rfl
    · rfl
  refine hK.out _ _ ⟨((below_alloc (Below.refl w11.heap.size w11) _).cell (World.block_lt_of_cell? _ _ hHeld.1)).trans hHeld.1, ((below_alloc (Below.refl w11.heap.size w11) _).cell (World.block_lt_of_cell? _ _ hHeld.2.1)).trans hHeld.2.1, ((below_alloc (Below.refl w11.heap.size w11) _).cell (World.block_lt_of_cell? _ _ hHeld.2.2)).trans hHeld.2.2⟩ (fun hHeld => ?_); clear hK K; refine nm_ 16 (h := ?_); refine last_ (i := 12) (N := some 17) #[true, true, true, true, true, true, true, true, true, true, true, true, true, false] rfl rfl (one_of HT_.out (by kernel_rfl)) (by decide) (fun K hK => ?_); have hR11 := Kd.R_below HR.out BL.out; refine Kd.R_append_step hdr (w0 := w0) (W := w11) w0.heap.size (by rfl) (.tmp 5) (.tmp 16) 39 34 (.slice none 0 0) 24 rfl Try.underlying39 info34 rfl (by decide) (by omega) (.slice AV bs.length cV) (bs.map hd2) (hd2 b) [.slice (some ⟨b, 0, none⟩) 2 2] (fun k => some k ≠ uw) (fun _ => False) rfl rfl rfl (fun _ h => h.elim) (fun k hk e => by have h1 := HU.out k e.symm; have h2 := HSZ.out; omega) hR11 (below_step HB.out BL.out) (by have h1 := HB.out.size; have h2 := HSZ.out; omega) (by rw [List.length_map]; have h1 := HL.out; omega) ?_; intro v1 w1 hR1 hB1 hg1 hat1; obtain ⟨A1, c1, hv1⟩ := Kd.R_slice hR1; rw [show ((bs.map hd2) ++ [hd2 b]).length = bs.length + 1 by simp] at hv1; subst hv1; have hcur : w1.heap[gb]? = some (.cells #[.slice AV bs.length cV] 39 (0, 0)) := (hg1.block gb (blk_lt (blk_below HX.out BL.out)) (Kd.R_ne hR11 (blk_below HX.out BL.out) (by decide))).trans (blk_below HX.out BL.out); have hcz : w1.cell? ⟨gb, 0, none⟩ = some (.slice AV bs.length cV) := (blk_cell hcur 0).trans rfl; have hfz := blk_frozen hcur 0; have CUR := am_ hcur; have R1 := am_ hR1; have B1 := am_ hB1; have G1 := am_ (show ∀ (k : Nat) (c : Array Value), w11.heap[k]? = some (.cells c 3 (0, 0)) → w1.heap[k]? = some (.cells c 3 (0, 0)) from fun k c hk => (hg1.block k (blk_lt hk) (Kd.R_ne hR11 hk (by decide))).trans hk); clear hcur hR1 hB1 hg1 hat1 hR11; refine hK.out _ _ ?_
  clear hK K; refine nm_ 17 (h := ?_); refine last_ (i := 13) (N := none) #[true, true, true, true, true, true, true, true, true, true, true, true, true, true] rfl rfl (one_of HT_.out (by kernel_rfl)) (by decide) (fun K hK => ?_); refine skip_ (w1 := ?_) (by rfl) rfl ?_ ?_; rotate_left
  · go_simp
    rfl
  refine hK.out _ _ ?_; clear hK K; refine done_ (done_of HT_.out (by kernel_rfl)) ?_; try go_wp2
  first | go_end0 | ((try simp only [Exit.inBlock, Exit.then]); refine bodyPost_ret (results_none rfl _ _ _) rfl ?_)
  have hw10' : ∀ k : Nat, w10.heap[k]? = w.heap[k]? := fun k => by rw [← hw10]; rfl
  have hs10 : w10.heap.size = w.heap.size := by rw [← hw10]; rfl
  have hnb : ∀ b' ∈ bs, some b' ≠ some b := fun b' hb' e => by have h1 := Inn_lt HI.out b' hb'; injection e with e; have h2 := HBB.out; omega
  have stay : ∀ (k : Nat) (c : Array Value), w10.heap[k]? = some (.cells c 3 (0, 0)) → (w1.setCell ⟨gb, 0, none⟩ (.slice A1 (bs.length + 1) c1)).heap[k]? = some (.cells c 3 (0, 0)) := fun k c hk => by
    have hk1 := G1.out k c (blk_below hk BL.out); exact blk_far hk1 (p := ⟨gb, 0, none⟩) (fun e => by
      have e' : k = gb := e; subst e'; rw [CUR.out] at hk1; injection hk1 with hk1
      injection hk1 with _ hk1
      exact absurd hk1 (by decide)) _
  have stayb : (w1.setCell ⟨gb, 0, none⟩ (.slice A1 (bs.length + 1) c1)).heap[b]? = some (.cells #[.int .i64 (rd l0 p), .int .i64 (rd l0 q)] 3 (0, 0)) := by
    have hk1 := G1.out b _ HNB.out; exact blk_far hk1 (p := ⟨gb, 0, none⟩) (fun e => by
      have e' : b = gb := e; subst e'; rw [CUR.out] at hk1; injection hk1 with hk1
      injection hk1 with _ hk1
      exact absurd hk1 (by decide)) _
  refine ⟨by first | rfl | (simp; done), ?_, below_set B1.out HGB.out, fun k e => ?_⟩
  · have hln : (bs ++ [b]).length = bs.length + 1 := by simp
    refine ⟨A1, c1, bs ++ [b], ?_, ?_, Inn_snoc HI.out (by have h1 := HB.out.size; have h2 := HBB.out; omega) (by have h2 := HBB.out; omega) stayb (fun k c _ hk => stay k c hk), HGB.out, HNE.out, ?_⟩
    · rw [hln]; exact blk_put CUR.out 0 _ rfl
    · have h := Kd.R_set R1.out CUR.out (by decide) 0 (.slice A1 (bs.length + 1) c1); rw [hln, List.map_append]; exact h
    · intro b' hb' e; rcases List.mem_append.1 hb' with h | h
      · exact HBN.out b' h e
      · rw [List.mem_singleton] at h; subst h; have h1 := HU.out _ e.symm; have h2 := HBB.out; omega
  · obtain ⟨c, hc⟩ := HUT.out k e; rw [hc]; exact stay k c ((hw10' k).trans hc)
end Go.Proofs.Ytoajlmlobaccdaa.P
namespace Go.Proofs.Ytoajlmlobaccdaa.P
open Go.RowKit Go.Proofs.YtoajlmlobaccdaaW.PrintWords Go.Proofs.YtoajlmlobaccdaaW.PrintLast Go.Proofs.YtoajlmlobaccdaaW.PrintMore
attribute [local go_sem] ptrOf_slice
attribute [local go_sem] min2_str max2_int min2_int max_two min_two max_three min_three max_four min_four
set_option linter.unusedVariables false
set_option linter.unusedSimpArgs false
def impl_run_sw.l0 : Nat → Int → List Int → List (List Int) → List Int → Int → Int → Option (Bool × List (List Int))
  | 0, _, _, _, _, _, _ => none
  | k + 1, x0, x7, xs, x12, x13, x14 => if x14 < x13 then (if 0 ≤ x14 then (if x14 < (x12.length : Int) then (if (rd x12 x14) < 0 then (some (false, xs)) else (if (rd x12 x14) > (wrap64 (x0 - 2)) then (some (false, xs)) else (if 0 ≤ (rd x12 x14) then (if (rd x12 x14) < (x7.length : Int) then (if 0 ≤ (wrap64 ((rd x12 x14) + 1)) then (if (wrap64 ((rd x12 x14) + 1)) < (x7.length : Int) then (if (rd x7 (rd x12 x14)) > (rd x7 (wrap64 ((rd x12 x14) + 1))) then (some (false, xs)) else (if xs.length < 5864062014805 then (impl_run_sw.l0 k x0 ((x7.set ((rd x12 x14) : Int).toNat (rd x7 (wrap64 ((rd x12 x14) + 1)))).set ((wrap64 ((rd x12 x14) + 1)) : Int).toNat (rd x7 (rd x12 x14))) (xs ++ [[rd x7 (rd x12 x14), rd x7 (wrap64 ((rd x12 x14) + 1))]]) x12 x13 (wrap64 (x14 + 1))) else none)) else (none)) else (none)) else (none)) else (none)))) else (none)) else (none)) else (some (true, xs))
def impl_run_sw.f (k : Nat) (a0 : Int) (l1 : List Int) (xs : List (List Int)) : Option (Bool × List (List Int)) := (impl_upTo.f k a0).bind fun t0 => (impl_run_sw.l0 k a0 t0 xs l1 (l1.length : Int) 0)
theorem impl_run_sw.mono_l : ∀ k y0 y1 y2 y3 y4 y5, LeO (impl_run_sw.l0 k y0 y1 y2 y3 y4 y5) (impl_run_sw.l0 (k + 1) y0 y1 y2 y3 y4 y5)
  | 0 => fun _ _ _ _ _ _ r h => by simp [impl_run_sw.l0] at h
  | k + 1 => by
    have ih0 := impl_run_sw.mono_l k; intro y0 y1 y2 y3 y4 y5; unfold impl_run_sw.l0
    repeat' first | (with_reducible first | apply ih0 | exact LeO.refl _ | exact LeO.none _ | refine LeO.ite ?_ ?_ | refine LeO.bind ?_ (fun _ => ?_))
theorem impl_run_sw.mono : ∀ a0 a1 a2 k, LeO (impl_run_sw.f k a0 a1 a2) (impl_run_sw.f (k + 1) a0 a1 a2) := fun a0 a1 a2 k => LeO.bind (impl_upTo.mono _ _) (fun _ => impl_run_sw.mono_l _ _ _ _ _ _ _)
def impl_run_sw.T5 : Bool × List (List Nat × List Nat) := (true, [([], []), ([0], [0]), ([1], [1]), ([2], [2]), ([2], [2]), ([4, 2], [2, 4]), ([3, 5, 2], [2, 3, 5]), ([2, 6], [2, 6]), ([7, 2], [7]), ([8], [8]), ([8], [8]), ([9, 10, 8], [8, 9, 10]), ([11, 8], [8, 11]), ([8], [8]), ([8], [8]), ([14, 8], [8, 14]), ([13, 15, 8], [8, 13, 15]), ([16, 8], [8, 16]), ([12, 17, 8], [8, 12, 17]), ([8, 18], [8, 18])])
def impl_run_sw.B5 : List Nat := [0, 1, 3, 7, 7, 23, 63, 127, 255, 511, 511, 2047, 4095, 511, 511, 16895, 57855, 123391, 262143, 524287]
theorem impl_run_sw.tab5 : rtab .any (opsOf Try.f113 5) = impl_run_sw.T5 := by kernel_rfl
theorem impl_run_sw.bits5 : waitsOk impl_run_sw.T5.2 impl_run_sw.B5 = true := by kernel_rfl
def impl_run_sw.T8 : Bool × List (List Nat × List Nat) := (true, [([], []), ([], []), ([], []), ([], []), ([3], [3]), ([], []), ([], []), ([6], [6]), ([5, 7], [5, 7]), ([8], [8]), ([], []), ([], []), ([10, 11], [10, 11]), ([12], [12]), ([0, 1, 0, 1, 5, 6, 7, 8, 9, 13], [0, 1]), ([14, 9, 0, 1, 5, 6, 7, 8, 9, 13], [9, 14]), ([2, 4, 0, 1, 2, 3, 4, 5, 6, 7, 8, 9, 10, 11, 12, 13, 14, 15], [2, 4]), ([16, 13, 15, 0, 1, 2, 3, 4, 5, 6, 7, 8, 9, 10, 11, 12, 13, 14, 15], [13, 16])])
def impl_run_sw.B8 : List Nat := [0, 0, 0, 0, 8, 0, 0, 64, 224, 480, 0, 0, 3072, 7168, 16355, 32739, 65535, 131071]
theorem impl_run_sw.tab8 : rtab .any (opsOf Try.f113 8) = impl_run_sw.T8 := by kernel_rfl
theorem impl_run_sw.bits8 : waitsOk impl_run_sw.T8.2 impl_run_sw.B8 = true := by kernel_rfl
set_option maxHeartbeats 8000000 in
set_option maxRecDepth 100000 in
theorem impl_run_sw.calls (k : Nat) (a0 : Int) (A1 : Option Addr) (c1 : Nat) (l1 : List Int) (xs0 : List (List Int)) (gb : Nat) (r : Bool) (xr : List (List Int)) (w0 w : World) (hB : Below w0.heap.size w0 w) (hr1 : Kd.C (Kd.int .i64) w0 A1 l1.length l1) (hc1 : l1.length ≤ c1) (hI : ∀ (uw : Option Nat) (w' : World), Below w.heap.size w w' → (∀ k, uw = some k → w.heap.size ≤ k) → SwI w0.heap.size gb uw xs0 w') (h : impl_run_sw.f k a0 l1 xs0 = some (r, xr)) :
    Calls Try.prog 113 #[.int .i64 a0, .slice A1 l1.length c1, .func (.func 114) #[] #[.pointer (some ⟨gb, 0, none⟩)]] w fun e w' => e = .returned (.bool r) ∧ (∃ uw, SwI w0.heap.size gb uw xr w') ∧ Below w0.heap.size w0 w' := by
  have HR1 := am_ hr1; have HC1 := am_ hc1; clear hr1 hc1; have HB := am_ hB; have H : ((impl_upTo.f k a0).bind fun t777 => (impl_run_sw.l0 k a0 t777 xs0 l1 (l1.length : Int) 0)) = some (r, xr) := h; clear h; obtain ⟨t777, A4, H⟩ := bnd_ H; have H' := am_ H; clear H; go_enter Try.func113, Try.ntmps113
  go_wp2_with (first | ((with_reducible refine gc_ 168 rfl ?_); refine gR_ (some 11) Try.func168 #[.int .i64 a0] (impl_upTo.calls k a0 t777 _ A4.out) ?_; intro w5 v778 ho0 hb; have n0_ := am_ (Kd.R_lower ho0 (below_size (bx0 HB.out))); have n1_ := am_ (below_step (bx0 HB.out) hb); have HI := am_ (hI v778.ownBlock _ hb (fun k e => Kd.R_base ho0 k e)); clear HB; have HO779 := n0_; have HB := n1_; clear n0_ n1_; try clear hb; (try clear ho0)))
  go_loopg [14] k (fun kq v14 w' => ∃ (x7_1 : List Int) (xs_1 : List (List Int)) (x14_1 : Int), v14 = .int .i64 x14_1 ∧ Aside0 (impl_run_sw.l0 kq a0 x7_1 xs_1 l1 (l1.length : Int) x14_1 = some (r, xr)) ∧ Aside0 (kq ≤ k) ∧ Aside0 (Kd.R (Kd.int .i64) 3 w' w0.heap.size (fun _ => True) v778 x7_1) ∧ Aside0 (Below w0.heap.size w0 w') ∧ Aside0 (SwI w0.heap.size gb (v778 : Value).ownBlock xs_1 w'))
  case atStart => exact ⟨(t777), xs0, (0), vt_, H', ⟨Nat.le_refl _⟩, rX_ HO779, bX0_ HB, HI⟩
  case round =>
    clear H'; obtain ⟨x7_1, xs_1, x14_1, rfl, HA, HK1, HO_7, HB, HI⟩ := hrel; cases gk with
    | zero => exact absurd HA.out (by simp [impl_run_sw.l0])
    | succ k1 =>
      have H := HA.out; clear HA; simp only [impl_run_sw.l0] at H
      by_cases c6 : x14_1 < (l1.length : Int)
      · rw [if_pos c6] at H; have c6b0 := decide_eq_true c6; clear c6; by_cases c7 : 0 ≤ x14_1
        · rw [if_pos c7] at H; have c7b0 := decide_eq_true c7; clear c7; by_cases c8 : x14_1 < (l1.length : Int)
          · rw [if_pos c8] at H; have c8b0 := decide_eq_true c8; clear c8; by_cases c9 : (rd l1 x14_1) < 0
            · rw [if_pos c9] at H; have c9b0 := decide_eq_true c9; clear c9; obtain ⟨rfl, rfl⟩ := Prod.mk.inj (Option.some.inj H); have p780 : 0 ≤ (x14_1 : Int) := oda_; have q780 : x14_1 < (l1.length : Int) := oda_; obtain ⟨ad780, e780, hx780_0⟩ := Kd.at_int HR1.out x14_1 p780 q780; cases e780; replace hx780_0 := (HB.out.cell (World.block_lt_of_cell? w0 _ hx780_0)).trans hx780_0; replace p780 := eq_true p780; replace q780 := eq_true q780; try go_wp2
              replace HO_7 := am_ (Kd.R_drew HO_7.out); replace HB := bd_ HB; replace HI := am_ (SwI_drew HI.out); refine start_ (n := 20) (S := fun w' => True) (ds := []) #[false, false, false, false, false, false, false, false, false, false, false, false, false, false, false, false, false, false, false, false] (by kernel_rfl) rfl rfl trivial (fun hHeld => ?_); refine with_tabW impl_run_sw.tab5 impl_run_sw.bits5 (fun HT_ HW_ => ?_); generalize wr.drew = w10 at HO_7 HB HI hHeld ⊢
              refine pD_ 0 (some 18) HT_ (h := ?_); refine pD_ 1 (some 19) HT_ (h := ?_); refine pD_ 2 (some 20) HT_ (h := ?_); refine pure_ (i := 3) (N := some 21) (v := undef) (a' := ?_) #[true, true, true, true, false, false, false, false, false, false, false, false, false, false, false, false, false, false, false, false] rfl rfl (any_of HT_.out (by kernel_rfl)) (fun _ _ _ h => h) (Or.inr ⟨by rfl, rfl⟩) ?_ ?_; rotate_left
              · simp only [Act.put, sA_, sZ_, sS_, i64_w, i32_w]
                rfl
              refine pure_ (i := 4) (N := some 22) (v := undef) (a' := ?_) #[true, true, true, true, true, false, false, false, false, false, false, false, false, false, false, false, false, false, false, false] rfl rfl (any_of HT_.out (by kernel_rfl)) (fun _ _ _ h => h) (Or.inr ⟨by rfl, rfl⟩) ?_ ?_; rotate_left
              · simp only [Act.put, sA_, sZ_, sS_, i64_w, i32_w]
                rfl
              refine pure_ (i := 5) (N := some 23) (v := undef) (a' := ?_) #[true, true, true, true, true, true, false, false, false, false, false, false, false, false, false, false, false, false, false, false] rfl rfl (any_of HT_.out (by kernel_rfl)) (fun _ _ _ h => h) (Or.inr ⟨by rfl, rfl⟩) ?_ ?_; rotate_left
              · simp only [Act.put, sA_, sZ_, sS_, i64_w, i32_w]
                rfl
              refine pure_ (i := 6) (N := some 24) (v := undef) (a' := ?_) #[true, true, true, true, true, true, true, false, false, false, false, false, false, false, false, false, false, false, false, false] rfl rfl (any_of HT_.out (by kernel_rfl)) (fun _ _ _ h => h) (Or.inr ⟨by rfl, rfl⟩) ?_ ?_; rotate_left
              · simp only [Act.put, sA_, sZ_, sS_, i64_w, i32_w]
                rfl
              refine pD_ 7 (some 25) HT_ (h := ?_); refine pD_ 8 (some 26) HT_ (h := ?_); refine pure_ (i := 9) (N := some 27) (v := undef) (a' := ?_) #[true, true, true, true, true, true, true, true, true, true, false, false, false, false, false, false, false, false, false, false] rfl rfl (any_of HT_.out (by kernel_rfl)) (fun _ _ _ h => h) (Or.inr ⟨by rfl, rfl⟩) ?_ ?_; rotate_left
              · simp only [Act.put, sA_, sZ_, sS_, i64_w, i32_w]
                rfl
              refine pure_ (i := 10) (N := some 28) (v := undef) (a' := ?_) #[true, true, true, true, true, true, true, true, true, true, true, false, false, false, false, false, false, false, false, false] rfl rfl (any_of HT_.out (by kernel_rfl)) (fun _ _ _ h => h) (Or.inr ⟨by rfl, rfl⟩) ?_ ?_; rotate_left
              · simp only [Act.put, sA_, sZ_, sS_, i64_w, i32_w]
                rfl
              refine pure_ (i := 11) (N := some 29) (v := undef) (a' := ?_) #[true, true, true, true, true, true, true, true, true, true, true, true, false, false, false, false, false, false, false, false] rfl rfl (any_of HT_.out (by kernel_rfl)) (fun _ _ _ h => h) (Or.inr ⟨by rfl, rfl⟩) ?_ ?_; rotate_left
              · simp only [Act.put, sA_, sZ_, sS_, i64_w, i32_w]
                rfl
              refine pure_ (i := 12) (N := some 30) (v := undef) (a' := ?_) #[true, true, true, true, true, true, true, true, true, true, true, true, true, false, false, false, false, false, false, false] rfl rfl (any_of HT_.out (by kernel_rfl)) (fun _ _ _ h => h) (Or.inr ⟨by rfl, rfl⟩) ?_ ?_; rotate_left
              · simp only [Act.put, sA_, sZ_, sS_, i64_w, i32_w]
                rfl
              refine pure_ (i := 13) (N := some 31) (v := undef) (a' := ?_) #[true, true, true, true, true, true, true, true, true, true, true, true, true, true, false, false, false, false, false, false] rfl rfl (any_of HT_.out (by kernel_rfl)) (fun _ _ _ h => h) (Or.inr ⟨by rfl, rfl⟩) ?_ ?_; rotate_left
              · simp only [Act.put, sA_, sZ_, sS_, i64_w, i32_w]
                rfl
              refine pure_ (i := 14) (N := some 32) (v := undef) (a' := ?_) #[true, true, true, true, true, true, true, true, true, true, true, true, true, true, true, false, false, false, false, false] rfl rfl (any_of HT_.out (by kernel_rfl)) (fun _ _ _ h => h) (Or.inr ⟨by rfl, rfl⟩) ?_ ?_; rotate_left
              · simp only [Act.put, sA_, sZ_, sS_, i64_w, i32_w]
                rfl
              refine pure_ (i := 15) (N := some 33) (v := undef) (a' := ?_) #[true, true, true, true, true, true, true, true, true, true, true, true, true, true, true, true, false, false, false, false] rfl rfl (any_of HT_.out (by kernel_rfl)) (fun _ _ _ h => h) (Or.inr ⟨by rfl, rfl⟩) ?_ ?_; rotate_left
              · simp only [Act.put, sA_, sZ_, sS_, i64_w, i32_w]
                rfl
              refine pure_ (i := 16) (N := some 34) (v := undef) (a' := ?_) #[true, true, true, true, true, true, true, true, true, true, true, true, true, true, true, true, true, false, false, false] rfl rfl (any_of HT_.out (by kernel_rfl)) (fun _ _ _ h => h) (Or.inr ⟨by rfl, rfl⟩) ?_ ?_; rotate_left
              · simp only [Act.put, sA_, sZ_, sS_, i64_w, i32_w]
                rfl
              refine pure_ (i := 17) (N := some 35) (v := undef) (a' := ?_) #[true, true, true, true, true, true, true, true, true, true, true, true, true, true, true, true, true, true, false, false] rfl rfl (any_of HT_.out (by kernel_rfl)) (fun _ _ _ h => h) (Or.inr ⟨by rfl, rfl⟩) ?_ ?_; rotate_left
              · simp only [Act.put, sA_, sZ_, sS_, i64_w, i32_w]
                rfl
              refine pure_ (i := 18) (N := some 36) (v := undef) (a' := ?_) #[true, true, true, true, true, true, true, true, true, true, true, true, true, true, true, true, true, true, true, false] rfl rfl (any_of HT_.out (by kernel_rfl)) (fun _ _ _ h => h) (Or.inr ⟨by rfl, rfl⟩) ?_ ?_; rotate_left
              · simp only [Act.put, sA_, sZ_, sS_, i64_w, i32_w]
                rfl
              refine pD_ 19 (some 37) HT_ (h := ?_); refine done_ (done_of HT_.out (by kernel_rfl)) ?_; try go_wp2
              go_ret; exact ⟨er_, ⟨_, HI.out⟩, bx0 HB.out⟩
            · rw [if_neg c9] at H; have c9b0 := decide_eq_false c9; clear c9; by_cases c11 : (rd l1 x14_1) > (wrap64 (a0 - 2))
              · rw [if_pos c11] at H; have c11b0 := decide_eq_true c11; clear c11; obtain ⟨rfl, rfl⟩ := Prod.mk.inj (Option.some.inj H); have p780 : 0 ≤ (x14_1 : Int) := oda_; have q780 : x14_1 < (l1.length : Int) := oda_; obtain ⟨ad780, e780, hx780_0⟩ := Kd.at_int HR1.out x14_1 p780 q780; cases e780; replace hx780_0 := (HB.out.cell (World.block_lt_of_cell? w0 _ hx780_0)).trans hx780_0; replace p780 := eq_true p780; replace q780 := eq_true q780; try go_wp2
                replace HO_7 := am_ (Kd.R_drew HO_7.out); replace HB := bd_ HB; replace HI := am_ (SwI_drew HI.out); refine start_ (n := 20) (S := fun w' => True) (ds := []) #[false, false, false, false, false, false, false, false, false, false, false, false, false, false, false, false, false, false, false, false] (by kernel_rfl) rfl rfl trivial (fun hHeld => ?_); refine with_tabW impl_run_sw.tab5 impl_run_sw.bits5 (fun HT_ HW_ => ?_); generalize wr.drew = w12 at HO_7 HB HI hHeld ⊢
                refine pD_ 0 (some 18) HT_ (h := ?_); refine pD_ 1 (some 19) HT_ (h := ?_); refine pD_ 2 (some 20) HT_ (h := ?_); refine pD_ 3 (some 21) HT_ (h := ?_); refine pD_ 4 (some 22) HT_ (h := ?_); refine pD_ 5 (some 23) HT_ (h := ?_); refine pD_ 6 (some 24) HT_ (h := ?_); refine pD_ 7 (some 25) HT_ (h := ?_); refine pD_ 8 (some 26) HT_ (h := ?_); refine pure_ (i := 9) (N := some 27) (v := undef) (a' := ?_) #[true, true, true, true, true, true, true, true, true, true, false, false, false, false, false, false, false, false, false, false] rfl rfl (any_of HT_.out (by kernel_rfl)) (fun _ _ _ h => h) (Or.inr ⟨by rfl, rfl⟩) ?_ ?_; rotate_left
                · simp only [Act.put, sA_, sZ_, sS_, i64_w, i32_w]
                  rfl
                refine pure_ (i := 10) (N := some 28) (v := undef) (a' := ?_) #[true, true, true, true, true, true, true, true, true, true, true, false, false, false, false, false, false, false, false, false] rfl rfl (any_of HT_.out (by kernel_rfl)) (fun _ _ _ h => h) (Or.inr ⟨by rfl, rfl⟩) ?_ ?_; rotate_left
                · simp only [Act.put, sA_, sZ_, sS_, i64_w, i32_w]
                  rfl
                refine pure_ (i := 11) (N := some 29) (v := undef) (a' := ?_) #[true, true, true, true, true, true, true, true, true, true, true, true, false, false, false, false, false, false, false, false] rfl rfl (any_of HT_.out (by kernel_rfl)) (fun _ _ _ h => h) (Or.inr ⟨by rfl, rfl⟩) ?_ ?_; rotate_left
                · simp only [Act.put, sA_, sZ_, sS_, i64_w, i32_w]
                  rfl
                refine pure_ (i := 12) (N := some 30) (v := undef) (a' := ?_) #[true, true, true, true, true, true, true, true, true, true, true, true, true, false, false, false, false, false, false, false] rfl rfl (any_of HT_.out (by kernel_rfl)) (fun _ _ _ h => h) (Or.inr ⟨by rfl, rfl⟩) ?_ ?_; rotate_left
                · simp only [Act.put, sA_, sZ_, sS_, i64_w, i32_w]
                  rfl
                refine pure_ (i := 13) (N := some 31) (v := undef) (a' := ?_) #[true, true, true, true, true, true, true, true, true, true, true, true, true, true, false, false, false, false, false, false] rfl rfl (any_of HT_.out (by kernel_rfl)) (fun _ _ _ h => h) (Or.inr ⟨by rfl, rfl⟩) ?_ ?_; rotate_left
                · simp only [Act.put, sA_, sZ_, sS_, i64_w, i32_w]
                  rfl
                refine pure_ (i := 14) (N := some 32) (v := undef) (a' := ?_) #[true, true, true, true, true, true, true, true, true, true, true, true, true, true, true, false, false, false, false, false] rfl rfl (any_of HT_.out (by kernel_rfl)) (fun _ _ _ h => h) (Or.inr ⟨by rfl, rfl⟩) ?_ ?_; rotate_left
                · simp only [Act.put, sA_, sZ_, sS_, i64_w, i32_w]
                  rfl
                refine pure_ (i := 15) (N := some 33) (v := undef) (a' := ?_) #[true, true, true, true, true, true, true, true, true, true, true, true, true, true, true, true, false, false, false, false] rfl rfl (any_of HT_.out (by kernel_rfl)) (fun _ _ _ h => h) (Or.inr ⟨by rfl, rfl⟩) ?_ ?_; rotate_left
                · simp only [Act.put, sA_, sZ_, sS_, i64_w, i32_w]
                  rfl
                refine pure_ (i := 16) (N := some 34) (v := undef) (a' := ?_) #[true, true, true, true, true, true, true, true, true, true, true, true, true, true, true, true, true, false, false, false] rfl rfl (any_of HT_.out (by kernel_rfl)) (fun _ _ _ h => h) (Or.inr ⟨by rfl, rfl⟩) ?_ ?_; rotate_left
                · simp only [Act.put, sA_, sZ_, sS_, i64_w, i32_w]
                  rfl
                refine pure_ (i := 17) (N := some 35) (v := undef) (a' := ?_) #[true, true, true, true, true, true, true, true, true, true, true, true, true, true, true, true, true, true, false, false] rfl rfl (any_of HT_.out (by kernel_rfl)) (fun _ _ _ h => h) (Or.inr ⟨by rfl, rfl⟩) ?_ ?_; rotate_left
                · simp only [Act.put, sA_, sZ_, sS_, i64_w, i32_w]
                  rfl
                refine pure_ (i := 18) (N := some 36) (v := undef) (a' := ?_) #[true, true, true, true, true, true, true, true, true, true, true, true, true, true, true, true, true, true, true, false] rfl rfl (any_of HT_.out (by kernel_rfl)) (fun _ _ _ h => h) (Or.inr ⟨by rfl, rfl⟩) ?_ ?_; rotate_left
                · simp only [Act.put, sA_, sZ_, sS_, i64_w, i32_w]
                  rfl
                refine pD_ 19 (some 37) HT_ (h := ?_); refine done_ (done_of HT_.out (by kernel_rfl)) ?_; try go_wp2
                go_ret; exact ⟨er_, ⟨_, HI.out⟩, bx0 HB.out⟩
              · rw [if_neg c11] at H; have c11b0 := decide_eq_false c11; clear c11; by_cases c13 : 0 ≤ (rd l1 x14_1)
                · rw [if_pos c13] at H; have c13b0 := decide_eq_true c13; clear c13; by_cases c14 : (rd l1 x14_1) < (x7_1.length : Int)
                  · rw [if_pos c14] at H; have c14b0 := decide_eq_true c14; clear c14; obtain ⟨ji15, hji15⟩ : ∃ j_ : Int, (wrap64 ((rd l1 x14_1) + 1)) = j_ := ⟨_, rfl⟩; first | rw [hji15] at H | simp only [hji15] at H
                    have hji15w : (IntKind.i64.wrap ((rd l1 x14_1) + 1)) = ji15 := (i64_w _).trans hji15; by_cases c16 : 0 ≤ (ji15)
                    · rw [if_pos c16] at H; have c16b0 := decide_eq_true c16; clear c16; by_cases c17 : (ji15) < (x7_1.length : Int)
                      · rw [if_pos c17] at H; have c17b0 := decide_eq_true c17; clear c17; by_cases c18 : (rd x7_1 (rd l1 x14_1)) > (rd x7_1 (ji15))
                        · rw [if_pos c18] at H; have c18b0 := decide_eq_true c18; clear c18; obtain ⟨rfl, rfl⟩ := Prod.mk.inj (Option.some.inj H); have p780 : 0 ≤ (x14_1 : Int) := oda_; have q780 : x14_1 < (l1.length : Int) := oda_; obtain ⟨ad780, e780, hx780_0⟩ := Kd.at_int HR1.out x14_1 p780 q780; cases e780; replace hx780_0 := (HB.out.cell (World.block_lt_of_cell? w0 _ hx780_0)).trans hx780_0; replace p780 := eq_true p780; replace q780 := eq_true q780; try go_wp2
                          replace HO_7 := am_ (Kd.R_drew HO_7.out); replace HB := bd_ HB; replace HI := am_ (SwI_drew HI.out); obtain ⟨Ao20, co20, eo20⟩ := Kd.R_slice HO_7.out; (first | subst eo20 | (injection eo20 with f1_ f2_ f3_; have f4_ := f1_.symm; have f5_ := f3_.symm; clear f1_ f2_ f3_; subst f4_; subst f5_))
                          have p781 : 0 ≤ ((rd l1 x14_1) : Int) := oda_; have q781 : (rd l1 x14_1) < (x7_1.length : Int) := oda_; obtain ⟨ad781, e781, hx781_0⟩ := Kd.at_int (Kd.R_reads' HO_7.out).2.2 (rd l1 x14_1) p781 q781; cases e781; replace p781 := eq_true p781; replace q781 := eq_true q781; have p782 : 0 ≤ ((ji15) : Int) := oda_; have q782 : (ji15) < (x7_1.length : Int) := oda_; obtain ⟨ad782, e782, hx782_0⟩ := Kd.at_int (Kd.R_reads' HO_7.out).2.2 (ji15) p782 q782; obtain rfl : ad781 = ad782 := (by injection e782); replace p782 := eq_true p782; replace q782 := eq_true q782; refine start_ (n := 20) (S := fun w' => w'.cell? (ad781.add ((rd l1 x14_1)).toNat) = some (.int .i64 (rd x7_1 (rd l1 x14_1))) ∧ w'.cell? (ad781.add ((ji15)).toNat) = some (.int .i64 (rd x7_1 (ji15)))) (ds := []) #[false, false, false, false, false, false, false, false, false, false, false, false, false, false, false, false, false, false, false, false] (by kernel_rfl) rfl rfl ⟨hx781_0, hx782_0⟩ (fun hHeld => ?_); refine with_tabW impl_run_sw.tab5 impl_run_sw.bits5 (fun HT_ HW_ => ?_); generalize wr.drew = w19 at HO_7 HB HI hx781_0 hx782_0 hHeld ⊢
                          refine pD_ 0 (some 18) HT_ (h := ?_); refine pD_ 1 (some 19) HT_ (h := ?_); refine pD_ 2 (some 20) HT_ (h := ?_); refine pD_ 3 (some 21) HT_ (h := ?_); refine pD_ 4 (some 22) HT_ (h := ?_); refine pD_ 5 (some 23) HT_ (h := ?_); refine pD_ 6 (some 24) HT_ (h := ?_); refine pD_ 7 (some 25) HT_ (h := ?_); refine pD_ 8 (some 26) HT_ (h := ?_); refine pD_ 9 (some 27) HT_ (h := ?_); refine pD_ 10 (some 28) HT_ (h := ?_); refine pD_ 11 (some 29) HT_ (h := ?_); refine pD_ 13 (some 31) HT_ (h := ?_); refine pD_ 14 (some 32) HT_ (h := ?_); refine pD_ 15 (some 33) HT_ (h := ?_); refine pD_ 16 (some 34) HT_ (h := ?_); refine tD2_ 12 (some 30) HT_ HW_ hHeld (h := ?_); refine tD2_ 17 (some 35) HT_ HW_ hHeld (h := ?_); refine pD_ 18 (some 36) HT_ (h := ?_); refine pD_ 19 (some 37) HT_ (h := ?_); refine done_ (done_of HT_.out (by kernel_rfl)) ?_; try go_wp2
                          go_ret; exact ⟨by first | rfl | (simp [errW_none, errW_some] <;> rfl) | (simp only [← hji15]; first | rfl | (simp [errW_none, errW_some] <;> rfl)) | (simp [*, errW_none, errW_some] <;> rfl), ⟨_, HI.out⟩, bx0 HB.out⟩
                        · rw [if_neg c18] at H; have c18b0 := decide_eq_false c18; clear c18; by_cases cL : xs_1.length < 5864062014805
                          case neg =>
                            rw [if_neg cL] at H; exact absurd H (by simp)
                          rw [if_pos cL] at H; have LM := am_ cL; clear cL; replace H : (impl_run_sw.l0 k1 a0 ((x7_1.set ((rd l1 x14_1) : Int).toNat (rd x7_1 (ji15))).set ((ji15) : Int).toNat (rd x7_1 (rd l1 x14_1))) (xs_1 ++ [[rd x7_1 (rd l1 x14_1), rd x7_1 (ji15)]]) l1 (l1.length : Int) (wrap64 (x14_1 + 1))) = some (r, xr) := H; obtain ⟨y785, hy785⟩ : ∃ y_ : List Int, y_ = (x7_1.set ((rd l1 x14_1) : Int).toNat (rd x7_1 (ji15))) := ⟨_, rfl⟩; replace H : (impl_run_sw.l0 k1 a0 (y785.set ((ji15) : Int).toNat (rd x7_1 (rd l1 x14_1))) (xs_1 ++ [[rd x7_1 (rd l1 x14_1), rd x7_1 (ji15)]]) l1 (l1.length : Int) (wrap64 (x14_1 + 1))) = some (r, xr) := yH_ hy785 H; have Ny785 := am_ hy785; clear hy785; obtain ⟨y786, hy786⟩ : ∃ y_ : List Int, y_ = (y785.set ((ji15) : Int).toNat (rd x7_1 (rd l1 x14_1))) := ⟨_, rfl⟩; replace H : (impl_run_sw.l0 k1 a0 y786 (xs_1 ++ [[rd x7_1 (rd l1 x14_1), rd x7_1 (ji15)]]) l1 (l1.length : Int) (wrap64 (x14_1 + 1))) = some (r, xr) := yH_ hy786 H; have Ny786 := am_ hy786; clear hy786; have H' := am_ H; clear H; have p780 : 0 ≤ (x14_1 : Int) := oda_; have q780 : x14_1 < (l1.length : Int) := oda_; obtain ⟨ad780, e780, hx780_0⟩ := Kd.at_int HR1.out x14_1 p780 q780; cases e780; replace hx780_0 := (HB.out.cell (World.block_lt_of_cell? w0 _ hx780_0)).trans hx780_0; replace p780 := eq_true p780; replace q780 := eq_true q780; try go_wp2
                          replace HO_7 := am_ (Kd.R_drew HO_7.out); replace HB := bd_ HB; replace HI := am_ (SwI_drew HI.out); obtain ⟨Ao25, co25, eo25⟩ := Kd.R_slice HO_7.out; (first | subst eo25 | (injection eo25 with f1_ f2_ f3_; have f4_ := f1_.symm; have f5_ := f3_.symm; clear f1_ f2_ f3_; subst f4_; subst f5_))
                          have p781 : 0 ≤ ((rd l1 x14_1) : Int) := oda_; have q781 : (rd l1 x14_1) < (x7_1.length : Int) := oda_; obtain ⟨ad781, e781, hx781_0⟩ := Kd.at_int (Kd.R_reads' HO_7.out).2.2 (rd l1 x14_1) p781 q781; cases e781; replace p781 := eq_true p781; replace q781 := eq_true q781; have p782 : 0 ≤ ((ji15) : Int) := oda_; have q782 : (ji15) < (x7_1.length : Int) := oda_; obtain ⟨ad782, e782, hx782_0⟩ := Kd.at_int (Kd.R_reads' HO_7.out).2.2 (ji15) p782 q782; obtain rfl : ad781 = ad782 := (by injection e782); replace p782 := eq_true p782; replace q782 := eq_true q782; refine start_ (n := 20) (S := fun w' => w'.cell? (ad781.add ((rd l1 x14_1)).toNat) = some (.int .i64 (rd x7_1 (rd l1 x14_1))) ∧ w'.cell? (ad781.add ((ji15)).toNat) = some (.int .i64 (rd x7_1 (ji15)))) (ds := []) #[false, false, false, false, false, false, false, false, false, false, false, false, false, false, false, false, false, false, false, false] (by kernel_rfl) rfl rfl ⟨hx781_0, hx782_0⟩ (fun hHeld => ?_); refine with_tabW impl_run_sw.tab5 impl_run_sw.bits5 (fun HT_ HW_ => ?_); generalize wr.drew = w24 at HO_7 HB HI hx781_0 hx782_0 hHeld ⊢
                          refine pD_ 0 (some 18) HT_ (h := ?_); refine pD_ 1 (some 19) HT_ (h := ?_); refine pD_ 2 (some 20) HT_ (h := ?_); refine pD_ 3 (some 21) HT_ (h := ?_); refine pD_ 4 (some 22) HT_ (h := ?_); refine pD_ 5 (some 23) HT_ (h := ?_); refine pD_ 6 (some 24) HT_ (h := ?_); refine pD_ 7 (some 25) HT_ (h := ?_); refine pD_ 8 (some 26) HT_ (h := ?_); refine pD_ 9 (some 27) HT_ (h := ?_); refine pD_ 10 (some 28) HT_ (h := ?_); refine pD_ 11 (some 29) HT_ (h := ?_); refine pD_ 13 (some 31) HT_ (h := ?_); refine pD_ 14 (some 32) HT_ (h := ?_); refine pD_ 15 (some 33) HT_ (h := ?_); refine pD_ 16 (some 34) HT_ (h := ?_); refine tD2_ 12 (some 30) HT_ HW_ hHeld (h := ?_); refine tD2_ 17 (some 35) HT_ HW_ hHeld (h := ?_); refine pD_ 18 (some 36) HT_ (h := ?_); refine pD_ 19 (some 37) HT_ (h := ?_); refine done_ (done_of HT_.out (by kernel_rfl)) ?_; go_wp2_with (first | (go_at_call 114; (with_reducible refine (sw1_calls (.slice (some ad781) x7_1.length co25 : Value).ownBlock gb xs_1 _ _ x7_1 (rd l1 x14_1) ji15 w0 _ HB.out (Kd.R_reads' HO_7.out).2.2 (Kd.R_reads' HO_7.out).2.1 HI.out (fun k e => ⟨Kd.R_lt HO_7.out k e, Kd.R_typed HO_7.out k e⟩) (of_eq_true p781) (of_eq_true q781) hji15 (of_eq_true p782) (of_eq_true q782) LM.out).mono ?_); rintro e w25 ⟨rfl, hI1, hB1, hW1⟩; have n0_ := am_ (Kd.R_mono (Kd.R_step (Kd.R_tight rfl HO_7.out) (fun k hk _ => hW1 k hk.symm)) (fun _ _ => trivial : ∀ k, _ → True)); have n1_ := am_ hB1; have n2_ := am_ hI1; clear HO_7 HB HI hI1 hB1 hW1; have HO_7 := n0_; have HB := n1_; have HI := n2_; clear n0_ n1_ n2_))
                          replace HO_7 := am_ (Kd.R_drew HO_7.out); replace HB := bd_ HB; replace HI := am_ (SwI_drew HI.out); have p783 : 0 ≤ ((ji15) : Int) := oda_; have q783 : (ji15) < (x7_1.length : Int) := oda_; obtain ⟨ad783, e783, hx783_0⟩ := Kd.at_int (Kd.R_reads' HO_7.out).2.2 (ji15) p783 q783; obtain rfl : ad781 = ad783 := (by injection e783); replace p783 := eq_true p783; replace q783 := eq_true q783; have p784 : 0 ≤ ((rd l1 x14_1) : Int) := oda_; have q784 : (rd l1 x14_1) < (x7_1.length : Int) := oda_; obtain ⟨ad784, e784, hx784_0⟩ := Kd.at_int (Kd.R_reads' HO_7.out).2.2 (rd l1 x14_1) p784 q784; obtain rfl : ad781 = ad784 := (by injection e784); replace p784 := eq_true p784; replace q784 := eq_true q784; have p22 : 0 ≤ ((rd l1 x14_1) : Int) := oda_; have q22 : ((rd l1 x14_1) : Int) < ((x7_1.length : Int) : Int) := oda_; obtain ⟨go22, co22, eo22, gb22, gl22, cl22, HG22⟩ := Kd.R_form HO_7.out (by omega); (first | cases eo22 | (injection eo22 with ea_ en_ ec_; (first | subst ea_ | (injection ea_ with ea_; subst ea_)); subst ec_; clear en_))
                          have GB22 := am_ gb22; have GG22 := am_ HG22; clear gb22 gl22 HG22; (first | simp only [add_plain] at hx781_0 | skip)
                          (first | simp only [add_plain] at hx782_0 | skip)
                          (first | simp only [add_plain] at hx783_0 | skip)
                          (first | simp only [add_plain] at hx784_0 | skip)
                          obtain ⟨hx22_0, hf22_0⟩ := Kd.R_celln 0 HO_7.out ((rd l1 x14_1) : Int) p22 q22; replace p22 := eq_true p22; replace q22 := eq_true q22; have HP27 := Kd.R_putn HO_7.out ((rd l1 x14_1) : Int) (rd x7_1 (ji15)); rw [← Ny785.out] at HP27; have HQ27 := am_ HP27; clear HP27; have p23 : 0 ≤ ((ji15) : Int) := oda_; have q23 : ((ji15) : Int) < ((x7_1.length : Int) : Int) := oda_; obtain ⟨hx23_0, hf23_0⟩ := Kd.R_celln 0 HQ27.out ((ji15) : Int) p23 q23; replace p23 := eq_true p23; replace q23 := eq_true q23; have HP28 := Kd.R_putn HQ27.out ((ji15) : Int) (rd x7_1 (rd l1 x14_1)); rw [← Ny786.out] at HP28; have HQ28 := am_ HP28; clear HP28; refine start_ (n := 18) (S := fun w' => w'.cell? ⟨go22, ((ji15)).toNat, none⟩ = some (.int .i64 (rd x7_1 (ji15))) ∧ w'.cell? ⟨go22, ((rd l1 x14_1)).toNat, none⟩ = some (.int .i64 (rd x7_1 (rd l1 x14_1)))) (ds := [15, 17]) #[false, false, false, false, false, false, false, false, false, false, false, false, false, false, false, false, false, false] (by kernel_rfl) rfl rfl ⟨hx783_0, hx784_0⟩ (fun hHeld => ?_); refine with_tabW impl_run_sw.tab8 impl_run_sw.bits8 (fun HT_ HW_ => ?_); generalize w25.drew = w26 at HO_7 HB HI GG22 HQ27 HQ28 hf22_0 hf23_0 hx22_0 hx23_0 hx781_0 hx782_0 hx783_0 hx784_0 hHeld ⊢
                          refine pD_ 0 (some 42) HT_ (h := ?_); refine pD_ 1 (some 43) HT_ (h := ?_); refine pD_ 2 (some 44) HT_ (h := ?_); refine pD_ 3 (some 45) HT_ (h := ?_); refine pD_ 4 (some 46) HT_ (h := ?_); refine pD_ 5 (some 47) HT_ (h := ?_); refine pD_ 6 (some 48) HT_ (h := ?_); refine pD_ 7 (some 49) HT_ (h := ?_); refine pD_ 8 (some 50) HT_ (h := ?_); refine pD_ 10 (some 52) HT_ (h := ?_); refine pD_ 11 (some 53) HT_ (h := ?_); refine pD_ 12 (some 54) HT_ (h := ?_); refine tD2_ 9 (some 51) HT_ HW_ hHeld (h := ?_); refine tD2_ 13 (some 55) HT_ HW_ hHeld (h := ?_); refine pD_ 14 (some 56) HT_ (h := ?_); refine last_ (i := 15) (N := none) #[true, true, true, true, true, true, true, true, true, true, true, true, true, true, true, true, false, false] rfl rfl (one_of HT_.out (by kernel_rfl)) (by decide) (fun K hK => ?_); refine skip_ (w1 := ?_) (by rfl) rfl ?_ ?_; rotate_left
                          · go_simp
                            rfl
                          refine hK.out _ _ ?_; clear hK K; refine pD_ 16 (some 57) HT_ (h := ?_); refine last_ (i := 17) (N := none) #[true, true, true, true, true, true, true, true, true, true, true, true, true, true, true, true, true, true] rfl rfl (one_of HT_.out (by kernel_rfl)) (by decide) (fun K hK => ?_); refine skip_ (w1 := ?_) (by rfl) rfl ?_ ?_; rotate_left
                          · go_simp
                            rfl
                          refine hK.out _ _ ?_; clear hK K; refine done_ (done_of HT_.out (by kernel_rfl)) ?_; try go_wp2
                          go_roundg k1
                          case measure => have := HK1.out; omega
                          case rel => exact ⟨(y786), _, (wrap64 (x14_1 + 1)), vt_, H', hl_ HK1, rX_ HQ28, bX2_ HB GB22 GB22, ⟨by repeat (first | exact HI.out | refine SwI_set ?_ rfl)⟩⟩
                      · rw [if_neg c17] at H; exact absurd H (by simp)
                    · rw [if_neg c16] at H; exact absurd H (by simp)
                  · rw [if_neg c14] at H; exact absurd H (by simp)
                · rw [if_neg c13] at H; exact absurd H (by simp)
          · rw [if_neg c8] at H; exact absurd H (by simp)
        · rw [if_neg c7] at H; exact absurd H (by simp)
      · rw [if_neg c6] at H; have c6b0 := decide_eq_false c6; clear c6; obtain ⟨rfl, rfl⟩ := Prod.mk.inj (Option.some.inj H); go_wp2; go_ret; exact ⟨er_, ⟨_, HI.out⟩, bx0 HB.out⟩
end Go.Proofs.Ytoajlmlobaccdaa.P
namespace Go.Proofs.Ytoajlmlobaccdaa.P
open Go.RowKit Go.Proofs.YtoajlmlobaccdaaW.PrintWords Go.Proofs.YtoajlmlobaccdaaW.PrintLast Go.Proofs.YtoajlmlobaccdaaW.PrintMore
attribute [local go_sem] ptrOf_slice
set_option linter.unusedVariables false
set_option linter.unusedSimpArgs false
def impl_SwapsOf.f (k : Nat) (a0 : Int) (l1 : List Int) : Option (List (List Int)) := (impl_IsWiring.f k a0 l1).bind fun b => if b = true then ((impl_run_sw.f k a0 l1 []).bind fun t => some t.2) else some []
theorem impl_SwapsOf.mono : ∀ a0 a1 k, LeO (impl_SwapsOf.f k a0 a1) (impl_SwapsOf.f (k + 1) a0 a1) := fun a0 a1 k => LeO.bind (impl_IsWiring.mono _ _ _) (fun _ => LeO.ite (LeO.bind (impl_run_sw.mono _ _ _ _) (fun _ => LeO.refl _)) (LeO.refl _))
set_option maxHeartbeats 8000000 in
set_option maxRecDepth 100000 in
theorem impl_SwapsOf.callsI (k : Nat) (a0 : Int) (A1 : Option Addr) (c1 : Nat) (l1 : List Int) (r : List (List Int)) (w : World) (hr1 : Kd.C (Kd.int .i64) w A1 l1.length l1) (hc1 : l1.length ≤ c1) (h : impl_SwapsOf.f k a0 l1 = some r) :
    Calls Try.prog 36 #[.int .i64 a0, .slice A1 l1.length c1] w fun e w' => ∃ (V : Value) (bs : List Nat), e = .returned V ∧ hdr.R 34 w' w.heap.size (fun _ => True) V (bs.map hd2) ∧ Inn w' w.heap.size bs r ∧ Below w.heap.size w w' := by
  have HR1 := am_ hr1; have HC1 := am_ hc1; clear hr1 hc1; obtain ⟨b, A1_, H⟩ := Option.bind_eq_some_iff.mp h; clear h; have A2 := am_ A1_; clear A1_; cases b with
  | false =>
    obtain rfl := Option.some.inj (show some ([] : List (List Int)) = some r from H); clear H; go_enter Try.func36, Try.ntmps36
    go_wp2_with (first | (go_at_call 94; refine (impl_IsWiring.calls k a0 A1 c1 l1 false _ HR1.out HC1.out A2.out).mono ?_; rintro e w3 ⟨rfl, hB3⟩; have HB3 := am_ hB3; clear hB3))
    go_ret; exact ⟨_, [], rfl, Kd.R_nil _ _ _ _ _, ⟨rfl, List.nodup_nil, fun j b x hb _ => by simp at hb⟩, HB3.out⟩
  | true =>
    obtain ⟨⟨tb, xr⟩, A3_, H⟩ := Option.bind_eq_some_iff.mp (show ((impl_run_sw.f k a0 l1 []).bind fun t => some t.2) = some r from H); obtain rfl := Option.some.inj (show some xr = some r from H); clear H; have A3 := am_ A3_; clear A3_; go_enter Try.func36, Try.ntmps36
    go_wp2_with (first
      | (go_at_call 94; refine (impl_IsWiring.calls k a0 A1 c1 l1 true _ HR1.out HC1.out A2.out).mono ?_; rintro e w3 ⟨rfl, hB3⟩; have HB3 := am_ hB3; clear hB3)
      | ((with_reducible refine gd_ 5 rfl ?_); refine be_ 5 #[.slice none 0 0] 39 ?_; intro gb hgb w4 hb4 hB4
         have HGB := am_ hgb; have BX := am_ hb4; have HB4 := am_ (below_step HB3.out hB4); clear hgb hb4 hB4)
      | (go_at_call 113
         refine (impl_run_sw.calls k a0 A1 c1 l1 [] gb tb xr w _ HB4.out HR1.out HC1.out (fun uw w' hb hu => ⟨none, 0, [], blk_below BX.out hb, Kd.R_nil _ _ _ _ _, ⟨rfl, List.nodup_nil, fun j b x hb _ => by simp at hb⟩, (by rw [HGB.out]; exact HB3.out.size), (fun e => by have h1 := hu gb e.symm; have h2 := blk_lt BX.out; omega), (fun b hb => by cases hb)⟩) A3.out).mono ?_; rintro e w5 ⟨rfl, ⟨uw, AV, cV, bs, h1, h2, h3, h4, h5, h6⟩, hB5⟩; have y_ : w5.cell? ⟨gb, 0, none⟩ = some (.slice AV bs.length cV) := (blk_cell h1 0).trans rfl; have H2 := am_ h2; have H3 := am_ h3; have HB5 := am_ hB5; clear h1 h2 h3 h4 h5 h6 hB5))
    go_ret; exact ⟨_, bs, rfl, Kd.R_mono H2.out (fun _ _ => trivial), H3.out, HB5.out⟩
end Go.Proofs.Ytoajlmlobaccdaa.P
namespace Go.Proofs.Ytoajlmlobaccdaa.P
open Go.RowKit Go.Proofs.YtoajlmlobaccdaaW.PrintWords Go.Proofs.YtoajlmlobaccdaaW.PrintLast Go.Proofs.YtoajlmlobaccdaaW.PrintMore
set_option linter.unusedVariables false
set_option linter.unusedSimpArgs false
theorem S_of_Inn {w : World} {base : Nat} {V : Value} {bs : List Nat} {xs : List (List Int)} (hR : hdr.R 34 w base (fun _ => True) V (bs.map hd2)) (hI : Inn w base bs xs) : Kd.S (Kd.slice 3 (Kd.int .i64)) 34 w base (fun _ => True) V xs := by
  obtain ⟨h0, inner, ho, hr⟩ := hR
  rw [List.length_map, hI.1] at ho
  refine ⟨fun k => bs.idxOf k, fun _ _ => trivial, inner, by rw [List.length_zipIdx]; exact ho, ?_, ?_⟩
  · have h1 := hr.1
    rw [List.length_map, hI.1] at h1
    rw [List.length_zipIdx]
    exact h1
  · intro j p hp
    rw [List.getElem?_zipIdx] at hp
    cases hx : xs[j]? with
    | none => rw [hx] at hp; cases hp
    | some x =>
      rw [hx] at hp
      obtain rfl : (x, 0 + j) = p := Option.some.inj hp
      have hjx : j < xs.length := (List.getElem?_eq_some_iff.1 hx).1
      have hjb : j < bs.length := by rw [hI.1]; exact hjx
      have hb : bs[j]? = some bs[j] := List.getElem?_eq_getElem hjb
      obtain ⟨i1, i2, i3⟩ := hI.2.2 j bs[j] x hb hx
      have hc := hr.2 j (hd2 bs[j]) (by rw [List.getElem?_map, hb]; rfl)
      have hix : bs.idxOf bs[j] = j := by
        have h2 : bs.idxOf bs[j] < bs.length := List.idxOf_lt_length_of_mem (List.getElem_mem hjb)
        have h3 := List.getElem_idxOf h2
        exact (List.getElem_inj hI.2.1).1 h3
      refine ⟨.slice (some ⟨bs[j], 0, none⟩) 2 2, hc, ?_⟩
      have e2 : x = [rd x 0, rd x 1] := by
        match x, i2 with
        | [a, b], _ => rfl
      refine Kd.R_of_own ⟨?_, Or.inr ⟨bs[j], 2, _, by rw [i2], i1, i3, ?_, ?_, ?_, ?_⟩⟩ ?_
      · rw [encs_length]; omega
      · show x.length ≤ 2
        omega
      · unfold maxLen; omega
      · rfl
      · rw [i2]
        conv => rhs; rw [e2]
        rfl
      · intro k hk
        have hk' : bs[j] = k := by simpa [Value.ownBlock] using hk
        subst hk'
        refine ⟨⟨trivial, fun e => ?_⟩, ?_⟩
        · obtain ⟨c, hc2⟩ := own_typed ho bs[j] e.symm
          rw [i3] at hc2
          have := Option.some.inj hc2
          injection this with _ h5
          exact absurd h5 (by decide)
        · show bs.idxOf bs[j] = 0 + j
          rw [hix, Nat.zero_add]
theorem impl_SwapsOf.calls (k : Nat) (a0 : Int) (A1 : Option Addr) (c1 : Nat) (l1 : List Int) (r : List (List Int)) (w : World) (hr1 : Kd.C (Kd.int .i64) w A1 l1.length l1) (hc1 : l1.length ≤ c1) (h : impl_SwapsOf.f k a0 l1 = some r) :
    Calls Try.prog 36 #[.int .i64 a0, .slice A1 l1.length c1] w fun e w' => ∃ v0_ : Value, e = .returned (v0_) ∧ Kd.S (Kd.slice 3 (Kd.int .i64)) 34 w' w.heap.size (fun _ => True) v0_ r ∧ Below w.heap.size w w' := by
  refine (impl_SwapsOf.callsI k a0 A1 c1 l1 r w hr1 hc1 h).mono ?_
  rintro e w' ⟨V, bs, rfl, h1, h2, h3⟩
  exact ⟨V, rfl, S_of_Inn h1 h2, h3⟩
end Go.Proofs.Ytoajlmlobaccdaa.P
namespace Go.Proofs.Ytoajlmlobaccdaa.P
open Go.RowKit Go.Proofs.YtoajlmlobaccdaaW.PrintWords Go.Proofs.YtoajlmlobaccdaaW.PrintLast Go.Proofs.YtoajlmlobaccdaaW.PrintMore
set_option linter.unusedVariables false
section
variable {P : Program} {ops : Array Oper} {Q : Exit → Act → World → Prop} {md : Region.Mode} {S0 S : World → Prop} {ds : List Nat}
def wpTwo (P : Program) (md : Region.Mode) (ops : Array Oper) (Q : Exit → Act → World → Prop) (S0 S : World → Prop) (ds : List Nat) : Nat → Array Bool → Act → World → Prop
  | 0, listed, a, w => Region.ready md ops listed = [] ∧ Q .normal a w
  | fuel + 1, listed, a, w =>
    (Region.ready md ops listed = [] → Q .normal a w) ∧
    ∀ i ∈ Region.ready md ops listed, wpOp P ops Q i (fun a' w' => ((S0 w → S0 w') ∧ (i ∉ ds → S w → S w')) ∧ wpTwo P md ops Q S0 S ds fuel (listed.setIfInBounds i true) a' w') a w
theorem wpAny_of_two : ∀ (fuel : Nat) (listed : Array Bool) (a : Act) (w : World), wpTwo P md ops Q S0 S ds fuel listed a w → wpAny P md ops Q fuel listed a w
  | 0, _, _, _, h => h
  | fuel + 1, _, _, _, h => ⟨h.1, fun i hi => wpOp_mono (fun a' w' h' => wpAny_of_two fuel _ a' w' h'.2) (h.2 i hi)⟩
theorem wpTwo_first {U : World → Prop} {es : List Nat} (hU : ∀ j w w', j ∉ es → (S0 w → S0 w') ∧ (j ∉ ds → S w → S w') → U w → U w') {i : Nat} {oi : Oper} {v : Value} (hi : ops[i]? = some oi) (hsel : ∀ (j : Nat) (o : Oper) cs b, ops[j]? = some o → o.op ≠ .select cs b)
    (hQ : ∀ c a w, Q (.panic c) (a.put oi.dst v) w → Q (.panic c) a w) (n : Nat) :
    ∀ (fuel : Nat) (listed : Array Bool) (a : Act) (w : World),
      (∀ j oj, ops[j]? = some oj → j ≠ i → listed.getD j true = false → (∀ e ∈ oj.after, Region.binds md e = true → e.on ≠ i) → oi.apart ops oj = true) →
      ListedClosed md ops listed → (∀ d ∈ es, listed.getD d true = false → Region.reachB md ops i n d = true) →
      i ∈ Region.ready md ops listed → YieldsIf P ops U oi v a → U w →
      wpTwo P md ops Q S0 S ds fuel (listed.setIfInBounds i true) (a.put oi.dst v) w → wpTwo P md ops Q S0 S ds (fuel + 1) listed a w := by
  intro fuel
  induction fuel with
  | zero =>
    intro listed a w _ _ _ hr hy hS H
    refine ⟨fun h => (by rw [h] at hr; cases hr), fun j hj => ?_⟩
    by_cases hji : j = i
    · subst hji; exact hy.wpOp hi hS ⟨⟨fun h => h, fun _ h => h⟩, H⟩
    · have := ready_mono hj hji
      rw [H.1] at this
      cases this
  | succ fuel ih =>
    intro listed a w hfree hc hd hr hy hS H
    refine ⟨fun h => (by rw [h] at hr; cases hr), fun j hj => ?_⟩
    by_cases hji : j = i
    · subst hji; exact hy.wpOp hi hS ⟨⟨fun h => h, fun _ h => h⟩, H⟩
    · have h1 := H.2 j (ready_mono hj hji)
      obtain ⟨hjun, oj, hoj, hall⟩ := mem_ready.1 hj
      have hiun := (mem_ready.1 hr).1
      have hnot : ∀ e ∈ oj.after, Region.binds md e = true → e.on ≠ i := fun e he hb heq => by
        have h1 := hall e he hb
        rw [heq] at h1
        rcases Nat.lt_or_ge i listed.size with h' | h'
        · simp [h'] at hiun h1; rw [hiun] at h1; cases h1
        · simp [Array.getElem?_eq_none h'] at h1
      have hjd : j ∉ es := fun hm => Region.reach_not_ready hc (hd j hm hjun) hiun hj
      have h2 := wpOp_putIf hoj (hfree j oj hoj hji hjun hnot) (fun cs b => hsel i oi cs b hi) (fun cs b => hsel j oj cs b hoj) hQ hy h1
      have hfree' : ∀ k ok, ops[k]? = some ok → k ≠ i → (listed.setIfInBounds j true).getD k true = false →
          (∀ e ∈ ok.after, Region.binds md e = true → e.on ≠ i) → oi.apart ops ok = true := fun k ok hk hki hun hno => by
        refine hfree k ok hk hki ?_ hno
        by_cases hjk : j = k
        · subst hjk; exact hjun
        · rw [getD_set_ne true hjk] at hun; exact hun
      have hd' : ∀ d ∈ es, (listed.setIfInBounds j true).getD d true = false → Region.reachB md ops i n d = true := fun d hm hun => by
        refine hd d hm ?_
        by_cases hjk : j = d
        · subst hjk; exact hjun
        · rw [getD_set_ne true hjk] at hun; exact hun
      refine wpOp_mono (fun a' w' h3 => ⟨h3.2.1, ih (listed.setIfInBounds j true) a' w' hfree' (hc.set hj) hd' (ready_mono hr (Ne.symm hji)) h3.1 (hU j _ _ hjd h3.2.1 hS) ?_⟩) h2
      rw [Array.setIfInBounds_comm _ _ hji]
      exact h3.2.2
theorem start2_ {id n : Nat} {a : Act} {w : World} (l : Array Bool) (hm : P.follows .mixedOrders = true) (hn : ops.size = n) (hl : Array.replicate n false = l) (hS0 : S0 w.drew) (hS : S w.drew)
    (h : S0 w.drew → S w.drew → wpTwo P .any ops Q S0 S ds n l a w.drew) : (Code.region id ops true).wp P Q a w := by
  subst hn
  subst hl
  exact wp_region_any hm (wpAny_of_two _ _ _ _ (h hS0 hS))
theorem takeU_ {U : World → Prop} {es : List Nat} (hU : ∀ j w w', j ∉ es → (S0 w → S0 w') ∧ (j ∉ ds → S w → S w') → U w → U w') {i : Nat} {N : Option Tmp} {oi : Oper} {v : Value} {fuel : Nat} {l : Array Bool} {a : Act} {w : World} (l' : Array Bool) (hi : ops[i]? = some oi) (hN : oi.dst = N) (hc : takeB md ops es l l' i = true)
    (hQ : ∀ c a w, Q (.panic c) (a.put oi.dst v) w → Q (.panic c) a w) (hy : YieldsIf P ops U oi v a) (hS : U w) {a' : Act} (ha : a.put N v = a')
    (h : wpTwo P md ops Q S0 S ds fuel l' a' w) : wpTwo P md ops Q S0 S ds (fuel + 1) l a w := by
  subst ha
  subst hN
  simp only [takeB, Bool.and_eq_true, beq_iff_eq] at hc
  obtain ⟨⟨⟨⟨⟨h1, h2⟩, h3⟩, h4⟩, h5⟩, h6⟩ := hc
  subst h6
  exact wpTwo_first hU hi (Region.noSelect_spec h1) hQ ops.size fuel l a w (Region.free_spec hi h2) (Region.closedB_spec h4)
    (fun d hm hun => by have := List.all_eq_true.1 h5 d hm; rw [hun] at this; simpa using this) (by simpa using h3) hy hS h
theorem takeA_ {i : Nat} {N : Option Tmp} {oi : Oper} {v : Value} {fuel : Nat} {l : Array Bool} {a : Act} {w : World} (l' : Array Bool) (hi : ops[i]? = some oi) (hN : oi.dst = N) (hc : takeB md ops [] l l' i = true)
    (hQ : ∀ c a w, Q (.panic c) (a.put oi.dst v) w → Q (.panic c) a w) (hy : YieldsIf P ops S0 oi v a) (hS : S0 w) {a' : Act} (ha : a.put N v = a')
    (h : wpTwo P md ops Q S0 S ds fuel l' a' w) : wpTwo P md ops Q S0 S ds (fuel + 1) l a w :=
  takeU_ (U := S0) (es := []) (fun _ _ _ _ h => h.1) l' hi hN hc hQ hy hS ha h
theorem takeE_ {i : Nat} {N : Option Tmp} {oi : Oper} {v : Value} {fuel : Nat} {l : Array Bool} {a : Act} {w : World} (l' : Array Bool) (hi : ops[i]? = some oi) (hN : oi.dst = N) (hc : takeB md ops ds l l' i = true)
    (hQ : ∀ c a w, Q (.panic c) (a.put oi.dst v) w → Q (.panic c) a w) (hy : YieldsIf P ops S oi v a) (hS : S w) {a' : Act} (ha : a.put N v = a')
    (h : wpTwo P md ops Q S0 S ds fuel l' a' w) : wpTwo P md ops Q S0 S ds (fuel + 1) l a w :=
  takeU_ (U := S) (es := ds) (fun _ _ _ hj h => h.2 hj) l' hi hN hc hQ hy hS ha h
theorem pure2_ {i : Nat} {N : Option Tmp} {oi : Oper} {v : Value} {fuel : Nat} {l : Array Bool} {a : Act} {w : World} (l' : Array Bool) (hi : ops[i]? = some oi) (hN : oi.dst = N) (hc : takeB md ops [] l l' i = true)
    (hQ : ∀ c a w, Q (.panic c) (a.put oi.dst v) w → Q (.panic c) a w) (hy : Yields P ops oi v a) {a' : Act} (ha : a.put N v = a')
    (h : wpTwo P md ops Q S0 S ds fuel l' a' w) : wpTwo P md ops Q S0 S ds (fuel + 1) l a w :=
  takeU_ (U := fun _ => True) (es := []) (fun _ _ _ _ _ h => h) l' hi hN hc hQ (hy.yieldsIf) trivial ha h
theorem last2_ {i : Nat} {N : Option Tmp} {oi : Oper} {fuel : Nat} {l : Array Bool} {a : Act} {w : World} (l' : Array Bool) (hi : ops[i]? = some oi) (hN : oi.dst = N) (hc : readyB md ops l l' i = true) (hd : i ∈ ds)
    (h : ∀ K : Act → World → Prop, Shut (∀ a' w', S0 w' → wpTwo P md ops Q S0 S ds fuel l' a' w' → K a' w') → if Region.wanted oi (yielded ops a.tmps) = true then Oper.wp P oi a w K Q else K (a.put N undef) w) :
    wpTwo P md ops Q S0 S ds (fuel + 1) l a w := by
  subst hN
  simp only [readyB, Bool.and_eq_true, beq_iff_eq] at hc
  obtain ⟨h1, h2⟩ := hc
  subst h2
  refine ⟨fun h0 => absurd (h1 ▸ h0) (by simp), ?_⟩
  rw [h1]
  intro j hj
  obtain rfl := List.mem_singleton.1 hj
  exact wpOp_step hi (fun K' hK => h K' (fun a w hS hW => hK a w ⟨⟨fun _ => hS, fun hn => absurd hd hn⟩, hW⟩))
theorem done2_ {l : Array Bool} {a : Act} {w : World} {n : Nat} (hr : (Region.ready md ops l == []) = true) (h : Q .normal a w) : wpTwo P md ops Q S0 S ds n l a w := by
  cases n with
  | zero => exact ⟨by simpa using hr, h⟩
  | succ n => exact ⟨fun _ => h, by rw [show Region.ready md ops l = [] by simpa using hr]; simp⟩
theorem with_tab2 {n : Nat} {l : Array Bool} {a : Act} {w : World} {B : List Nat} {T : Bool × List (List Nat × List Nat)} (hT : rtab md ops = T) (hB : waitsOk T.2 B = true) (h : Aside0 (rtab md ops = T) → Aside0 (waitsOk T.2 B = true) → wpTwo P md ops Q S0 S ds n l a w) : wpTwo P md ops Q S0 S ds n l a w := h ⟨hT⟩ ⟨hB⟩
end
end Go.Proofs.Ytoajlmlobaccdaa.P
