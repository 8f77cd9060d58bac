/- What the law FnExactTurnsRound reaches, part 6: functions as plain Lean functions with the proofs that their calls come to them, and plain lemmas over these. Put together by a program (wip/pack.py). -/
import Derived.Test.YteblnjoljbdjjaaKFnExactTurnsRoundc
import Derived.Test.YteblnjoljbdjjaaKFnExactTurnsRounde
namespace Go.Proofs.Yteblnjoljbdjjaa.P
open Go.RowKit Go.Proofs.YteblnjoljbdjjaaW.PrintWords Go.Proofs.YteblnjoljbdjjaaW.PrintLast Go.Proofs.YteblnjoljbdjjaaW.PrintMore
attribute [local go_sem] ptrOf_slice
attribute [local go_sem] min2_str max2_int min2_int max_two min_two max_three min_three max_four min_four
set_option linter.unusedVariables false
set_option linter.unusedSimpArgs false
def spec_l4Circuit.f (k : Nat) (a0_0 : Int) (a0_1 : ByteArray) (a1 : Int) (a2 : Int) (a3 : Int) (a4 : Int) : Option (ByteArray) := (spec_l3At.f k a0_0 a0_1 a2 a3 a4).bind fun t692 => ((spec_l3At.f k a0_0 a0_1 a1 a3 a4).bind fun t693 => ((spec_l3Byte.f (wrap64 ((wrap64 (-t692)) * t693))).bind fun t694 => (if 1 + t694.size ≤ 9223372036854775807 then ((spec_l3At.f k a0_0 a0_1 a1 a2 a4).bind fun t695 => ((spec_l3Byte.f (wrap64 (t692 * t695))).bind fun t696 => (if ((⟨#[43]⟩ : ByteArray) ++ t694).size + t696.size ≤ 9223372036854775807 then ((spec_l3At.f k a0_0 a0_1 a1 a2 a3).bind fun t697 => ((spec_l3Byte.f (wrap64 ((wrap64 (-t692)) * t697))).bind fun t698 => (if (((⟨#[43]⟩ : ByteArray) ++ t694) ++ t696).size + t698.size ≤ 9223372036854775807 then (some ((((⟨#[43]⟩ : ByteArray) ++ t694) ++ t696) ++ t698)) else (none)))) else (none)))) else (none))))
def spec_l4Circuit.T2 : Bool × List (List Nat × List Nat) := (true, [([], []), ([0], [0]), ([], []), ([], []), ([], []), ([], []), ([2, 3, 4, 5], [2, 3, 4, 5]), ([1, 6], [1, 6]), ([7, 6], [7]), ([8], [8]), ([], []), ([], []), ([], []), ([], []), ([], []), ([11, 12, 13, 14, 8], [11, 12, 13, 14]), ([10, 15], [10, 15]), ([16, 15], [16]), ([9, 17], [9, 17]), ([18, 17, 0, 1, 2, 3, 4, 5, 6, 7, 8, 9, 10, 11, 12, 13, 14, 15, 16, 17, 18], [18])])
def spec_l4Circuit.B2 : List Nat := [0, 1, 0, 0, 0, 0, 60, 127, 255, 511, 0, 0, 0, 0, 0, 31231, 65023, 130559, 262143, 524287]
theorem spec_l4Circuit.tab2 : rtab .any (opsOf Try.f162 2) = spec_l4Circuit.T2 := by kernel_rfl
theorem spec_l4Circuit.bits2 : waitsOk spec_l4Circuit.T2.2 spec_l4Circuit.B2 = true := by kernel_rfl
set_option maxHeartbeats 8000000 in
set_option maxRecDepth 100000 in
theorem spec_l4Circuit.calls (k : Nat) (a0_0 : Int) (a0_1 : ByteArray) (a1 : Int) (a2 : Int) (a3 : Int) (a4 : Int) (r : ByteArray) (w : World) (h : spec_l4Circuit.f k a0_0 a0_1 a1 a2 a3 a4 = some r) :
  Calls Try.prog 162 #[.agg #[.int .i64 a0_0, .string a0_1], .int .i64 a1, .int .i64 a2, .int .i64 a3, .int .i64 a4] w fun e w' => e = .returned (.string r) ∧ Below w.heap.size w w' := by
 have hu25 := Try.underlying25
 have HB := Aside0.mk (Below.refl w.heap.size w)
 have H : ((spec_l3At.f k a0_0 a0_1 a2 a3 a4).bind fun t692 => ((spec_l3At.f k a0_0 a0_1 a1 a3 a4).bind fun t693 => ((spec_l3Byte.f (wrap64 ((wrap64 (-t692)) * t693))).bind fun t694 => (if 1 + t694.size ≤ 9223372036854775807 then ((spec_l3At.f k a0_0 a0_1 a1 a2 a4).bind fun t695 => ((spec_l3Byte.f (wrap64 (t692 * t695))).bind fun t696 => (if ((⟨#[43]⟩ : ByteArray) ++ t694).size + t696.size ≤ 9223372036854775807 then ((spec_l3At.f k a0_0 a0_1 a1 a2 a3).bind fun t697 => ((spec_l3Byte.f (wrap64 ((wrap64 (-t692)) * t697))).bind fun t698 => (if (((⟨#[43]⟩ : ByteArray) ++ t694) ++ t696).size + t698.size ≤ 9223372036854775807 then (some ((((⟨#[43]⟩ : ByteArray) ++ t694) ++ t696) ++ t698)) else (none)))) else (none)))) else (none))))) = some r := h
 clear h
 replace H := Option.bind_eq_some_iff.mp H
 obtain ⟨t692, A60, H⟩ := H
 replace H : ((spec_l3At.f k a0_0 a0_1 a1 a3 a4).bind fun t693 => ((spec_l3Byte.f (wrap64 ((wrap64 (-t692)) * t693))).bind fun t694 => (if 1 + t694.size ≤ 9223372036854775807 then ((spec_l3At.f k a0_0 a0_1 a1 a2 a4).bind fun t695 => ((spec_l3Byte.f (wrap64 (t692 * t695))).bind fun t696 => (if ((⟨#[43]⟩ : ByteArray) ++ t694).size + t696.size ≤ 9223372036854775807 then ((spec_l3At.f k a0_0 a0_1 a1 a2 a3).bind fun t697 => ((spec_l3Byte.f (wrap64 ((wrap64 (-t692)) * t697))).bind fun t698 => (if (((⟨#[43]⟩ : ByteArray) ++ t694) ++ t696).size + t698.size ≤ 9223372036854775807 then (some ((((⟨#[43]⟩ : ByteArray) ++ t694) ++ t696) ++ t698)) else (none)))) else (none)))) else (none)))) = some r := H
 have A6 := Aside0.mk A60
 clear A60
 replace H := Option.bind_eq_some_iff.mp H
 obtain ⟨t693, A70, H⟩ := H
 replace H : ((spec_l3Byte.f (wrap64 ((wrap64 (-t692)) * t693))).bind fun t694 => (if 1 + t694.size ≤ 9223372036854775807 then ((spec_l3At.f k a0_0 a0_1 a1 a2 a4).bind fun t695 => ((spec_l3Byte.f (wrap64 (t692 * t695))).bind fun t696 => (if ((⟨#[43]⟩ : ByteArray) ++ t694).size + t696.size ≤ 9223372036854775807 then ((spec_l3At.f k a0_0 a0_1 a1 a2 a3).bind fun t697 => ((spec_l3Byte.f (wrap64 ((wrap64 (-t692)) * t697))).bind fun t698 => (if (((⟨#[43]⟩ : ByteArray) ++ t694) ++ t696).size + t698.size ≤ 9223372036854775807 then (some ((((⟨#[43]⟩ : ByteArray) ++ t694) ++ t696) ++ t698)) else (none)))) else (none)))) else (none))) = some r := H
 have A7 := Aside0.mk A70
 clear A70
 replace H := Option.bind_eq_some_iff.mp H
 obtain ⟨t694, A80, H⟩ := H
 replace H : (if 1 + t694.size ≤ 9223372036854775807 then ((spec_l3At.f k a0_0 a0_1 a1 a2 a4).bind fun t695 => ((spec_l3Byte.f (wrap64 (t692 * t695))).bind fun t696 => (if ((⟨#[43]⟩ : ByteArray) ++ t694).size + t696.size ≤ 9223372036854775807 then ((spec_l3At.f k a0_0 a0_1 a1 a2 a3).bind fun t697 => ((spec_l3Byte.f (wrap64 ((wrap64 (-t692)) * t697))).bind fun t698 => (if (((⟨#[43]⟩ : ByteArray) ++ t694) ++ t696).size + t698.size ≤ 9223372036854775807 then (some ((((⟨#[43]⟩ : ByteArray) ++ t694) ++ t696) ++ t698)) else (none)))) else (none)))) else (none)) = some r := H
 have A8 := Aside0.mk A80
 clear A80
 by_cases c9 : 1 + t694.size ≤ 9223372036854775807
 ·rw [if_pos c9] at H
  have c9b0 := eq_true c9
  have c9b1 : decide (1 + t694.size ≤ 9223372036854775807) = true := decide_eq_true c9
  try have c9b2 : (9223372036854775807 < 1 + t694.size) = False := eq_false (Nat.not_lt.2 c9)
  replace H := Option.bind_eq_some_iff.mp H
  obtain ⟨t695, A100, H⟩ := H
  replace H : ((spec_l3Byte.f (wrap64 (t692 * t695))).bind fun t696 => (if ((⟨#[43]⟩ : ByteArray) ++ t694).size + t696.size ≤ 9223372036854775807 then ((spec_l3At.f k a0_0 a0_1 a1 a2 a3).bind fun t697 => ((spec_l3Byte.f (wrap64 ((wrap64 (-t692)) * t697))).bind fun t698 => (if (((⟨#[43]⟩ : ByteArray) ++ t694) ++ t696).size + t698.size ≤ 9223372036854775807 then (some ((((⟨#[43]⟩ : ByteArray) ++ t694) ++ t696) ++ t698)) else (none)))) else (none))) = some r := H
  have A10 := Aside0.mk A100
  clear A100
  replace H := Option.bind_eq_some_iff.mp H
  obtain ⟨t696, A110, H⟩ := H
  replace H : (if ((⟨#[43]⟩ : ByteArray) ++ t694).size + t696.size ≤ 9223372036854775807 then ((spec_l3At.f k a0_0 a0_1 a1 a2 a3).bind fun t697 => ((spec_l3Byte.f (wrap64 ((wrap64 (-t692)) * t697))).bind fun t698 => (if (((⟨#[43]⟩ : ByteArray) ++ t694) ++ t696).size + t698.size ≤ 9223372036854775807 then (some ((((⟨#[43]⟩ : ByteArray) ++ t694) ++ t696) ++ t698)) else (none)))) else (none)) = some r := H
  have A11 := Aside0.mk A110
  clear A110
  by_cases c12 : ((⟨#[43]⟩ : ByteArray) ++ t694).size + t696.size ≤ 9223372036854775807
  ·rw [if_pos c12] at H
   have c12b0 := eq_true c12
   have c12b1 : decide (((⟨#[43]⟩ : ByteArray) ++ t694).size + t696.size ≤ 9223372036854775807) = true := decide_eq_true c12
   try have c12b2 : (9223372036854775807 < ((⟨#[43]⟩ : ByteArray) ++ t694).size + t696.size) = False := eq_false (Nat.not_lt.2 c12)
   (try have c12b3 : (9223372036854775807 < 1 + t694.size + t696.size) = False := eq_false (by clear H; have h_ := c12; simp only [ByteArray.size_append, ByteArray.size_extract, show (⟨#[43]⟩ : ByteArray).size = 1 from rfl, eq_iff_iff, iff_true, decide_eq_true_eq] at *; (try simp at h_); omega))
   replace H := Option.bind_eq_some_iff.mp H
   obtain ⟨t697, A130, H⟩ := H
   replace H : ((spec_l3Byte.f (wrap64 ((wrap64 (-t692)) * t697))).bind fun t698 => (if (((⟨#[43]⟩ : ByteArray) ++ t694) ++ t696).size + t698.size ≤ 9223372036854775807 then (some ((((⟨#[43]⟩ : ByteArray) ++ t694) ++ t696) ++ t698)) else (none))) = some r := H
   have A13 := Aside0.mk A130
   clear A130
   replace H := Option.bind_eq_some_iff.mp H
   obtain ⟨t698, A140, H⟩ := H
   replace H : (if (((⟨#[43]⟩ : ByteArray) ++ t694) ++ t696).size + t698.size ≤ 9223372036854775807 then (some ((((⟨#[43]⟩ : ByteArray) ++ t694) ++ t696) ++ t698)) else (none)) = some r := H
   have A14 := Aside0.mk A140
   clear A140
   by_cases c15 : (((⟨#[43]⟩ : ByteArray) ++ t694) ++ t696).size + t698.size ≤ 9223372036854775807
   ·rw [if_pos c15] at H
    have c15b0 := eq_true c15
    have c15b1 : decide ((((⟨#[43]⟩ : ByteArray) ++ t694) ++ t696).size + t698.size ≤ 9223372036854775807) = true := decide_eq_true c15
    try have c15b2 : (9223372036854775807 < (((⟨#[43]⟩ : ByteArray) ++ t694) ++ t696).size + t698.size) = False := eq_false (Nat.not_lt.2 c15)
    (try have c15b3 : (9223372036854775807 < 1 + t694.size + t696.size + t698.size) = False := eq_false (by clear H; have h_ := c15; simp only [ByteArray.size_append, ByteArray.size_extract, show (⟨#[43]⟩ : ByteArray).size = 1 from rfl, eq_iff_iff, iff_true, decide_eq_true_eq] at *; (try simp at h_); omega))
    obtain rfl := Option.some.inj H
    go_enter Try.func162, Try.ntmps162
    try go_wp2_with (first | ((with_reducible refine gate_dst (N := 5) rfl ?_); refine box_event ?hg (N := 5) ?hd (cs := #[.int .i64 a0_0, .string a0_1]) (t := 25) ?hr ?_; (case hd => rfl); (case hg => rfl); (case hr => first | (go_simp; done) | (go_simp; rfl)); intro gb691 hg w16 hbox hb; have n0_ := Aside0.mk (below_step (by repeat (first | (with_reducible first | exact HB.out | apply below_alloc | apply pw_below_drewN | apply below_drew1) | exact HB.out)) hb); have n1_ := Aside0.mk (hbox); have n2_ := Aside0.mk ((by rw [hg]; exact (below_size (by repeat (first | (with_reducible first | exact HB.out | apply below_alloc | apply pw_below_drewN | apply below_drew1) | exact HB.out))) : w.heap.size ≤ gb691)); have n3_ := Aside0.mk ((by rw [hg]; exact (below_size (by repeat (first | (with_reducible first | exact HB.out | apply below_alloc | apply pw_below_drewN | apply below_drew1) | exact HB.out))) : w.heap.size ≤ gb691)); clear HB; have HB := n0_; have BK691 := n1_; have GW691 := n2_; have GE691 := n3_; clear n0_ n1_ n2_ n3_; clear hb hbox hg; have hcz17_0 : w16.cell? ⟨gb691, 0, none⟩ = some (.int .i64 a0_0) := (blk_cell BK691.out 0).trans rfl; have hcz17_1 : w16.cell? ⟨gb691, 1, none⟩ = some (.string a0_1) := (blk_cell BK691.out 1).trans rfl; have hfz17_0 := blk_frozen BK691.out 0; have hfz17_1 := blk_frozen BK691.out 1) | ((with_reducible refine gate_callee (f := 86) rfl ?_); refine goesL_ (some 17) rfl rfl Try.func86 (by kernel_rfl) rfl #[.agg #[.int .i64 a0_0, .string a0_1], .int .i64 a2, .int .i64 a3, .int .i64 a4] rfl (by (try simp only [List.map_toArray, List.map_cons, List.map_nil]); first | done | rfl | (simp only [List.length_drop, List.length_take]; rfl)) ?_; (with_reducible refine (spec_l3At.calls k a0_0 a0_1 a2 a3 a4 t692 _ A6.out).mono ?_); rintro e w18 ⟨rfl, hb⟩; refine ⟨_, rfl, ?_⟩; have n0_ := Aside0.mk (blk_below (g := gb691) (o := .cells #[.int .i64 a0_0, .string a0_1] 25 (0, 0)) (by (with_reducible repeat (first | refine blk_drewN ?_ _ | refine blk_drew ?_ | refine blk_alloc ?_ _)); exact BK691.out) hb); have n1_ := Aside0.mk (below_step (by repeat (first | (with_reducible first | exact HB.out | apply below_alloc | apply pw_below_drewN | apply below_drew1 | refine below_set ?_ GE691.out) | exact HB.out)) hb); clear BK691; clear HB; have BK691 := n0_; have HB := n1_; clear n0_ n1_; (try clear hb); (try clear hb2); (try clear hk); (try clear hi)))
    have n0_ := Aside0.mk (blk_drew BK691.out)
    have n1_ := Aside0.mk (below_drew1 HB.out)
    clear BK691
    clear HB
    have BK691 := n0_
    have HB := n1_
    clear n0_ n1_
    refine start_ (n := 20) (S := fun w' => w'.cell? ⟨gb691, 0, none⟩ = some (.int .i64 a0_0) ∧ w'.cell? ⟨gb691, 1, none⟩ = some (.string a0_1)) (ds := []) #[false, false, false, false, false, false, false, false, false, false, false, false, false, false, false, false, false, false, false, false] (by kernel_rfl) rfl rfl ⟨(blk_cell BK691.out 0).trans rfl, (blk_cell BK691.out 1).trans rfl⟩ (fun hHeld => ?_); refine with_tabW spec_l4Circuit.tab2 spec_l4Circuit.bits2 (fun HT_ HW_ => ?_)
    generalize w18.drew = w19 at BK691 HB hHeld ⊢
    refine pure_ (i := 0) (N := some 18) (v := ?_) (a' := ?_) #[true, false, false, false, false, false, false, false, false, false, false, false, false, false, false, false, false, false, false, false] rfl rfl (any_of HT_.out (by kernel_rfl)) (fun _ _ _ h => h) (Or.inl ⟨by rfl, ?_⟩) ?_ ?_
    rotate_left
    ·intro w'
     go_simp
     with_reducible rfl
    rotate_left
    ·simp only [Act.put, List.setIfInBounds_toArray, List.set_cons_zero, List.set_cons_succ, i64_w, i32_w]
     rfl
    refine pure_ (i := 1) (N := some 19) (v := ?_) (a' := ?_) #[true, true, false, false, false, false, false, false, false, false, false, false, false, false, false, false, false, false, false, false] rfl rfl (any_of HT_.out (by kernel_rfl)) (fun _ _ _ h => h) (Or.inl ⟨by rfl, ?_⟩) ?_ ?_
    rotate_left
    ·intro w'
     go_simp
     with_reducible rfl
    rotate_left
    ·simp only [Act.put, List.setIfInBounds_toArray, List.set_cons_zero, List.set_cons_succ, i64_w, i32_w]
     rfl
    refine pure_ (i := 3) (N := some 21) (v := ?_) (a' := ?_) #[true, true, false, true, false, false, false, false, false, false, false, false, false, false, false, false, false, false, false, false] rfl rfl (any_of HT_.out (by kernel_rfl)) (fun _ _ _ h => h) (Or.inl ⟨by rfl, ?_⟩) ?_ ?_
    rotate_left
    ·intro w'
     go_simp
     with_reducible rfl
    rotate_left
    ·simp only [Act.put, List.setIfInBounds_toArray, List.set_cons_zero, List.set_cons_succ, i64_w, i32_w]
     rfl
    refine pure_ (i := 4) (N := some 22) (v := ?_) (a' := ?_) #[true, true, false, true, true, false, false, false, false, false, false, false, false, false, false, false, false, false, false, false] rfl rfl (any_of HT_.out (by kernel_rfl)) (fun _ _ _ h => h) (Or.inl ⟨by rfl, ?_⟩) ?_ ?_
    rotate_left
    ·intro w'
     go_simp
     with_reducible rfl
    rotate_left
    ·simp only [Act.put, List.setIfInBounds_toArray, List.set_cons_zero, List.set_cons_succ, i64_w, i32_w]
     rfl
    refine pure_ (i := 5) (N := some 23) (v := ?_) (a' := ?_) #[true, true, false, true, true, true, false, false, false, false, false, false, false, false, false, false, false, false, false, false] rfl rfl (any_of HT_.out (by kernel_rfl)) (fun _ _ _ h => h) (Or.inl ⟨by rfl, ?_⟩) ?_ ?_
    rotate_left
    ·intro w'
     go_simp
     with_reducible rfl
    rotate_left
    ·simp only [Act.put, List.setIfInBounds_toArray, List.set_cons_zero, List.set_cons_succ, i64_w, i32_w]
     rfl
    refine pure_ (i := 10) (N := some 28) (v := ?_) (a' := ?_) #[true, true, false, true, true, true, false, false, false, false, true, false, false, false, false, false, false, false, false, false] rfl rfl (any_of HT_.out (by kernel_rfl)) (fun _ _ _ h => h) (Or.inl ⟨by rfl, ?_⟩) ?_ ?_
    rotate_left
    ·intro w'
     go_simp
     with_reducible rfl
    rotate_left
    ·simp only [Act.put, List.setIfInBounds_toArray, List.set_cons_zero, List.set_cons_succ, i64_w, i32_w]
     rfl
    refine pure_ (i := 12) (N := some 30) (v := ?_) (a' := ?_) #[true, true, false, true, true, true, false, false, false, false, true, false, true, false, false, false, false, false, false, false] rfl rfl (any_of HT_.out (by kernel_rfl)) (fun _ _ _ h => h) (Or.inl ⟨by rfl, ?_⟩) ?_ ?_
    rotate_left
    ·intro w'
     go_simp
     with_reducible rfl
    rotate_left
    ·simp only [Act.put, List.setIfInBounds_toArray, List.set_cons_zero, List.set_cons_succ, i64_w, i32_w]
     rfl
    refine pure_ (i := 13) (N := some 31) (v := ?_) (a' := ?_) #[true, true, false, true, true, true, false, false, false, false, true, false, true, true, false, false, false, false, false, false] rfl rfl (any_of HT_.out (by kernel_rfl)) (fun _ _ _ h => h) (Or.inl ⟨by rfl, ?_⟩) ?_ ?_
    rotate_left
    ·intro w'
     go_simp
     with_reducible rfl
    rotate_left
    ·simp only [Act.put, List.setIfInBounds_toArray, List.set_cons_zero, List.set_cons_succ, i64_w, i32_w]
     rfl
    refine pure_ (i := 14) (N := some 32) (v := ?_) (a' := ?_) #[true, true, false, true, true, true, false, false, false, false, true, false, true, true, true, false, false, false, false, false] rfl rfl (any_of HT_.out (by kernel_rfl)) (fun _ _ _ h => h) (Or.inl ⟨by rfl, ?_⟩) ?_ ?_
    rotate_left
    ·intro w'
     go_simp
     with_reducible rfl
    rotate_left
    ·simp only [Act.put, List.setIfInBounds_toArray, List.set_cons_zero, List.set_cons_succ, i64_w, i32_w]
     rfl
    refine take_ (i := 2) (N := some 20) (v := ?_) (a' := ?_) #[true, true, true, true, true, true, false, false, false, false, true, false, true, true, true, false, false, false, false, false] rfl rfl (take_ofW HT_.out HW_.out (by kernel_rfl)) (fun _ _ _ h => h) (Or.inl ⟨by rfl, ?_⟩) hHeld ?_ ?_
    rotate_left
    ·rintro w' ⟨s0, s1⟩
     go_simp
     with_reducible rfl
    rotate_left
    ·simp only [Act.put, List.setIfInBounds_toArray, List.set_cons_zero, List.set_cons_succ, i64_w, i32_w]
     rfl
    refine take_ (i := 11) (N := some 29) (v := ?_) (a' := ?_) #[true, true, true, true, true, true, false, false, false, false, true, true, true, true, true, false, false, false, false, false] rfl rfl (take_ofW HT_.out HW_.out (by kernel_rfl)) (fun _ _ _ h => h) (Or.inl ⟨by rfl, ?_⟩) hHeld ?_ ?_
    rotate_left
    ·rintro w' ⟨s0, s1⟩
     go_simp
     with_reducible rfl
    rotate_left
    ·simp only [Act.put, List.setIfInBounds_toArray, List.set_cons_zero, List.set_cons_succ, i64_w, i32_w]
     rfl
    refine one_ (i := 6) (N := some 24) #[true, true, true, true, true, true, true, false, false, false, true, true, true, true, true, false, false, false, false, false] rfl rfl (one_of HT_.out (by kernel_rfl)) (by decide) (fun K hK => ?_)
    refine goes_ Try.func86 (by kernel_rfl) rfl #[.agg #[.int .i64 a0_0, .string a0_1], .int .i64 a1, .int .i64 a3, .int .i64 a4] (by rfl) rfl rfl (by (try simp only [List.map_toArray, List.map_cons, List.map_nil]); first | done | rfl | (simp only [List.length_drop, List.length_take]; rfl)) ?_
    with_reducible refine (spec_l3At.calls k a0_0 a0_1 a1 a3 a4 t693 _ A7.out).mono ?_
    rintro e w20 ⟨rfl, hb⟩
    refine ⟨_, rfl, ?_⟩
    have n0_ := Aside0.mk (blk_below (g := gb691) (o := .cells #[.int .i64 a0_0, .string a0_1] 25 (0, 0)) (by (with_reducible repeat (first | refine blk_drewN ?_ _ | refine blk_drew ?_ | refine blk_alloc ?_ _)); exact BK691.out) hb)
    have n1_ := Aside0.mk (below_step (by repeat (first | (with_reducible first | exact HB.out | apply below_alloc | apply pw_below_drewN | apply below_drew1 | refine below_set ?_ GE691.out) | exact HB.out)) hb)
    clear BK691
    clear HB
    have BK691 := n0_
    have HB := n1_
    clear n0_ n1_
    (try clear hb)
    (try clear hb2)
    (try clear hk)
    (try clear hi)
    refine hK.out _ _ ⟨(blk_cell BK691.out 0).trans rfl, (blk_cell BK691.out 1).trans rfl⟩ (fun hHeld => ?_)
    clear hK K
    refine norm_ (a' := ?_) ?_ ?_
    rotate_left
    ·show Act.put _ (some 24) _ = _
     simp only [Act.put, List.setIfInBounds_toArray, List.set_cons_zero, List.set_cons_succ, i64_w, i32_w]
     rfl
    refine pure_ (i := 7) (N := some 25) (v := ?_) (a' := ?_) #[true, true, true, true, true, true, true, true, false, false, true, true, true, true, true, false, false, false, false, false] rfl rfl (any_of HT_.out (by kernel_rfl)) (fun _ _ _ h => h) (Or.inl ⟨by rfl, ?_⟩) ?_ ?_
    rotate_left
    ·intro w'
     go_simp
     with_reducible rfl
    rotate_left
    ·simp only [Act.put, List.setIfInBounds_toArray, List.set_cons_zero, List.set_cons_succ, i64_w, i32_w]
     rfl
    refine one_ (i := 8) (N := some 26) #[true, true, true, true, true, true, true, true, true, false, true, true, true, true, true, false, false, false, false, false] rfl rfl (one_of HT_.out (by kernel_rfl)) (by decide) (fun K hK => ?_)
    refine goes_ Try.func105 (by kernel_rfl) rfl #[.int .i64 (wrap64 ((wrap64 (-t692)) * t693))] (by rfl) rfl rfl (by (try simp only [List.map_toArray, List.map_cons, List.map_nil]); first | done | rfl | (simp only [List.length_drop, List.length_take]; rfl)) ?_
    with_reducible refine (spec_l3Byte.calls (wrap64 ((wrap64 (-t692)) * t693)) t694 _ A8.out).mono ?_
    rintro e w' ⟨rfl, ⟨nd, rfl⟩⟩
    refine ⟨_, rfl, ?_⟩
    refine hK.out _ _ ⟨(blk_cell BK691.out 0).trans rfl, (blk_cell BK691.out 1).trans rfl⟩ (fun hHeld => ?_)
    clear hK K
    refine norm_ (a' := ?_) ?_ ?_
    rotate_left
    ·show Act.put _ (some 26) _ = _
     simp only [Act.put, List.setIfInBounds_toArray, List.set_cons_zero, List.set_cons_succ, i64_w, i32_w]
     rfl
    refine pure_ (i := 9) (N := some 27) (v := ?_) (a' := ?_) #[true, true, true, true, true, true, true, true, true, true, true, true, true, true, true, false, false, false, false, false] rfl rfl (any_of HT_.out (by kernel_rfl)) (fun _ _ _ h => h) (Or.inl ⟨by rfl, ?_⟩) ?_ ?_
    rotate_left
    ·intro w'
     go_simp
     with_reducible rfl
    rotate_left
    ·simp only [Act.put, List.setIfInBounds_toArray, List.set_cons_zero, List.set_cons_succ, i64_w, i32_w]
     rfl
    refine one_ (i := 15) (N := some 33) #[true, true, true, true, true, true, true, true, true, true, true, true, true, true, true, true, false, false, false, false] rfl rfl (one_of HT_.out (by kernel_rfl)) (by decide) (fun K hK => ?_)
    refine goes_ Try.func86 (by kernel_rfl) rfl #[.agg #[.int .i64 a0_0, .string a0_1], .int .i64 a1, .int .i64 a2, .int .i64 a4] (by rfl) rfl rfl (by (try simp only [List.map_toArray, List.map_cons, List.map_nil]); first | done | rfl | (simp only [List.length_drop, List.length_take]; rfl)) ?_
    with_reducible refine (spec_l3At.calls k a0_0 a0_1 a1 a2 a4 t695 _ A10.out).mono ?_
    rintro e w21 ⟨rfl, hb⟩
    refine ⟨_, rfl, ?_⟩
    have n0_ := Aside0.mk (blk_below (g := gb691) (o := .cells #[.int .i64 a0_0, .string a0_1] 25 (0, 0)) (by (with_reducible repeat (first | refine blk_drewN ?_ _ | refine blk_drew ?_ | refine blk_alloc ?_ _)); exact BK691.out) hb)
    have n1_ := Aside0.mk (below_step (by repeat (first | (with_reducible first | exact HB.out | apply below_alloc | apply pw_below_drewN | apply below_drew1 | refine below_set ?_ GE691.out) | exact HB.out)) hb)
    clear BK691
    clear HB
    have BK691 := n0_
    have HB := n1_
    clear n0_ n1_
    (try clear hb)
    (try clear hb2)
    (try clear hk)
    (try clear hi)
    refine hK.out _ _ ⟨(blk_cell BK691.out 0).trans rfl, (blk_cell BK691.out 1).trans rfl⟩ (fun hHeld => ?_)
    clear hK K
    refine norm_ (a' := ?_) ?_ ?_
    rotate_left
    ·show Act.put _ (some 33) _ = _
     simp only [Act.put, List.setIfInBounds_toArray, List.set_cons_zero, List.set_cons_succ, i64_w, i32_w]
     rfl
    refine pure_ (i := 16) (N := some 34) (v := ?_) (a' := ?_) #[true, true, true, true, true, true, true, true, true, true, true, true, true, true, true, true, true, false, false, false] rfl rfl (any_of HT_.out (by kernel_rfl)) (fun _ _ _ h => h) (Or.inl ⟨by rfl, ?_⟩) ?_ ?_
    rotate_left
    ·intro w'
     go_simp
     with_reducible rfl
    rotate_left
    ·simp only [Act.put, List.setIfInBounds_toArray, List.set_cons_zero, List.set_cons_succ, i64_w, i32_w]
     rfl
    refine one_ (i := 17) (N := some 35) #[true, true, true, true, true, true, true, true, true, true, true, true, true, true, true, true, true, true, false, false] rfl rfl (one_of HT_.out (by kernel_rfl)) (by decide) (fun K hK => ?_)
    refine goes_ Try.func105 (by kernel_rfl) rfl #[.int .i64 (wrap64 (t692 * t695))] (by rfl) rfl rfl (by (try simp only [List.map_toArray, List.map_cons, List.map_nil]); first | done | rfl | (simp only [List.length_drop, List.length_take]; rfl)) ?_
    with_reducible refine (spec_l3Byte.calls (wrap64 (t692 * t695)) t696 _ A11.out).mono ?_
    rintro e w' ⟨rfl, ⟨nd, rfl⟩⟩
    refine ⟨_, rfl, ?_⟩
    refine hK.out _ _ ⟨(blk_cell BK691.out 0).trans rfl, (blk_cell BK691.out 1).trans rfl⟩ (fun hHeld => ?_)
    clear hK K
    refine norm_ (a' := ?_) ?_ ?_
    rotate_left
    ·show Act.put _ (some 35) _ = _
     simp only [Act.put, List.setIfInBounds_toArray, List.set_cons_zero, List.set_cons_succ, i64_w, i32_w]
     rfl
    refine pure_ (i := 18) (N := some 36) (v := ?_) (a' := ?_) #[true, true, true, true, true, true, true, true, true, true, true, true, true, true, true, true, true, true, true, false] rfl rfl (any_of HT_.out (by kernel_rfl)) (fun _ _ _ h => h) (Or.inl ⟨by rfl, ?_⟩) ?_ ?_
    rotate_left
    ·intro w'
     go_simp
     with_reducible rfl
    rotate_left
    ·simp only [Act.put, List.setIfInBounds_toArray, List.set_cons_zero, List.set_cons_succ, i64_w, i32_w]
     rfl
    refine pure_ (i := 19) (N := some 12) (v := ?_) (a' := ?_) #[true, true, true, true, true, true, true, true, true, true, true, true, true, true, true, true, true, true, true, true] rfl rfl (any_of HT_.out (by kernel_rfl)) (fun _ _ _ h => h) (Or.inl ⟨by rfl, ?_⟩) ?_ ?_
    rotate_left
    ·intro w'
     go_simp
     with_reducible rfl
    rotate_left
    ·simp only [Act.put, List.setIfInBounds_toArray, List.set_cons_zero, List.set_cons_succ, i64_w, i32_w]
     rfl
    refine done_ (done_of HT_.out (by kernel_rfl)) ?_
    have hcz22_0 : w21.cell? ⟨gb691, 0, none⟩ = some (.int .i64 a0_0) := (blk_cell BK691.out 0).trans rfl
    have hcz22_1 : w21.cell? ⟨gb691, 1, none⟩ = some (.string a0_1) := (blk_cell BK691.out 1).trans rfl
    have hfz22_0 := blk_frozen BK691.out 0
    have hfz22_1 := blk_frozen BK691.out 1
    try go_wp2_with (first | ((with_reducible refine gate_callee (f := 86) rfl ?_); refine goesL_ (some 44) rfl rfl Try.func86 (by kernel_rfl) rfl #[.agg #[.int .i64 a0_0, .string a0_1], .int .i64 a1, .int .i64 a2, .int .i64 a3] rfl (by (try simp only [List.map_toArray, List.map_cons, List.map_nil]); first | done | rfl | (simp only [List.length_drop, List.length_take]; rfl)) ?_; (with_reducible refine (spec_l3At.calls k a0_0 a0_1 a1 a2 a3 t697 _ A13.out).mono ?_); rintro e w23 ⟨rfl, hb⟩; refine ⟨_, rfl, ?_⟩; have n0_ := Aside0.mk (blk_below (g := gb691) (o := .cells #[.int .i64 a0_0, .string a0_1] 25 (0, 0)) (by (with_reducible repeat (first | refine blk_drewN ?_ _ | refine blk_drew ?_ | refine blk_alloc ?_ _)); exact BK691.out) hb); have n1_ := Aside0.mk (below_step (by repeat (first | (with_reducible first | exact HB.out | apply below_alloc | apply pw_below_drewN | apply below_drew1 | refine below_set ?_ GE691.out) | exact HB.out)) hb); clear BK691; clear HB; have BK691 := n0_; have HB := n1_; clear n0_ n1_; (try clear hb); (try clear hb2); (try clear hk); (try clear hi)) | ((with_reducible refine gate_callee (f := 105) rfl ?_); refine goesL_ (some 46) rfl rfl Try.func105 (by kernel_rfl) rfl #[.int .i64 (wrap64 ((wrap64 (-t692)) * t697))] rfl (by (try simp only [List.map_toArray, List.map_cons, List.map_nil]); first | done | rfl | (simp only [List.length_drop, List.length_take]; rfl)) ?_; (with_reducible refine (spec_l3Byte.calls (wrap64 ((wrap64 (-t692)) * t697)) t698 _ A14.out).mono ?_); rintro e w' ⟨rfl, ⟨nd, rfl⟩⟩; refine ⟨_, rfl, ?_⟩))
    go_ret
    exact ⟨by first | rfl | (simp [errW_none, errW_some] <;> rfl) | (simp [*, errW_none, errW_some] <;> rfl), by repeat (first | (with_reducible first | exact HB.out | apply below_alloc | apply pw_below_drewN | apply below_drew1 | refine below_set ?_ GE691.out) | exact HB.out)⟩
   ·rw [if_neg c15] at H
    exact absurd H (by simp)
  ·rw [if_neg c12] at H
   exact absurd H (by simp)
 ·rw [if_neg c9] at H
  exact absurd H (by simp)
mutual
def spec_l4Acyclic.l0 : Nat → Int → Int → ByteArray → Option (Bool)
 | 0, _, _, _ => none
 | k + 1, x3, x157, x187 => if x3 < x157 then (spec_l4Acyclic.l1 k x3 (wrap64 (x3 + 1)) x157 x187) else (some true)
def spec_l4Acyclic.l1 : Nat → Int → Int → Int → ByteArray → Option (Bool)
 | 0, _, _, _, _ => none
 | k + 1, x3, x4, x157, x187 => if x4 < x157 then (spec_l4Acyclic.l2 k x3 x4 (wrap64 (x4 + 1)) x157 x187) else (spec_l4Acyclic.l0 k (wrap64 (x3 + 1)) x157 x187)
def spec_l4Acyclic.l2 : Nat → Int → Int → Int → Int → ByteArray → Option (Bool)
 | 0, _, _, _, _, _ => none
 | k + 1, x3, x4, x5, x157, x187 => if x5 < x157 then (spec_l4Acyclic.l3 k x3 x4 x5 (wrap64 (x5 + 1)) x157 x187) else (spec_l4Acyclic.l1 k x3 (wrap64 (x4 + 1)) x157 x187)
def spec_l4Acyclic.l3 : Nat → Int → Int → Int → Int → Int → ByteArray → Option (Bool)
 | 0, _, _, _, _, _, _ => none
 | k + 1, x3, x4, x5, x6, x157, x187 => if x6 < x157 then ((spec_l4Circuit.f k x157 x187 x3 x4 x5 x6).bind fun t700 => (if t700.toList = ([43, 43, 43, 43] : List UInt8) then (some false) else (spec_l4Acyclic.l3 k x3 x4 x5 (wrap64 (x6 + 1)) x157 x187))) else (spec_l4Acyclic.l2 k x3 x4 (wrap64 (x5 + 1)) x157 x187)
end
def spec_l4Acyclic.f (k : Nat) (a0_0 : Int) (a0_1 : ByteArray) : Option (Bool) := spec_l4Acyclic.l0 k 0 a0_0 a0_1
set_option maxHeartbeats 8000000 in
set_option maxRecDepth 100000 in
theorem spec_l4Acyclic.calls (k : Nat) (a0_0 : Int) (a0_1 : ByteArray) (r : Bool) (w : World) (h : spec_l4Acyclic.f k a0_0 a0_1 = some r) :
  Calls Try.prog 117 #[.agg #[.int .i64 a0_0, .string a0_1]] w fun e w' => e = .returned (.bool r) ∧ Below w.heap.size w w' := by
 have hu25 := Try.underlying25
 have HB := Aside0.mk (Below.refl w.heap.size w)
 have H : (spec_l4Acyclic.l0 k 0 a0_0 a0_1) = some r := h
 clear h
 have H' := Aside0.mk H
 clear H
 go_enter Try.func117, Try.ntmps117
 go_wp2_with (first | ((with_reducible refine gate_dst (N := 1) rfl ?_); refine box_event ?hg (N := 1) ?hd (cs := #[.int .i64 a0_0, .string a0_1]) (t := 25) ?hr ?_; (case hd => rfl); (case hg => rfl); (case hr => first | (go_simp; done) | (go_simp; rfl)); intro gb699 hg w2 hbox hb; have n0_ := Aside0.mk (below_step (by repeat (first | (with_reducible first | exact HB.out | apply below_alloc | apply pw_below_drewN | apply below_drew1) | exact HB.out)) hb); have n1_ := Aside0.mk (hbox); have n2_ := Aside0.mk ((by rw [hg]; exact (below_size (by repeat (first | (with_reducible first | exact HB.out | apply below_alloc | apply pw_below_drewN | apply below_drew1) | exact HB.out))) : w.heap.size ≤ gb699)); have n3_ := Aside0.mk ((by rw [hg]; exact (below_size (by repeat (first | (with_reducible first | exact HB.out | apply below_alloc | apply pw_below_drewN | apply below_drew1) | exact HB.out))) : w.heap.size ≤ gb699)); clear HB; have HB := n0_; have BK699 := n1_; have GW699 := n2_; have GE699 := n3_; clear n0_ n1_ n2_ n3_; clear hb hbox hg))
 go_loopg [3] k (fun kq v3 w' => ∃ (x3_1 : Int), v3 = .int .i64 x3_1 ∧ Aside0 (spec_l4Acyclic.l0 kq x3_1 a0_0 a0_1 = some r) ∧ Aside0 (kq ≤ k) ∧ Aside0 (w'.heap[gb699]? = some (.cells #[.int .i64 a0_0, .string a0_1] 25 (0, 0))) ∧ Aside0 (Below w.heap.size w w'))
 case atStart => exact ⟨(0), (by first | rfl | (simp; done) | (simp [*]; done)), H', ⟨Nat.le_refl _⟩, ⟨by (with_reducible repeat (first | refine blk_drewN ?_ _ | refine blk_drew ?_ | refine blk_alloc ?_ _)); exact BK699.out⟩, ⟨by repeat (first | (with_reducible first | exact HB.out | apply below_alloc | apply pw_below_drewN | apply below_drew1 | refine below_set ?_ GE699.out) | exact HB.out)⟩⟩
 case round =>
  clear H'
  try clear c1
  try clear p2
  obtain ⟨x3_1, rfl, HA, HK1, BK699, HB⟩ := hrel
  cases gk with
  | zero => exact absurd HA.out (by simp [spec_l4Acyclic.l0])
  | succ k1 =>
   have H := HA.out
   clear HA
   simp only [spec_l4Acyclic.l0] at H
   by_cases c3 : x3_1 < a0_0
   ·rw [if_pos c3] at H
    have c3b0 : decide (x3_1 < a0_0) = true := decide_eq_true c3
    clear c3
    have H' := Aside0.mk H
    clear H
    have hcz4_0 : wr.cell? ⟨gb699, 0, none⟩ = some (.int .i64 a0_0) := (blk_cell BK699.out 0).trans rfl
    have hcz4_1 : wr.cell? ⟨gb699, 1, none⟩ = some (.string a0_1) := (blk_cell BK699.out 1).trans rfl
    have hfz4_0 := blk_frozen BK699.out 0
    have hfz4_1 := blk_frozen BK699.out 1
    go_wp2
    go_loopg [4] k1 (fun kq v4 w' => ∃ (x4_2 : Int), v4 = .int .i64 x4_2 ∧ Aside0 (spec_l4Acyclic.l1 kq x3_1 x4_2 a0_0 a0_1 = some r) ∧ Aside0 (kq ≤ k1) ∧ Aside0 (w'.heap[gb699]? = some (.cells #[.int .i64 a0_0, .string a0_1] 25 (0, 0))) ∧ Aside0 (Below w.heap.size w w'))
    case atStart => exact ⟨(wrap64 (x3_1 + 1)), (by first | rfl | (simp; done) | (simp [*]; done)), H', ⟨Nat.le_refl _⟩, ⟨by (with_reducible repeat (first | refine blk_drewN ?_ _ | refine blk_drew ?_ | refine blk_alloc ?_ _)); exact BK699.out⟩, ⟨by repeat (first | (with_reducible first | exact HB.out | apply below_alloc | apply pw_below_drewN | apply below_drew1 | refine below_set ?_ GE699.out) | exact HB.out)⟩⟩
    case round =>
     clear H'
     try clear c1
     try clear p2
     try clear c3
     try clear c3b0
     try clear hcz4_0
     try clear hcz4_1
     try clear hfz4_0
     try clear hfz4_1
     try clear p2
     obtain ⟨x4_2, rfl, HA, HK2, BK699, HB⟩ := hrel
     cases gk with
     | zero => exact absurd HA.out (by simp [spec_l4Acyclic.l1])
     | succ k2 =>
      have H := HA.out
      clear HA
      simp only [spec_l4Acyclic.l1] at H
      by_cases c5 : x4_2 < a0_0
      ·rw [if_pos c5] at H
       have c5b0 : decide (x4_2 < a0_0) = true := decide_eq_true c5
       clear c5
       have H' := Aside0.mk H
       clear H
       have hcz6_0 : wr.cell? ⟨gb699, 0, none⟩ = some (.int .i64 a0_0) := (blk_cell BK699.out 0).trans rfl
       have hcz6_1 : wr.cell? ⟨gb699, 1, none⟩ = some (.string a0_1) := (blk_cell BK699.out 1).trans rfl
       have hfz6_0 := blk_frozen BK699.out 0
       have hfz6_1 := blk_frozen BK699.out 1
       go_wp2
       go_loopg [5] k2 (fun kq v5 w' => ∃ (x5_3 : Int), v5 = .int .i64 x5_3 ∧ Aside0 (spec_l4Acyclic.l2 kq x3_1 x4_2 x5_3 a0_0 a0_1 = some r) ∧ Aside0 (kq ≤ k2) ∧ Aside0 (w'.heap[gb699]? = some (.cells #[.int .i64 a0_0, .string a0_1] 25 (0, 0))) ∧ Aside0 (Below w.heap.size w w'))
       case atStart => exact ⟨(wrap64 (x4_2 + 1)), (by first | rfl | (simp; done) | (simp [*]; done)), H', ⟨Nat.le_refl _⟩, ⟨by (with_reducible repeat (first | refine blk_drewN ?_ _ | refine blk_drew ?_ | refine blk_alloc ?_ _)); exact BK699.out⟩, ⟨by repeat (first | (with_reducible first | exact HB.out | apply below_alloc | apply pw_below_drewN | apply below_drew1 | refine below_set ?_ GE699.out) | exact HB.out)⟩⟩
       case round =>
        clear H'
        try clear c1
        try clear p2
        try clear c3
        try clear c3b0
        try clear c5
        try clear c5b0
        try clear p6
        try clear hcz4_0
        try clear hcz4_1
        try clear hcz6_0
        try clear hcz6_1
        try clear hfz4_0
        try clear hfz4_1
        try clear hfz6_0
        try clear hfz6_1
        try clear p2
        obtain ⟨x5_3, rfl, HA, HK3, BK699, HB⟩ := hrel
        cases gk with
        | zero => exact absurd HA.out (by simp [spec_l4Acyclic.l2])
        | succ k3 =>
         have H := HA.out
         clear HA
         simp only [spec_l4Acyclic.l2] at H
         by_cases c7 : x5_3 < a0_0
         ·rw [if_pos c7] at H
          have c7b0 : decide (x5_3 < a0_0) = true := decide_eq_true c7
          clear c7
          have H' := Aside0.mk H
          clear H
          have hcz8_0 : wr.cell? ⟨gb699, 0, none⟩ = some (.int .i64 a0_0) := (blk_cell BK699.out 0).trans rfl
          have hcz8_1 : wr.cell? ⟨gb699, 1, none⟩ = some (.string a0_1) := (blk_cell BK699.out 1).trans rfl
          have hfz8_0 := blk_frozen BK699.out 0
          have hfz8_1 := blk_frozen BK699.out 1
          go_wp2
          go_loopg [6] k3 (fun kq v6 w' => ∃ (x6_4 : Int), v6 = .int .i64 x6_4 ∧ Aside0 (spec_l4Acyclic.l3 kq x3_1 x4_2 x5_3 x6_4 a0_0 a0_1 = some r) ∧ Aside0 (kq ≤ k3) ∧ Aside0 (w'.heap[gb699]? = some (.cells #[.int .i64 a0_0, .string a0_1] 25 (0, 0))) ∧ Aside0 (Below w.heap.size w w'))
          case atStart => exact ⟨(wrap64 (x5_3 + 1)), (by first | rfl | (simp; done) | (simp [*]; done)), H', ⟨Nat.le_refl _⟩, ⟨by (with_reducible repeat (first | refine blk_drewN ?_ _ | refine blk_drew ?_ | refine blk_alloc ?_ _)); exact BK699.out⟩, ⟨by repeat (first | (with_reducible first | exact HB.out | apply below_alloc | apply pw_below_drewN | apply below_drew1 | refine below_set ?_ GE699.out) | exact HB.out)⟩⟩
          case round =>
           clear H'
           try clear c1
           try clear p2
           try clear c3
           try clear c3b0
           try clear c5
           try clear c5b0
           try clear p6
           try clear c7
           try clear c7b0
           try clear hcz4_0
           try clear hcz4_1
           try clear hcz6_0
           try clear hcz6_1
           try clear hcz8_0
           try clear hcz8_1
           try clear hfz4_0
           try clear hfz4_1
           try clear hfz6_0
           try clear hfz6_1
           try clear hfz8_0
           try clear hfz8_1
           try clear p2
           try clear p6
           obtain ⟨x6_4, rfl, HA, HK4, BK699, HB⟩ := hrel
           cases gk with
           | zero => exact absurd HA.out (by simp [spec_l4Acyclic.l3])
           | succ k4 =>
            have H := HA.out
            clear HA
            simp only [spec_l4Acyclic.l3] at H
            by_cases c9 : x6_4 < a0_0
            ·rw [if_pos c9] at H
             have c9b0 : decide (x6_4 < a0_0) = true := decide_eq_true c9
             clear c9
             replace H := Option.bind_eq_some_iff.mp H
             obtain ⟨t700, A100, H⟩ := H
             replace H : (if t700.toList = ([43, 43, 43, 43] : List UInt8) then (some false) else (spec_l4Acyclic.l3 k4 x3_1 x4_2 x5_3 (wrap64 (x6_4 + 1)) a0_0 a0_1)) = some r := H
             have A10 := Aside0.mk A100
             clear A100
             by_cases c11 : t700.toList = ([43, 43, 43, 43] : List UInt8)
             ·rw [if_pos c11] at H
              have c11b0 : (t700.toList == ([43, 43, 43, 43] : List UInt8)) = true := beq_iff_eq.mpr c11
              have c11b1 : (t700.toList != ([43, 43, 43, 43] : List UInt8)) = false := bne_eq_false_iff_eq.mpr c11
              clear c11
              obtain rfl := Option.some.inj H
              have hcz12_0 : wr.cell? ⟨gb699, 0, none⟩ = some (.int .i64 a0_0) := (blk_cell BK699.out 0).trans rfl
              have hcz12_1 : wr.cell? ⟨gb699, 1, none⟩ = some (.string a0_1) := (blk_cell BK699.out 1).trans rfl
              have hfz12_0 := blk_frozen BK699.out 0
              have hfz12_1 := blk_frozen BK699.out 1
              go_wp2_with (first | ((with_reducible refine gate_callee (f := 162) rfl ?_); refine goesL_ (some 42) rfl rfl Try.func162 (by kernel_rfl) rfl #[.agg #[.int .i64 a0_0, .string a0_1], .int .i64 x3_1, .int .i64 x4_2, .int .i64 x5_3, .int .i64 x6_4] rfl (by (try simp only [List.map_toArray, List.map_cons, List.map_nil]); first | done | rfl | (simp only [List.length_drop, List.length_take]; rfl)) ?_; (with_reducible refine (spec_l4Circuit.calls k4 a0_0 a0_1 x3_1 x4_2 x5_3 x6_4 t700 _ A10.out).mono ?_); rintro e w13 ⟨rfl, hb⟩; refine ⟨_, rfl, ?_⟩; have n0_ := Aside0.mk (blk_below (g := gb699) (o := .cells #[.int .i64 a0_0, .string a0_1] 25 (0, 0)) (by (with_reducible repeat (first | refine blk_drewN ?_ _ | refine blk_drew ?_ | refine blk_alloc ?_ _)); exact BK699.out) hb); have n1_ := Aside0.mk (below_step (by repeat (first | (with_reducible first | exact HB.out | apply below_alloc | apply pw_below_drewN | apply below_drew1 | refine below_set ?_ GE699.out) | exact HB.out)) hb); clear BK699; clear HB; have BK699 := n0_; have HB := n1_; clear n0_ n1_; (try clear hb); (try clear hb2); (try clear hk); (try clear hi)))
              go_ret
              exact ⟨by first | rfl | (simp [errW_none, errW_some] <;> rfl) | (simp [*, errW_none, errW_some] <;> rfl), by repeat (first | (with_reducible first | exact HB.out | apply below_alloc | apply pw_below_drewN | apply below_drew1 | refine below_set ?_ GE699.out) | exact HB.out)⟩
             ·rw [if_neg c11] at H
              have c11b0 : (t700.toList == ([43, 43, 43, 43] : List UInt8)) = false := beq_eq_false_iff_ne.mpr c11
              have c11b1 : (t700.toList != ([43, 43, 43, 43] : List UInt8)) = true := bne_iff_ne.mpr c11
              have H' := Aside0.mk H
              clear H
              have hcz14_0 : wr.cell? ⟨gb699, 0, none⟩ = some (.int .i64 a0_0) := (blk_cell BK699.out 0).trans rfl
              have hcz14_1 : wr.cell? ⟨gb699, 1, none⟩ = some (.string a0_1) := (blk_cell BK699.out 1).trans rfl
              have hfz14_0 := blk_frozen BK699.out 0
              have hfz14_1 := blk_frozen BK699.out 1
              go_wp2_with (first | ((with_reducible refine gate_callee (f := 162) rfl ?_); refine goesL_ (some 42) rfl rfl Try.func162 (by kernel_rfl) rfl #[.agg #[.int .i64 a0_0, .string a0_1], .int .i64 x3_1, .int .i64 x4_2, .int .i64 x5_3, .int .i64 x6_4] rfl (by (try simp only [List.map_toArray, List.map_cons, List.map_nil]); first | done | rfl | (simp only [List.length_drop, List.length_take]; rfl)) ?_; (with_reducible refine (spec_l4Circuit.calls k4 a0_0 a0_1 x3_1 x4_2 x5_3 x6_4 t700 _ A10.out).mono ?_); rintro e w15 ⟨rfl, hb⟩; refine ⟨_, rfl, ?_⟩; have n0_ := Aside0.mk (blk_below (g := gb699) (o := .cells #[.int .i64 a0_0, .string a0_1] 25 (0, 0)) (by (with_reducible repeat (first | refine blk_drewN ?_ _ | refine blk_drew ?_ | refine blk_alloc ?_ _)); exact BK699.out) hb); have n1_ := Aside0.mk (below_step (by repeat (first | (with_reducible first | exact HB.out | apply below_alloc | apply pw_below_drewN | apply below_drew1 | refine below_set ?_ GE699.out) | exact HB.out)) hb); clear BK699; clear HB; have BK699 := n0_; have HB := n1_; clear n0_ n1_; (try clear hb); (try clear hb2); (try clear hk); (try clear hi)))
              go_roundg k4
              case measure => have := HK1.out; have := HK2.out; have := HK3.out; have := HK4.out; omega
              case rel => exact ⟨(wrap64 (x6_4 + 1)), (by first | rfl | (simp; done) | (simp [*]; done)), H', ⟨by have := HK1.out; have := HK2.out; have := HK3.out; have := HK4.out; omega⟩, ⟨by (with_reducible repeat (first | refine blk_drewN ?_ _ | refine blk_drew ?_ | refine blk_alloc ?_ _)); exact BK699.out⟩, ⟨by repeat (first | (with_reducible first | exact HB.out | apply below_alloc | apply pw_below_drewN | apply below_drew1 | refine below_set ?_ GE699.out) | exact HB.out)⟩⟩
            ·rw [if_neg c9] at H
             have c9b0 : decide (x6_4 < a0_0) = false := decide_eq_false c9
             clear c9
             have H' := Aside0.mk H
             clear H
             have hcz16_0 : wr.cell? ⟨gb699, 0, none⟩ = some (.int .i64 a0_0) := (blk_cell BK699.out 0).trans rfl
             have hcz16_1 : wr.cell? ⟨gb699, 1, none⟩ = some (.string a0_1) := (blk_cell BK699.out 1).trans rfl
             have hfz16_0 := blk_frozen BK699.out 0
             have hfz16_1 := blk_frozen BK699.out 1
             go_wp2
             go_roundg k4
             case measure => have := HK1.out; have := HK2.out; have := HK3.out; have := HK4.out; omega
             case rel => exact ⟨(wrap64 (x5_3 + 1)), (by first | rfl | (simp; done) | (simp [*]; done)), H', ⟨by have := HK1.out; have := HK2.out; have := HK3.out; have := HK4.out; omega⟩, ⟨by (with_reducible repeat (first | refine blk_drewN ?_ _ | refine blk_drew ?_ | refine blk_alloc ?_ _)); exact BK699.out⟩, ⟨by repeat (first | (with_reducible first | exact HB.out | apply below_alloc | apply pw_below_drewN | apply below_drew1 | refine below_set ?_ GE699.out) | exact HB.out)⟩⟩
         ·rw [if_neg c7] at H
          have c7b0 : decide (x5_3 < a0_0) = false := decide_eq_false c7
          clear c7
          have H' := Aside0.mk H
          clear H
          have hcz17_0 : wr.cell? ⟨gb699, 0, none⟩ = some (.int .i64 a0_0) := (blk_cell BK699.out 0).trans rfl
          have hcz17_1 : wr.cell? ⟨gb699, 1, none⟩ = some (.string a0_1) := (blk_cell BK699.out 1).trans rfl
          have hfz17_0 := blk_frozen BK699.out 0
          have hfz17_1 := blk_frozen BK699.out 1
          go_wp2
          go_roundg k3
          case measure => have := HK1.out; have := HK2.out; have := HK3.out; omega
          case rel => exact ⟨(wrap64 (x4_2 + 1)), (by first | rfl | (simp; done) | (simp [*]; done)), H', ⟨by have := HK1.out; have := HK2.out; have := HK3.out; omega⟩, ⟨by (with_reducible repeat (first | refine blk_drewN ?_ _ | refine blk_drew ?_ | refine blk_alloc ?_ _)); exact BK699.out⟩, ⟨by repeat (first | (with_reducible first | exact HB.out | apply below_alloc | apply pw_below_drewN | apply below_drew1 | refine below_set ?_ GE699.out) | exact HB.out)⟩⟩
      ·rw [if_neg c5] at H
       have c5b0 : decide (x4_2 < a0_0) = false := decide_eq_false c5
       clear c5
       have H' := Aside0.mk H
       clear H
       have hcz18_0 : wr.cell? ⟨gb699, 0, none⟩ = some (.int .i64 a0_0) := (blk_cell BK699.out 0).trans rfl
       have hcz18_1 : wr.cell? ⟨gb699, 1, none⟩ = some (.string a0_1) := (blk_cell BK699.out 1).trans rfl
       have hfz18_0 := blk_frozen BK699.out 0
       have hfz18_1 := blk_frozen BK699.out 1
       go_wp2
       go_roundg k2
       case measure => have := HK1.out; have := HK2.out; omega
       case rel => exact ⟨(wrap64 (x3_1 + 1)), (by first | rfl | (simp; done) | (simp [*]; done)), H', ⟨by have := HK1.out; have := HK2.out; omega⟩, ⟨by (with_reducible repeat (first | refine blk_drewN ?_ _ | refine blk_drew ?_ | refine blk_alloc ?_ _)); exact BK699.out⟩, ⟨by repeat (first | (with_reducible first | exact HB.out | apply below_alloc | apply pw_below_drewN | apply below_drew1 | refine below_set ?_ GE699.out) | exact HB.out)⟩⟩
   ·rw [if_neg c3] at H
    have c3b0 : decide (x3_1 < a0_0) = false := decide_eq_false c3
    clear c3
    obtain rfl := Option.some.inj H
    have hcz19_0 : wr.cell? ⟨gb699, 0, none⟩ = some (.int .i64 a0_0) := (blk_cell BK699.out 0).trans rfl
    have hcz19_1 : wr.cell? ⟨gb699, 1, none⟩ = some (.string a0_1) := (blk_cell BK699.out 1).trans rfl
    have hfz19_0 := blk_frozen BK699.out 0
    have hfz19_1 := blk_frozen BK699.out 1
    go_wp2
    go_ret
    exact ⟨by first | rfl | (simp [errW_none, errW_some] <;> rfl) | (simp [*, errW_none, errW_some] <;> rfl), by repeat (first | (with_reducible first | exact HB.out | apply below_alloc | apply pw_below_drewN | apply below_drew1 | refine below_set ?_ GE699.out) | exact HB.out)⟩
def spec_IsAcyclic.f (k : Nat) (a0_0 : Int) (a0_1 : ByteArray) : Option (Bool) := (spec_IsMatroid.f k a0_0 a0_1).bind fun t702 => (if t702 = true then ((spec_l4Acyclic.f k a0_0 a0_1).bind fun t703 => (some t703)) else (some false))
set_option maxHeartbeats 8000000 in
set_option maxRecDepth 100000 in
theorem spec_IsAcyclic.calls (k : Nat) (a0_0 : Int) (a0_1 : ByteArray) (r : Bool) (w : World) (h : spec_IsAcyclic.f k a0_0 a0_1 = some r) :
  Calls Try.prog 70 #[.agg #[.int .i64 a0_0, .string a0_1]] w fun e w' => e = .returned (.bool r) ∧ Below w.heap.size w w' := by
 have hu25 := Try.underlying25
 have HB := Aside0.mk (Below.refl w.heap.size w)
 have H : ((spec_IsMatroid.f k a0_0 a0_1).bind fun t702 => (if t702 = true then ((spec_l4Acyclic.f k a0_0 a0_1).bind fun t703 => (some t703)) else (some false))) = some r := h
 clear h
 replace H := Option.bind_eq_some_iff.mp H
 obtain ⟨t702, A20, H⟩ := H
 replace H : (if t702 = true then ((spec_l4Acyclic.f k a0_0 a0_1).bind fun t703 => (some t703)) else (some false)) = some r := H
 have A2 := Aside0.mk A20
 clear A20
 by_cases c3 : t702 = true
 ·subst c3
  have H1 : ((spec_l4Acyclic.f k a0_0 a0_1).bind fun t703 => (some t703)) = some r := by rw [if_pos rfl] at H; exact H
  clear H
  have H := H1
  clear H1
  replace H := Option.bind_eq_some_iff.mp H
  obtain ⟨t703, A40, H⟩ := H
  replace H : (some t703) = some r := H
  have A4 := Aside0.mk A40
  clear A40
  obtain rfl := Option.some.inj H
  go_enter Try.func70, Try.ntmps70
  go_wp2_with (first | ((with_reducible refine gate_dst (N := 1) rfl ?_); refine box_event ?hg (N := 1) ?hd (cs := #[.int .i64 a0_0, .string a0_1]) (t := 25) ?hr ?_; (case hd => rfl); (case hg => rfl); (case hr => first | (go_simp; done) | (go_simp; rfl)); intro gb701 hg w5 hbox hb; have n0_ := Aside0.mk (below_step (by repeat (first | (with_reducible first | exact HB.out | apply below_alloc | apply pw_below_drewN | apply below_drew1) | exact HB.out)) hb); have n1_ := Aside0.mk (hbox); have n2_ := Aside0.mk ((by rw [hg]; exact (below_size (by repeat (first | (with_reducible first | exact HB.out | apply below_alloc | apply pw_below_drewN | apply below_drew1) | exact HB.out))) : w.heap.size ≤ gb701)); have n3_ := Aside0.mk ((by rw [hg]; exact (below_size (by repeat (first | (with_reducible first | exact HB.out | apply below_alloc | apply pw_below_drewN | apply below_drew1) | exact HB.out))) : w.heap.size ≤ gb701)); clear HB; have HB := n0_; have BK701 := n1_; have GW701 := n2_; have GE701 := n3_; clear n0_ n1_ n2_ n3_; clear hb hbox hg; have hcz6_0 : w5.cell? ⟨gb701, 0, none⟩ = some (.int .i64 a0_0) := (blk_cell BK701.out 0).trans rfl; have hcz6_1 : w5.cell? ⟨gb701, 1, none⟩ = some (.string a0_1) := (blk_cell BK701.out 1).trans rfl; have hfz6_0 := blk_frozen BK701.out 0; have hfz6_1 := blk_frozen BK701.out 1) | ((with_reducible refine gate_callee (f := 116) rfl ?_); refine goesL_ (some 4) rfl rfl Try.func116 (by kernel_rfl) rfl #[.agg #[.int .i64 a0_0, .string a0_1]] rfl (by (try simp only [List.map_toArray, List.map_cons, List.map_nil]); first | done | rfl | (simp only [List.length_drop, List.length_take]; rfl)) ?_; (with_reducible refine (spec_IsMatroid.calls k a0_0 a0_1 true _ A2.out).mono ?_); rintro e w7 ⟨rfl, hb⟩; refine ⟨_, rfl, ?_⟩; have n0_ := Aside0.mk (blk_below (g := gb701) (o := .cells #[.int .i64 a0_0, .string a0_1] 25 (0, 0)) (by (with_reducible repeat (first | refine blk_drewN ?_ _ | refine blk_drew ?_ | refine blk_alloc ?_ _)); exact BK701.out) hb); have n1_ := Aside0.mk (below_step (by repeat (first | (with_reducible first | exact HB.out | apply below_alloc | apply pw_below_drewN | apply below_drew1 | refine below_set ?_ GE701.out) | exact HB.out)) hb); clear BK701; clear HB; have BK701 := n0_; have HB := n1_; clear n0_ n1_; (try clear hb); (try clear hb2); (try clear hk); (try clear hi); have hcz8_0 : w7.cell? ⟨gb701, 0, none⟩ = some (.int .i64 a0_0) := (blk_cell BK701.out 0).trans rfl; have hcz8_1 : w7.cell? ⟨gb701, 1, none⟩ = some (.string a0_1) := (blk_cell BK701.out 1).trans rfl; have hfz8_0 := blk_frozen BK701.out 0; have hfz8_1 := blk_frozen BK701.out 1) | (go_at_call 117; (with_reducible refine (spec_l4Acyclic.calls k a0_0 a0_1 t703 _ A4.out).mono ?_); rintro e w9 ⟨rfl, hb⟩; have n0_ := Aside0.mk (blk_below (g := gb701) (o := .cells #[.int .i64 a0_0, .string a0_1] 25 (0, 0)) (by (with_reducible repeat (first | refine blk_drewN ?_ _ | refine blk_drew ?_ | refine blk_alloc ?_ _)); exact BK701.out) hb); have n1_ := Aside0.mk (below_step (by repeat (first | (with_reducible first | exact HB.out | apply below_alloc | apply pw_below_drewN | apply below_drew1 | refine below_set ?_ GE701.out) | exact HB.out)) hb); clear BK701; clear HB; have BK701 := n0_; have HB := n1_; clear n0_ n1_; (try clear hb); (try clear hb2); (try clear hk); (try clear hi)))
  go_ret
  exact ⟨by first | rfl | (simp [errW_none, errW_some] <;> rfl) | (simp [*, errW_none, errW_some] <;> rfl), by repeat (first | (with_reducible first | exact HB.out | apply below_alloc | apply pw_below_drewN | apply below_drew1 | refine below_set ?_ GE701.out) | exact HB.out)⟩
 ·replace c3 := Bool.eq_false_iff.mpr c3
  subst c3
  have H1 : (some false) = some r := by rw [if_neg (show ¬ (false = true) by decide)] at H; exact H
  clear H
  have H := H1
  clear H1
  obtain rfl := Option.some.inj H
  go_enter Try.func70, Try.ntmps70
  go_wp2_with (first | ((with_reducible refine gate_dst (N := 1) rfl ?_); refine box_event ?hg (N := 1) ?hd (cs := #[.int .i64 a0_0, .string a0_1]) (t := 25) ?hr ?_; (case hd => rfl); (case hg => rfl); (case hr => first | (go_simp; done) | (go_simp; rfl)); intro gb701 hg w10 hbox hb; have n0_ := Aside0.mk (below_step (by repeat (first | (with_reducible first | exact HB.out | apply below_alloc | apply pw_below_drewN | apply below_drew1) | exact HB.out)) hb); have n1_ := Aside0.mk (hbox); have n2_ := Aside0.mk ((by rw [hg]; exact (below_size (by repeat (first | (with_reducible first | exact HB.out | apply below_alloc | apply pw_below_drewN | apply below_drew1) | exact HB.out))) : w.heap.size ≤ gb701)); have n3_ := Aside0.mk ((by rw [hg]; exact (below_size (by repeat (first | (with_reducible first | exact HB.out | apply below_alloc | apply pw_below_drewN | apply below_drew1) | exact HB.out))) : w.heap.size ≤ gb701)); clear HB; have HB := n0_; have BK701 := n1_; have GW701 := n2_; have GE701 := n3_; clear n0_ n1_ n2_ n3_; clear hb hbox hg; have hcz11_0 : w10.cell? ⟨gb701, 0, none⟩ = some (.int .i64 a0_0) := (blk_cell BK701.out 0).trans rfl; have hcz11_1 : w10.cell? ⟨gb701, 1, none⟩ = some (.string a0_1) := (blk_cell BK701.out 1).trans rfl; have hfz11_0 := blk_frozen BK701.out 0; have hfz11_1 := blk_frozen BK701.out 1) | ((with_reducible refine gate_callee (f := 116) rfl ?_); refine goesL_ (some 4) rfl rfl Try.func116 (by kernel_rfl) rfl #[.agg #[.int .i64 a0_0, .string a0_1]] rfl (by (try simp only [List.map_toArray, List.map_cons, List.map_nil]); first | done | rfl | (simp only [List.length_drop, List.length_take]; rfl)) ?_; (with_reducible refine (spec_IsMatroid.calls k a0_0 a0_1 false _ A2.out).mono ?_); rintro e w12 ⟨rfl, hb⟩; refine ⟨_, rfl, ?_⟩; have n0_ := Aside0.mk (blk_below (g := gb701) (o := .cells #[.int .i64 a0_0, .string a0_1] 25 (0, 0)) (by (with_reducible repeat (first | refine blk_drewN ?_ _ | refine blk_drew ?_ | refine blk_alloc ?_ _)); exact BK701.out) hb); have n1_ := Aside0.mk (below_step (by repeat (first | (with_reducible first | exact HB.out | apply below_alloc | apply pw_below_drewN | apply below_drew1 | refine below_set ?_ GE701.out) | exact HB.out)) hb); clear BK701; clear HB; have BK701 := n0_; have HB := n1_; clear n0_ n1_; (try clear hb); (try clear hb2); (try clear hk); (try clear hi)))
  go_ret
  exact ⟨by first | rfl | (simp [errW_none, errW_some] <;> rfl) | (simp [*, errW_none, errW_some] <;> rfl), by repeat (first | (with_reducible first | exact HB.out | apply below_alloc | apply pw_below_drewN | apply below_drew1 | refine below_set ?_ GE701.out) | exact HB.out)⟩
def spec_l21After.f (k : Nat) (a0_0 : Int) (a0_1 : ByteArray) (a1 : Int) (a2 : Int) (a3 : Int) (a4 : Int) : Option (Bool) := (spec_l3At.f k a0_0 a0_1 a1 a2 a3).bind fun t827 => ((spec_l3At.f k a0_0 a0_1 a1 a2 a4).bind fun t828 => (if ((decide (t827 > 0)) != (decide (t828 > 0))) = true then (some (decide (t827 > 0))) else ((spec_l3At.f k a0_0 a0_1 a1 a3 a4).bind fun t829 => (some (decide (t829 > 0))))))
set_option maxHeartbeats 8000000 in
set_option maxRecDepth 100000 in
theorem spec_l21After.calls (k : Nat) (a0_0 : Int) (a0_1 : ByteArray) (a1 : Int) (a2 : Int) (a3 : Int) (a4 : Int) (r : Bool) (w : World) (h : spec_l21After.f k a0_0 a0_1 a1 a2 a3 a4 = some r) :
  Calls Try.prog 122 #[.agg #[.int .i64 a0_0, .string a0_1], .int .i64 a1, .int .i64 a2, .int .i64 a3, .int .i64 a4] w fun e w' => e = .returned (.bool r) ∧ Below w.heap.size w w' := by
 have hu25 := Try.underlying25
 have HB := Aside0.mk (Below.refl w.heap.size w)
 have H : ((spec_l3At.f k a0_0 a0_1 a1 a2 a3).bind fun t827 => ((spec_l3At.f k a0_0 a0_1 a1 a2 a4).bind fun t828 => (if ((decide (t827 > 0)) != (decide (t828 > 0))) = true then (some (decide (t827 > 0))) else ((spec_l3At.f k a0_0 a0_1 a1 a3 a4).bind fun t829 => (some (decide (t829 > 0))))))) = some r := h
 clear h
 replace H := Option.bind_eq_some_iff.mp H
 obtain ⟨t827, A60, H⟩ := H
 replace H : ((spec_l3At.f k a0_0 a0_1 a1 a2 a4).bind fun t828 => (if ((decide (t827 > 0)) != (decide (t828 > 0))) = true then (some (decide (t827 > 0))) else ((spec_l3At.f k a0_0 a0_1 a1 a3 a4).bind fun t829 => (some (decide (t829 > 0)))))) = some r := H
 have A6 := Aside0.mk A60
 clear A60
 replace H := Option.bind_eq_some_iff.mp H
 obtain ⟨t828, A70, H⟩ := H
 replace H : (if ((decide (t827 > 0)) != (decide (t828 > 0))) = true then (some (decide (t827 > 0))) else ((spec_l3At.f k a0_0 a0_1 a1 a3 a4).bind fun t829 => (some (decide (t829 > 0))))) = some r := H
 have A7 := Aside0.mk A70
 clear A70
 by_cases c8 : ((decide (t827 > 0)) != (decide (t828 > 0))) = true
 ·rw [if_pos c8] at H
  have c8b0 : ((decide (t827 > 0)) != (decide (t828 > 0))) = true := c8
  (try (have c8b1 : decide ((decide (t827 > 0)) = (decide (t828 > 0))) = false := by simpa using c8))
  (try (have c8b2 : ((decide (t827 > 0)) == (decide (t828 > 0))) = false := by simpa using c8))
  (try (have c8b3 : ¬ ((decide (t827 > 0)) = (decide (t828 > 0))) := by simpa using c8))
  clear c8
  obtain rfl := Option.some.inj H
  go_enter Try.func122, Try.ntmps122
  go_wp2_with (first | ((with_reducible refine gate_dst (N := 5) rfl ?_); refine box_event ?hg (N := 5) ?hd (cs := #[.int .i64 a0_0, .string a0_1]) (t := 25) ?hr ?_; (case hd => rfl); (case hg => rfl); (case hr => first | (go_simp; done) | (go_simp; rfl)); intro gb826 hg w9 hbox hb; have n0_ := Aside0.mk (below_step (by repeat (first | (with_reducible first | exact HB.out | apply below_alloc | apply pw_below_drewN | apply below_drew1) | exact HB.out)) hb); have n1_ := Aside0.mk (hbox); have n2_ := Aside0.mk ((by rw [hg]; exact (below_size (by repeat (first | (with_reducible first | exact HB.out | apply below_alloc | apply pw_below_drewN | apply below_drew1) | exact HB.out))) : w.heap.size ≤ gb826)); have n3_ := Aside0.mk ((by rw [hg]; exact (below_size (by repeat (first | (with_reducible first | exact HB.out | apply below_alloc | apply pw_below_drewN | apply below_drew1) | exact HB.out))) : w.heap.size ≤ gb826)); clear HB; have HB := n0_; have BK826 := n1_; have GW826 := n2_; have GE826 := n3_; clear n0_ n1_ n2_ n3_; clear hb hbox hg; have hcz10_0 : w9.cell? ⟨gb826, 0, none⟩ = some (.int .i64 a0_0) := (blk_cell BK826.out 0).trans rfl; have hcz10_1 : w9.cell? ⟨gb826, 1, none⟩ = some (.string a0_1) := (blk_cell BK826.out 1).trans rfl; have hfz10_0 := blk_frozen BK826.out 0; have hfz10_1 := blk_frozen BK826.out 1) | ((with_reducible refine gate_callee (f := 86) rfl ?_); refine goesL_ (some 17) rfl rfl Try.func86 (by kernel_rfl) rfl #[.agg #[.int .i64 a0_0, .string a0_1], .int .i64 a1, .int .i64 a2, .int .i64 a3] rfl (by (try simp only [List.map_toArray, List.map_cons, List.map_nil]); first | done | rfl | (simp only [List.length_drop, List.length_take]; rfl)) ?_; (with_reducible refine (spec_l3At.calls k a0_0 a0_1 a1 a2 a3 t827 _ A6.out).mono ?_); rintro e w11 ⟨rfl, hb⟩; refine ⟨_, rfl, ?_⟩; have n0_ := Aside0.mk (blk_below (g := gb826) (o := .cells #[.int .i64 a0_0, .string a0_1] 25 (0, 0)) (by (with_reducible repeat (first | refine blk_drewN ?_ _ | refine blk_drew ?_ | refine blk_alloc ?_ _)); exact BK826.out) hb); have n1_ := Aside0.mk (below_step (by repeat (first | (with_reducible first | exact HB.out | apply below_alloc | apply pw_below_drewN | apply below_drew1 | refine below_set ?_ GE826.out) | exact HB.out)) hb); clear BK826; clear HB; have BK826 := n0_; have HB := n1_; clear n0_ n1_; (try clear hb); (try clear hb2); (try clear hk); (try clear hi); have hcz12_0 : w11.cell? ⟨gb826, 0, none⟩ = some (.int .i64 a0_0) := (blk_cell BK826.out 0).trans rfl; have hcz12_1 : w11.cell? ⟨gb826, 1, none⟩ = some (.string a0_1) := (blk_cell BK826.out 1).trans rfl; have hfz12_0 := blk_frozen BK826.out 0; have hfz12_1 := blk_frozen BK826.out 1) | ((with_reducible refine gate_callee (f := 86) rfl ?_); refine goesL_ (some 23) rfl rfl Try.func86 (by kernel_rfl) rfl #[.agg #[.int .i64 a0_0, .string a0_1], .int .i64 a1, .int .i64 a2, .int .i64 a4] rfl (by (try simp only [List.map_toArray, List.map_cons, List.map_nil]); first | done | rfl | (simp only [List.length_drop, List.length_take]; rfl)) ?_; (with_reducible refine (spec_l3At.calls k a0_0 a0_1 a1 a2 a4 t828 _ A7.out).mono ?_); rintro e w13 ⟨rfl, hb⟩; refine ⟨_, rfl, ?_⟩; have n0_ := Aside0.mk (blk_below (g := gb826) (o := .cells #[.int .i64 a0_0, .string a0_1] 25 (0, 0)) (by (with_reducible repeat (first | refine blk_drewN ?_ _ | refine blk_drew ?_ | refine blk_alloc ?_ _)); exact BK826.out) hb); have n1_ := Aside0.mk (below_step (by repeat (first | (with_reducible first | exact HB.out | apply below_alloc | apply pw_below_drewN | apply below_drew1 | refine below_set ?_ GE826.out) | exact HB.out)) hb); clear BK826; clear HB; have BK826 := n0_; have HB := n1_; clear n0_ n1_; (try clear hb); (try clear hb2); (try clear hk); (try clear hi)))
  go_ret
  exact ⟨by first | rfl | (simp [errW_none, errW_some] <;> rfl) | (simp [*, errW_none, errW_some] <;> rfl), by repeat (first | (with_reducible first | exact HB.out | apply below_alloc | apply pw_below_drewN | apply below_drew1 | refine below_set ?_ GE826.out) | exact HB.out)⟩
 ·rw [if_neg c8] at H
  have c8b0 : ((decide (t827 > 0)) != (decide (t828 > 0))) = false := by simpa using c8
  (try (have c8b1 : decide ((decide (t827 > 0)) = (decide (t828 > 0))) = true := by simpa using c8))
  (try (have c8b2 : ((decide (t827 > 0)) == (decide (t828 > 0))) = true := by simpa using c8))
  clear c8
  replace H := Option.bind_eq_some_iff.mp H
  obtain ⟨t829, A140, H⟩ := H
  replace H : (some (decide (t829 > 0))) = some r := H
  have A14 := Aside0.mk A140
  clear A140
  obtain rfl := Option.some.inj H
  go_enter Try.func122, Try.ntmps122
  go_wp2_with (first | ((with_reducible refine gate_dst (N := 5) rfl ?_); refine box_event ?hg (N := 5) ?hd (cs := #[.int .i64 a0_0, .string a0_1]) (t := 25) ?hr ?_; (case hd => rfl); (case hg => rfl); (case hr => first | (go_simp; done) | (go_simp; rfl)); intro gb826 hg w15 hbox hb; have n0_ := Aside0.mk (below_step (by repeat (first | (with_reducible first | exact HB.out | apply below_alloc | apply pw_below_drewN | apply below_drew1) | exact HB.out)) hb); have n1_ := Aside0.mk (hbox); have n2_ := Aside0.mk ((by rw [hg]; exact (below_size (by repeat (first | (with_reducible first | exact HB.out | apply below_alloc | apply pw_below_drewN | apply below_drew1) | exact HB.out))) : w.heap.size ≤ gb826)); have n3_ := Aside0.mk ((by rw [hg]; exact (below_size (by repeat (first | (with_reducible first | exact HB.out | apply below_alloc | apply pw_below_drewN | apply below_drew1) | exact HB.out))) : w.heap.size ≤ gb826)); clear HB; have HB := n0_; have BK826 := n1_; have GW826 := n2_; have GE826 := n3_; clear n0_ n1_ n2_ n3_; clear hb hbox hg; have hcz16_0 : w15.cell? ⟨gb826, 0, none⟩ = some (.int .i64 a0_0) := (blk_cell BK826.out 0).trans rfl; have hcz16_1 : w15.cell? ⟨gb826, 1, none⟩ = some (.string a0_1) := (blk_cell BK826.out 1).trans rfl; have hfz16_0 := blk_frozen BK826.out 0; have hfz16_1 := blk_frozen BK826.out 1) | ((with_reducible refine gate_callee (f := 86) rfl ?_); refine goesL_ (some 17) rfl rfl Try.func86 (by kernel_rfl) rfl #[.agg #[.int .i64 a0_0, .string a0_1], .int .i64 a1, .int .i64 a2, .int .i64 a3] rfl (by (try simp only [List.map_toArray, List.map_cons, List.map_nil]); first | done | rfl | (simp only [List.length_drop, List.length_take]; rfl)) ?_; (with_reducible refine (spec_l3At.calls k a0_0 a0_1 a1 a2 a3 t827 _ A6.out).mono ?_); rintro e w17 ⟨rfl, hb⟩; refine ⟨_, rfl, ?_⟩; have n0_ := Aside0.mk (blk_below (g := gb826) (o := .cells #[.int .i64 a0_0, .string a0_1] 25 (0, 0)) (by (with_reducible repeat (first | refine blk_drewN ?_ _ | refine blk_drew ?_ | refine blk_alloc ?_ _)); exact BK826.out) hb); have n1_ := Aside0.mk (below_step (by repeat (first | (with_reducible first | exact HB.out | apply below_alloc | apply pw_below_drewN | apply below_drew1 | refine below_set ?_ GE826.out) | exact HB.out)) hb); clear BK826; clear HB; have BK826 := n0_; have HB := n1_; clear n0_ n1_; (try clear hb); (try clear hb2); (try clear hk); (try clear hi); have hcz18_0 : w17.cell? ⟨gb826, 0, none⟩ = some (.int .i64 a0_0) := (blk_cell BK826.out 0).trans rfl; have hcz18_1 : w17.cell? ⟨gb826, 1, none⟩ = some (.string a0_1) := (blk_cell BK826.out 1).trans rfl; have hfz18_0 := blk_frozen BK826.out 0; have hfz18_1 := blk_frozen BK826.out 1) | ((with_reducible refine gate_callee (f := 86) rfl ?_); refine goesL_ (some 23) rfl rfl Try.func86 (by kernel_rfl) rfl #[.agg #[.int .i64 a0_0, .string a0_1], .int .i64 a1, .int .i64 a2, .int .i64 a4] rfl (by (try simp only [List.map_toArray, List.map_cons, List.map_nil]); first | done | rfl | (simp only [List.length_drop, List.length_take]; rfl)) ?_; (with_reducible refine (spec_l3At.calls k a0_0 a0_1 a1 a2 a4 t828 _ A7.out).mono ?_); rintro e w19 ⟨rfl, hb⟩; refine ⟨_, rfl, ?_⟩; have n0_ := Aside0.mk (blk_below (g := gb826) (o := .cells #[.int .i64 a0_0, .string a0_1] 25 (0, 0)) (by (with_reducible repeat (first | refine blk_drewN ?_ _ | refine blk_drew ?_ | refine blk_alloc ?_ _)); exact BK826.out) hb); have n1_ := Aside0.mk (below_step (by repeat (first | (with_reducible first | exact HB.out | apply below_alloc | apply pw_below_drewN | apply below_drew1 | refine below_set ?_ GE826.out) | exact HB.out)) hb); clear BK826; clear HB; have BK826 := n0_; have HB := n1_; clear n0_ n1_; (try clear hb); (try clear hb2); (try clear hk); (try clear hi); have hcz20_0 : w19.cell? ⟨gb826, 0, none⟩ = some (.int .i64 a0_0) := (blk_cell BK826.out 0).trans rfl; have hcz20_1 : w19.cell? ⟨gb826, 1, none⟩ = some (.string a0_1) := (blk_cell BK826.out 1).trans rfl; have hfz20_0 := blk_frozen BK826.out 0; have hfz20_1 := blk_frozen BK826.out 1) | ((with_reducible refine gate_callee (f := 86) rfl ?_); refine goesL_ (some 33) rfl rfl Try.func86 (by kernel_rfl) rfl #[.agg #[.int .i64 a0_0, .string a0_1], .int .i64 a1, .int .i64 a3, .int .i64 a4] rfl (by (try simp only [List.map_toArray, List.map_cons, List.map_nil]); first | done | rfl | (simp only [List.length_drop, List.length_take]; rfl)) ?_; (with_reducible refine (spec_l3At.calls k a0_0 a0_1 a1 a3 a4 t829 _ A14.out).mono ?_); rintro e w21 ⟨rfl, hb⟩; refine ⟨_, rfl, ?_⟩; have n0_ := Aside0.mk (blk_below (g := gb826) (o := .cells #[.int .i64 a0_0, .string a0_1] 25 (0, 0)) (by (with_reducible repeat (first | refine blk_drewN ?_ _ | refine blk_drew ?_ | refine blk_alloc ?_ _)); exact BK826.out) hb); have n1_ := Aside0.mk (below_step (by repeat (first | (with_reducible first | exact HB.out | apply below_alloc | apply pw_below_drewN | apply below_drew1 | refine below_set ?_ GE826.out) | exact HB.out)) hb); clear BK826; clear HB; have BK826 := n0_; have HB := n1_; clear n0_ n1_; (try clear hb); (try clear hb2); (try clear hk); (try clear hi)))
  go_ret
  exact ⟨by first | rfl | (simp [errW_none, errW_some] <;> rfl) | (simp [*, errW_none, errW_some] <;> rfl), by repeat (first | (with_reducible first | exact HB.out | apply below_alloc | apply pw_below_drewN | apply below_drew1 | refine below_set ?_ GE826.out) | exact HB.out)⟩
end Go.Proofs.Yteblnjoljbdjjaa.P
