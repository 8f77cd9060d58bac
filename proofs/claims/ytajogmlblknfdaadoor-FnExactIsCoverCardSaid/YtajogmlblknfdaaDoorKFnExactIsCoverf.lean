/- What the law FnExactIsCover reaches, part 6: functions as plain Lean functions with the proofs that their calls come to them, and plain lemmas over these. Put together by a program (wip/pack.py). -/
import Derived.Test.YtajogmlblknfdaaDoorKFnExactIsCoverc
import Derived.Test.YtajogmlblknfdaaDoorKFnExactIsCoverd
import Derived.Test.YtajogmlblknfdaaDoorKFnExactIsCovere
namespace Go.Proofs.YtajogmlblknfdaaDoor.P
open Go.RowKit Go.Proofs.YtajogmlblknfdaaDoorW.PrintWords Go.Proofs.YtajogmlblknfdaaDoorW.PrintLast Go.Proofs.YtajogmlblknfdaaDoorW.PrintMore
attribute [local go_sem] ptrOf_slice
attribute [local go_sem] max2_int min2_int max_two min_two max_three min_three max_four min_four
set_option linter.unusedVariables false
set_option linter.unusedSimpArgs false
def spec_l4Circuit.f (k : Nat) (a0_0 : Int) (a0_1 : ByteArray) (a1 : Int) (a2 : Int) (a3 : Int) (a4 : Int) : Option (ByteArray) := (spec_l3At.f k a0_0 a0_1 a2 a3 a4).bind fun t168 => ((spec_l3At.f k a0_0 a0_1 a1 a3 a4).bind fun t169 => ((spec_l3Byte.f (wrap64 ((wrap64 (-t168)) * t169))).bind fun t170 => (if 1 + t170.size ≤ 9223372036854775807 then ((spec_l3At.f k a0_0 a0_1 a1 a2 a4).bind fun t171 => ((spec_l3Byte.f (wrap64 (t168 * t171))).bind fun t172 => (if ((⟨#[43]⟩ : ByteArray) ++ t170).size + t172.size ≤ 9223372036854775807 then ((spec_l3At.f k a0_0 a0_1 a1 a2 a3).bind fun t173 => ((spec_l3Byte.f (wrap64 ((wrap64 (-t168)) * t173))).bind fun t174 => (if (((⟨#[43]⟩ : ByteArray) ++ t170) ++ t172).size + t174.size ≤ 9223372036854775807 then (some ((((⟨#[43]⟩ : ByteArray) ++ t170) ++ t172) ++ t174)) else (none)))) else (none)))) else (none))))
def spec_l4Circuit.T2 : Bool × List (List Nat × List Nat) := (true, [([], []), ([0], [0]), ([], []), ([], []), ([], []), ([], []), ([2, 3, 4, 5], [2, 3, 4, 5]), ([1, 6], [1, 6]), ([7, 6], [7]), ([8], [8]), ([], []), ([], []), ([], []), ([], []), ([], []), ([11, 12, 13, 14, 8], [11, 12, 13, 14]), ([10, 15], [10, 15]), ([16, 15], [16]), ([9, 17], [9, 17]), ([18, 17, 0, 1, 2, 3, 4, 5, 6, 7, 8, 9, 10, 11, 12, 13, 14, 15, 16, 17, 18], [18])])
def spec_l4Circuit.B2 : List Nat := [0, 1, 0, 0, 0, 0, 60, 127, 255, 511, 0, 0, 0, 0, 0, 31231, 65023, 130559, 262143, 524287]
theorem spec_l4Circuit.tab2 : rtab .any (opsOf Tryd.f24 2) = spec_l4Circuit.T2 := by kernel_rfl
theorem spec_l4Circuit.bits2 : waitsOk spec_l4Circuit.T2.2 spec_l4Circuit.B2 = true := by kernel_rfl
set_option maxHeartbeats 8000000 in
set_option maxRecDepth 100000 in
theorem spec_l4Circuit.calls (k : Nat) (a0_0 : Int) (a0_1 : ByteArray) (a1 : Int) (a2 : Int) (a3 : Int) (a4 : Int) (r : ByteArray) (w : World) (h : spec_l4Circuit.f k a0_0 a0_1 a1 a2 a3 a4 = some r) :
  Calls Tryd.prog 24 #[.agg #[.int .i64 a0_0, .string a0_1], .int .i64 a1, .int .i64 a2, .int .i64 a3, .int .i64 a4] w fun e w' => e = .returned (.string r) ∧ Below w.heap.size w w' := by
 have hu32 := Tryd.underlying32
 have HB := Aside0.mk (Below.refl w.heap.size w)
 have H : ((spec_l3At.f k a0_0 a0_1 a2 a3 a4).bind fun t168 => ((spec_l3At.f k a0_0 a0_1 a1 a3 a4).bind fun t169 => ((spec_l3Byte.f (wrap64 ((wrap64 (-t168)) * t169))).bind fun t170 => (if 1 + t170.size ≤ 9223372036854775807 then ((spec_l3At.f k a0_0 a0_1 a1 a2 a4).bind fun t171 => ((spec_l3Byte.f (wrap64 (t168 * t171))).bind fun t172 => (if ((⟨#[43]⟩ : ByteArray) ++ t170).size + t172.size ≤ 9223372036854775807 then ((spec_l3At.f k a0_0 a0_1 a1 a2 a3).bind fun t173 => ((spec_l3Byte.f (wrap64 ((wrap64 (-t168)) * t173))).bind fun t174 => (if (((⟨#[43]⟩ : ByteArray) ++ t170) ++ t172).size + t174.size ≤ 9223372036854775807 then (some ((((⟨#[43]⟩ : ByteArray) ++ t170) ++ t172) ++ t174)) else (none)))) else (none)))) else (none))))) = some r := h
 clear h
 replace H := Option.bind_eq_some_iff.mp H
 obtain ⟨t168, A60, H⟩ := H
 replace H : ((spec_l3At.f k a0_0 a0_1 a1 a3 a4).bind fun t169 => ((spec_l3Byte.f (wrap64 ((wrap64 (-t168)) * t169))).bind fun t170 => (if 1 + t170.size ≤ 9223372036854775807 then ((spec_l3At.f k a0_0 a0_1 a1 a2 a4).bind fun t171 => ((spec_l3Byte.f (wrap64 (t168 * t171))).bind fun t172 => (if ((⟨#[43]⟩ : ByteArray) ++ t170).size + t172.size ≤ 9223372036854775807 then ((spec_l3At.f k a0_0 a0_1 a1 a2 a3).bind fun t173 => ((spec_l3Byte.f (wrap64 ((wrap64 (-t168)) * t173))).bind fun t174 => (if (((⟨#[43]⟩ : ByteArray) ++ t170) ++ t172).size + t174.size ≤ 9223372036854775807 then (some ((((⟨#[43]⟩ : ByteArray) ++ t170) ++ t172) ++ t174)) else (none)))) else (none)))) else (none)))) = some r := H
 have A6 := Aside0.mk A60
 clear A60
 replace H := Option.bind_eq_some_iff.mp H
 obtain ⟨t169, A70, H⟩ := H
 replace H : ((spec_l3Byte.f (wrap64 ((wrap64 (-t168)) * t169))).bind fun t170 => (if 1 + t170.size ≤ 9223372036854775807 then ((spec_l3At.f k a0_0 a0_1 a1 a2 a4).bind fun t171 => ((spec_l3Byte.f (wrap64 (t168 * t171))).bind fun t172 => (if ((⟨#[43]⟩ : ByteArray) ++ t170).size + t172.size ≤ 9223372036854775807 then ((spec_l3At.f k a0_0 a0_1 a1 a2 a3).bind fun t173 => ((spec_l3Byte.f (wrap64 ((wrap64 (-t168)) * t173))).bind fun t174 => (if (((⟨#[43]⟩ : ByteArray) ++ t170) ++ t172).size + t174.size ≤ 9223372036854775807 then (some ((((⟨#[43]⟩ : ByteArray) ++ t170) ++ t172) ++ t174)) else (none)))) else (none)))) else (none))) = some r := H
 have A7 := Aside0.mk A70
 clear A70
 replace H := Option.bind_eq_some_iff.mp H
 obtain ⟨t170, A80, H⟩ := H
 replace H : (if 1 + t170.size ≤ 9223372036854775807 then ((spec_l3At.f k a0_0 a0_1 a1 a2 a4).bind fun t171 => ((spec_l3Byte.f (wrap64 (t168 * t171))).bind fun t172 => (if ((⟨#[43]⟩ : ByteArray) ++ t170).size + t172.size ≤ 9223372036854775807 then ((spec_l3At.f k a0_0 a0_1 a1 a2 a3).bind fun t173 => ((spec_l3Byte.f (wrap64 ((wrap64 (-t168)) * t173))).bind fun t174 => (if (((⟨#[43]⟩ : ByteArray) ++ t170) ++ t172).size + t174.size ≤ 9223372036854775807 then (some ((((⟨#[43]⟩ : ByteArray) ++ t170) ++ t172) ++ t174)) else (none)))) else (none)))) else (none)) = some r := H
 have A8 := Aside0.mk A80
 clear A80
 by_cases c9 : 1 + t170.size ≤ 9223372036854775807
 ·rw [if_pos c9] at H
  have c9b0 := eq_true c9
  have c9b1 : decide (1 + t170.size ≤ 9223372036854775807) = true := decide_eq_true c9
  try have c9b2 : (9223372036854775807 < 1 + t170.size) = False := eq_false (Nat.not_lt.2 c9)
  replace H := Option.bind_eq_some_iff.mp H
  obtain ⟨t171, A100, H⟩ := H
  replace H : ((spec_l3Byte.f (wrap64 (t168 * t171))).bind fun t172 => (if ((⟨#[43]⟩ : ByteArray) ++ t170).size + t172.size ≤ 9223372036854775807 then ((spec_l3At.f k a0_0 a0_1 a1 a2 a3).bind fun t173 => ((spec_l3Byte.f (wrap64 ((wrap64 (-t168)) * t173))).bind fun t174 => (if (((⟨#[43]⟩ : ByteArray) ++ t170) ++ t172).size + t174.size ≤ 9223372036854775807 then (some ((((⟨#[43]⟩ : ByteArray) ++ t170) ++ t172) ++ t174)) else (none)))) else (none))) = some r := H
  have A10 := Aside0.mk A100
  clear A100
  replace H := Option.bind_eq_some_iff.mp H
  obtain ⟨t172, A110, H⟩ := H
  replace H : (if ((⟨#[43]⟩ : ByteArray) ++ t170).size + t172.size ≤ 9223372036854775807 then ((spec_l3At.f k a0_0 a0_1 a1 a2 a3).bind fun t173 => ((spec_l3Byte.f (wrap64 ((wrap64 (-t168)) * t173))).bind fun t174 => (if (((⟨#[43]⟩ : ByteArray) ++ t170) ++ t172).size + t174.size ≤ 9223372036854775807 then (some ((((⟨#[43]⟩ : ByteArray) ++ t170) ++ t172) ++ t174)) else (none)))) else (none)) = some r := H
  have A11 := Aside0.mk A110
  clear A110
  by_cases c12 : ((⟨#[43]⟩ : ByteArray) ++ t170).size + t172.size ≤ 9223372036854775807
  ·rw [if_pos c12] at H
   have c12b0 := eq_true c12
   have c12b1 : decide (((⟨#[43]⟩ : ByteArray) ++ t170).size + t172.size ≤ 9223372036854775807) = true := decide_eq_true c12
   try have c12b2 : (9223372036854775807 < ((⟨#[43]⟩ : ByteArray) ++ t170).size + t172.size) = False := eq_false (Nat.not_lt.2 c12)
   (try have c12b3 : (9223372036854775807 < 1 + t170.size + t172.size) = False := eq_false (by clear H; have h_ := c12; simp only [ByteArray.size_append, ByteArray.size_extract, show (⟨#[43]⟩ : ByteArray).size = 1 from rfl, eq_iff_iff, iff_true, decide_eq_true_eq] at *; (try simp at h_); omega))
   replace H := Option.bind_eq_some_iff.mp H
   obtain ⟨t173, A130, H⟩ := H
   replace H : ((spec_l3Byte.f (wrap64 ((wrap64 (-t168)) * t173))).bind fun t174 => (if (((⟨#[43]⟩ : ByteArray) ++ t170) ++ t172).size + t174.size ≤ 9223372036854775807 then (some ((((⟨#[43]⟩ : ByteArray) ++ t170) ++ t172) ++ t174)) else (none))) = some r := H
   have A13 := Aside0.mk A130
   clear A130
   replace H := Option.bind_eq_some_iff.mp H
   obtain ⟨t174, A140, H⟩ := H
   replace H : (if (((⟨#[43]⟩ : ByteArray) ++ t170) ++ t172).size + t174.size ≤ 9223372036854775807 then (some ((((⟨#[43]⟩ : ByteArray) ++ t170) ++ t172) ++ t174)) else (none)) = some r := H
   have A14 := Aside0.mk A140
   clear A140
   by_cases c15 : (((⟨#[43]⟩ : ByteArray) ++ t170) ++ t172).size + t174.size ≤ 9223372036854775807
   ·rw [if_pos c15] at H
    have c15b0 := eq_true c15
    have c15b1 : decide ((((⟨#[43]⟩ : ByteArray) ++ t170) ++ t172).size + t174.size ≤ 9223372036854775807) = true := decide_eq_true c15
    try have c15b2 : (9223372036854775807 < (((⟨#[43]⟩ : ByteArray) ++ t170) ++ t172).size + t174.size) = False := eq_false (Nat.not_lt.2 c15)
    (try have c15b3 : (9223372036854775807 < 1 + t170.size + t172.size + t174.size) = False := eq_false (by clear H; have h_ := c15; simp only [ByteArray.size_append, ByteArray.size_extract, show (⟨#[43]⟩ : ByteArray).size = 1 from rfl, eq_iff_iff, iff_true, decide_eq_true_eq] at *; (try simp at h_); omega))
    obtain rfl := Option.some.inj H
    go_enter Tryd.func24, Tryd.ntmps24
    try go_wp2_with (first | ((with_reducible refine gate_dst (N := 5) rfl ?_); refine box_event ?hg (N := 5) ?hd (cs := #[.int .i64 a0_0, .string a0_1]) (t := 32) ?hr ?_; (case hd => rfl); (case hg => rfl); (case hr => first | (go_simp; done) | (go_simp; rfl)); intro gb167 hg w16 hbox hb; have n0_ := Aside0.mk (below_step (by repeat (first | (with_reducible first | exact HB.out | apply below_alloc | apply pw_below_drewN | apply below_drew1) | exact HB.out)) hb); have n1_ := Aside0.mk (hbox); have n2_ := Aside0.mk ((by rw [hg]; exact (below_size (by repeat (first | (with_reducible first | exact HB.out | apply below_alloc | apply pw_below_drewN | apply below_drew1) | exact HB.out))) : w.heap.size ≤ gb167)); have n3_ := Aside0.mk ((by rw [hg]; exact (below_size (by repeat (first | (with_reducible first | exact HB.out | apply below_alloc | apply pw_below_drewN | apply below_drew1) | exact HB.out))) : w.heap.size ≤ gb167)); clear HB; have HB := n0_; have BK167 := n1_; have GW167 := n2_; have GE167 := n3_; clear n0_ n1_ n2_ n3_; clear hb hbox hg; have hcz17_0 : w16.cell? ⟨gb167, 0, none⟩ = some (.int .i64 a0_0) := (blk_cell BK167.out 0).trans rfl; have hcz17_1 : w16.cell? ⟨gb167, 1, none⟩ = some (.string a0_1) := (blk_cell BK167.out 1).trans rfl; have hfz17_0 := blk_frozen BK167.out 0; have hfz17_1 := blk_frozen BK167.out 1) | ((with_reducible refine gate_callee (f := 32) rfl ?_); refine goesL_ (some 17) rfl rfl Tryd.func32 (by kernel_rfl) rfl #[.agg #[.int .i64 a0_0, .string a0_1], .int .i64 a2, .int .i64 a3, .int .i64 a4] rfl (by (try simp only [List.map_toArray, List.map_cons, List.map_nil]); first | done | rfl | (simp only [List.length_drop, List.length_take]; rfl)) ?_; (with_reducible refine (spec_l3At.calls k a0_0 a0_1 a2 a3 a4 t168 _ A6.out).mono ?_); rintro e w18 ⟨rfl, hb⟩; refine ⟨_, rfl, ?_⟩; have n0_ := Aside0.mk (blk_below (g := gb167) (o := .cells #[.int .i64 a0_0, .string a0_1] 32 (0, 0)) (by (with_reducible repeat (first | refine blk_drewN ?_ _ | refine blk_drew ?_ | refine blk_alloc ?_ _)); exact BK167.out) hb); have n1_ := Aside0.mk (below_step (by repeat (first | (with_reducible first | exact HB.out | apply below_alloc | apply pw_below_drewN | apply below_drew1 | refine below_set ?_ GE167.out) | exact HB.out)) hb); clear BK167; clear HB; have BK167 := n0_; have HB := n1_; clear n0_ n1_; (try clear hb); (try clear hb2); (try clear hk); (try clear hi)))
    have n0_ := Aside0.mk (blk_drew BK167.out)
    have n1_ := Aside0.mk (below_drew1 HB.out)
    clear BK167
    clear HB
    have BK167 := n0_
    have HB := n1_
    clear n0_ n1_
    refine start_ (n := 20) (S := fun w' => w'.cell? ⟨gb167, 0, none⟩ = some (.int .i64 a0_0) ∧ w'.cell? ⟨gb167, 1, none⟩ = some (.string a0_1)) (ds := []) #[false, false, false, false, false, false, false, false, false, false, false, false, false, false, false, false, false, false, false, false] (by kernel_rfl) rfl rfl ⟨(blk_cell BK167.out 0).trans rfl, (blk_cell BK167.out 1).trans rfl⟩ (fun hHeld => ?_); refine with_tabW spec_l4Circuit.tab2 spec_l4Circuit.bits2 (fun HT_ HW_ => ?_)
    generalize w18.drew = w19 at BK167 HB hHeld ⊢
    refine pure_ (i := 0) (N := some 18) (v := ?_) (a' := ?_) #[true, false, false, false, false, false, false, false, false, false, false, false, false, false, false, false, false, false, false, false] rfl rfl (any_of HT_.out (by kernel_rfl)) (fun _ _ _ h => h) (Or.inl ⟨by rfl, ?_⟩) ?_ ?_
    rotate_left
    ·intro w'
     go_simp
     with_reducible rfl
    rotate_left
    ·simp only [Act.put, List.setIfInBounds_toArray, List.set_cons_zero, List.set_cons_succ, i64_w, i32_w]
     rfl
    refine pure_ (i := 1) (N := some 19) (v := ?_) (a' := ?_) #[true, true, false, false, false, false, false, false, false, false, false, false, false, false, false, false, false, false, false, false] rfl rfl (any_of HT_.out (by kernel_rfl)) (fun _ _ _ h => h) (Or.inl ⟨by rfl, ?_⟩) ?_ ?_
    rotate_left
    ·intro w'
     go_simp
     with_reducible rfl
    rotate_left
    ·simp only [Act.put, List.setIfInBounds_toArray, List.set_cons_zero, List.set_cons_succ, i64_w, i32_w]
     rfl
    refine pure_ (i := 3) (N := some 21) (v := ?_) (a' := ?_) #[true, true, false, true, false, false, false, false, false, false, false, false, false, false, false, false, false, false, false, false] rfl rfl (any_of HT_.out (by kernel_rfl)) (fun _ _ _ h => h) (Or.inl ⟨by rfl, ?_⟩) ?_ ?_
    rotate_left
    ·intro w'
     go_simp
     with_reducible rfl
    rotate_left
    ·simp only [Act.put, List.setIfInBounds_toArray, List.set_cons_zero, List.set_cons_succ, i64_w, i32_w]
     rfl
    refine pure_ (i := 4) (N := some 22) (v := ?_) (a' := ?_) #[true, true, false, true, true, false, false, false, false, false, false, false, false, false, false, false, false, false, false, false] rfl rfl (any_of HT_.out (by kernel_rfl)) (fun _ _ _ h => h) (Or.inl ⟨by rfl, ?_⟩) ?_ ?_
    rotate_left
    ·intro w'
     go_simp
     with_reducible rfl
    rotate_left
    ·simp only [Act.put, List.setIfInBounds_toArray, List.set_cons_zero, List.set_cons_succ, i64_w, i32_w]
     rfl
    refine pure_ (i := 5) (N := some 23) (v := ?_) (a' := ?_) #[true, true, false, true, true, true, false, false, false, false, false, false, false, false, false, false, false, false, false, false] rfl rfl (any_of HT_.out (by kernel_rfl)) (fun _ _ _ h => h) (Or.inl ⟨by rfl, ?_⟩) ?_ ?_
    rotate_left
    ·intro w'
     go_simp
     with_reducible rfl
    rotate_left
    ·simp only [Act.put, List.setIfInBounds_toArray, List.set_cons_zero, List.set_cons_succ, i64_w, i32_w]
     rfl
    refine pure_ (i := 10) (N := some 28) (v := ?_) (a' := ?_) #[true, true, false, true, true, true, false, false, false, false, true, false, false, false, false, false, false, false, false, false] rfl rfl (any_of HT_.out (by kernel_rfl)) (fun _ _ _ h => h) (Or.inl ⟨by rfl, ?_⟩) ?_ ?_
    rotate_left
    ·intro w'
     go_simp
     with_reducible rfl
    rotate_left
    ·simp only [Act.put, List.setIfInBounds_toArray, List.set_cons_zero, List.set_cons_succ, i64_w, i32_w]
     rfl
    refine pure_ (i := 12) (N := some 30) (v := ?_) (a' := ?_) #[true, true, false, true, true, true, false, false, false, false, true, false, true, false, false, false, false, false, false, false] rfl rfl (any_of HT_.out (by kernel_rfl)) (fun _ _ _ h => h) (Or.inl ⟨by rfl, ?_⟩) ?_ ?_
    rotate_left
    ·intro w'
     go_simp
     with_reducible rfl
    rotate_left
    ·simp only [Act.put, List.setIfInBounds_toArray, List.set_cons_zero, List.set_cons_succ, i64_w, i32_w]
     rfl
    refine pure_ (i := 13) (N := some 31) (v := ?_) (a' := ?_) #[true, true, false, true, true, true, false, false, false, false, true, false, true, true, false, false, false, false, false, false] rfl rfl (any_of HT_.out (by kernel_rfl)) (fun _ _ _ h => h) (Or.inl ⟨by rfl, ?_⟩) ?_ ?_
    rotate_left
    ·intro w'
     go_simp
     with_reducible rfl
    rotate_left
    ·simp only [Act.put, List.setIfInBounds_toArray, List.set_cons_zero, List.set_cons_succ, i64_w, i32_w]
     rfl
    refine pure_ (i := 14) (N := some 32) (v := ?_) (a' := ?_) #[true, true, false, true, true, true, false, false, false, false, true, false, true, true, true, false, false, false, false, false] rfl rfl (any_of HT_.out (by kernel_rfl)) (fun _ _ _ h => h) (Or.inl ⟨by rfl, ?_⟩) ?_ ?_
    rotate_left
    ·intro w'
     go_simp
     with_reducible rfl
    rotate_left
    ·simp only [Act.put, List.setIfInBounds_toArray, List.set_cons_zero, List.set_cons_succ, i64_w, i32_w]
     rfl
    refine take_ (i := 2) (N := some 20) (v := ?_) (a' := ?_) #[true, true, true, true, true, true, false, false, false, false, true, false, true, true, true, false, false, false, false, false] rfl rfl (take_ofW HT_.out HW_.out (by kernel_rfl)) (fun _ _ _ h => h) (Or.inl ⟨by rfl, ?_⟩) hHeld ?_ ?_
    rotate_left
    ·rintro w' ⟨s0, s1⟩
     go_simp
     with_reducible rfl
    rotate_left
    ·simp only [Act.put, List.setIfInBounds_toArray, List.set_cons_zero, List.set_cons_succ, i64_w, i32_w]
     rfl
    refine take_ (i := 11) (N := some 29) (v := ?_) (a' := ?_) #[true, true, true, true, true, true, false, false, false, false, true, true, true, true, true, false, false, false, false, false] rfl rfl (take_ofW HT_.out HW_.out (by kernel_rfl)) (fun _ _ _ h => h) (Or.inl ⟨by rfl, ?_⟩) hHeld ?_ ?_
    rotate_left
    ·rintro w' ⟨s0, s1⟩
     go_simp
     with_reducible rfl
    rotate_left
    ·simp only [Act.put, List.setIfInBounds_toArray, List.set_cons_zero, List.set_cons_succ, i64_w, i32_w]
     rfl
    refine one_ (i := 6) (N := some 24) #[true, true, true, true, true, true, true, false, false, false, true, true, true, true, true, false, false, false, false, false] rfl rfl (one_of HT_.out (by kernel_rfl)) (by decide) (fun K hK => ?_)
    refine goes_ Tryd.func32 (by kernel_rfl) rfl #[.agg #[.int .i64 a0_0, .string a0_1], .int .i64 a1, .int .i64 a3, .int .i64 a4] (by rfl) rfl rfl (by (try simp only [List.map_toArray, List.map_cons, List.map_nil]); first | done | rfl | (simp only [List.length_drop, List.length_take]; rfl)) ?_
    with_reducible refine (spec_l3At.calls k a0_0 a0_1 a1 a3 a4 t169 _ A7.out).mono ?_
    rintro e w20 ⟨rfl, hb⟩
    refine ⟨_, rfl, ?_⟩
    have n0_ := Aside0.mk (blk_below (g := gb167) (o := .cells #[.int .i64 a0_0, .string a0_1] 32 (0, 0)) (by (with_reducible repeat (first | refine blk_drewN ?_ _ | refine blk_drew ?_ | refine blk_alloc ?_ _)); exact BK167.out) hb)
    have n1_ := Aside0.mk (below_step (by repeat (first | (with_reducible first | exact HB.out | apply below_alloc | apply pw_below_drewN | apply below_drew1 | refine below_set ?_ GE167.out) | exact HB.out)) hb)
    clear BK167
    clear HB
    have BK167 := n0_
    have HB := n1_
    clear n0_ n1_
    (try clear hb)
    (try clear hb2)
    (try clear hk)
    (try clear hi)
    refine hK.out _ _ ⟨(blk_cell BK167.out 0).trans rfl, (blk_cell BK167.out 1).trans rfl⟩ (fun hHeld => ?_)
    clear hK K
    refine norm_ (a' := ?_) ?_ ?_
    rotate_left
    ·show Act.put _ (some 24) _ = _
     simp only [Act.put, List.setIfInBounds_toArray, List.set_cons_zero, List.set_cons_succ, i64_w, i32_w]
     rfl
    refine pure_ (i := 7) (N := some 25) (v := ?_) (a' := ?_) #[true, true, true, true, true, true, true, true, false, false, true, true, true, true, true, false, false, false, false, false] rfl rfl (any_of HT_.out (by kernel_rfl)) (fun _ _ _ h => h) (Or.inl ⟨by rfl, ?_⟩) ?_ ?_
    rotate_left
    ·intro w'
     go_simp
     with_reducible rfl
    rotate_left
    ·simp only [Act.put, List.setIfInBounds_toArray, List.set_cons_zero, List.set_cons_succ, i64_w, i32_w]
     rfl
    refine one_ (i := 8) (N := some 26) #[true, true, true, true, true, true, true, true, true, false, true, true, true, true, true, false, false, false, false, false] rfl rfl (one_of HT_.out (by kernel_rfl)) (by decide) (fun K hK => ?_)
    refine goes_ Tryd.func33 (by kernel_rfl) rfl #[.int .i64 (wrap64 ((wrap64 (-t168)) * t169))] (by rfl) rfl rfl (by (try simp only [List.map_toArray, List.map_cons, List.map_nil]); first | done | rfl | (simp only [List.length_drop, List.length_take]; rfl)) ?_
    with_reducible refine (spec_l3Byte.calls (wrap64 ((wrap64 (-t168)) * t169)) t170 _ A8.out).mono ?_
    rintro e w' ⟨rfl, ⟨nd, rfl⟩⟩
    refine ⟨_, rfl, ?_⟩
    refine hK.out _ _ ⟨(blk_cell BK167.out 0).trans rfl, (blk_cell BK167.out 1).trans rfl⟩ (fun hHeld => ?_)
    clear hK K
    refine norm_ (a' := ?_) ?_ ?_
    rotate_left
    ·show Act.put _ (some 26) _ = _
     simp only [Act.put, List.setIfInBounds_toArray, List.set_cons_zero, List.set_cons_succ, i64_w, i32_w]
     rfl
    refine pure_ (i := 9) (N := some 27) (v := ?_) (a' := ?_) #[true, true, true, true, true, true, true, true, true, true, true, true, true, true, true, false, false, false, false, false] rfl rfl (any_of HT_.out (by kernel_rfl)) (fun _ _ _ h => h) (Or.inl ⟨by rfl, ?_⟩) ?_ ?_
    rotate_left
    ·intro w'
     go_simp
     with_reducible rfl
    rotate_left
    ·simp only [Act.put, List.setIfInBounds_toArray, List.set_cons_zero, List.set_cons_succ, i64_w, i32_w]
     rfl
    refine one_ (i := 15) (N := some 33) #[true, true, true, true, true, true, true, true, true, true, true, true, true, true, true, true, false, false, false, false] rfl rfl (one_of HT_.out (by kernel_rfl)) (by decide) (fun K hK => ?_)
    refine goes_ Tryd.func32 (by kernel_rfl) rfl #[.agg #[.int .i64 a0_0, .string a0_1], .int .i64 a1, .int .i64 a2, .int .i64 a4] (by rfl) rfl rfl (by (try simp only [List.map_toArray, List.map_cons, List.map_nil]); first | done | rfl | (simp only [List.length_drop, List.length_take]; rfl)) ?_
    with_reducible refine (spec_l3At.calls k a0_0 a0_1 a1 a2 a4 t171 _ A10.out).mono ?_
    rintro e w21 ⟨rfl, hb⟩
    refine ⟨_, rfl, ?_⟩
    have n0_ := Aside0.mk (blk_below (g := gb167) (o := .cells #[.int .i64 a0_0, .string a0_1] 32 (0, 0)) (by (with_reducible repeat (first | refine blk_drewN ?_ _ | refine blk_drew ?_ | refine blk_alloc ?_ _)); exact BK167.out) hb)
    have n1_ := Aside0.mk (below_step (by repeat (first | (with_reducible first | exact HB.out | apply below_alloc | apply pw_below_drewN | apply below_drew1 | refine below_set ?_ GE167.out) | exact HB.out)) hb)
    clear BK167
    clear HB
    have BK167 := n0_
    have HB := n1_
    clear n0_ n1_
    (try clear hb)
    (try clear hb2)
    (try clear hk)
    (try clear hi)
    refine hK.out _ _ ⟨(blk_cell BK167.out 0).trans rfl, (blk_cell BK167.out 1).trans rfl⟩ (fun hHeld => ?_)
    clear hK K
    refine norm_ (a' := ?_) ?_ ?_
    rotate_left
    ·show Act.put _ (some 33) _ = _
     simp only [Act.put, List.setIfInBounds_toArray, List.set_cons_zero, List.set_cons_succ, i64_w, i32_w]
     rfl
    refine pure_ (i := 16) (N := some 34) (v := ?_) (a' := ?_) #[true, true, true, true, true, true, true, true, true, true, true, true, true, true, true, true, true, false, false, false] rfl rfl (any_of HT_.out (by kernel_rfl)) (fun _ _ _ h => h) (Or.inl ⟨by rfl, ?_⟩) ?_ ?_
    rotate_left
    ·intro w'
     go_simp
     with_reducible rfl
    rotate_left
    ·simp only [Act.put, List.setIfInBounds_toArray, List.set_cons_zero, List.set_cons_succ, i64_w, i32_w]
     rfl
    refine one_ (i := 17) (N := some 35) #[true, true, true, true, true, true, true, true, true, true, true, true, true, true, true, true, true, true, false, false] rfl rfl (one_of HT_.out (by kernel_rfl)) (by decide) (fun K hK => ?_)
    refine goes_ Tryd.func33 (by kernel_rfl) rfl #[.int .i64 (wrap64 (t168 * t171))] (by rfl) rfl rfl (by (try simp only [List.map_toArray, List.map_cons, List.map_nil]); first | done | rfl | (simp only [List.length_drop, List.length_take]; rfl)) ?_
    with_reducible refine (spec_l3Byte.calls (wrap64 (t168 * t171)) t172 _ A11.out).mono ?_
    rintro e w' ⟨rfl, ⟨nd, rfl⟩⟩
    refine ⟨_, rfl, ?_⟩
    refine hK.out _ _ ⟨(blk_cell BK167.out 0).trans rfl, (blk_cell BK167.out 1).trans rfl⟩ (fun hHeld => ?_)
    clear hK K
    refine norm_ (a' := ?_) ?_ ?_
    rotate_left
    ·show Act.put _ (some 35) _ = _
     simp only [Act.put, List.setIfInBounds_toArray, List.set_cons_zero, List.set_cons_succ, i64_w, i32_w]
     rfl
    refine pure_ (i := 18) (N := some 36) (v := ?_) (a' := ?_) #[true, true, true, true, true, true, true, true, true, true, true, true, true, true, true, true, true, true, true, false] rfl rfl (any_of HT_.out (by kernel_rfl)) (fun _ _ _ h => h) (Or.inl ⟨by rfl, ?_⟩) ?_ ?_
    rotate_left
    ·intro w'
     go_simp
     with_reducible rfl
    rotate_left
    ·simp only [Act.put, List.setIfInBounds_toArray, List.set_cons_zero, List.set_cons_succ, i64_w, i32_w]
     rfl
    refine pure_ (i := 19) (N := some 12) (v := ?_) (a' := ?_) #[true, true, true, true, true, true, true, true, true, true, true, true, true, true, true, true, true, true, true, true] rfl rfl (any_of HT_.out (by kernel_rfl)) (fun _ _ _ h => h) (Or.inl ⟨by rfl, ?_⟩) ?_ ?_
    rotate_left
    ·intro w'
     go_simp
     with_reducible rfl
    rotate_left
    ·simp only [Act.put, List.setIfInBounds_toArray, List.set_cons_zero, List.set_cons_succ, i64_w, i32_w]
     rfl
    refine done_ (done_of HT_.out (by kernel_rfl)) ?_
    have hcz22_0 : w21.cell? ⟨gb167, 0, none⟩ = some (.int .i64 a0_0) := (blk_cell BK167.out 0).trans rfl
    have hcz22_1 : w21.cell? ⟨gb167, 1, none⟩ = some (.string a0_1) := (blk_cell BK167.out 1).trans rfl
    have hfz22_0 := blk_frozen BK167.out 0
    have hfz22_1 := blk_frozen BK167.out 1
    try go_wp2_with (first | ((with_reducible refine gate_callee (f := 32) rfl ?_); refine goesL_ (some 44) rfl rfl Tryd.func32 (by kernel_rfl) rfl #[.agg #[.int .i64 a0_0, .string a0_1], .int .i64 a1, .int .i64 a2, .int .i64 a3] rfl (by (try simp only [List.map_toArray, List.map_cons, List.map_nil]); first | done | rfl | (simp only [List.length_drop, List.length_take]; rfl)) ?_; (with_reducible refine (spec_l3At.calls k a0_0 a0_1 a1 a2 a3 t173 _ A13.out).mono ?_); rintro e w23 ⟨rfl, hb⟩; refine ⟨_, rfl, ?_⟩; have n0_ := Aside0.mk (blk_below (g := gb167) (o := .cells #[.int .i64 a0_0, .string a0_1] 32 (0, 0)) (by (with_reducible repeat (first | refine blk_drewN ?_ _ | refine blk_drew ?_ | refine blk_alloc ?_ _)); exact BK167.out) hb); have n1_ := Aside0.mk (below_step (by repeat (first | (with_reducible first | exact HB.out | apply below_alloc | apply pw_below_drewN | apply below_drew1 | refine below_set ?_ GE167.out) | exact HB.out)) hb); clear BK167; clear HB; have BK167 := n0_; have HB := n1_; clear n0_ n1_; (try clear hb); (try clear hb2); (try clear hk); (try clear hi)) | ((with_reducible refine gate_callee (f := 33) rfl ?_); refine goesL_ (some 46) rfl rfl Tryd.func33 (by kernel_rfl) rfl #[.int .i64 (wrap64 ((wrap64 (-t168)) * t173))] rfl (by (try simp only [List.map_toArray, List.map_cons, List.map_nil]); first | done | rfl | (simp only [List.length_drop, List.length_take]; rfl)) ?_; (with_reducible refine (spec_l3Byte.calls (wrap64 ((wrap64 (-t168)) * t173)) t174 _ A14.out).mono ?_); rintro e w' ⟨rfl, ⟨nd, rfl⟩⟩; refine ⟨_, rfl, ?_⟩))
    go_ret
    exact ⟨by first | rfl | (simp [errW_none, errW_some] <;> rfl) | (simp [*, errW_none, errW_some] <;> rfl), by repeat (first | (with_reducible first | exact HB.out | apply below_alloc | apply pw_below_drewN | apply below_drew1 | refine below_set ?_ GE167.out) | exact HB.out)⟩
   ·rw [if_neg c15] at H
    exact absurd H (by simp)
  ·rw [if_neg c12] at H
   exact absurd H (by simp)
 ·rw [if_neg c9] at H
  exact absurd H (by simp)
mutual
def spec_IsCover.j0 : Nat → ByteArray → Bool → Int → ByteArray → Option (Bool)
 | 0, _, _, _, _ => none
 | k + 1, x1, x30, x176000, x176001 => if x30 = true then (some false) else (spec_IsCover.l0 k x1 0 x176000 x176001)
def spec_IsCover.l0 : Nat → ByteArray → Int → Int → ByteArray → Option (Bool)
 | 0, _, _, _, _ => none
 | k + 1, x1, x5, x176000, x176001 => if x5 < x176000 then (spec_IsCover.l1 k x1 x5 (wrap64 (x5 + 1)) x176000 x176001) else (some true)
def spec_IsCover.l1 : Nat → ByteArray → Int → Int → Int → ByteArray → Option (Bool)
 | 0, _, _, _, _, _ => none
 | k + 1, x1, x5, x6, x176000, x176001 => if x6 < x176000 then (spec_IsCover.l2 k x1 x5 x6 (wrap64 (x6 + 1)) x176000 x176001) else (spec_IsCover.l0 k x1 (wrap64 (x5 + 1)) x176000 x176001)
def spec_IsCover.l2 : Nat → ByteArray → Int → Int → Int → Int → ByteArray → Option (Bool)
 | 0, _, _, _, _, _, _ => none
 | k + 1, x1, x5, x6, x7, x176000, x176001 => if x7 < x176000 then (spec_IsCover.l3 k x1 x5 x6 x7 (wrap64 (x7 + 1)) x176000 x176001) else (spec_IsCover.l1 k x1 x5 (wrap64 (x6 + 1)) x176000 x176001)
def spec_IsCover.l3 : Nat → ByteArray → Int → Int → Int → Int → Int → ByteArray → Option (Bool)
 | 0, _, _, _, _, _, _, _ => none
 | k + 1, x1, x5, x6, x7, x8, x176000, x176001 => if x8 < x176000 then ((spec_l4Circuit.f k x176000 x176001 x5 x6 x7 x8).bind fun t179 => (if 0 ≤ x5 then (if x5 ≤ (wrap64 (x5 + 1)) then (if (wrap64 (x5 + 1)) ≤ (x1.size : Int) then (if 0 ≤ x6 then (if x6 ≤ (wrap64 (x6 + 1)) then (if (wrap64 (x6 + 1)) ≤ (x1.size : Int) then (if (x1.extract (x5 : Int).toNat ((wrap64 (x5 + 1)) : Int).toNat).size + (x1.extract (x6 : Int).toNat ((wrap64 (x6 + 1)) : Int).toNat).size ≤ 9223372036854775807 then (if 0 ≤ x7 then (if x7 ≤ (wrap64 (x7 + 1)) then (if (wrap64 (x7 + 1)) ≤ (x1.size : Int) then (if ((x1.extract (x5 : Int).toNat ((wrap64 (x5 + 1)) : Int).toNat) ++ (x1.extract (x6 : Int).toNat ((wrap64 (x6 + 1)) : Int).toNat)).size + (x1.extract (x7 : Int).toNat ((wrap64 (x7 + 1)) : Int).toNat).size ≤ 9223372036854775807 then (if 0 ≤ x8 then (if x8 ≤ (wrap64 (x8 + 1)) then (if (wrap64 (x8 + 1)) ≤ (x1.size : Int) then (if (((x1.extract (x5 : Int).toNat ((wrap64 (x5 + 1)) : Int).toNat) ++ (x1.extract (x6 : Int).toNat ((wrap64 (x6 + 1)) : Int).toNat)) ++ (x1.extract (x7 : Int).toNat ((wrap64 (x7 + 1)) : Int).toNat)).size + (x1.extract (x8 : Int).toNat ((wrap64 (x8 + 1)) : Int).toNat).size ≤ 9223372036854775807 then (if t179.toList = ((((x1.extract (x5 : Int).toNat ((wrap64 (x5 + 1)) : Int).toNat) ++ (x1.extract (x6 : Int).toNat ((wrap64 (x6 + 1)) : Int).toNat)) ++ (x1.extract (x7 : Int).toNat ((wrap64 (x7 + 1)) : Int).toNat)) ++ (x1.extract (x8 : Int).toNat ((wrap64 (x8 + 1)) : Int).toNat)).toList then (some false) else ((spec_OppositeText.f k ((((x1.extract (x5 : Int).toNat ((wrap64 (x5 + 1)) : Int).toNat) ++ (x1.extract (x6 : Int).toNat ((wrap64 (x6 + 1)) : Int).toNat)) ++ (x1.extract (x7 : Int).toNat ((wrap64 (x7 + 1)) : Int).toNat)) ++ (x1.extract (x8 : Int).toNat ((wrap64 (x8 + 1)) : Int).toNat))).bind fun t180 => (if t179.toList = t180.toList then (some false) else (spec_IsCover.l3 k x1 x5 x6 x7 (wrap64 (x8 + 1)) x176000 x176001)))) else (none)) else (none)) else (none)) else (none)) else (none)) else (none)) else (none)) else (none)) else (none)) else (none)) else (none)) else (none)) else (none)) else (none)) else (none))) else (spec_IsCover.l2 k x1 x5 x6 (wrap64 (x7 + 1)) x176000 x176001)
end
def spec_IsCover.f (k : Nat) (a0_0 : Int) (a0_1 : ByteArray) (a1 : ByteArray) : Option (Bool) := (spec_IsMatroid.f k a0_0 a0_1).bind fun t176 => (if t176 = true then ((spec_l20Fits.f k a1).bind fun t177 => (if t177 = true then ((spec_l20Whole.f k a1).bind fun t178 => (if t178 = true then (spec_IsCover.j0 k a1 ((a1.size : Int) != a0_0) a0_0 a0_1) else (spec_IsCover.j0 k a1 true a0_0 a0_1))) else (spec_IsCover.j0 k a1 true a0_0 a0_1))) else (spec_IsCover.j0 k a1 true a0_0 a0_1))
set_option maxHeartbeats 8000000 in
set_option maxRecDepth 100000 in
theorem spec_IsCover.calls (k : Nat) (a0_0 : Int) (a0_1 : ByteArray) (a1 : ByteArray) (r : Bool) (w : World) (h : spec_IsCover.f k a0_0 a0_1 a1 = some r) :
  Calls Tryd.prog 14 #[.agg #[.int .i64 a0_0, .string a0_1], .string a1] w fun e w' => e = .returned (.bool r) ∧ Below w.heap.size w w' := by
 have hu32 := Tryd.underlying32
 have HB := Aside0.mk (Below.refl w.heap.size w)
 have H : ((spec_IsMatroid.f k a0_0 a0_1).bind fun t176 => (if t176 = true then ((spec_l20Fits.f k a1).bind fun t177 => (if t177 = true then ((spec_l20Whole.f k a1).bind fun t178 => (if t178 = true then (spec_IsCover.j0 k a1 ((a1.size : Int) != a0_0) a0_0 a0_1) else (spec_IsCover.j0 k a1 true a0_0 a0_1))) else (spec_IsCover.j0 k a1 true a0_0 a0_1))) else (spec_IsCover.j0 k a1 true a0_0 a0_1))) = some r := h
 clear h
 have HC3 := Aside0.mk H
 clear H
 go_enter Tryd.func14, Tryd.ntmps14
 go_upto_region 1 with (first | ((with_reducible refine gate_dst (N := 2) rfl ?_); (try (refine gate_guard (by rfl) ?_; dsimp only)); refine box_event ?hg (N := 2) ?hd (cs := #[.int .i64 a0_0, .string a0_1]) (t := 32) ?hr ?_; (case hd => rfl); (case hg => rfl); (case hr => first | (go_simp; done) | (go_simp; rfl)); intro gb175 hg w4 hbox hb; have n0_ := Aside0.mk (below_step (by repeat (first | (with_reducible first | exact HB.out | apply below_alloc | apply pw_below_drewN | apply below_drew1) | exact HB.out)) hb); have n1_ := Aside0.mk (hbox); have n2_ := Aside0.mk ((by rw [hg]; exact (below_size (by repeat (first | (with_reducible first | exact HB.out | apply below_alloc | apply pw_below_drewN | apply below_drew1) | exact HB.out))) : w.heap.size ≤ gb175)); have n3_ := Aside0.mk ((by rw [hg]; exact (below_size (by repeat (first | (with_reducible first | exact HB.out | apply below_alloc | apply pw_below_drewN | apply below_drew1) | exact HB.out))) : w.heap.size ≤ gb175)); clear HB; have HB := n0_; have BK175 := n1_; have GW175 := n2_; have GE175 := n3_; clear n0_ n1_ n2_ n3_; clear hb hbox hg))
 repeat (go_quiet (first | ((with_reducible refine gate_dst (N := 2) rfl ?_); (try (refine gate_guard (by rfl) ?_; dsimp only)); refine box_event ?hg (N := 2) ?hd (cs := #[.int .i64 a0_0, .string a0_1]) (t := 32) ?hr ?_; (case hd => rfl); (case hg => rfl); (case hr => first | (go_simp; done) | (go_simp; rfl)); intro gb175 hg w4 hbox hb; have n0_ := Aside0.mk (below_step (by repeat (first | (with_reducible first | exact HB.out | apply below_alloc | apply pw_below_drewN | apply below_drew1) | exact HB.out)) hb); have n1_ := Aside0.mk (hbox); have n2_ := Aside0.mk ((by rw [hg]; exact (below_size (by repeat (first | (with_reducible first | exact HB.out | apply below_alloc | apply pw_below_drewN | apply below_drew1) | exact HB.out))) : w.heap.size ≤ gb175)); have n3_ := Aside0.mk ((by rw [hg]; exact (below_size (by repeat (first | (with_reducible first | exact HB.out | apply below_alloc | apply pw_below_drewN | apply below_drew1) | exact HB.out))) : w.heap.size ≤ gb175)); clear HB; have HB := n0_; have BK175 := n1_; have GW175 := n2_; have GE175 := n3_; clear n0_ n1_ n2_ n3_; clear hb hbox hg)); go_upto_region 1 with (first | ((with_reducible refine gate_dst (N := 2) rfl ?_); (try (refine gate_guard (by rfl) ?_; dsimp only)); refine box_event ?hg (N := 2) ?hd (cs := #[.int .i64 a0_0, .string a0_1]) (t := 32) ?hr ?_; (case hd => rfl); (case hg => rfl); (case hr => first | (go_simp; done) | (go_simp; rfl)); intro gb175 hg w4 hbox hb; have n0_ := Aside0.mk (below_step (by repeat (first | (with_reducible first | exact HB.out | apply below_alloc | apply pw_below_drewN | apply below_drew1) | exact HB.out)) hb); have n1_ := Aside0.mk (hbox); have n2_ := Aside0.mk ((by rw [hg]; exact (below_size (by repeat (first | (with_reducible first | exact HB.out | apply below_alloc | apply pw_below_drewN | apply below_drew1) | exact HB.out))) : w.heap.size ≤ gb175)); have n3_ := Aside0.mk ((by rw [hg]; exact (below_size (by repeat (first | (with_reducible first | exact HB.out | apply below_alloc | apply pw_below_drewN | apply below_drew1) | exact HB.out))) : w.heap.size ≤ gb175)); clear HB; have HB := n0_; have BK175 := n1_; have GW175 := n2_; have GE175 := n3_; clear n0_ n1_ n2_ n3_; clear hb hbox hg)))
 (try simp only [Act.put, List.setIfInBounds_toArray, List.set_cons_zero, List.set_cons_succ])
 go_cut [30] (fun v30 wc => ∃ (kq : Nat) (x30_2 : Bool), v30 = .bool x30_2 ∧ Aside0 (spec_IsCover.j0 kq a1 x30_2 a0_0 a0_1 = some r) ∧ Aside0 (kq ≤ k) ∧ Aside0 (wc.heap[gb175]? = some (.cells #[.int .i64 a0_0, .string a0_1] 32 (0, 0))) ∧ Aside0 (Below w.heap.size w wc))
 case first =>
  have H := HC3.out
  clear HC3
  replace H := Option.bind_eq_some_iff.mp H
  obtain ⟨t176, A50, H⟩ := H
  replace H : (if t176 = true then ((spec_l20Fits.f k a1).bind fun t177 => (if t177 = true then ((spec_l20Whole.f k a1).bind fun t178 => (if t178 = true then (spec_IsCover.j0 k a1 ((a1.size : Int) != a0_0) a0_0 a0_1) else (spec_IsCover.j0 k a1 true a0_0 a0_1))) else (spec_IsCover.j0 k a1 true a0_0 a0_1))) else (spec_IsCover.j0 k a1 true a0_0 a0_1)) = some r := H
  have A5 := Aside0.mk A50
  clear A50
  by_cases c6 : t176 = true
  ·subst c6
   have H1 : ((spec_l20Fits.f k a1).bind fun t177 => (if t177 = true then ((spec_l20Whole.f k a1).bind fun t178 => (if t178 = true then (spec_IsCover.j0 k a1 ((a1.size : Int) != a0_0) a0_0 a0_1) else (spec_IsCover.j0 k a1 true a0_0 a0_1))) else (spec_IsCover.j0 k a1 true a0_0 a0_1))) = some r := by rw [if_pos rfl] at H; exact H
   clear H
   have H := H1
   clear H1
   replace H := Option.bind_eq_some_iff.mp H
   obtain ⟨t177, A70, H⟩ := H
   replace H : (if t177 = true then ((spec_l20Whole.f k a1).bind fun t178 => (if t178 = true then (spec_IsCover.j0 k a1 ((a1.size : Int) != a0_0) a0_0 a0_1) else (spec_IsCover.j0 k a1 true a0_0 a0_1))) else (spec_IsCover.j0 k a1 true a0_0 a0_1)) = some r := H
   have A7 := Aside0.mk A70
   clear A70
   by_cases c8 : t177 = true
   ·subst c8
    have H1 : ((spec_l20Whole.f k a1).bind fun t178 => (if t178 = true then (spec_IsCover.j0 k a1 ((a1.size : Int) != a0_0) a0_0 a0_1) else (spec_IsCover.j0 k a1 true a0_0 a0_1))) = some r := by rw [if_pos rfl] at H; exact H
    clear H
    have H := H1
    clear H1
    replace H := Option.bind_eq_some_iff.mp H
    obtain ⟨t178, A90, H⟩ := H
    replace H : (if t178 = true then (spec_IsCover.j0 k a1 ((a1.size : Int) != a0_0) a0_0 a0_1) else (spec_IsCover.j0 k a1 true a0_0 a0_1)) = some r := H
    have A9 := Aside0.mk A90
    clear A90
    by_cases c10 : t178 = true
    ·subst c10
     have H1 : (spec_IsCover.j0 k a1 ((a1.size : Int) != a0_0) a0_0 a0_1) = some r := by rw [if_pos rfl] at H; exact H
     clear H
     have H := H1
     clear H1
     have H' := Aside0.mk H
     clear H
     have hcz11_0 : w4.cell? ⟨gb175, 0, none⟩ = some (.int .i64 a0_0) := (blk_cell BK175.out 0).trans rfl
     have hcz11_1 : w4.cell? ⟨gb175, 1, none⟩ = some (.string a0_1) := (blk_cell BK175.out 1).trans rfl
     have hfz11_0 := blk_frozen BK175.out 0
     have hfz11_1 := blk_frozen BK175.out 1
     go_wp2_with (first | (go_at_call 22; (with_reducible refine (spec_IsMatroid.calls k a0_0 a0_1 true _ A5.out).mono ?_); rintro e w12 ⟨rfl, hb⟩; have n0_ := Aside0.mk (blk_below (g := gb175) (o := .cells #[.int .i64 a0_0, .string a0_1] 32 (0, 0)) (by (with_reducible repeat (first | refine blk_drewN ?_ _ | refine blk_drew ?_ | refine blk_alloc ?_ _)); exact BK175.out) hb); have n1_ := Aside0.mk (below_step (by repeat (first | (with_reducible first | exact HB.out | apply below_alloc | apply pw_below_drewN | apply below_drew1 | refine below_set ?_ GE175.out) | exact HB.out)) hb); clear BK175; clear HB; have BK175 := n0_; have HB := n1_; clear n0_ n1_; (try clear hb); (try clear hb2); (try clear hk); (try clear hi)) | (go_at_call 17; (with_reducible refine (spec_l20Fits.calls k a1 true _ A7.out).mono ?_); rintro e w' ⟨rfl, ⟨nd, rfl⟩⟩; (try first | exact ⟨rfl, _, World.drewN_drewN _ _ _⟩ | exact ⟨rfl, _, Eq.trans (World.drewN_drewN _ _ _) (congrArg (World.drewN _) (Nat.add_assoc _ _ _))⟩)) | (go_at_call 23; (with_reducible refine (spec_l20Whole.calls k a1 true _ A9.out).mono ?_); rintro e w' ⟨rfl, ⟨nd, rfl⟩⟩; (try first | exact ⟨rfl, _, World.drewN_drewN _ _ _⟩ | exact ⟨rfl, _, Eq.trans (World.drewN_drewN _ _ _) (congrArg (World.drewN _) (Nat.add_assoc _ _ _))⟩); have hcz13_0 : w12.cell? ⟨gb175, 0, none⟩ = some (.int .i64 a0_0) := (blk_cell BK175.out 0).trans rfl; have hcz13_1 : w12.cell? ⟨gb175, 1, none⟩ = some (.string a0_1) := (blk_cell BK175.out 1).trans rfl; have hfz13_0 := blk_frozen BK175.out 0; have hfz13_1 := blk_frozen BK175.out 1))
     repeat (go_quiet (first | (go_at_call 22; (with_reducible refine (spec_IsMatroid.calls k a0_0 a0_1 true _ A5.out).mono ?_); rintro e w12 ⟨rfl, hb⟩; have n0_ := Aside0.mk (blk_below (g := gb175) (o := .cells #[.int .i64 a0_0, .string a0_1] 32 (0, 0)) (by (with_reducible repeat (first | refine blk_drewN ?_ _ | refine blk_drew ?_ | refine blk_alloc ?_ _)); exact BK175.out) hb); have n1_ := Aside0.mk (below_step (by repeat (first | (with_reducible first | exact HB.out | apply below_alloc | apply pw_below_drewN | apply below_drew1 | refine below_set ?_ GE175.out) | exact HB.out)) hb); clear BK175; clear HB; have BK175 := n0_; have HB := n1_; clear n0_ n1_; (try clear hb); (try clear hb2); (try clear hk); (try clear hi)) | (go_at_call 17; (with_reducible refine (spec_l20Fits.calls k a1 true _ A7.out).mono ?_); rintro e w' ⟨rfl, ⟨nd, rfl⟩⟩; (try first | exact ⟨rfl, _, World.drewN_drewN _ _ _⟩ | exact ⟨rfl, _, Eq.trans (World.drewN_drewN _ _ _) (congrArg (World.drewN _) (Nat.add_assoc _ _ _))⟩)) | (go_at_call 23; (with_reducible refine (spec_l20Whole.calls k a1 true _ A9.out).mono ?_); rintro e w' ⟨rfl, ⟨nd, rfl⟩⟩; (try first | exact ⟨rfl, _, World.drewN_drewN _ _ _⟩ | exact ⟨rfl, _, Eq.trans (World.drewN_drewN _ _ _) (congrArg (World.drewN _) (Nat.add_assoc _ _ _))⟩); have hcz13_0 : w12.cell? ⟨gb175, 0, none⟩ = some (.int .i64 a0_0) := (blk_cell BK175.out 0).trans rfl; have hcz13_1 : w12.cell? ⟨gb175, 1, none⟩ = some (.string a0_1) := (blk_cell BK175.out 1).trans rfl; have hfz13_0 := blk_frozen BK175.out 0; have hfz13_1 := blk_frozen BK175.out 1)); try go_wp2_with (first | (go_at_call 22; (with_reducible refine (spec_IsMatroid.calls k a0_0 a0_1 true _ A5.out).mono ?_); rintro e w12 ⟨rfl, hb⟩; have n0_ := Aside0.mk (blk_below (g := gb175) (o := .cells #[.int .i64 a0_0, .string a0_1] 32 (0, 0)) (by (with_reducible repeat (first | refine blk_drewN ?_ _ | refine blk_drew ?_ | refine blk_alloc ?_ _)); exact BK175.out) hb); have n1_ := Aside0.mk (below_step (by repeat (first | (with_reducible first | exact HB.out | apply below_alloc | apply pw_below_drewN | apply below_drew1 | refine below_set ?_ GE175.out) | exact HB.out)) hb); clear BK175; clear HB; have BK175 := n0_; have HB := n1_; clear n0_ n1_; (try clear hb); (try clear hb2); (try clear hk); (try clear hi)) | (go_at_call 17; (with_reducible refine (spec_l20Fits.calls k a1 true _ A7.out).mono ?_); rintro e w' ⟨rfl, ⟨nd, rfl⟩⟩; (try first | exact ⟨rfl, _, World.drewN_drewN _ _ _⟩ | exact ⟨rfl, _, Eq.trans (World.drewN_drewN _ _ _) (congrArg (World.drewN _) (Nat.add_assoc _ _ _))⟩)) | (go_at_call 23; (with_reducible refine (spec_l20Whole.calls k a1 true _ A9.out).mono ?_); rintro e w' ⟨rfl, ⟨nd, rfl⟩⟩; (try first | exact ⟨rfl, _, World.drewN_drewN _ _ _⟩ | exact ⟨rfl, _, Eq.trans (World.drewN_drewN _ _ _) (congrArg (World.drewN _) (Nat.add_assoc _ _ _))⟩); have hcz13_0 : w12.cell? ⟨gb175, 0, none⟩ = some (.int .i64 a0_0) := (blk_cell BK175.out 0).trans rfl; have hcz13_1 : w12.cell? ⟨gb175, 1, none⟩ = some (.string a0_1) := (blk_cell BK175.out 1).trans rfl; have hfz13_0 := blk_frozen BK175.out 0; have hfz13_1 := blk_frozen BK175.out 1)))
     go_meet
     case rel => exact ⟨_, (((a1.size : Int) != a0_0)), (by first | rfl | (simp; done) | (simp [*]; done)), H', ⟨by first | omega | exact Nat.le_refl _⟩, ⟨by (with_reducible repeat (first | refine blk_drewN ?_ _ | refine blk_drew ?_ | refine blk_alloc ?_ _)); exact BK175.out⟩, ⟨by repeat (first | (with_reducible first | exact HB.out | apply below_alloc | apply pw_below_drewN | apply below_drew1 | refine below_set ?_ GE175.out) | exact HB.out)⟩⟩
    ·replace c10 := Bool.eq_false_iff.mpr c10
     subst c10
     have H1 : (spec_IsCover.j0 k a1 true a0_0 a0_1) = some r := by rw [if_neg (show ¬ (false = true) by decide)] at H; exact H
     clear H
     have H := H1
     clear H1
     have H' := Aside0.mk H
     clear H
     have hcz14_0 : w4.cell? ⟨gb175, 0, none⟩ = some (.int .i64 a0_0) := (blk_cell BK175.out 0).trans rfl
     have hcz14_1 : w4.cell? ⟨gb175, 1, none⟩ = some (.string a0_1) := (blk_cell BK175.out 1).trans rfl
     have hfz14_0 := blk_frozen BK175.out 0
     have hfz14_1 := blk_frozen BK175.out 1
     go_wp2_with (first | (go_at_call 22; (with_reducible refine (spec_IsMatroid.calls k a0_0 a0_1 true _ A5.out).mono ?_); rintro e w15 ⟨rfl, hb⟩; have n0_ := Aside0.mk (blk_below (g := gb175) (o := .cells #[.int .i64 a0_0, .string a0_1] 32 (0, 0)) (by (with_reducible repeat (first | refine blk_drewN ?_ _ | refine blk_drew ?_ | refine blk_alloc ?_ _)); exact BK175.out) hb); have n1_ := Aside0.mk (below_step (by repeat (first | (with_reducible first | exact HB.out | apply below_alloc | apply pw_below_drewN | apply below_drew1 | refine below_set ?_ GE175.out) | exact HB.out)) hb); clear BK175; clear HB; have BK175 := n0_; have HB := n1_; clear n0_ n1_; (try clear hb); (try clear hb2); (try clear hk); (try clear hi)) | (go_at_call 17; (with_reducible refine (spec_l20Fits.calls k a1 true _ A7.out).mono ?_); rintro e w' ⟨rfl, ⟨nd, rfl⟩⟩; (try first | exact ⟨rfl, _, World.drewN_drewN _ _ _⟩ | exact ⟨rfl, _, Eq.trans (World.drewN_drewN _ _ _) (congrArg (World.drewN _) (Nat.add_assoc _ _ _))⟩)) | (go_at_call 23; (with_reducible refine (spec_l20Whole.calls k a1 false _ A9.out).mono ?_); rintro e w' ⟨rfl, ⟨nd, rfl⟩⟩; (try first | exact ⟨rfl, _, World.drewN_drewN _ _ _⟩ | exact ⟨rfl, _, Eq.trans (World.drewN_drewN _ _ _) (congrArg (World.drewN _) (Nat.add_assoc _ _ _))⟩)))
     repeat (go_quiet (first | (go_at_call 22; (with_reducible refine (spec_IsMatroid.calls k a0_0 a0_1 true _ A5.out).mono ?_); rintro e w15 ⟨rfl, hb⟩; have n0_ := Aside0.mk (blk_below (g := gb175) (o := .cells #[.int .i64 a0_0, .string a0_1] 32 (0, 0)) (by (with_reducible repeat (first | refine blk_drewN ?_ _ | refine blk_drew ?_ | refine blk_alloc ?_ _)); exact BK175.out) hb); have n1_ := Aside0.mk (below_step (by repeat (first | (with_reducible first | exact HB.out | apply below_alloc | apply pw_below_drewN | apply below_drew1 | refine below_set ?_ GE175.out) | exact HB.out)) hb); clear BK175; clear HB; have BK175 := n0_; have HB := n1_; clear n0_ n1_; (try clear hb); (try clear hb2); (try clear hk); (try clear hi)) | (go_at_call 17; (with_reducible refine (spec_l20Fits.calls k a1 true _ A7.out).mono ?_); rintro e w' ⟨rfl, ⟨nd, rfl⟩⟩; (try first | exact ⟨rfl, _, World.drewN_drewN _ _ _⟩ | exact ⟨rfl, _, Eq.trans (World.drewN_drewN _ _ _) (congrArg (World.drewN _) (Nat.add_assoc _ _ _))⟩)) | (go_at_call 23; (with_reducible refine (spec_l20Whole.calls k a1 false _ A9.out).mono ?_); rintro e w' ⟨rfl, ⟨nd, rfl⟩⟩; (try first | exact ⟨rfl, _, World.drewN_drewN _ _ _⟩ | exact ⟨rfl, _, Eq.trans (World.drewN_drewN _ _ _) (congrArg (World.drewN _) (Nat.add_assoc _ _ _))⟩))); try go_wp2_with (first | (go_at_call 22; (with_reducible refine (spec_IsMatroid.calls k a0_0 a0_1 true _ A5.out).mono ?_); rintro e w15 ⟨rfl, hb⟩; have n0_ := Aside0.mk (blk_below (g := gb175) (o := .cells #[.int .i64 a0_0, .string a0_1] 32 (0, 0)) (by (with_reducible repeat (first | refine blk_drewN ?_ _ | refine blk_drew ?_ | refine blk_alloc ?_ _)); exact BK175.out) hb); have n1_ := Aside0.mk (below_step (by repeat (first | (with_reducible first | exact HB.out | apply below_alloc | apply pw_below_drewN | apply below_drew1 | refine below_set ?_ GE175.out) | exact HB.out)) hb); clear BK175; clear HB; have BK175 := n0_; have HB := n1_; clear n0_ n1_; (try clear hb); (try clear hb2); (try clear hk); (try clear hi)) | (go_at_call 17; (with_reducible refine (spec_l20Fits.calls k a1 true _ A7.out).mono ?_); rintro e w' ⟨rfl, ⟨nd, rfl⟩⟩; (try first | exact ⟨rfl, _, World.drewN_drewN _ _ _⟩ | exact ⟨rfl, _, Eq.trans (World.drewN_drewN _ _ _) (congrArg (World.drewN _) (Nat.add_assoc _ _ _))⟩)) | (go_at_call 23; (with_reducible refine (spec_l20Whole.calls k a1 false _ A9.out).mono ?_); rintro e w' ⟨rfl, ⟨nd, rfl⟩⟩; (try first | exact ⟨rfl, _, World.drewN_drewN _ _ _⟩ | exact ⟨rfl, _, Eq.trans (World.drewN_drewN _ _ _) (congrArg (World.drewN _) (Nat.add_assoc _ _ _))⟩))))
     go_meet
     case rel => exact ⟨_, (true), (by first | rfl | (simp; done) | (simp [*]; done)), H', ⟨by first | omega | exact Nat.le_refl _⟩, ⟨by (with_reducible repeat (first | refine blk_drewN ?_ _ | refine blk_drew ?_ | refine blk_alloc ?_ _)); exact BK175.out⟩, ⟨by repeat (first | (with_reducible first | exact HB.out | apply below_alloc | apply pw_below_drewN | apply below_drew1 | refine below_set ?_ GE175.out) | exact HB.out)⟩⟩
   ·replace c8 := Bool.eq_false_iff.mpr c8
    subst c8
    have H1 : (spec_IsCover.j0 k a1 true a0_0 a0_1) = some r := by rw [if_neg (show ¬ (false = true) by decide)] at H; exact H
    clear H
    have H := H1
    clear H1
    have H' := Aside0.mk H
    clear H
    have hcz16_0 : w4.cell? ⟨gb175, 0, none⟩ = some (.int .i64 a0_0) := (blk_cell BK175.out 0).trans rfl
    have hcz16_1 : w4.cell? ⟨gb175, 1, none⟩ = some (.string a0_1) := (blk_cell BK175.out 1).trans rfl
    have hfz16_0 := blk_frozen BK175.out 0
    have hfz16_1 := blk_frozen BK175.out 1
    go_wp2_with (first | (go_at_call 22; (with_reducible refine (spec_IsMatroid.calls k a0_0 a0_1 true _ A5.out).mono ?_); rintro e w17 ⟨rfl, hb⟩; have n0_ := Aside0.mk (blk_below (g := gb175) (o := .cells #[.int .i64 a0_0, .string a0_1] 32 (0, 0)) (by (with_reducible repeat (first | refine blk_drewN ?_ _ | refine blk_drew ?_ | refine blk_alloc ?_ _)); exact BK175.out) hb); have n1_ := Aside0.mk (below_step (by repeat (first | (with_reducible first | exact HB.out | apply below_alloc | apply pw_below_drewN | apply below_drew1 | refine below_set ?_ GE175.out) | exact HB.out)) hb); clear BK175; clear HB; have BK175 := n0_; have HB := n1_; clear n0_ n1_; (try clear hb); (try clear hb2); (try clear hk); (try clear hi)) | (go_at_call 17; (with_reducible refine (spec_l20Fits.calls k a1 false _ A7.out).mono ?_); rintro e w' ⟨rfl, ⟨nd, rfl⟩⟩; (try first | exact ⟨rfl, _, World.drewN_drewN _ _ _⟩ | exact ⟨rfl, _, Eq.trans (World.drewN_drewN _ _ _) (congrArg (World.drewN _) (Nat.add_assoc _ _ _))⟩)))
    repeat (go_quiet (first | (go_at_call 22; (with_reducible refine (spec_IsMatroid.calls k a0_0 a0_1 true _ A5.out).mono ?_); rintro e w17 ⟨rfl, hb⟩; have n0_ := Aside0.mk (blk_below (g := gb175) (o := .cells #[.int .i64 a0_0, .string a0_1] 32 (0, 0)) (by (with_reducible repeat (first | refine blk_drewN ?_ _ | refine blk_drew ?_ | refine blk_alloc ?_ _)); exact BK175.out) hb); have n1_ := Aside0.mk (below_step (by repeat (first | (with_reducible first | exact HB.out | apply below_alloc | apply pw_below_drewN | apply below_drew1 | refine below_set ?_ GE175.out) | exact HB.out)) hb); clear BK175; clear HB; have BK175 := n0_; have HB := n1_; clear n0_ n1_; (try clear hb); (try clear hb2); (try clear hk); (try clear hi)) | (go_at_call 17; (with_reducible refine (spec_l20Fits.calls k a1 false _ A7.out).mono ?_); rintro e w' ⟨rfl, ⟨nd, rfl⟩⟩; (try first | exact ⟨rfl, _, World.drewN_drewN _ _ _⟩ | exact ⟨rfl, _, Eq.trans (World.drewN_drewN _ _ _) (congrArg (World.drewN _) (Nat.add_assoc _ _ _))⟩))); try go_wp2_with (first | (go_at_call 22; (with_reducible refine (spec_IsMatroid.calls k a0_0 a0_1 true _ A5.out).mono ?_); rintro e w17 ⟨rfl, hb⟩; have n0_ := Aside0.mk (blk_below (g := gb175) (o := .cells #[.int .i64 a0_0, .string a0_1] 32 (0, 0)) (by (with_reducible repeat (first | refine blk_drewN ?_ _ | refine blk_drew ?_ | refine blk_alloc ?_ _)); exact BK175.out) hb); have n1_ := Aside0.mk (below_step (by repeat (first | (with_reducible first | exact HB.out | apply below_alloc | apply pw_below_drewN | apply below_drew1 | refine below_set ?_ GE175.out) | exact HB.out)) hb); clear BK175; clear HB; have BK175 := n0_; have HB := n1_; clear n0_ n1_; (try clear hb); (try clear hb2); (try clear hk); (try clear hi)) | (go_at_call 17; (with_reducible refine (spec_l20Fits.calls k a1 false _ A7.out).mono ?_); rintro e w' ⟨rfl, ⟨nd, rfl⟩⟩; (try first | exact ⟨rfl, _, World.drewN_drewN _ _ _⟩ | exact ⟨rfl, _, Eq.trans (World.drewN_drewN _ _ _) (congrArg (World.drewN _) (Nat.add_assoc _ _ _))⟩))))
    go_meet
    case rel => exact ⟨_, (true), (by first | rfl | (simp; done) | (simp [*]; done)), H', ⟨by first | omega | exact Nat.le_refl _⟩, ⟨by (with_reducible repeat (first | refine blk_drewN ?_ _ | refine blk_drew ?_ | refine blk_alloc ?_ _)); exact BK175.out⟩, ⟨by repeat (first | (with_reducible first | exact HB.out | apply below_alloc | apply pw_below_drewN | apply below_drew1 | refine below_set ?_ GE175.out) | exact HB.out)⟩⟩
  ·replace c6 := Bool.eq_false_iff.mpr c6
   subst c6
   have H1 : (spec_IsCover.j0 k a1 true a0_0 a0_1) = some r := by rw [if_neg (show ¬ (false = true) by decide)] at H; exact H
   clear H
   have H := H1
   clear H1
   have H' := Aside0.mk H
   clear H
   have hcz18_0 : w4.cell? ⟨gb175, 0, none⟩ = some (.int .i64 a0_0) := (blk_cell BK175.out 0).trans rfl
   have hcz18_1 : w4.cell? ⟨gb175, 1, none⟩ = some (.string a0_1) := (blk_cell BK175.out 1).trans rfl
   have hfz18_0 := blk_frozen BK175.out 0
   have hfz18_1 := blk_frozen BK175.out 1
   go_wp2_with (first | (go_at_call 22; (with_reducible refine (spec_IsMatroid.calls k a0_0 a0_1 false _ A5.out).mono ?_); rintro e w19 ⟨rfl, hb⟩; have n0_ := Aside0.mk (blk_below (g := gb175) (o := .cells #[.int .i64 a0_0, .string a0_1] 32 (0, 0)) (by (with_reducible repeat (first | refine blk_drewN ?_ _ | refine blk_drew ?_ | refine blk_alloc ?_ _)); exact BK175.out) hb); have n1_ := Aside0.mk (below_step (by repeat (first | (with_reducible first | exact HB.out | apply below_alloc | apply pw_below_drewN | apply below_drew1 | refine below_set ?_ GE175.out) | exact HB.out)) hb); clear BK175; clear HB; have BK175 := n0_; have HB := n1_; clear n0_ n1_; (try clear hb); (try clear hb2); (try clear hk); (try clear hi)))
   repeat (go_quiet (first | (go_at_call 22; (with_reducible refine (spec_IsMatroid.calls k a0_0 a0_1 false _ A5.out).mono ?_); rintro e w19 ⟨rfl, hb⟩; have n0_ := Aside0.mk (blk_below (g := gb175) (o := .cells #[.int .i64 a0_0, .string a0_1] 32 (0, 0)) (by (with_reducible repeat (first | refine blk_drewN ?_ _ | refine blk_drew ?_ | refine blk_alloc ?_ _)); exact BK175.out) hb); have n1_ := Aside0.mk (below_step (by repeat (first | (with_reducible first | exact HB.out | apply below_alloc | apply pw_below_drewN | apply below_drew1 | refine below_set ?_ GE175.out) | exact HB.out)) hb); clear BK175; clear HB; have BK175 := n0_; have HB := n1_; clear n0_ n1_; (try clear hb); (try clear hb2); (try clear hk); (try clear hi))); try go_wp2_with (first | (go_at_call 22; (with_reducible refine (spec_IsMatroid.calls k a0_0 a0_1 false _ A5.out).mono ?_); rintro e w19 ⟨rfl, hb⟩; have n0_ := Aside0.mk (blk_below (g := gb175) (o := .cells #[.int .i64 a0_0, .string a0_1] 32 (0, 0)) (by (with_reducible repeat (first | refine blk_drewN ?_ _ | refine blk_drew ?_ | refine blk_alloc ?_ _)); exact BK175.out) hb); have n1_ := Aside0.mk (below_step (by repeat (first | (with_reducible first | exact HB.out | apply below_alloc | apply pw_below_drewN | apply below_drew1 | refine below_set ?_ GE175.out) | exact HB.out)) hb); clear BK175; clear HB; have BK175 := n0_; have HB := n1_; clear n0_ n1_; (try clear hb); (try clear hb2); (try clear hk); (try clear hi))))
   go_meet
   case rel => exact ⟨_, (true), (by first | rfl | (simp; done) | (simp [*]; done)), H', ⟨by first | omega | exact Nat.le_refl _⟩, ⟨by (with_reducible repeat (first | refine blk_drewN ?_ _ | refine blk_drew ?_ | refine blk_alloc ?_ _)); exact BK175.out⟩, ⟨by repeat (first | (with_reducible first | exact HB.out | apply below_alloc | apply pw_below_drewN | apply below_drew1 | refine below_set ?_ GE175.out) | exact HB.out)⟩⟩
 case rest =>
  clear HC3
  try clear c1
  try clear p2
  try clear c6
  try clear c8
  try clear c10
  try clear c14
  try clear hcz11_0
  try clear hcz11_1
  try clear hcz13_0
  try clear hcz13_1
  try clear hcz14_0
  try clear hcz14_1
  try clear hcz16_0
  try clear hcz16_1
  try clear hcz18_0
  try clear hcz18_1
  try clear hfz11_0
  try clear hfz11_1
  try clear hfz13_0
  try clear hfz13_1
  try clear hfz14_0
  try clear hfz14_1
  try clear hfz16_0
  try clear hfz16_1
  try clear hfz18_0
  try clear hfz18_1
  obtain ⟨kq, x30_2, rfl, HA, HJ2, BK175, HB⟩ := hcut
  cases kq with
  | zero => exact absurd HA.out (by simp [spec_IsCover.j0])
  | succ kj2 =>
   have H := HA.out
   clear HA
   simp only [spec_IsCover.j0] at H
   by_cases c20 : x30_2 = true
   ·subst c20
    have H1 : (some false) = some r := by rw [if_pos rfl] at H; exact H
    clear H
    have H := H1
    clear H1
    obtain rfl := Option.some.inj H
    go_wp2
    repeat (go_quiet (fail); try go_wp2)
    go_ret
    exact ⟨by first | rfl | (simp [errW_none, errW_some] <;> rfl) | (simp [*, errW_none, errW_some] <;> rfl), by repeat (first | (with_reducible first | exact HB.out | apply below_alloc | apply pw_below_drewN | apply below_drew1 | refine below_set ?_ GE175.out) | exact HB.out)⟩
   ·replace c20 := Bool.eq_false_iff.mpr c20
    subst c20
    have H1 : (spec_IsCover.l0 kj2 a1 0 a0_0 a0_1) = some r := by rw [if_neg (show ¬ (false = true) by decide)] at H; exact H
    clear H
    have H := H1
    clear H1
    have H' := Aside0.mk H
    clear H
    go_wp2
    repeat (go_quiet (fail); try go_wp2)
    go_loopg [5] kj2 (fun kq v5 w' => ∃ (x5_2 : Int), v5 = .int .i64 x5_2 ∧ Aside0 (spec_IsCover.l0 kq a1 x5_2 a0_0 a0_1 = some r) ∧ Aside0 (kq ≤ kj2) ∧ Aside0 (w'.heap[gb175]? = some (.cells #[.int .i64 a0_0, .string a0_1] 32 (0, 0))) ∧ Aside0 (Below w.heap.size w w'))
    case atStart => exact ⟨(0), (by first | rfl | (simp; done) | (simp [*]; done)), H', ⟨Nat.le_refl _⟩, ⟨by (with_reducible repeat (first | refine blk_drewN ?_ _ | refine blk_drew ?_ | refine blk_alloc ?_ _)); exact BK175.out⟩, ⟨by repeat (first | (with_reducible first | exact HB.out | apply below_alloc | apply pw_below_drewN | apply below_drew1 | refine below_set ?_ GE175.out) | exact HB.out)⟩⟩
    case round =>
     clear H'
     try clear c1
     try clear c2
     try clear p2
     try clear c6
     try clear c8
     try clear c10
     try clear c14
     try clear c20
     try clear hcz11_0
     try clear hcz11_1
     try clear hcz13_0
     try clear hcz13_1
     try clear hcz14_0
     try clear hcz14_1
     try clear hcz16_0
     try clear hcz16_1
     try clear hcz18_0
     try clear hcz18_1
     try clear hfz11_0
     try clear hfz11_1
     try clear hfz13_0
     try clear hfz13_1
     try clear hfz14_0
     try clear hfz14_1
     try clear hfz16_0
     try clear hfz16_1
     try clear hfz18_0
     try clear hfz18_1
     try clear p2
     obtain ⟨x5_2, rfl, HA, HK2, BK175, HB⟩ := hrel
     cases gk with
     | zero => exact absurd HA.out (by simp [spec_IsCover.l0])
     | succ k2 =>
      have H := HA.out
      clear HA
      simp only [spec_IsCover.l0] at H
      by_cases c21 : x5_2 < a0_0
      ·rw [if_pos c21] at H
       have c21b0 : decide (x5_2 < a0_0) = true := decide_eq_true c21
       clear c21
       have H' := Aside0.mk H
       clear H
       have hcz22_0 : wr.cell? ⟨gb175, 0, none⟩ = some (.int .i64 a0_0) := (blk_cell BK175.out 0).trans rfl
       have hcz22_1 : wr.cell? ⟨gb175, 1, none⟩ = some (.string a0_1) := (blk_cell BK175.out 1).trans rfl
       have hfz22_0 := blk_frozen BK175.out 0
       have hfz22_1 := blk_frozen BK175.out 1
       go_wp2
       repeat (go_quiet (fail); try go_wp2)
       go_loopg [6] k2 (fun kq v6 w' => ∃ (x6_3 : Int), v6 = .int .i64 x6_3 ∧ Aside0 (spec_IsCover.l1 kq a1 x5_2 x6_3 a0_0 a0_1 = some r) ∧ Aside0 (kq ≤ k2) ∧ Aside0 (w'.heap[gb175]? = some (.cells #[.int .i64 a0_0, .string a0_1] 32 (0, 0))) ∧ Aside0 (Below w.heap.size w w'))
       case atStart => exact ⟨(wrap64 (x5_2 + 1)), (by first | rfl | (simp; done) | (simp [*]; done)), H', ⟨Nat.le_refl _⟩, ⟨by (with_reducible repeat (first | refine blk_drewN ?_ _ | refine blk_drew ?_ | refine blk_alloc ?_ _)); exact BK175.out⟩, ⟨by repeat (first | (with_reducible first | exact HB.out | apply below_alloc | apply pw_below_drewN | apply below_drew1 | refine below_set ?_ GE175.out) | exact HB.out)⟩⟩
       case round =>
        clear H'
        try clear c1
        try clear c2
        try clear p2
        try clear c6
        try clear p6
        try clear c8
        try clear c10
        try clear c14
        try clear c20
        try clear c21
        try clear c21b0
        try clear hcz11_0
        try clear hcz11_1
        try clear hcz13_0
        try clear hcz13_1
        try clear hcz14_0
        try clear hcz14_1
        try clear hcz16_0
        try clear hcz16_1
        try clear hcz18_0
        try clear hcz18_1
        try clear hcz22_0
        try clear hcz22_1
        try clear hfz11_0
        try clear hfz11_1
        try clear hfz13_0
        try clear hfz13_1
        try clear hfz14_0
        try clear hfz14_1
        try clear hfz16_0
        try clear hfz16_1
        try clear hfz18_0
        try clear hfz18_1
        try clear hfz22_0
        try clear hfz22_1
        try clear p2
        obtain ⟨x6_3, rfl, HA, HK3, BK175, HB⟩ := hrel
        cases gk with
        | zero => exact absurd HA.out (by simp [spec_IsCover.l1])
        | succ k3 =>
         have H := HA.out
         clear HA
         simp only [spec_IsCover.l1] at H
         by_cases c23 : x6_3 < a0_0
         ·rw [if_pos c23] at H
          have c23b0 : decide (x6_3 < a0_0) = true := decide_eq_true c23
          clear c23
          have H' := Aside0.mk H
          clear H
          have hcz24_0 : wr.cell? ⟨gb175, 0, none⟩ = some (.int .i64 a0_0) := (blk_cell BK175.out 0).trans rfl
          have hcz24_1 : wr.cell? ⟨gb175, 1, none⟩ = some (.string a0_1) := (blk_cell BK175.out 1).trans rfl
          have hfz24_0 := blk_frozen BK175.out 0
          have hfz24_1 := blk_frozen BK175.out 1
          go_wp2
          repeat (go_quiet (fail); try go_wp2)
          go_loopg [7] k3 (fun kq v7 w' => ∃ (x7_4 : Int), v7 = .int .i64 x7_4 ∧ Aside0 (spec_IsCover.l2 kq a1 x5_2 x6_3 x7_4 a0_0 a0_1 = some r) ∧ Aside0 (kq ≤ k3) ∧ Aside0 (w'.heap[gb175]? = some (.cells #[.int .i64 a0_0, .string a0_1] 32 (0, 0))) ∧ Aside0 (Below w.heap.size w w'))
          case atStart => exact ⟨(wrap64 (x6_3 + 1)), (by first | rfl | (simp; done) | (simp [*]; done)), H', ⟨Nat.le_refl _⟩, ⟨by (with_reducible repeat (first | refine blk_drewN ?_ _ | refine blk_drew ?_ | refine blk_alloc ?_ _)); exact BK175.out⟩, ⟨by repeat (first | (with_reducible first | exact HB.out | apply below_alloc | apply pw_below_drewN | apply below_drew1 | refine below_set ?_ GE175.out) | exact HB.out)⟩⟩
          case round =>
           clear H'
           try clear c1
           try clear c2
           try clear p2
           try clear c6
           try clear p6
           try clear c8
           try clear c10
           try clear c14
           try clear c20
           try clear c21
           try clear c21b0
           try clear c23
           try clear c23b0
           try clear hcz11_0
           try clear hcz11_1
           try clear hcz13_0
           try clear hcz13_1
           try clear hcz14_0
           try clear hcz14_1
           try clear hcz16_0
           try clear hcz16_1
           try clear hcz18_0
           try clear hcz18_1
           try clear hcz22_0
           try clear hcz22_1
           try clear hcz24_0
           try clear hcz24_1
           try clear hfz11_0
           try clear hfz11_1
           try clear hfz13_0
           try clear hfz13_1
           try clear hfz14_0
           try clear hfz14_1
           try clear hfz16_0
           try clear hfz16_1
           try clear hfz18_0
           try clear hfz18_1
           try clear hfz22_0
           try clear hfz22_1
           try clear hfz24_0
           try clear hfz24_1
           try clear p2
           try clear p6
           obtain ⟨x7_4, rfl, HA, HK4, BK175, HB⟩ := hrel
           cases gk with
           | zero => exact absurd HA.out (by simp [spec_IsCover.l2])
           | succ k4 =>
            have H := HA.out
            clear HA
            simp only [spec_IsCover.l2] at H
            by_cases c25 : x7_4 < a0_0
            ·rw [if_pos c25] at H
             have c25b0 : decide (x7_4 < a0_0) = true := decide_eq_true c25
             clear c25
             have H' := Aside0.mk H
             clear H
             have hcz26_0 : wr.cell? ⟨gb175, 0, none⟩ = some (.int .i64 a0_0) := (blk_cell BK175.out 0).trans rfl
             have hcz26_1 : wr.cell? ⟨gb175, 1, none⟩ = some (.string a0_1) := (blk_cell BK175.out 1).trans rfl
             have hfz26_0 := blk_frozen BK175.out 0
             have hfz26_1 := blk_frozen BK175.out 1
             go_wp2
             repeat (go_quiet (fail); try go_wp2)
             go_loopg [8] k4 (fun kq v8 w' => ∃ (x8_5 : Int), v8 = .int .i64 x8_5 ∧ Aside0 (spec_IsCover.l3 kq a1 x5_2 x6_3 x7_4 x8_5 a0_0 a0_1 = some r) ∧ Aside0 (kq ≤ k4) ∧ Aside0 (w'.heap[gb175]? = some (.cells #[.int .i64 a0_0, .string a0_1] 32 (0, 0))) ∧ Aside0 (Below w.heap.size w w'))
             case atStart => exact ⟨(wrap64 (x7_4 + 1)), (by first | rfl | (simp; done) | (simp [*]; done)), H', ⟨Nat.le_refl _⟩, ⟨by (with_reducible repeat (first | refine blk_drewN ?_ _ | refine blk_drew ?_ | refine blk_alloc ?_ _)); exact BK175.out⟩, ⟨by repeat (first | (with_reducible first | exact HB.out | apply below_alloc | apply pw_below_drewN | apply below_drew1 | refine below_set ?_ GE175.out) | exact HB.out)⟩⟩
             case round =>
              clear H'
              try clear c1
              try clear c2
              try clear p2
              try clear c6
              try clear p6
              try clear c8
              try clear c10
              try clear c14
              try clear c20
              try clear c21
              try clear c21b0
              try clear c23
              try clear c23b0
              try clear c25
              try clear c25b0
              try clear hcz11_0
              try clear hcz11_1
              try clear hcz13_0
              try clear hcz13_1
              try clear hcz14_0
              try clear hcz14_1
              try clear hcz16_0
              try clear hcz16_1
              try clear hcz18_0
              try clear hcz18_1
              try clear hcz22_0
              try clear hcz22_1
              try clear hcz24_0
              try clear hcz24_1
              try clear hcz26_0
              try clear hcz26_1
              try clear hfz11_0
              try clear hfz11_1
              try clear hfz13_0
              try clear hfz13_1
              try clear hfz14_0
              try clear hfz14_1
              try clear hfz16_0
              try clear hfz16_1
              try clear hfz18_0
              try clear hfz18_1
              try clear hfz22_0
              try clear hfz22_1
              try clear hfz24_0
              try clear hfz24_1
              try clear hfz26_0
              try clear hfz26_1
              try clear p2
              try clear p6
              obtain ⟨x8_5, rfl, HA, HK5, BK175, HB⟩ := hrel
              cases gk with
              | zero => exact absurd HA.out (by simp [spec_IsCover.l3])
              | succ k5 =>
               have H := HA.out
               clear HA
               simp only [spec_IsCover.l3] at H
               by_cases c27 : x8_5 < a0_0
               ·rw [if_pos c27] at H
                have c27b0 : decide (x8_5 < a0_0) = true := decide_eq_true c27
                clear c27
                replace H := Option.bind_eq_some_iff.mp H
                obtain ⟨t179, A280, H⟩ := H
                replace H : (if 0 ≤ x5_2 then (if x5_2 ≤ (wrap64 (x5_2 + 1)) then (if (wrap64 (x5_2 + 1)) ≤ (a1.size : Int) then (if 0 ≤ x6_3 then (if x6_3 ≤ (wrap64 (x6_3 + 1)) then (if (wrap64 (x6_3 + 1)) ≤ (a1.size : Int) then (if (a1.extract (x5_2 : Int).toNat ((wrap64 (x5_2 + 1)) : Int).toNat).size + (a1.extract (x6_3 : Int).toNat ((wrap64 (x6_3 + 1)) : Int).toNat).size ≤ 9223372036854775807 then (if 0 ≤ x7_4 then (if x7_4 ≤ (wrap64 (x7_4 + 1)) then (if (wrap64 (x7_4 + 1)) ≤ (a1.size : Int) then (if ((a1.extract (x5_2 : Int).toNat ((wrap64 (x5_2 + 1)) : Int).toNat) ++ (a1.extract (x6_3 : Int).toNat ((wrap64 (x6_3 + 1)) : Int).toNat)).size + (a1.extract (x7_4 : Int).toNat ((wrap64 (x7_4 + 1)) : Int).toNat).size ≤ 9223372036854775807 then (if 0 ≤ x8_5 then (if x8_5 ≤ (wrap64 (x8_5 + 1)) then (if (wrap64 (x8_5 + 1)) ≤ (a1.size : Int) then (if (((a1.extract (x5_2 : Int).toNat ((wrap64 (x5_2 + 1)) : Int).toNat) ++ (a1.extract (x6_3 : Int).toNat ((wrap64 (x6_3 + 1)) : Int).toNat)) ++ (a1.extract (x7_4 : Int).toNat ((wrap64 (x7_4 + 1)) : Int).toNat)).size + (a1.extract (x8_5 : Int).toNat ((wrap64 (x8_5 + 1)) : Int).toNat).size ≤ 9223372036854775807 then (if t179.toList = ((((a1.extract (x5_2 : Int).toNat ((wrap64 (x5_2 + 1)) : Int).toNat) ++ (a1.extract (x6_3 : Int).toNat ((wrap64 (x6_3 + 1)) : Int).toNat)) ++ (a1.extract (x7_4 : Int).toNat ((wrap64 (x7_4 + 1)) : Int).toNat)) ++ (a1.extract (x8_5 : Int).toNat ((wrap64 (x8_5 + 1)) : Int).toNat)).toList then (some false) else ((spec_OppositeText.f k5 ((((a1.extract (x5_2 : Int).toNat ((wrap64 (x5_2 + 1)) : Int).toNat) ++ (a1.extract (x6_3 : Int).toNat ((wrap64 (x6_3 + 1)) : Int).toNat)) ++ (a1.extract (x7_4 : Int).toNat ((wrap64 (x7_4 + 1)) : Int).toNat)) ++ (a1.extract (x8_5 : Int).toNat ((wrap64 (x8_5 + 1)) : Int).toNat))).bind fun t180 => (if t179.toList = t180.toList then (some false) else (spec_IsCover.l3 k5 a1 x5_2 x6_3 x7_4 (wrap64 (x8_5 + 1)) a0_0 a0_1)))) else (none)) else (none)) else (none)) else (none)) else (none)) else (none)) else (none)) else (none)) else (none)) else (none)) else (none)) else (none)) else (none)) else (none)) else (none)) = some r := H
                have A28 := Aside0.mk A280
                clear A280
                by_cases c29 : 0 ≤ x5_2
                ·rw [if_pos c29] at H
                 have c29b0 := eq_true c29
                 have c29b1 : decide (0 ≤ x5_2) = true := decide_eq_true c29
                 clear c29
                 by_cases c30 : x5_2 ≤ (wrap64 (x5_2 + 1))
                 ·rw [if_pos c30] at H
                  have c30b0 := eq_true c30
                  have c30b1 : decide (x5_2 ≤ (wrap64 (x5_2 + 1))) = true := decide_eq_true c30
                  by_cases c31 : (wrap64 (x5_2 + 1)) ≤ (a1.size : Int)
                  ·rw [if_pos c31] at H
                   have c31b0 := eq_true c31
                   have c31b1 : decide ((wrap64 (x5_2 + 1)) ≤ (a1.size : Int)) = true := decide_eq_true c31
                   by_cases c32 : 0 ≤ x6_3
                   ·rw [if_pos c32] at H
                    have c32b0 := eq_true c32
                    have c32b1 : decide (0 ≤ x6_3) = true := decide_eq_true c32
                    clear c32
                    by_cases c33 : x6_3 ≤ (wrap64 (x6_3 + 1))
                    ·rw [if_pos c33] at H
                     have c33b0 := eq_true c33
                     have c33b1 : decide (x6_3 ≤ (wrap64 (x6_3 + 1))) = true := decide_eq_true c33
                     by_cases c34 : (wrap64 (x6_3 + 1)) ≤ (a1.size : Int)
                     ·rw [if_pos c34] at H
                      have c34b0 := eq_true c34
                      have c34b1 : decide ((wrap64 (x6_3 + 1)) ≤ (a1.size : Int)) = true := decide_eq_true c34
                      by_cases c35 : (a1.extract (x5_2 : Int).toNat ((wrap64 (x5_2 + 1)) : Int).toNat).size + (a1.extract (x6_3 : Int).toNat ((wrap64 (x6_3 + 1)) : Int).toNat).size ≤ 9223372036854775807
                      ·rw [if_pos c35] at H
                       have c35b0 := eq_true c35
                       have c35b1 : decide ((a1.extract (x5_2 : Int).toNat ((wrap64 (x5_2 + 1)) : Int).toNat).size + (a1.extract (x6_3 : Int).toNat ((wrap64 (x6_3 + 1)) : Int).toNat).size ≤ 9223372036854775807) = true := decide_eq_true c35
                       try have c35b2 : (9223372036854775807 < (a1.extract (x5_2 : Int).toNat ((wrap64 (x5_2 + 1)) : Int).toNat).size + (a1.extract (x6_3 : Int).toNat ((wrap64 (x6_3 + 1)) : Int).toNat).size) = False := eq_false (Nat.not_lt.2 c35)
                       by_cases c36 : 0 ≤ x7_4
                       ·rw [if_pos c36] at H
                        have c36b0 := eq_true c36
                        have c36b1 : decide (0 ≤ x7_4) = true := decide_eq_true c36
                        clear c36
                        by_cases c37 : x7_4 ≤ (wrap64 (x7_4 + 1))
                        ·rw [if_pos c37] at H
                         have c37b0 := eq_true c37
                         have c37b1 : decide (x7_4 ≤ (wrap64 (x7_4 + 1))) = true := decide_eq_true c37
                         by_cases c38 : (wrap64 (x7_4 + 1)) ≤ (a1.size : Int)
                         ·rw [if_pos c38] at H
                          have c38b0 := eq_true c38
                          have c38b1 : decide ((wrap64 (x7_4 + 1)) ≤ (a1.size : Int)) = true := decide_eq_true c38
                          by_cases c39 : ((a1.extract (x5_2 : Int).toNat ((wrap64 (x5_2 + 1)) : Int).toNat) ++ (a1.extract (x6_3 : Int).toNat ((wrap64 (x6_3 + 1)) : Int).toNat)).size + (a1.extract (x7_4 : Int).toNat ((wrap64 (x7_4 + 1)) : Int).toNat).size ≤ 9223372036854775807
                          ·rw [if_pos c39] at H
                           have c39b0 := eq_true c39
                           have c39b1 : decide (((a1.extract (x5_2 : Int).toNat ((wrap64 (x5_2 + 1)) : Int).toNat) ++ (a1.extract (x6_3 : Int).toNat ((wrap64 (x6_3 + 1)) : Int).toNat)).size + (a1.extract (x7_4 : Int).toNat ((wrap64 (x7_4 + 1)) : Int).toNat).size ≤ 9223372036854775807) = true := decide_eq_true c39
                           try have c39b2 : (9223372036854775807 < ((a1.extract (x5_2 : Int).toNat ((wrap64 (x5_2 + 1)) : Int).toNat) ++ (a1.extract (x6_3 : Int).toNat ((wrap64 (x6_3 + 1)) : Int).toNat)).size + (a1.extract (x7_4 : Int).toNat ((wrap64 (x7_4 + 1)) : Int).toNat).size) = False := eq_false (Nat.not_lt.2 c39)
                           by_cases c40 : 0 ≤ x8_5
                           ·rw [if_pos c40] at H
                            have c40b0 := eq_true c40
                            have c40b1 : decide (0 ≤ x8_5) = true := decide_eq_true c40
                            clear c40
                            by_cases c41 : x8_5 ≤ (wrap64 (x8_5 + 1))
                            ·rw [if_pos c41] at H
                             have c41b0 := eq_true c41
                             have c41b1 : decide (x8_5 ≤ (wrap64 (x8_5 + 1))) = true := decide_eq_true c41
                             by_cases c42 : (wrap64 (x8_5 + 1)) ≤ (a1.size : Int)
                             ·rw [if_pos c42] at H
                              have c42b0 := eq_true c42
                              have c42b1 : decide ((wrap64 (x8_5 + 1)) ≤ (a1.size : Int)) = true := decide_eq_true c42
                              by_cases c43 : (((a1.extract (x5_2 : Int).toNat ((wrap64 (x5_2 + 1)) : Int).toNat) ++ (a1.extract (x6_3 : Int).toNat ((wrap64 (x6_3 + 1)) : Int).toNat)) ++ (a1.extract (x7_4 : Int).toNat ((wrap64 (x7_4 + 1)) : Int).toNat)).size + (a1.extract (x8_5 : Int).toNat ((wrap64 (x8_5 + 1)) : Int).toNat).size ≤ 9223372036854775807
                              ·rw [if_pos c43] at H
                               have c43b0 := eq_true c43
                               have c43b1 : decide ((((a1.extract (x5_2 : Int).toNat ((wrap64 (x5_2 + 1)) : Int).toNat) ++ (a1.extract (x6_3 : Int).toNat ((wrap64 (x6_3 + 1)) : Int).toNat)) ++ (a1.extract (x7_4 : Int).toNat ((wrap64 (x7_4 + 1)) : Int).toNat)).size + (a1.extract (x8_5 : Int).toNat ((wrap64 (x8_5 + 1)) : Int).toNat).size ≤ 9223372036854775807) = true := decide_eq_true c43
                               try have c43b2 : (9223372036854775807 < (((a1.extract (x5_2 : Int).toNat ((wrap64 (x5_2 + 1)) : Int).toNat) ++ (a1.extract (x6_3 : Int).toNat ((wrap64 (x6_3 + 1)) : Int).toNat)) ++ (a1.extract (x7_4 : Int).toNat ((wrap64 (x7_4 + 1)) : Int).toNat)).size + (a1.extract (x8_5 : Int).toNat ((wrap64 (x8_5 + 1)) : Int).toNat).size) = False := eq_false (Nat.not_lt.2 c43)
                               by_cases c44 : t179.toList = ((((a1.extract (x5_2 : Int).toNat ((wrap64 (x5_2 + 1)) : Int).toNat) ++ (a1.extract (x6_3 : Int).toNat ((wrap64 (x6_3 + 1)) : Int).toNat)) ++ (a1.extract (x7_4 : Int).toNat ((wrap64 (x7_4 + 1)) : Int).toNat)) ++ (a1.extract (x8_5 : Int).toNat ((wrap64 (x8_5 + 1)) : Int).toNat)).toList
                               ·rw [if_pos c44] at H
                                have c44b0 : (t179.toList == ((((a1.extract (x5_2 : Int).toNat ((wrap64 (x5_2 + 1)) : Int).toNat) ++ (a1.extract (x6_3 : Int).toNat ((wrap64 (x6_3 + 1)) : Int).toNat)) ++ (a1.extract (x7_4 : Int).toNat ((wrap64 (x7_4 + 1)) : Int).toNat)) ++ (a1.extract (x8_5 : Int).toNat ((wrap64 (x8_5 + 1)) : Int).toNat)).toList) = true := beq_iff_eq.mpr c44
                                have c44b1 : (t179.toList != ((((a1.extract (x5_2 : Int).toNat ((wrap64 (x5_2 + 1)) : Int).toNat) ++ (a1.extract (x6_3 : Int).toNat ((wrap64 (x6_3 + 1)) : Int).toNat)) ++ (a1.extract (x7_4 : Int).toNat ((wrap64 (x7_4 + 1)) : Int).toNat)) ++ (a1.extract (x8_5 : Int).toNat ((wrap64 (x8_5 + 1)) : Int).toNat)).toList) = false := bne_eq_false_iff_eq.mpr c44
                                clear c44
                                obtain rfl := Option.some.inj H
                                have hcz45_0 : wr.cell? ⟨gb175, 0, none⟩ = some (.int .i64 a0_0) := (blk_cell BK175.out 0).trans rfl
                                have hcz45_1 : wr.cell? ⟨gb175, 1, none⟩ = some (.string a0_1) := (blk_cell BK175.out 1).trans rfl
                                have hfz45_0 := blk_frozen BK175.out 0
                                have hfz45_1 := blk_frozen BK175.out 1
                                go_wp2_with (first | (go_at_call 24; (with_reducible refine (spec_l4Circuit.calls k5 a0_0 a0_1 x5_2 x6_3 x7_4 x8_5 t179 _ A28.out).mono ?_); rintro e w46 ⟨rfl, hb⟩; have n0_ := Aside0.mk (blk_below (g := gb175) (o := .cells #[.int .i64 a0_0, .string a0_1] 32 (0, 0)) (by (with_reducible repeat (first | refine blk_drewN ?_ _ | refine blk_drew ?_ | refine blk_alloc ?_ _)); exact BK175.out) hb); have n1_ := Aside0.mk (below_step (by repeat (first | (with_reducible first | exact HB.out | apply below_alloc | apply pw_below_drewN | apply below_drew1 | refine below_set ?_ GE175.out) | exact HB.out)) hb); clear BK175; clear HB; have BK175 := n0_; have HB := n1_; clear n0_ n1_; (try clear hb); (try clear hb2); (try clear hk); (try clear hi)))
                                repeat (go_quiet (first | (go_at_call 24; (with_reducible refine (spec_l4Circuit.calls k5 a0_0 a0_1 x5_2 x6_3 x7_4 x8_5 t179 _ A28.out).mono ?_); rintro e w46 ⟨rfl, hb⟩; have n0_ := Aside0.mk (blk_below (g := gb175) (o := .cells #[.int .i64 a0_0, .string a0_1] 32 (0, 0)) (by (with_reducible repeat (first | refine blk_drewN ?_ _ | refine blk_drew ?_ | refine blk_alloc ?_ _)); exact BK175.out) hb); have n1_ := Aside0.mk (below_step (by repeat (first | (with_reducible first | exact HB.out | apply below_alloc | apply pw_below_drewN | apply below_drew1 | refine below_set ?_ GE175.out) | exact HB.out)) hb); clear BK175; clear HB; have BK175 := n0_; have HB := n1_; clear n0_ n1_; (try clear hb); (try clear hb2); (try clear hk); (try clear hi))); try go_wp2_with (first | (go_at_call 24; (with_reducible refine (spec_l4Circuit.calls k5 a0_0 a0_1 x5_2 x6_3 x7_4 x8_5 t179 _ A28.out).mono ?_); rintro e w46 ⟨rfl, hb⟩; have n0_ := Aside0.mk (blk_below (g := gb175) (o := .cells #[.int .i64 a0_0, .string a0_1] 32 (0, 0)) (by (with_reducible repeat (first | refine blk_drewN ?_ _ | refine blk_drew ?_ | refine blk_alloc ?_ _)); exact BK175.out) hb); have n1_ := Aside0.mk (below_step (by repeat (first | (with_reducible first | exact HB.out | apply below_alloc | apply pw_below_drewN | apply below_drew1 | refine below_set ?_ GE175.out) | exact HB.out)) hb); clear BK175; clear HB; have BK175 := n0_; have HB := n1_; clear n0_ n1_; (try clear hb); (try clear hb2); (try clear hk); (try clear hi))))
                                go_ret
                                exact ⟨by first | rfl | (simp [errW_none, errW_some] <;> rfl) | (simp [*, errW_none, errW_some] <;> rfl), by repeat (first | (with_reducible first | exact HB.out | apply below_alloc | apply pw_below_drewN | apply below_drew1 | refine below_set ?_ GE175.out) | exact HB.out)⟩
                               ·rw [if_neg c44] at H
                                have c44b0 : (t179.toList == ((((a1.extract (x5_2 : Int).toNat ((wrap64 (x5_2 + 1)) : Int).toNat) ++ (a1.extract (x6_3 : Int).toNat ((wrap64 (x6_3 + 1)) : Int).toNat)) ++ (a1.extract (x7_4 : Int).toNat ((wrap64 (x7_4 + 1)) : Int).toNat)) ++ (a1.extract (x8_5 : Int).toNat ((wrap64 (x8_5 + 1)) : Int).toNat)).toList) = false := beq_eq_false_iff_ne.mpr c44
                                have c44b1 : (t179.toList != ((((a1.extract (x5_2 : Int).toNat ((wrap64 (x5_2 + 1)) : Int).toNat) ++ (a1.extract (x6_3 : Int).toNat ((wrap64 (x6_3 + 1)) : Int).toNat)) ++ (a1.extract (x7_4 : Int).toNat ((wrap64 (x7_4 + 1)) : Int).toNat)) ++ (a1.extract (x8_5 : Int).toNat ((wrap64 (x8_5 + 1)) : Int).toNat)).toList) = true := bne_iff_ne.mpr c44
                                replace H := Option.bind_eq_some_iff.mp H
                                obtain ⟨t180, A470, H⟩ := H
                                replace H : (if t179.toList = t180.toList then (some false) else (spec_IsCover.l3 k5 a1 x5_2 x6_3 x7_4 (wrap64 (x8_5 + 1)) a0_0 a0_1)) = some r := H
                                have A47 := Aside0.mk A470
                                clear A470
                                by_cases c48 : t179.toList = t180.toList
                                ·rw [if_pos c48] at H
                                 have c48b0 : (t179.toList == t180.toList) = true := beq_iff_eq.mpr c48
                                 have c48b1 : (t179.toList != t180.toList) = false := bne_eq_false_iff_eq.mpr c48
                                 clear c48
                                 obtain rfl := Option.some.inj H
                                 have hcz49_0 : wr.cell? ⟨gb175, 0, none⟩ = some (.int .i64 a0_0) := (blk_cell BK175.out 0).trans rfl
                                 have hcz49_1 : wr.cell? ⟨gb175, 1, none⟩ = some (.string a0_1) := (blk_cell BK175.out 1).trans rfl
                                 have hfz49_0 := blk_frozen BK175.out 0
                                 have hfz49_1 := blk_frozen BK175.out 1
                                 go_wp2_with (first | (go_at_call 24; (with_reducible refine (spec_l4Circuit.calls k5 a0_0 a0_1 x5_2 x6_3 x7_4 x8_5 t179 _ A28.out).mono ?_); rintro e w50 ⟨rfl, hb⟩; have n0_ := Aside0.mk (blk_below (g := gb175) (o := .cells #[.int .i64 a0_0, .string a0_1] 32 (0, 0)) (by (with_reducible repeat (first | refine blk_drewN ?_ _ | refine blk_drew ?_ | refine blk_alloc ?_ _)); exact BK175.out) hb); have n1_ := Aside0.mk (below_step (by repeat (first | (with_reducible first | exact HB.out | apply below_alloc | apply pw_below_drewN | apply below_drew1 | refine below_set ?_ GE175.out) | exact HB.out)) hb); clear BK175; clear HB; have BK175 := n0_; have HB := n1_; clear n0_ n1_; (try clear hb); (try clear hb2); (try clear hk); (try clear hi)) | (go_at_call 9; refine calls_of_args (args' := #[.string ((((a1.extract (x5_2 : Int).toNat ((wrap64 (x5_2 + 1)) : Int).toNat) ++ (a1.extract (x6_3 : Int).toNat ((wrap64 (x6_3 + 1)) : Int).toNat)) ++ (a1.extract (x7_4 : Int).toNat ((wrap64 (x7_4 + 1)) : Int).toNat)) ++ (a1.extract (x8_5 : Int).toNat ((wrap64 (x8_5 + 1)) : Int).toNat))]) (by first | rfl | (simp only [List.length_drop, List.length_take]; rfl)) ?_; (with_reducible refine (spec_OppositeText.calls k5 ((((a1.extract (x5_2 : Int).toNat ((wrap64 (x5_2 + 1)) : Int).toNat) ++ (a1.extract (x6_3 : Int).toNat ((wrap64 (x6_3 + 1)) : Int).toNat)) ++ (a1.extract (x7_4 : Int).toNat ((wrap64 (x7_4 + 1)) : Int).toNat)) ++ (a1.extract (x8_5 : Int).toNat ((wrap64 (x8_5 + 1)) : Int).toNat)) t180 _ A47.out).mono ?_); rintro e w' ⟨rfl, ⟨nd, rfl⟩⟩; (try first | exact ⟨rfl, _, World.drewN_drewN _ _ _⟩ | exact ⟨rfl, _, Eq.trans (World.drewN_drewN _ _ _) (congrArg (World.drewN _) (Nat.add_assoc _ _ _))⟩)))
                                 repeat (go_quiet (first | (go_at_call 24; (with_reducible refine (spec_l4Circuit.calls k5 a0_0 a0_1 x5_2 x6_3 x7_4 x8_5 t179 _ A28.out).mono ?_); rintro e w50 ⟨rfl, hb⟩; have n0_ := Aside0.mk (blk_below (g := gb175) (o := .cells #[.int .i64 a0_0, .string a0_1] 32 (0, 0)) (by (with_reducible repeat (first | refine blk_drewN ?_ _ | refine blk_drew ?_ | refine blk_alloc ?_ _)); exact BK175.out) hb); have n1_ := Aside0.mk (below_step (by repeat (first | (with_reducible first | exact HB.out | apply below_alloc | apply pw_below_drewN | apply below_drew1 | refine below_set ?_ GE175.out) | exact HB.out)) hb); clear BK175; clear HB; have BK175 := n0_; have HB := n1_; clear n0_ n1_; (try clear hb); (try clear hb2); (try clear hk); (try clear hi)) | (go_at_call 9; refine calls_of_args (args' := #[.string ((((a1.extract (x5_2 : Int).toNat ((wrap64 (x5_2 + 1)) : Int).toNat) ++ (a1.extract (x6_3 : Int).toNat ((wrap64 (x6_3 + 1)) : Int).toNat)) ++ (a1.extract (x7_4 : Int).toNat ((wrap64 (x7_4 + 1)) : Int).toNat)) ++ (a1.extract (x8_5 : Int).toNat ((wrap64 (x8_5 + 1)) : Int).toNat))]) (by first | rfl | (simp only [List.length_drop, List.length_take]; rfl)) ?_; (with_reducible refine (spec_OppositeText.calls k5 ((((a1.extract (x5_2 : Int).toNat ((wrap64 (x5_2 + 1)) : Int).toNat) ++ (a1.extract (x6_3 : Int).toNat ((wrap64 (x6_3 + 1)) : Int).toNat)) ++ (a1.extract (x7_4 : Int).toNat ((wrap64 (x7_4 + 1)) : Int).toNat)) ++ (a1.extract (x8_5 : Int).toNat ((wrap64 (x8_5 + 1)) : Int).toNat)) t180 _ A47.out).mono ?_); rintro e w' ⟨rfl, ⟨nd, rfl⟩⟩; (try first | exact ⟨rfl, _, World.drewN_drewN _ _ _⟩ | exact ⟨rfl, _, Eq.trans (World.drewN_drewN _ _ _) (congrArg (World.drewN _) (Nat.add_assoc _ _ _))⟩))); try go_wp2_with (first | (go_at_call 24; (with_reducible refine (spec_l4Circuit.calls k5 a0_0 a0_1 x5_2 x6_3 x7_4 x8_5 t179 _ A28.out).mono ?_); rintro e w50 ⟨rfl, hb⟩; have n0_ := Aside0.mk (blk_below (g := gb175) (o := .cells #[.int .i64 a0_0, .string a0_1] 32 (0, 0)) (by (with_reducible repeat (first | refine blk_drewN ?_ _ | refine blk_drew ?_ | refine blk_alloc ?_ _)); exact BK175.out) hb); have n1_ := Aside0.mk (below_step (by repeat (first | (with_reducible first | exact HB.out | apply below_alloc | apply pw_below_drewN | apply below_drew1 | refine below_set ?_ GE175.out) | exact HB.out)) hb); clear BK175; clear HB; have BK175 := n0_; have HB := n1_; clear n0_ n1_; (try clear hb); (try clear hb2); (try clear hk); (try clear hi)) | (go_at_call 9; refine calls_of_args (args' := #[.string ((((a1.extract (x5_2 : Int).toNat ((wrap64 (x5_2 + 1)) : Int).toNat) ++ (a1.extract (x6_3 : Int).toNat ((wrap64 (x6_3 + 1)) : Int).toNat)) ++ (a1.extract (x7_4 : Int).toNat ((wrap64 (x7_4 + 1)) : Int).toNat)) ++ (a1.extract (x8_5 : Int).toNat ((wrap64 (x8_5 + 1)) : Int).toNat))]) (by first | rfl | (simp only [List.length_drop, List.length_take]; rfl)) ?_; (with_reducible refine (spec_OppositeText.calls k5 ((((a1.extract (x5_2 : Int).toNat ((wrap64 (x5_2 + 1)) : Int).toNat) ++ (a1.extract (x6_3 : Int).toNat ((wrap64 (x6_3 + 1)) : Int).toNat)) ++ (a1.extract (x7_4 : Int).toNat ((wrap64 (x7_4 + 1)) : Int).toNat)) ++ (a1.extract (x8_5 : Int).toNat ((wrap64 (x8_5 + 1)) : Int).toNat)) t180 _ A47.out).mono ?_); rintro e w' ⟨rfl, ⟨nd, rfl⟩⟩; (try first | exact ⟨rfl, _, World.drewN_drewN _ _ _⟩ | exact ⟨rfl, _, Eq.trans (World.drewN_drewN _ _ _) (congrArg (World.drewN _) (Nat.add_assoc _ _ _))⟩))))
                                 go_ret
                                 exact ⟨by first | rfl | (simp [errW_none, errW_some] <;> rfl) | (simp [*, errW_none, errW_some] <;> rfl), by repeat (first | (with_reducible first | exact HB.out | apply below_alloc | apply pw_below_drewN | apply below_drew1 | refine below_set ?_ GE175.out) | exact HB.out)⟩
                                ·rw [if_neg c48] at H
                                 have c48b0 : (t179.toList == t180.toList) = false := beq_eq_false_iff_ne.mpr c48
                                 have c48b1 : (t179.toList != t180.toList) = true := bne_iff_ne.mpr c48
                                 have H' := Aside0.mk H
                                 clear H
                                 have hcz51_0 : wr.cell? ⟨gb175, 0, none⟩ = some (.int .i64 a0_0) := (blk_cell BK175.out 0).trans rfl
                                 have hcz51_1 : wr.cell? ⟨gb175, 1, none⟩ = some (.string a0_1) := (blk_cell BK175.out 1).trans rfl
                                 have hfz51_0 := blk_frozen BK175.out 0
                                 have hfz51_1 := blk_frozen BK175.out 1
                                 go_wp2_with (first | (go_at_call 24; (with_reducible refine (spec_l4Circuit.calls k5 a0_0 a0_1 x5_2 x6_3 x7_4 x8_5 t179 _ A28.out).mono ?_); rintro e w52 ⟨rfl, hb⟩; have n0_ := Aside0.mk (blk_below (g := gb175) (o := .cells #[.int .i64 a0_0, .string a0_1] 32 (0, 0)) (by (with_reducible repeat (first | refine blk_drewN ?_ _ | refine blk_drew ?_ | refine blk_alloc ?_ _)); exact BK175.out) hb); have n1_ := Aside0.mk (below_step (by repeat (first | (with_reducible first | exact HB.out | apply below_alloc | apply pw_below_drewN | apply below_drew1 | refine below_set ?_ GE175.out) | exact HB.out)) hb); clear BK175; clear HB; have BK175 := n0_; have HB := n1_; clear n0_ n1_; (try clear hb); (try clear hb2); (try clear hk); (try clear hi)) | (go_at_call 9; refine calls_of_args (args' := #[.string ((((a1.extract (x5_2 : Int).toNat ((wrap64 (x5_2 + 1)) : Int).toNat) ++ (a1.extract (x6_3 : Int).toNat ((wrap64 (x6_3 + 1)) : Int).toNat)) ++ (a1.extract (x7_4 : Int).toNat ((wrap64 (x7_4 + 1)) : Int).toNat)) ++ (a1.extract (x8_5 : Int).toNat ((wrap64 (x8_5 + 1)) : Int).toNat))]) (by first | rfl | (simp only [List.length_drop, List.length_take]; rfl)) ?_; (with_reducible refine (spec_OppositeText.calls k5 ((((a1.extract (x5_2 : Int).toNat ((wrap64 (x5_2 + 1)) : Int).toNat) ++ (a1.extract (x6_3 : Int).toNat ((wrap64 (x6_3 + 1)) : Int).toNat)) ++ (a1.extract (x7_4 : Int).toNat ((wrap64 (x7_4 + 1)) : Int).toNat)) ++ (a1.extract (x8_5 : Int).toNat ((wrap64 (x8_5 + 1)) : Int).toNat)) t180 _ A47.out).mono ?_); rintro e w' ⟨rfl, ⟨nd, rfl⟩⟩; (try first | exact ⟨rfl, _, World.drewN_drewN _ _ _⟩ | exact ⟨rfl, _, Eq.trans (World.drewN_drewN _ _ _) (congrArg (World.drewN _) (Nat.add_assoc _ _ _))⟩)))
                                 repeat (go_quiet (first | (go_at_call 24; (with_reducible refine (spec_l4Circuit.calls k5 a0_0 a0_1 x5_2 x6_3 x7_4 x8_5 t179 _ A28.out).mono ?_); rintro e w52 ⟨rfl, hb⟩; have n0_ := Aside0.mk (blk_below (g := gb175) (o := .cells #[.int .i64 a0_0, .string a0_1] 32 (0, 0)) (by (with_reducible repeat (first | refine blk_drewN ?_ _ | refine blk_drew ?_ | refine blk_alloc ?_ _)); exact BK175.out) hb); have n1_ := Aside0.mk (below_step (by repeat (first | (with_reducible first | exact HB.out | apply below_alloc | apply pw_below_drewN | apply below_drew1 | refine below_set ?_ GE175.out) | exact HB.out)) hb); clear BK175; clear HB; have BK175 := n0_; have HB := n1_; clear n0_ n1_; (try clear hb); (try clear hb2); (try clear hk); (try clear hi)) | (go_at_call 9; refine calls_of_args (args' := #[.string ((((a1.extract (x5_2 : Int).toNat ((wrap64 (x5_2 + 1)) : Int).toNat) ++ (a1.extract (x6_3 : Int).toNat ((wrap64 (x6_3 + 1)) : Int).toNat)) ++ (a1.extract (x7_4 : Int).toNat ((wrap64 (x7_4 + 1)) : Int).toNat)) ++ (a1.extract (x8_5 : Int).toNat ((wrap64 (x8_5 + 1)) : Int).toNat))]) (by first | rfl | (simp only [List.length_drop, List.length_take]; rfl)) ?_; (with_reducible refine (spec_OppositeText.calls k5 ((((a1.extract (x5_2 : Int).toNat ((wrap64 (x5_2 + 1)) : Int).toNat) ++ (a1.extract (x6_3 : Int).toNat ((wrap64 (x6_3 + 1)) : Int).toNat)) ++ (a1.extract (x7_4 : Int).toNat ((wrap64 (x7_4 + 1)) : Int).toNat)) ++ (a1.extract (x8_5 : Int).toNat ((wrap64 (x8_5 + 1)) : Int).toNat)) t180 _ A47.out).mono ?_); rintro e w' ⟨rfl, ⟨nd, rfl⟩⟩; (try first | exact ⟨rfl, _, World.drewN_drewN _ _ _⟩ | exact ⟨rfl, _, Eq.trans (World.drewN_drewN _ _ _) (congrArg (World.drewN _) (Nat.add_assoc _ _ _))⟩))); try go_wp2_with (first | (go_at_call 24; (with_reducible refine (spec_l4Circuit.calls k5 a0_0 a0_1 x5_2 x6_3 x7_4 x8_5 t179 _ A28.out).mono ?_); rintro e w52 ⟨rfl, hb⟩; have n0_ := Aside0.mk (blk_below (g := gb175) (o := .cells #[.int .i64 a0_0, .string a0_1] 32 (0, 0)) (by (with_reducible repeat (first | refine blk_drewN ?_ _ | refine blk_drew ?_ | refine blk_alloc ?_ _)); exact BK175.out) hb); have n1_ := Aside0.mk (below_step (by repeat (first | (with_reducible first | exact HB.out | apply below_alloc | apply pw_below_drewN | apply below_drew1 | refine below_set ?_ GE175.out) | exact HB.out)) hb); clear BK175; clear HB; have BK175 := n0_; have HB := n1_; clear n0_ n1_; (try clear hb); (try clear hb2); (try clear hk); (try clear hi)) | (go_at_call 9; refine calls_of_args (args' := #[.string ((((a1.extract (x5_2 : Int).toNat ((wrap64 (x5_2 + 1)) : Int).toNat) ++ (a1.extract (x6_3 : Int).toNat ((wrap64 (x6_3 + 1)) : Int).toNat)) ++ (a1.extract (x7_4 : Int).toNat ((wrap64 (x7_4 + 1)) : Int).toNat)) ++ (a1.extract (x8_5 : Int).toNat ((wrap64 (x8_5 + 1)) : Int).toNat))]) (by first | rfl | (simp only [List.length_drop, List.length_take]; rfl)) ?_; (with_reducible refine (spec_OppositeText.calls k5 ((((a1.extract (x5_2 : Int).toNat ((wrap64 (x5_2 + 1)) : Int).toNat) ++ (a1.extract (x6_3 : Int).toNat ((wrap64 (x6_3 + 1)) : Int).toNat)) ++ (a1.extract (x7_4 : Int).toNat ((wrap64 (x7_4 + 1)) : Int).toNat)) ++ (a1.extract (x8_5 : Int).toNat ((wrap64 (x8_5 + 1)) : Int).toNat)) t180 _ A47.out).mono ?_); rintro e w' ⟨rfl, ⟨nd, rfl⟩⟩; (try first | exact ⟨rfl, _, World.drewN_drewN _ _ _⟩ | exact ⟨rfl, _, Eq.trans (World.drewN_drewN _ _ _) (congrArg (World.drewN _) (Nat.add_assoc _ _ _))⟩))))
                                 go_roundg k5
                                 case measure => have := HJ2.out; have := HK2.out; have := HK3.out; have := HK4.out; have := HK5.out; omega
                                 case rel => exact ⟨(wrap64 (x8_5 + 1)), (by first | rfl | (simp; done) | (simp [*]; done)), H', ⟨by have := HJ2.out; have := HK2.out; have := HK3.out; have := HK4.out; have := HK5.out; omega⟩, ⟨by (with_reducible repeat (first | refine blk_drewN ?_ _ | refine blk_drew ?_ | refine blk_alloc ?_ _)); exact BK175.out⟩, ⟨by repeat (first | (with_reducible first | exact HB.out | apply below_alloc | apply pw_below_drewN | apply below_drew1 | refine below_set ?_ GE175.out) | exact HB.out)⟩⟩
                              ·rw [if_neg c43] at H
                               exact absurd H (by simp)
                             ·rw [if_neg c42] at H
                              exact absurd H (by simp)
                            ·rw [if_neg c41] at H
                             exact absurd H (by simp)
                           ·rw [if_neg c40] at H
                            exact absurd H (by simp)
                          ·rw [if_neg c39] at H
                           exact absurd H (by simp)
                         ·rw [if_neg c38] at H
                          exact absurd H (by simp)
                        ·rw [if_neg c37] at H
                         exact absurd H (by simp)
                       ·rw [if_neg c36] at H
                        exact absurd H (by simp)
                      ·rw [if_neg c35] at H
                       exact absurd H (by simp)
                     ·rw [if_neg c34] at H
                      exact absurd H (by simp)
                    ·rw [if_neg c33] at H
                     exact absurd H (by simp)
                   ·rw [if_neg c32] at H
                    exact absurd H (by simp)
                  ·rw [if_neg c31] at H
                   exact absurd H (by simp)
                 ·rw [if_neg c30] at H
                  exact absurd H (by simp)
                ·rw [if_neg c29] at H
                 exact absurd H (by simp)
               ·rw [if_neg c27] at H
                have c27b0 : decide (x8_5 < a0_0) = false := decide_eq_false c27
                clear c27
                have H' := Aside0.mk H
                clear H
                have hcz53_0 : wr.cell? ⟨gb175, 0, none⟩ = some (.int .i64 a0_0) := (blk_cell BK175.out 0).trans rfl
                have hcz53_1 : wr.cell? ⟨gb175, 1, none⟩ = some (.string a0_1) := (blk_cell BK175.out 1).trans rfl
                have hfz53_0 := blk_frozen BK175.out 0
                have hfz53_1 := blk_frozen BK175.out 1
                go_wp2
                repeat (go_quiet (fail); try go_wp2)
                go_roundg k5
                case measure => have := HJ2.out; have := HK2.out; have := HK3.out; have := HK4.out; have := HK5.out; omega
                case rel => exact ⟨(wrap64 (x7_4 + 1)), (by first | rfl | (simp; done) | (simp [*]; done)), H', ⟨by have := HJ2.out; have := HK2.out; have := HK3.out; have := HK4.out; have := HK5.out; omega⟩, ⟨by (with_reducible repeat (first | refine blk_drewN ?_ _ | refine blk_drew ?_ | refine blk_alloc ?_ _)); exact BK175.out⟩, ⟨by repeat (first | (with_reducible first | exact HB.out | apply below_alloc | apply pw_below_drewN | apply below_drew1 | refine below_set ?_ GE175.out) | exact HB.out)⟩⟩
            ·rw [if_neg c25] at H
             have c25b0 : decide (x7_4 < a0_0) = false := decide_eq_false c25
             clear c25
             have H' := Aside0.mk H
             clear H
             have hcz54_0 : wr.cell? ⟨gb175, 0, none⟩ = some (.int .i64 a0_0) := (blk_cell BK175.out 0).trans rfl
             have hcz54_1 : wr.cell? ⟨gb175, 1, none⟩ = some (.string a0_1) := (blk_cell BK175.out 1).trans rfl
             have hfz54_0 := blk_frozen BK175.out 0
             have hfz54_1 := blk_frozen BK175.out 1
             go_wp2
             repeat (go_quiet (fail); try go_wp2)
             go_roundg k4
             case measure => have := HJ2.out; have := HK2.out; have := HK3.out; have := HK4.out; omega
             case rel => exact ⟨(wrap64 (x6_3 + 1)), (by first | rfl | (simp; done) | (simp [*]; done)), H', ⟨by have := HJ2.out; have := HK2.out; have := HK3.out; have := HK4.out; omega⟩, ⟨by (with_reducible repeat (first | refine blk_drewN ?_ _ | refine blk_drew ?_ | refine blk_alloc ?_ _)); exact BK175.out⟩, ⟨by repeat (first | (with_reducible first | exact HB.out | apply below_alloc | apply pw_below_drewN | apply below_drew1 | refine below_set ?_ GE175.out) | exact HB.out)⟩⟩
         ·rw [if_neg c23] at H
          have c23b0 : decide (x6_3 < a0_0) = false := decide_eq_false c23
          clear c23
          have H' := Aside0.mk H
          clear H
          have hcz55_0 : wr.cell? ⟨gb175, 0, none⟩ = some (.int .i64 a0_0) := (blk_cell BK175.out 0).trans rfl
          have hcz55_1 : wr.cell? ⟨gb175, 1, none⟩ = some (.string a0_1) := (blk_cell BK175.out 1).trans rfl
          have hfz55_0 := blk_frozen BK175.out 0
          have hfz55_1 := blk_frozen BK175.out 1
          go_wp2
          repeat (go_quiet (fail); try go_wp2)
          go_roundg k3
          case measure => have := HJ2.out; have := HK2.out; have := HK3.out; omega
          case rel => exact ⟨(wrap64 (x5_2 + 1)), (by first | rfl | (simp; done) | (simp [*]; done)), H', ⟨by have := HJ2.out; have := HK2.out; have := HK3.out; omega⟩, ⟨by (with_reducible repeat (first | refine blk_drewN ?_ _ | refine blk_drew ?_ | refine blk_alloc ?_ _)); exact BK175.out⟩, ⟨by repeat (first | (with_reducible first | exact HB.out | apply below_alloc | apply pw_below_drewN | apply below_drew1 | refine below_set ?_ GE175.out) | exact HB.out)⟩⟩
      ·rw [if_neg c21] at H
       have c21b0 : decide (x5_2 < a0_0) = false := decide_eq_false c21
       clear c21
       obtain rfl := Option.some.inj H
       have hcz56_0 : wr.cell? ⟨gb175, 0, none⟩ = some (.int .i64 a0_0) := (blk_cell BK175.out 0).trans rfl
       have hcz56_1 : wr.cell? ⟨gb175, 1, none⟩ = some (.string a0_1) := (blk_cell BK175.out 1).trans rfl
       have hfz56_0 := blk_frozen BK175.out 0
       have hfz56_1 := blk_frozen BK175.out 1
       go_wp2
       repeat (go_quiet (fail); try go_wp2)
       go_ret
       exact ⟨by first | rfl | (simp [errW_none, errW_some] <;> rfl) | (simp [*, errW_none, errW_some] <;> rfl), by repeat (first | (with_reducible first | exact HB.out | apply below_alloc | apply pw_below_drewN | apply below_drew1 | refine below_set ?_ GE175.out) | exact HB.out)⟩
end Go.Proofs.YtajogmlblknfdaaDoor.P
