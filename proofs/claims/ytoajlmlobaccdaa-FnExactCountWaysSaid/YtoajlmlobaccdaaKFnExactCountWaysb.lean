/- What the law FnExactCountWays reaches, part 2: functions as plain Lean functions with the proofs that their calls come to them, and plain lemmas over these. Put together by a program (wip/pack.py). -/
import Derived.Test.YtoajlmlobaccdaaKFnExactCountWaysa
namespace Go.Proofs.Ytoajlmlobaccdaa.P
open Go.RowKit Go.Proofs.YtoajlmlobaccdaaW.PrintWords Go.Proofs.YtoajlmlobaccdaaW.PrintLast Go.Proofs.YtoajlmlobaccdaaW.PrintMore
attribute [local go_sem] ptrOf_slice
attribute [local go_sem] min2_str max2_int min2_int max_two min_two max_three min_three max_four min_four
set_option linter.unusedVariables false
set_option linter.unusedSimpArgs false
def impl_run_impl_IsWiring_1.l0 : Nat → Int → List Int → List Int → Int → Int → Option (Bool)
 | 0, _, _, _, _, _ => none
 | k + 1, x0, x7, x12, x13, x14 => if x14 < x13 then (if 0 ≤ x14 then (if x14 < (x12.length : Int) then (if (rd x12 x14) < 0 then (some false) else (if (rd x12 x14) > (wrap64 (x0 - 2)) then (some false) else (if 0 ≤ (rd x12 x14) then (if (rd x12 x14) < (x7.length : Int) then (if 0 ≤ (wrap64 ((rd x12 x14) + 1)) then (if (wrap64 ((rd x12 x14) + 1)) < (x7.length : Int) then (if (rd x7 (rd x12 x14)) > (rd x7 (wrap64 ((rd x12 x14) + 1))) then (some false) else ((impl_IsWiring_1.f x7 (rd x12 x14)).bind fun _ => (impl_run_impl_IsWiring_1.l0 k x0 ((x7.set ((rd x12 x14) : Int).toNat (rd x7 (wrap64 ((rd x12 x14) + 1)))).set ((wrap64 ((rd x12 x14) + 1)) : Int).toNat (rd x7 (rd x12 x14))) x12 x13 (wrap64 (x14 + 1))))) else (none)) else (none)) else (none)) else (none)))) else (none)) else (none)) else (some true)
def impl_run_impl_IsWiring_1.f (k : Nat) (a0 : Int) (l1 : List Int) (a2 : Unit) : Option (Bool) := (impl_upTo.f k a0).bind fun t777 => (impl_run_impl_IsWiring_1.l0 k a0 t777 l1 (l1.length : Int) 0)
theorem impl_run_impl_IsWiring_1.mono_l : ∀ k, (∀ y0 y1 y2 y3 y4, LeO (impl_run_impl_IsWiring_1.l0 k y0 y1 y2 y3 y4) (impl_run_impl_IsWiring_1.l0 (k + 1) y0 y1 y2 y3 y4))
 | 0 => fun _ _ _ _ _ r h => by simp [impl_run_impl_IsWiring_1.l0] at h
 | k + 1 => by
  have ih0 := impl_run_impl_IsWiring_1.mono_l k
  ·intro y0 y1 y2 y3 y4; unfold impl_run_impl_IsWiring_1.l0
   repeat' first | (with_reducible first | apply ih0 | apply impl_upTo.mono | exact LeO.refl _ | exact LeO.none _ | refine LeO.ite ?_ ?_ | refine LeO.bind ?_ (fun _ => ?_)) | exact LeO.none _
theorem impl_run_impl_IsWiring_1.mono : ∀ a0 a1 a2 k, LeO (impl_run_impl_IsWiring_1.f k a0 a1 a2) (impl_run_impl_IsWiring_1.f (k + 1) a0 a1 a2) := by
 intro a0 a1 a2 k; have ih0 := impl_run_impl_IsWiring_1.mono_l k; unfold impl_run_impl_IsWiring_1.f
 repeat' first | (with_reducible first | apply ih0 | apply impl_upTo.mono | exact LeO.refl _ | exact LeO.none _ | refine LeO.ite ?_ ?_ | refine LeO.bind ?_ (fun _ => ?_)) | exact LeO.none _
def impl_run_impl_IsWiring_1.T5 : Bool × List (List Nat × List Nat) := (true, [([], []), ([0], [0]), ([1], [1]), ([2], [2]), ([2], [2]), ([4, 2], [2, 4]), ([3, 5, 2], [2, 3, 5]), ([2, 6], [2, 6]), ([7, 2], [7]), ([8], [8]), ([8], [8]), ([9, 10, 8], [8, 9, 10]), ([11, 8], [8, 11]), ([8], [8]), ([8], [8]), ([14, 8], [8, 14]), ([13, 15, 8], [8, 13, 15]), ([16, 8], [8, 16]), ([12, 17, 8], [8, 12, 17]), ([8, 18], [8, 18])])
def impl_run_impl_IsWiring_1.B5 : List Nat := [0, 1, 3, 7, 7, 23, 63, 127, 255, 511, 511, 2047, 4095, 511, 511, 16895, 57855, 123391, 262143, 524287]
theorem impl_run_impl_IsWiring_1.tab5 : rtab .any (opsOf Try.f113 5) = impl_run_impl_IsWiring_1.T5 := by kernel_rfl
theorem impl_run_impl_IsWiring_1.bits5 : waitsOk impl_run_impl_IsWiring_1.T5.2 impl_run_impl_IsWiring_1.B5 = true := by kernel_rfl
def impl_run_impl_IsWiring_1.T8 : Bool × List (List Nat × List Nat) := (true, [([], []), ([], []), ([], []), ([], []), ([3], [3]), ([], []), ([], []), ([6], [6]), ([5, 7], [5, 7]), ([8], [8]), ([], []), ([], []), ([10, 11], [10, 11]), ([12], [12]), ([0, 1, 0, 1, 5, 6, 7, 8, 9, 13], [0, 1]), ([14, 9, 0, 1, 5, 6, 7, 8, 9, 13], [9, 14]), ([2, 4, 0, 1, 2, 3, 4, 5, 6, 7, 8, 9, 10, 11, 12, 13, 14, 15], [2, 4]), ([16, 13, 15, 0, 1, 2, 3, 4, 5, 6, 7, 8, 9, 10, 11, 12, 13, 14, 15], [13, 16])])
def impl_run_impl_IsWiring_1.B8 : List Nat := [0, 0, 0, 0, 8, 0, 0, 64, 224, 480, 0, 0, 3072, 7168, 16355, 32739, 65535, 131071]
theorem impl_run_impl_IsWiring_1.tab8 : rtab .any (opsOf Try.f113 8) = impl_run_impl_IsWiring_1.T8 := by kernel_rfl
theorem impl_run_impl_IsWiring_1.bits8 : waitsOk impl_run_impl_IsWiring_1.T8.2 impl_run_impl_IsWiring_1.B8 = true := by kernel_rfl
set_option maxHeartbeats 8000000 in
set_option maxRecDepth 100000 in
theorem impl_run_impl_IsWiring_1.calls (k : Nat) (a0 : Int) (A1 : Option Addr) (c1 : Nat) (l1 : List Int) (a2 : Unit) (r : Bool) (w : World) (hr1 : Kd.C (Kd.int .i64) w A1 l1.length l1) (hc1 : l1.length ≤ c1) (h : impl_run_impl_IsWiring_1.f k a0 l1 a2 = some r) :
  Calls Try.prog 113 #[.int .i64 a0, .slice A1 l1.length c1, .func (.func 163) #[] #[]] w fun e w' => e = .returned (.bool r) ∧ Below w.heap.size w w' := by
 have HR1 := am_ hr1; have HC1 := am_ hc1; clear hr1 hc1; have HB := am_ (Below.refl w.heap.size w); have H : ((impl_upTo.f k a0).bind fun t777 => (impl_run_impl_IsWiring_1.l0 k a0 t777 l1 (l1.length : Int) 0)) = some r := h; clear h; obtain ⟨t777, A4, H⟩ := bnd_ H; have H' := am_ H; clear H; go_enter Try.func113, Try.ntmps113
 go_wp2_with (first | ((with_reducible refine gc_ 168 rfl ?_); refine gR_ (some 11) Try.func168 #[.int .i64 a0] (impl_upTo.calls k a0 t777 _ A4.out) ?_; intro w5 v778 ho0 hb; have HO779 := rl0_ ho0 HB; replace HB := bs0_ HB hb; try clear hb; (try clear ho0)))
 go_loopg [14] k (fun kq v14 w' => ∃ (x7_1 : List Int) (x14_1 : Int), v14 = .int .i64 x14_1 ∧ Aside0 (impl_run_impl_IsWiring_1.l0 kq a0 x7_1 l1 (l1.length : Int) x14_1 = some r) ∧ Aside0 (kq ≤ k) ∧ Aside0 (Kd.R (Kd.int .i64) 3 w' w.heap.size (fun _ => True) v778 x7_1) ∧ Aside0 (Below w.heap.size w w'))
 case atStart => exact ⟨(t777), (0), vt_, H', ⟨Nat.le_refl _⟩, rX_ HO779, bX0_ HB⟩
 case round =>
  clear H'; obtain ⟨x7_1, x14_1, rfl, HA, HK1, HO_7, HB⟩ := hrel; cases gk with
  | zero => exact absurd HA.out (by simp [impl_run_impl_IsWiring_1.l0])
  | succ k1 =>
   have H := HA.out; clear HA; simp only [impl_run_impl_IsWiring_1.l0] at H
   by_cases c6 : x14_1 < (l1.length : Int)
   ·rw [if_pos c6] at H; have c6b0 := decide_eq_true c6; clear c6; by_cases c7 : 0 ≤ x14_1
    ·rw [if_pos c7] at H; have c7b0 := decide_eq_true c7; clear c7; by_cases c8 : x14_1 < (l1.length : Int)
     ·rw [if_pos c8] at H; have c8b0 := decide_eq_true c8; clear c8; by_cases c9 : (rd l1 x14_1) < 0
      ·rw [if_pos c9] at H; have c9b0 := decide_eq_true c9; clear c9; obtain rfl := Option.some.inj H; have p780 : 0 ≤ (x14_1 : Int) := oda_; have q780 : x14_1 < (l1.length : Int) := oda_; obtain ⟨ad780, e780, hx780_0⟩ := Kd.at_int HR1.out x14_1 p780 q780; cases e780; replace hx780_0 := hc_ HB hx780_0; replace p780 := eq_true p780; replace q780 := eq_true q780; try go_wp2
       replace HO_7 := am_ (Kd.R_drew HO_7.out); replace HB := bd_ HB; refine start_ (n := 20) (S := fun w' => True) (ds := []) #[false, false, false, false, false, false, false, false, false, false, false, false, false, false, false, false, false, false, false, false] (by kernel_rfl) rfl rfl trivial (fun hHeld => ?_); refine with_tabW impl_run_impl_IsWiring_1.tab5 impl_run_impl_IsWiring_1.bits5 (fun HT_ HW_ => ?_); generalize wr.drew = w10 at HO_7 HB hHeld ⊢
       refine pD_ 0 (some 18) HT_ (h := ?_); refine pD_ 1 (some 19) HT_ (h := ?_); refine pD_ 2 (some 20) HT_ (h := ?_); refine pure_ (i := 3) (N := some 21) (v := undef) (a' := ?_) #[true, true, true, true, false, false, false, false, false, false, false, false, false, false, false, false, false, false, false, false] rfl rfl (any_of HT_.out (by kernel_rfl)) (fun _ _ _ h => h) (Or.inr ⟨by rfl, rfl⟩) ?_ ?_; rotate_left
       ·simp only [Act.put, sA_, sZ_, sS_, i64_w, i32_w]
        rfl
       refine pure_ (i := 4) (N := some 22) (v := undef) (a' := ?_) #[true, true, true, true, true, false, false, false, false, false, false, false, false, false, false, false, false, false, false, false] rfl rfl (any_of HT_.out (by kernel_rfl)) (fun _ _ _ h => h) (Or.inr ⟨by rfl, rfl⟩) ?_ ?_; rotate_left
       ·simp only [Act.put, sA_, sZ_, sS_, i64_w, i32_w]
        rfl
       refine pure_ (i := 5) (N := some 23) (v := undef) (a' := ?_) #[true, true, true, true, true, true, false, false, false, false, false, false, false, false, false, false, false, false, false, false] rfl rfl (any_of HT_.out (by kernel_rfl)) (fun _ _ _ h => h) (Or.inr ⟨by rfl, rfl⟩) ?_ ?_; rotate_left
       ·simp only [Act.put, sA_, sZ_, sS_, i64_w, i32_w]
        rfl
       refine pure_ (i := 6) (N := some 24) (v := undef) (a' := ?_) #[true, true, true, true, true, true, true, false, false, false, false, false, false, false, false, false, false, false, false, false] rfl rfl (any_of HT_.out (by kernel_rfl)) (fun _ _ _ h => h) (Or.inr ⟨by rfl, rfl⟩) ?_ ?_; rotate_left
       ·simp only [Act.put, sA_, sZ_, sS_, i64_w, i32_w]
        rfl
       refine pD_ 7 (some 25) HT_ (h := ?_); refine pD_ 8 (some 26) HT_ (h := ?_); refine pure_ (i := 9) (N := some 27) (v := undef) (a' := ?_) #[true, true, true, true, true, true, true, true, true, true, false, false, false, false, false, false, false, false, false, false] rfl rfl (any_of HT_.out (by kernel_rfl)) (fun _ _ _ h => h) (Or.inr ⟨by rfl, rfl⟩) ?_ ?_; rotate_left
       ·simp only [Act.put, sA_, sZ_, sS_, i64_w, i32_w]
        rfl
       refine pure_ (i := 10) (N := some 28) (v := undef) (a' := ?_) #[true, true, true, true, true, true, true, true, true, true, true, false, false, false, false, false, false, false, false, false] rfl rfl (any_of HT_.out (by kernel_rfl)) (fun _ _ _ h => h) (Or.inr ⟨by rfl, rfl⟩) ?_ ?_; rotate_left
       ·simp only [Act.put, sA_, sZ_, sS_, i64_w, i32_w]
        rfl
       refine pure_ (i := 11) (N := some 29) (v := undef) (a' := ?_) #[true, true, true, true, true, true, true, true, true, true, true, true, false, false, false, false, false, false, false, false] rfl rfl (any_of HT_.out (by kernel_rfl)) (fun _ _ _ h => h) (Or.inr ⟨by rfl, rfl⟩) ?_ ?_; rotate_left
       ·simp only [Act.put, sA_, sZ_, sS_, i64_w, i32_w]
        rfl
       refine pure_ (i := 12) (N := some 30) (v := undef) (a' := ?_) #[true, true, true, true, true, true, true, true, true, true, true, true, true, false, false, false, false, false, false, false] rfl rfl (any_of HT_.out (by kernel_rfl)) (fun _ _ _ h => h) (Or.inr ⟨by rfl, rfl⟩) ?_ ?_; rotate_left
       ·simp only [Act.put, sA_, sZ_, sS_, i64_w, i32_w]
        rfl
       refine pure_ (i := 13) (N := some 31) (v := undef) (a' := ?_) #[true, true, true, true, true, true, true, true, true, true, true, true, true, true, false, false, false, false, false, false] rfl rfl (any_of HT_.out (by kernel_rfl)) (fun _ _ _ h => h) (Or.inr ⟨by rfl, rfl⟩) ?_ ?_; rotate_left
       ·simp only [Act.put, sA_, sZ_, sS_, i64_w, i32_w]
        rfl
       refine pure_ (i := 14) (N := some 32) (v := undef) (a' := ?_) #[true, true, true, true, true, true, true, true, true, true, true, true, true, true, true, false, false, false, false, false] rfl rfl (any_of HT_.out (by kernel_rfl)) (fun _ _ _ h => h) (Or.inr ⟨by rfl, rfl⟩) ?_ ?_; rotate_left
       ·simp only [Act.put, sA_, sZ_, sS_, i64_w, i32_w]
        rfl
       refine pure_ (i := 15) (N := some 33) (v := undef) (a' := ?_) #[true, true, true, true, true, true, true, true, true, true, true, true, true, true, true, true, false, false, false, false] rfl rfl (any_of HT_.out (by kernel_rfl)) (fun _ _ _ h => h) (Or.inr ⟨by rfl, rfl⟩) ?_ ?_; rotate_left
       ·simp only [Act.put, sA_, sZ_, sS_, i64_w, i32_w]
        rfl
       refine pure_ (i := 16) (N := some 34) (v := undef) (a' := ?_) #[true, true, true, true, true, true, true, true, true, true, true, true, true, true, true, true, true, false, false, false] rfl rfl (any_of HT_.out (by kernel_rfl)) (fun _ _ _ h => h) (Or.inr ⟨by rfl, rfl⟩) ?_ ?_; rotate_left
       ·simp only [Act.put, sA_, sZ_, sS_, i64_w, i32_w]
        rfl
       refine pure_ (i := 17) (N := some 35) (v := undef) (a' := ?_) #[true, true, true, true, true, true, true, true, true, true, true, true, true, true, true, true, true, true, false, false] rfl rfl (any_of HT_.out (by kernel_rfl)) (fun _ _ _ h => h) (Or.inr ⟨by rfl, rfl⟩) ?_ ?_; rotate_left
       ·simp only [Act.put, sA_, sZ_, sS_, i64_w, i32_w]
        rfl
       refine pure_ (i := 18) (N := some 36) (v := undef) (a' := ?_) #[true, true, true, true, true, true, true, true, true, true, true, true, true, true, true, true, true, true, true, false] rfl rfl (any_of HT_.out (by kernel_rfl)) (fun _ _ _ h => h) (Or.inr ⟨by rfl, rfl⟩) ?_ ?_; rotate_left
       ·simp only [Act.put, sA_, sZ_, sS_, i64_w, i32_w]
        rfl
       refine pD_ 19 (some 37) HT_ (h := ?_); refine done_ (done_of HT_.out (by kernel_rfl)) ?_; try go_wp2
       go_ret; exact ⟨er_, bx0 HB.out⟩
      ·rw [if_neg c9] at H; have c9b0 := decide_eq_false c9; clear c9; by_cases c11 : (rd l1 x14_1) > (wrap64 (a0 - 2))
       ·rw [if_pos c11] at H; have c11b0 := decide_eq_true c11; clear c11; obtain rfl := Option.some.inj H; have p780 : 0 ≤ (x14_1 : Int) := oda_; have q780 : x14_1 < (l1.length : Int) := oda_; obtain ⟨ad780, e780, hx780_0⟩ := Kd.at_int HR1.out x14_1 p780 q780; cases e780; replace hx780_0 := hc_ HB hx780_0; replace p780 := eq_true p780; replace q780 := eq_true q780; try go_wp2
        replace HO_7 := am_ (Kd.R_drew HO_7.out); replace HB := bd_ HB; refine start_ (n := 20) (S := fun w' => True) (ds := []) #[false, false, false, false, false, false, false, false, false, false, false, false, false, false, false, false, false, false, false, false] (by kernel_rfl) rfl rfl trivial (fun hHeld => ?_); refine with_tabW impl_run_impl_IsWiring_1.tab5 impl_run_impl_IsWiring_1.bits5 (fun HT_ HW_ => ?_); generalize wr.drew = w12 at HO_7 HB hHeld ⊢
        refine pD_ 0 (some 18) HT_ (h := ?_); refine pD_ 1 (some 19) HT_ (h := ?_); refine pD_ 2 (some 20) HT_ (h := ?_); refine pD_ 3 (some 21) HT_ (h := ?_); refine pD_ 4 (some 22) HT_ (h := ?_); refine pD_ 5 (some 23) HT_ (h := ?_); refine pD_ 6 (some 24) HT_ (h := ?_); refine pD_ 7 (some 25) HT_ (h := ?_); refine pD_ 8 (some 26) HT_ (h := ?_); refine pure_ (i := 9) (N := some 27) (v := undef) (a' := ?_) #[true, true, true, true, true, true, true, true, true, true, false, false, false, false, false, false, false, false, false, false] rfl rfl (any_of HT_.out (by kernel_rfl)) (fun _ _ _ h => h) (Or.inr ⟨by rfl, rfl⟩) ?_ ?_; rotate_left
        ·simp only [Act.put, sA_, sZ_, sS_, i64_w, i32_w]
         rfl
        refine pure_ (i := 10) (N := some 28) (v := undef) (a' := ?_) #[true, true, true, true, true, true, true, true, true, true, true, false, false, false, false, false, false, false, false, false] rfl rfl (any_of HT_.out (by kernel_rfl)) (fun _ _ _ h => h) (Or.inr ⟨by rfl, rfl⟩) ?_ ?_; rotate_left
        ·simp only [Act.put, sA_, sZ_, sS_, i64_w, i32_w]
         rfl
        refine pure_ (i := 11) (N := some 29) (v := undef) (a' := ?_) #[true, true, true, true, true, true, true, true, true, true, true, true, false, false, false, false, false, false, false, false] rfl rfl (any_of HT_.out (by kernel_rfl)) (fun _ _ _ h => h) (Or.inr ⟨by rfl, rfl⟩) ?_ ?_; rotate_left
        ·simp only [Act.put, sA_, sZ_, sS_, i64_w, i32_w]
         rfl
        refine pure_ (i := 12) (N := some 30) (v := undef) (a' := ?_) #[true, true, true, true, true, true, true, true, true, true, true, true, true, false, false, false, false, false, false, false] rfl rfl (any_of HT_.out (by kernel_rfl)) (fun _ _ _ h => h) (Or.inr ⟨by rfl, rfl⟩) ?_ ?_; rotate_left
        ·simp only [Act.put, sA_, sZ_, sS_, i64_w, i32_w]
         rfl
        refine pure_ (i := 13) (N := some 31) (v := undef) (a' := ?_) #[true, true, true, true, true, true, true, true, true, true, true, true, true, true, false, false, false, false, false, false] rfl rfl (any_of HT_.out (by kernel_rfl)) (fun _ _ _ h => h) (Or.inr ⟨by rfl, rfl⟩) ?_ ?_; rotate_left
        ·simp only [Act.put, sA_, sZ_, sS_, i64_w, i32_w]
         rfl
        refine pure_ (i := 14) (N := some 32) (v := undef) (a' := ?_) #[true, true, true, true, true, true, true, true, true, true, true, true, true, true, true, false, false, false, false, false] rfl rfl (any_of HT_.out (by kernel_rfl)) (fun _ _ _ h => h) (Or.inr ⟨by rfl, rfl⟩) ?_ ?_; rotate_left
        ·simp only [Act.put, sA_, sZ_, sS_, i64_w, i32_w]
         rfl
        refine pure_ (i := 15) (N := some 33) (v := undef) (a' := ?_) #[true, true, true, true, true, true, true, true, true, true, true, true, true, true, true, true, false, false, false, false] rfl rfl (any_of HT_.out (by kernel_rfl)) (fun _ _ _ h => h) (Or.inr ⟨by rfl, rfl⟩) ?_ ?_; rotate_left
        ·simp only [Act.put, sA_, sZ_, sS_, i64_w, i32_w]
         rfl
        refine pure_ (i := 16) (N := some 34) (v := undef) (a' := ?_) #[true, true, true, true, true, true, true, true, true, true, true, true, true, true, true, true, true, false, false, false] rfl rfl (any_of HT_.out (by kernel_rfl)) (fun _ _ _ h => h) (Or.inr ⟨by rfl, rfl⟩) ?_ ?_; rotate_left
        ·simp only [Act.put, sA_, sZ_, sS_, i64_w, i32_w]
         rfl
        refine pure_ (i := 17) (N := some 35) (v := undef) (a' := ?_) #[true, true, true, true, true, true, true, true, true, true, true, true, true, true, true, true, true, true, false, false] rfl rfl (any_of HT_.out (by kernel_rfl)) (fun _ _ _ h => h) (Or.inr ⟨by rfl, rfl⟩) ?_ ?_; rotate_left
        ·simp only [Act.put, sA_, sZ_, sS_, i64_w, i32_w]
         rfl
        refine pure_ (i := 18) (N := some 36) (v := undef) (a' := ?_) #[true, true, true, true, true, true, true, true, true, true, true, true, true, true, true, true, true, true, true, false] rfl rfl (any_of HT_.out (by kernel_rfl)) (fun _ _ _ h => h) (Or.inr ⟨by rfl, rfl⟩) ?_ ?_; rotate_left
        ·simp only [Act.put, sA_, sZ_, sS_, i64_w, i32_w]
         rfl
        refine pD_ 19 (some 37) HT_ (h := ?_); refine done_ (done_of HT_.out (by kernel_rfl)) ?_; try go_wp2
        go_ret; exact ⟨er_, bx0 HB.out⟩
       ·rw [if_neg c11] at H; have c11b0 := decide_eq_false c11; clear c11; by_cases c13 : 0 ≤ (rd l1 x14_1)
        ·rw [if_pos c13] at H; have c13b0 := decide_eq_true c13; clear c13; by_cases c14 : (rd l1 x14_1) < (x7_1.length : Int)
         ·rw [if_pos c14] at H; have c14b0 := decide_eq_true c14; clear c14; obtain ⟨ji15, hji15⟩ : ∃ j_ : Int, (wrap64 ((rd l1 x14_1) + 1)) = j_ := ⟨_, rfl⟩; first | rw [hji15] at H | simp only [hji15] at H
          have hji15w : (IntKind.i64.wrap ((rd l1 x14_1) + 1)) = ji15 := (i64_w _).trans hji15; by_cases c16 : 0 ≤ (ji15)
          ·rw [if_pos c16] at H; have c16b0 := decide_eq_true c16; clear c16; by_cases c17 : (ji15) < (x7_1.length : Int)
           ·rw [if_pos c17] at H; have c17b0 := decide_eq_true c17; clear c17; by_cases c18 : (rd x7_1 (rd l1 x14_1)) > (rd x7_1 (ji15))
            ·rw [if_pos c18] at H; have c18b0 := decide_eq_true c18; clear c18; obtain rfl := Option.some.inj H; have p780 : 0 ≤ (x14_1 : Int) := oda_; have q780 : x14_1 < (l1.length : Int) := oda_; obtain ⟨ad780, e780, hx780_0⟩ := Kd.at_int HR1.out x14_1 p780 q780; cases e780; replace hx780_0 := hc_ HB hx780_0; replace p780 := eq_true p780; replace q780 := eq_true q780; try go_wp2
             replace HO_7 := am_ (Kd.R_drew HO_7.out); replace HB := bd_ HB; obtain ⟨Ao20, co20, eo20⟩ := Kd.R_slice HO_7.out; (first | subst eo20 | (injection eo20 with f1_ f2_ f3_; have f4_ := f1_.symm; have f5_ := f3_.symm; clear f1_ f2_ f3_; subst f4_; subst f5_))
             have p781 : 0 ≤ ((rd l1 x14_1) : Int) := oda_; have q781 : (rd l1 x14_1) < (x7_1.length : Int) := oda_; obtain ⟨ad781, e781, hx781_0⟩ := Kd.at_int (Kd.R_reads' HO_7.out).2.2 (rd l1 x14_1) p781 q781; cases e781; replace p781 := eq_true p781; replace q781 := eq_true q781; have p782 : 0 ≤ ((ji15) : Int) := oda_; have q782 : (ji15) < (x7_1.length : Int) := oda_; obtain ⟨ad782, e782, hx782_0⟩ := Kd.at_int (Kd.R_reads' HO_7.out).2.2 (ji15) p782 q782; obtain rfl : ad781 = ad782 := (by injection e782); replace p782 := eq_true p782; replace q782 := eq_true q782; refine start_ (n := 20) (S := fun w' => w'.cell? (ad781.add ((rd l1 x14_1)).toNat) = some (.int .i64 (rd x7_1 (rd l1 x14_1))) ∧ w'.cell? (ad781.add ((ji15)).toNat) = some (.int .i64 (rd x7_1 (ji15)))) (ds := []) #[false, false, false, false, false, false, false, false, false, false, false, false, false, false, false, false, false, false, false, false] (by kernel_rfl) rfl rfl ⟨hx781_0, hx782_0⟩ (fun hHeld => ?_); refine with_tabW impl_run_impl_IsWiring_1.tab5 impl_run_impl_IsWiring_1.bits5 (fun HT_ HW_ => ?_); generalize wr.drew = w19 at HO_7 HB hx781_0 hx782_0 hHeld ⊢
             refine pD_ 0 (some 18) HT_ (h := ?_); refine pD_ 1 (some 19) HT_ (h := ?_); refine pD_ 2 (some 20) HT_ (h := ?_); refine pD_ 3 (some 21) HT_ (h := ?_); refine pD_ 4 (some 22) HT_ (h := ?_); refine pD_ 5 (some 23) HT_ (h := ?_); refine pD_ 6 (some 24) HT_ (h := ?_); refine pD_ 7 (some 25) HT_ (h := ?_); refine pD_ 8 (some 26) HT_ (h := ?_); refine pD_ 9 (some 27) HT_ (h := ?_); refine pD_ 10 (some 28) HT_ (h := ?_); refine pD_ 11 (some 29) HT_ (h := ?_); refine pD_ 13 (some 31) HT_ (h := ?_); refine pD_ 14 (some 32) HT_ (h := ?_); refine pD_ 15 (some 33) HT_ (h := ?_); refine pD_ 16 (some 34) HT_ (h := ?_); refine tD2_ 12 (some 30) HT_ HW_ hHeld (h := ?_); refine tD2_ 17 (some 35) HT_ HW_ hHeld (h := ?_); refine pD_ 18 (some 36) HT_ (h := ?_); refine pD_ 19 (some 37) HT_ (h := ?_); refine done_ (done_of HT_.out (by kernel_rfl)) ?_; try go_wp2
             go_ret; exact ⟨by first | rfl | (simp [errW_none, errW_some] <;> rfl) | (simp only [← hji15]; first | rfl | (simp [errW_none, errW_some] <;> rfl)) | (simp [*, errW_none, errW_some] <;> rfl), bx0 HB.out⟩
            ·rw [if_neg c18] at H; have c18b0 := decide_eq_false c18; clear c18; obtain ⟨_, A21, H⟩ := bnd_ H; obtain ⟨y785, hy785⟩ : ∃ y_ : List Int, y_ = (x7_1.set ((rd l1 x14_1) : Int).toNat (rd x7_1 (ji15))) := ⟨_, rfl⟩; replace H : (impl_run_impl_IsWiring_1.l0 k1 a0 (y785.set ((ji15) : Int).toNat (rd x7_1 (rd l1 x14_1))) l1 (l1.length : Int) (wrap64 (x14_1 + 1))) = some r := yH_ hy785 H; have Ny785 := am_ hy785; clear hy785; obtain ⟨y786, hy786⟩ : ∃ y_ : List Int, y_ = (y785.set ((ji15) : Int).toNat (rd x7_1 (rd l1 x14_1))) := ⟨_, rfl⟩; replace H : (impl_run_impl_IsWiring_1.l0 k1 a0 y786 l1 (l1.length : Int) (wrap64 (x14_1 + 1))) = some r := yH_ hy786 H; have Ny786 := am_ hy786; clear hy786; have H' := am_ H; clear H; have p780 : 0 ≤ (x14_1 : Int) := oda_; have q780 : x14_1 < (l1.length : Int) := oda_; obtain ⟨ad780, e780, hx780_0⟩ := Kd.at_int HR1.out x14_1 p780 q780; cases e780; replace hx780_0 := hc_ HB hx780_0; replace p780 := eq_true p780; replace q780 := eq_true q780; try go_wp2
             replace HO_7 := am_ (Kd.R_drew HO_7.out); replace HB := bd_ HB; obtain ⟨Ao25, co25, eo25⟩ := Kd.R_slice HO_7.out; (first | subst eo25 | (injection eo25 with f1_ f2_ f3_; have f4_ := f1_.symm; have f5_ := f3_.symm; clear f1_ f2_ f3_; subst f4_; subst f5_))
             have p781 : 0 ≤ ((rd l1 x14_1) : Int) := oda_; have q781 : (rd l1 x14_1) < (x7_1.length : Int) := oda_; obtain ⟨ad781, e781, hx781_0⟩ := Kd.at_int (Kd.R_reads' HO_7.out).2.2 (rd l1 x14_1) p781 q781; cases e781; replace p781 := eq_true p781; replace q781 := eq_true q781; have p782 : 0 ≤ ((ji15) : Int) := oda_; have q782 : (ji15) < (x7_1.length : Int) := oda_; obtain ⟨ad782, e782, hx782_0⟩ := Kd.at_int (Kd.R_reads' HO_7.out).2.2 (ji15) p782 q782; obtain rfl : ad781 = ad782 := (by injection e782); replace p782 := eq_true p782; replace q782 := eq_true q782; refine start_ (n := 20) (S := fun w' => w'.cell? (ad781.add ((rd l1 x14_1)).toNat) = some (.int .i64 (rd x7_1 (rd l1 x14_1))) ∧ w'.cell? (ad781.add ((ji15)).toNat) = some (.int .i64 (rd x7_1 (ji15)))) (ds := []) #[false, false, false, false, false, false, false, false, false, false, false, false, false, false, false, false, false, false, false, false] (by kernel_rfl) rfl rfl ⟨hx781_0, hx782_0⟩ (fun hHeld => ?_); refine with_tabW impl_run_impl_IsWiring_1.tab5 impl_run_impl_IsWiring_1.bits5 (fun HT_ HW_ => ?_); generalize wr.drew = w24 at HO_7 HB hx781_0 hx782_0 hHeld ⊢
             refine pD_ 0 (some 18) HT_ (h := ?_); refine pD_ 1 (some 19) HT_ (h := ?_); refine pD_ 2 (some 20) HT_ (h := ?_); refine pD_ 3 (some 21) HT_ (h := ?_); refine pD_ 4 (some 22) HT_ (h := ?_); refine pD_ 5 (some 23) HT_ (h := ?_); refine pD_ 6 (some 24) HT_ (h := ?_); refine pD_ 7 (some 25) HT_ (h := ?_); refine pD_ 8 (some 26) HT_ (h := ?_); refine pD_ 9 (some 27) HT_ (h := ?_); refine pD_ 10 (some 28) HT_ (h := ?_); refine pD_ 11 (some 29) HT_ (h := ?_); refine pD_ 13 (some 31) HT_ (h := ?_); refine pD_ 14 (some 32) HT_ (h := ?_); refine pD_ 15 (some 33) HT_ (h := ?_); refine pD_ 16 (some 34) HT_ (h := ?_); refine tD2_ 12 (some 30) HT_ HW_ hHeld (h := ?_); refine tD2_ 17 (some 35) HT_ HW_ hHeld (h := ?_); refine pD_ 18 (some 36) HT_ (h := ?_); refine pD_ 19 (some 37) HT_ (h := ?_); refine done_ (done_of HT_.out (by kernel_rfl)) ?_; try go_wp2_with (first | (go_at_call 163; (with_reducible refine (impl_IsWiring_1.calls _ _ x7_1 (rd l1 x14_1)  _ ?side1 ?side2 A21.out).mono ?_); (case side1 => exact cR_ HO_7); (case side2 => exact (Kd.R_reads' HO_7.out).2.1); rintro e w' ⟨rfl, ⟨nd, rfl⟩⟩; (try (rw [drewN_self w24]; generalize hq_ : World.drewN w24 _ = w24; have n0_ : Aside0 (Kd.R (Kd.int .i64) 3 w24 w.heap.size (fun _ => True) (.slice (some ad781) x7_1.length co25) x7_1) := ⟨by rw [← hq_]; exact (rx_ HO_7.out)⟩; have n1_ : Aside0 (Below w.heap.size w w24) := ⟨by rw [← hq_]; exact (bx0 HB.out)⟩; clear HO_7 HB hq_; have HO_7 := n0_; have HB := n1_; clear n0_ n1_))))
             replace HO_7 := am_ (Kd.R_drew HO_7.out); replace HB := bd_ HB; have p783 : 0 ≤ ((ji15) : Int) := oda_; have q783 : (ji15) < (x7_1.length : Int) := oda_; obtain ⟨ad783, e783, hx783_0⟩ := Kd.at_int (Kd.R_reads' HO_7.out).2.2 (ji15) p783 q783; obtain rfl : ad781 = ad783 := (by injection e783); replace p783 := eq_true p783; replace q783 := eq_true q783; have p784 : 0 ≤ ((rd l1 x14_1) : Int) := oda_; have q784 : (rd l1 x14_1) < (x7_1.length : Int) := oda_; obtain ⟨ad784, e784, hx784_0⟩ := Kd.at_int (Kd.R_reads' HO_7.out).2.2 (rd l1 x14_1) p784 q784; obtain rfl : ad781 = ad784 := (by injection e784); replace p784 := eq_true p784; replace q784 := eq_true q784; have p22 : 0 ≤ ((rd l1 x14_1) : Int) := oda_; have q22 : ((rd l1 x14_1) : Int) < ((x7_1.length : Int) : Int) := oda_; obtain ⟨go22, co22, eo22, gb22, gl22, cl22, HG22⟩ := Kd.R_form HO_7.out (by omega); (first | cases eo22 | (injection eo22 with ea_ en_ ec_; (first | subst ea_ | (injection ea_ with ea_; subst ea_)); subst ec_; clear en_))
             have GB22 := am_ gb22; have GG22 := am_ HG22; clear gb22 gl22 HG22; (first | simp only [add_plain] at hx781_0 | skip)
             (first | simp only [add_plain] at hx782_0 | skip)
             (first | simp only [add_plain] at hx783_0 | skip)
             (first | simp only [add_plain] at hx784_0 | skip)
             obtain ⟨hx22_0, hf22_0⟩ := Kd.R_celln 0 HO_7.out ((rd l1 x14_1) : Int) p22 q22; replace p22 := eq_true p22; replace q22 := eq_true q22; have HP27 := Kd.R_putn HO_7.out ((rd l1 x14_1) : Int) (rd x7_1 (ji15)); rw [← Ny785.out] at HP27; have HQ27 := am_ HP27; clear HP27; have p23 : 0 ≤ ((ji15) : Int) := oda_; have q23 : ((ji15) : Int) < ((x7_1.length : Int) : Int) := oda_; obtain ⟨hx23_0, hf23_0⟩ := Kd.R_celln 0 HQ27.out ((ji15) : Int) p23 q23; replace p23 := eq_true p23; replace q23 := eq_true q23; have HP28 := Kd.R_putn HQ27.out ((ji15) : Int) (rd x7_1 (rd l1 x14_1)); rw [← Ny786.out] at HP28; have HQ28 := am_ HP28; clear HP28; refine start_ (n := 18) (S := fun w' => w'.cell? ⟨go22, ((ji15)).toNat, none⟩ = some (.int .i64 (rd x7_1 (ji15))) ∧ w'.cell? ⟨go22, ((rd l1 x14_1)).toNat, none⟩ = some (.int .i64 (rd x7_1 (rd l1 x14_1)))) (ds := [15, 17]) #[false, false, false, false, false, false, false, false, false, false, false, false, false, false, false, false, false, false] (by kernel_rfl) rfl rfl ⟨hx783_0, hx784_0⟩ (fun hHeld => ?_); refine with_tabW impl_run_impl_IsWiring_1.tab8 impl_run_impl_IsWiring_1.bits8 (fun HT_ HW_ => ?_); generalize w24.drew = w26 at HO_7 HB GG22 HQ27 HQ28 hf22_0 hf23_0 hx22_0 hx23_0 hx781_0 hx782_0 hx783_0 hx784_0 hHeld ⊢
             refine pD_ 0 (some 42) HT_ (h := ?_); refine pD_ 1 (some 43) HT_ (h := ?_); refine pD_ 2 (some 44) HT_ (h := ?_); refine pD_ 3 (some 45) HT_ (h := ?_); refine pD_ 4 (some 46) HT_ (h := ?_); refine pD_ 5 (some 47) HT_ (h := ?_); refine pD_ 6 (some 48) HT_ (h := ?_); refine pD_ 7 (some 49) HT_ (h := ?_); refine pD_ 8 (some 50) HT_ (h := ?_); refine pD_ 10 (some 52) HT_ (h := ?_); refine pD_ 11 (some 53) HT_ (h := ?_); refine pD_ 12 (some 54) HT_ (h := ?_); refine tD2_ 9 (some 51) HT_ HW_ hHeld (h := ?_); refine tD2_ 13 (some 55) HT_ HW_ hHeld (h := ?_); refine pD_ 14 (some 56) HT_ (h := ?_); refine last_ (i := 15) (N := none) #[true, true, true, true, true, true, true, true, true, true, true, true, true, true, true, true, false, false] rfl rfl (one_of HT_.out (by kernel_rfl)) (by decide) (fun K hK => ?_); refine skip_ (w1 := ?_) (by rfl) rfl ?_ ?_; rotate_left
             ·go_simp
              rfl
             refine hK.out _ _ ?_; clear hK K; refine pD_ 16 (some 57) HT_ (h := ?_); refine last_ (i := 17) (N := none) #[true, true, true, true, true, true, true, true, true, true, true, true, true, true, true, true, true, true] rfl rfl (one_of HT_.out (by kernel_rfl)) (by decide) (fun K hK => ?_); refine skip_ (w1 := ?_) (by rfl) rfl ?_ ?_; rotate_left
             ·go_simp
              rfl
             refine hK.out _ _ ?_; clear hK K; refine done_ (done_of HT_.out (by kernel_rfl)) ?_; try go_wp2
             go_roundg k1
             case measure => have := HK1.out; omega
             case rel => exact ⟨(y786), (wrap64 (x14_1 + 1)), vt_, H', hl_ HK1, rX_ HQ28, bX2_ HB GB22 GB22⟩
           ·rw [if_neg c17] at H; exact absurd H (by simp)
          ·rw [if_neg c16] at H; exact absurd H (by simp)
         ·rw [if_neg c14] at H; exact absurd H (by simp)
        ·rw [if_neg c13] at H; exact absurd H (by simp)
     ·rw [if_neg c8] at H; exact absurd H (by simp)
    ·rw [if_neg c7] at H; exact absurd H (by simp)
   ·rw [if_neg c6] at H; have c6b0 := decide_eq_false c6; clear c6; obtain rfl := Option.some.inj H; go_wp2; go_ret; exact ⟨er_, bx0 HB.out⟩
def impl_IsWiring.f (k : Nat) (a0 : Int) (l1 : List Int) : Option (Bool) := (impl_isWires.f a0).bind fun t787 => (if t787 = true then (if (l1.length : Int) = (wrap64 (Int.tdiv (wrap64 (a0 * (wrap64 (a0 - 1)))) 2)) then ((impl_run_impl_IsWiring_1.f k a0 l1 ()).bind fun t788 => (some t788)) else (some false)) else (some false))
theorem impl_IsWiring.mono : ∀ a0 a1 k, LeO (impl_IsWiring.f k a0 a1) (impl_IsWiring.f (k + 1) a0 a1) := by
 intro a0 a1 k; unfold impl_IsWiring.f
 repeat' first | (with_reducible first | apply impl_run_impl_IsWiring_1.mono | exact LeO.refl _ | exact LeO.none _ | refine LeO.ite ?_ ?_ | refine LeO.bind ?_ (fun _ => ?_)) | exact LeO.none _
set_option maxHeartbeats 8000000 in
set_option maxRecDepth 100000 in
theorem impl_IsWiring.calls (k : Nat) (a0 : Int) (A1 : Option Addr) (c1 : Nat) (l1 : List Int) (r : Bool) (w : World) (hr1 : Kd.C (Kd.int .i64) w A1 l1.length l1) (hc1 : l1.length ≤ c1) (h : impl_IsWiring.f k a0 l1 = some r) :
  Calls Try.prog 94 #[.int .i64 a0, .slice A1 l1.length c1] w fun e w' => e = .returned (.bool r) ∧ Below w.heap.size w w' := by
 have HR1 := am_ hr1; have HC1 := am_ hc1; clear hr1 hc1; have HB := am_ (Below.refl w.heap.size w); have H : ((impl_isWires.f a0).bind fun t787 => (if t787 = true then (if (l1.length : Int) = (wrap64 (Int.tdiv (wrap64 (a0 * (wrap64 (a0 - 1)))) 2)) then ((impl_run_impl_IsWiring_1.f k a0 l1 ()).bind fun t788 => (some t788)) else (some false)) else (some false))) = some r := h; clear h; obtain ⟨t787, A3, H⟩ := bnd_ H; by_cases c4 : t787 = true
 ·subst c4; replace H := ifT_ H; by_cases c5 : (l1.length : Int) = (wrap64 (Int.tdiv (wrap64 (a0 * (wrap64 (a0 - 1)))) 2))
  ·rw [if_pos c5] at H; obtain ⟨c5b0, c5b1⟩ := eqT_ c5; clear c5; obtain ⟨t788, A6, H⟩ := bnd_ H; obtain rfl := Option.some.inj H; go_enter Try.func94, Try.ntmps94
   go_wp2_with (first | ((with_reducible refine gc_ 162 rfl ?_); refine gP_ (some 6) Try.func162 #[.int .i64 a0] (impl_isWires.calls a0 true _ A3.out) ?_; intro nd) | (go_at_call 113; (with_reducible refine (impl_run_impl_IsWiring_1.calls k a0 _ _ l1 () t788 _ ?side1 ?side2 A6.out).mono ?_); (case side1 => repeat (first | exact HR1.out | (with_reducible refine Kd.C_alloc ?_ _) | (with_reducible refine Kd.C_drewN ?_ _) | (with_reducible refine Kd.C_drew ?_))); (case side2 => exact HC1.out); rintro e w7 ⟨rfl, hb⟩; replace HB := bs0_ HB hb; try clear hb))
   go_ret; exact ⟨er_, bx0 HB.out⟩
  ·rw [if_neg c5] at H; obtain ⟨c5b0, c5b1⟩ := eqF_ c5; obtain rfl := Option.some.inj H; go_enter Try.func94, Try.ntmps94
   go_wp2_with (first | ((with_reducible refine gc_ 162 rfl ?_); refine gP_ (some 6) Try.func162 #[.int .i64 a0] (impl_isWires.calls a0 true _ A3.out) ?_; intro nd))
   go_ret; exact ⟨er_, bx0 HB.out⟩
 ·replace c4 := Bool.eq_false_iff.mpr c4; subst c4; replace H := ifF_ H; obtain rfl := Option.some.inj H; go_enter Try.func94, Try.ntmps94
  go_wp2_with (first | ((with_reducible refine gc_ 162 rfl ?_); refine gP_ (some 6) Try.func162 #[.int .i64 a0] (impl_isWires.calls a0 false _ A3.out) ?_; intro nd))
  go_ret; exact ⟨er_, bx0 HB.out⟩
end Go.Proofs.Ytoajlmlobaccdaa.P
namespace Go.Proofs.Ytoajlmlobaccdaa.P
open Go.RowKit Go.Proofs.YtoajlmlobaccdaaW.PrintWords Go.Proofs.YtoajlmlobaccdaaW.PrintLast Go.Proofs.YtoajlmlobaccdaaW.PrintMore
set_option linter.unusedVariables false
section
variable {P : Program} {ops : Array Oper} {Q : Exit → Act → World → Prop} {md : Region.Mode} {S0 S : World → Prop} {ds : List Nat}
def wpTwo (P : Program) (md : Region.Mode) (ops : Array Oper) (Q : Exit → Act → World → Prop) (S0 S : World → Prop) (ds : List Nat) : Nat → Array Bool → Act → World → Prop
  | 0, listed, a, w => Region.ready md ops listed = [] ∧ Q .normal a w
  | fuel + 1, listed, a, w =>
    (Region.ready md ops listed = [] → Q .normal a w) ∧
    ∀ i ∈ Region.ready md ops listed, wpOp P ops Q i (fun a' w' => ((S0 w → S0 w') ∧ (i ∉ ds → S w → S w')) ∧ wpTwo P md ops Q S0 S ds fuel (listed.setIfInBounds i true) a' w') a w
theorem wpAny_of_two : ∀ (fuel : Nat) (listed : Array Bool) (a : Act) (w : World), wpTwo P md ops Q S0 S ds fuel listed a w → wpAny P md ops Q fuel listed a w
  | 0, _, _, _, h => h
  | fuel + 1, _, _, _, h => ⟨h.1, fun i hi => wpOp_mono (fun a' w' h' => wpAny_of_two fuel _ a' w' h'.2) (h.2 i hi)⟩
theorem wpTwo_first {U : World → Prop} {es : List Nat} (hU : ∀ j w w', j ∉ es → (S0 w → S0 w') ∧ (j ∉ ds → S w → S w') → U w → U w') {i : Nat} {oi : Oper} {v : Value} (hi : ops[i]? = some oi) (hsel : ∀ (j : Nat) (o : Oper) cs b, ops[j]? = some o → o.op ≠ .select cs b)
    (hQ : ∀ c a w, Q (.panic c) (a.put oi.dst v) w → Q (.panic c) a w) (n : Nat) :
    ∀ (fuel : Nat) (listed : Array Bool) (a : Act) (w : World),
      (∀ j oj, ops[j]? = some oj → j ≠ i → listed.getD j true = false → (∀ e ∈ oj.after, Region.binds md e = true → e.on ≠ i) → oi.apart ops oj = true) →
      ListedClosed md ops listed → (∀ d ∈ es, listed.getD d true = false → Region.reachB md ops i n d = true) →
      i ∈ Region.ready md ops listed → YieldsIf P ops U oi v a → U w →
      wpTwo P md ops Q S0 S ds fuel (listed.setIfInBounds i true) (a.put oi.dst v) w → wpTwo P md ops Q S0 S ds (fuel + 1) listed a w := by
  intro fuel
  induction fuel with
  | zero =>
    intro listed a w _ _ _ hr hy hS H
    refine ⟨fun h => (by rw [h] at hr; cases hr), fun j hj => ?_⟩
    by_cases hji : j = i
    · subst hji; exact hy.wpOp hi hS ⟨⟨fun h => h, fun _ h => h⟩, H⟩
    · have := ready_mono hj hji
      rw [H.1] at this
      cases this
  | succ fuel ih =>
    intro listed a w hfree hc hd hr hy hS H
    refine ⟨fun h => (by rw [h] at hr; cases hr), fun j hj => ?_⟩
    by_cases hji : j = i
    · subst hji; exact hy.wpOp hi hS ⟨⟨fun h => h, fun _ h => h⟩, H⟩
    · have h1 := H.2 j (ready_mono hj hji)
      obtain ⟨hjun, oj, hoj, hall⟩ := mem_ready.1 hj
      have hiun := (mem_ready.1 hr).1
      have hnot : ∀ e ∈ oj.after, Region.binds md e = true → e.on ≠ i := fun e he hb heq => by
        have h1 := hall e he hb
        rw [heq] at h1
        rcases Nat.lt_or_ge i listed.size with h' | h'
        · simp [h'] at hiun h1; rw [hiun] at h1; cases h1
        · simp [Array.getElem?_eq_none h'] at h1
      have hjd : j ∉ es := fun hm => Region.reach_not_ready hc (hd j hm hjun) hiun hj
      have h2 := wpOp_putIf hoj (hfree j oj hoj hji hjun hnot) (fun cs b => hsel i oi cs b hi) (fun cs b => hsel j oj cs b hoj) hQ hy h1
      have hfree' : ∀ k ok, ops[k]? = some ok → k ≠ i → (listed.setIfInBounds j true).getD k true = false →
          (∀ e ∈ ok.after, Region.binds md e = true → e.on ≠ i) → oi.apart ops ok = true := fun k ok hk hki hun hno => by
        refine hfree k ok hk hki ?_ hno
        by_cases hjk : j = k
        · subst hjk; exact hjun
        · rw [getD_set_ne true hjk] at hun; exact hun
      have hd' : ∀ d ∈ es, (listed.setIfInBounds j true).getD d true = false → Region.reachB md ops i n d = true := fun d hm hun => by
        refine hd d hm ?_
        by_cases hjk : j = d
        · subst hjk; exact hjun
        · rw [getD_set_ne true hjk] at hun; exact hun
      refine wpOp_mono (fun a' w' h3 => ⟨h3.2.1, ih (listed.setIfInBounds j true) a' w' hfree' (hc.set hj) hd' (ready_mono hr (Ne.symm hji)) h3.1 (hU j _ _ hjd h3.2.1 hS) ?_⟩) h2
      rw [Array.setIfInBounds_comm _ _ hji]
      exact h3.2.2
theorem start2_ {id n : Nat} {a : Act} {w : World} (l : Array Bool) (hm : P.follows .mixedOrders = true) (hn : ops.size = n) (hl : Array.replicate n false = l) (hS0 : S0 w.drew) (hS : S w.drew)
    (h : S0 w.drew → S w.drew → wpTwo P .any ops Q S0 S ds n l a w.drew) : (Code.region id ops true).wp P Q a w := by
  subst hn
  subst hl
  exact wp_region_any hm (wpAny_of_two _ _ _ _ (h hS0 hS))
theorem takeU_ {U : World → Prop} {es : List Nat} (hU : ∀ j w w', j ∉ es → (S0 w → S0 w') ∧ (j ∉ ds → S w → S w') → U w → U w') {i : Nat} {N : Option Tmp} {oi : Oper} {v : Value} {fuel : Nat} {l : Array Bool} {a : Act} {w : World} (l' : Array Bool) (hi : ops[i]? = some oi) (hN : oi.dst = N) (hc : takeB md ops es l l' i = true)
    (hQ : ∀ c a w, Q (.panic c) (a.put oi.dst v) w → Q (.panic c) a w) (hy : YieldsIf P ops U oi v a) (hS : U w) {a' : Act} (ha : a.put N v = a')
    (h : wpTwo P md ops Q S0 S ds fuel l' a' w) : wpTwo P md ops Q S0 S ds (fuel + 1) l a w := by
  subst ha
  subst hN
  simp only [takeB, Bool.and_eq_true, beq_iff_eq] at hc
  obtain ⟨⟨⟨⟨⟨h1, h2⟩, h3⟩, h4⟩, h5⟩, h6⟩ := hc
  subst h6
  exact wpTwo_first hU hi (Region.noSelect_spec h1) hQ ops.size fuel l a w (Region.free_spec hi h2) (Region.closedB_spec h4)
    (fun d hm hun => by have := List.all_eq_true.1 h5 d hm; rw [hun] at this; simpa using this) (by simpa using h3) hy hS h
theorem takeA_ {i : Nat} {N : Option Tmp} {oi : Oper} {v : Value} {fuel : Nat} {l : Array Bool} {a : Act} {w : World} (l' : Array Bool) (hi : ops[i]? = some oi) (hN : oi.dst = N) (hc : takeB md ops [] l l' i = true)
    (hQ : ∀ c a w, Q (.panic c) (a.put oi.dst v) w → Q (.panic c) a w) (hy : YieldsIf P ops S0 oi v a) (hS : S0 w) {a' : Act} (ha : a.put N v = a')
    (h : wpTwo P md ops Q S0 S ds fuel l' a' w) : wpTwo P md ops Q S0 S ds (fuel + 1) l a w :=
  takeU_ (U := S0) (es := []) (fun _ _ _ _ h => h.1) l' hi hN hc hQ hy hS ha h
theorem takeE_ {i : Nat} {N : Option Tmp} {oi : Oper} {v : Value} {fuel : Nat} {l : Array Bool} {a : Act} {w : World} (l' : Array Bool) (hi : ops[i]? = some oi) (hN : oi.dst = N) (hc : takeB md ops ds l l' i = true)
    (hQ : ∀ c a w, Q (.panic c) (a.put oi.dst v) w → Q (.panic c) a w) (hy : YieldsIf P ops S oi v a) (hS : S w) {a' : Act} (ha : a.put N v = a')
    (h : wpTwo P md ops Q S0 S ds fuel l' a' w) : wpTwo P md ops Q S0 S ds (fuel + 1) l a w :=
  takeU_ (U := S) (es := ds) (fun _ _ _ hj h => h.2 hj) l' hi hN hc hQ hy hS ha h
theorem pure2_ {i : Nat} {N : Option Tmp} {oi : Oper} {v : Value} {fuel : Nat} {l : Array Bool} {a : Act} {w : World} (l' : Array Bool) (hi : ops[i]? = some oi) (hN : oi.dst = N) (hc : takeB md ops [] l l' i = true)
    (hQ : ∀ c a w, Q (.panic c) (a.put oi.dst v) w → Q (.panic c) a w) (hy : Yields P ops oi v a) {a' : Act} (ha : a.put N v = a')
    (h : wpTwo P md ops Q S0 S ds fuel l' a' w) : wpTwo P md ops Q S0 S ds (fuel + 1) l a w :=
  takeU_ (U := fun _ => True) (es := []) (fun _ _ _ _ _ h => h) l' hi hN hc hQ (hy.yieldsIf) trivial ha h
theorem last2_ {i : Nat} {N : Option Tmp} {oi : Oper} {fuel : Nat} {l : Array Bool} {a : Act} {w : World} (l' : Array Bool) (hi : ops[i]? = some oi) (hN : oi.dst = N) (hc : readyB md ops l l' i = true) (hd : i ∈ ds)
    (h : ∀ K : Act → World → Prop, Shut (∀ a' w', S0 w' → wpTwo P md ops Q S0 S ds fuel l' a' w' → K a' w') → if Region.wanted oi (yielded ops a.tmps) = true then Oper.wp P oi a w K Q else K (a.put N undef) w) :
    wpTwo P md ops Q S0 S ds (fuel + 1) l a w := by
  subst hN
  simp only [readyB, Bool.and_eq_true, beq_iff_eq] at hc
  obtain ⟨h1, h2⟩ := hc
  subst h2
  refine ⟨fun h0 => absurd (h1 ▸ h0) (by simp), ?_⟩
  rw [h1]
  intro j hj
  obtain rfl := List.mem_singleton.1 hj
  exact wpOp_step hi (fun K' hK => h K' (fun a w hS hW => hK a w ⟨⟨fun _ => hS, fun hn => absurd hd hn⟩, hW⟩))
theorem done2_ {l : Array Bool} {a : Act} {w : World} {n : Nat} (hr : (Region.ready md ops l == []) = true) (h : Q .normal a w) : wpTwo P md ops Q S0 S ds n l a w := by
  cases n with
  | zero => exact ⟨by simpa using hr, h⟩
  | succ n => exact ⟨fun _ => h, by rw [show Region.ready md ops l = [] by simpa using hr]; simp⟩
theorem with_tab2 {n : Nat} {l : Array Bool} {a : Act} {w : World} {B : List Nat} {T : Bool × List (List Nat × List Nat)} (hT : rtab md ops = T) (hB : waitsOk T.2 B = true) (h : Aside0 (rtab md ops = T) → Aside0 (waitsOk T.2 B = true) → wpTwo P md ops Q S0 S ds n l a w) : wpTwo P md ops Q S0 S ds n l a w := h ⟨hT⟩ ⟨hB⟩
end
end Go.Proofs.Ytoajlmlobaccdaa.P
namespace Go.Proofs.Ytoajlmlobaccdaa.P
open Go.RowKit Go.Proofs.YtoajlmlobaccdaaW.PrintWords Go.Proofs.YtoajlmlobaccdaaW.PrintLast Go.Proofs.YtoajlmlobaccdaaW.PrintMore
set_option linter.unusedVariables false
set_option linter.unusedSimpArgs false
section
open Go.Proofs.YtoajlmlobaccdaaW.PrintWords.Kd
section
variable {P : Program} {ops : Array Oper} {o : Oper} {a : Act} {Q : Exit → Act → World → Prop} {Kc : Act → World → Prop} {α : Type}
theorem R_store_step (d : Kd α) {w0 W : World} (base : Nat) (hN : o.dst = none) (hw : Region.wanted o (yielded ops a.tmps) = true) (t : TypeId) (p x : Operand) (ho : o.op = .store t p x) (e : TypeId) {g n cap o' : Nat} (i : Int) (j : Nat) (xs : List α) (x' : α) (u : Value) (seg c : List Value) (ok okp : Nat → Prop)
    (haddr : a.eval p = .pointer (some ⟨g, o', none⟩)) (hoff : o' = i.toNat * d.sz + j) (hx : a.eval x = u) (hu : u.cells.toList = seg) (ht : (P.info? t).map (·.size) = some seg.length) (h1 : ∀ q ∈ seg, q.oneCell' = true)
    (HO : d.R e W base ok (.slice (some ⟨g, 0, none⟩) n cap) xs) (h0 : 0 ≤ i) (hi : i < n) (hcl : c.length = d.sz) (hcc : ∀ j u, c[j]? = some u → W.cell? ⟨g, i.toNat * d.sz + j, none⟩ = some u)
    (hj : j + seg.length ≤ d.sz) (hM : d.M W base okp x' (c.take j ++ seg ++ c.drop (j + seg.length))) (hokp : ∀ k, okp k → ok k ∧ k ≠ g) (HB : Below base w0 W)
    (h : ∀ w1, d.R e w1 base ok (.slice (some ⟨g, 0, none⟩) n cap) (xs.set i.toNat x') → Below base w0 w1 → W.grownBy w1 (some g) → Kc a w1) : if Region.wanted o (yielded ops a.tmps) = true then Oper.wp P o a W Kc Q else Kc (a.put o.dst undef) W := by
  subst hoff
  obtain ⟨hrow, hg⟩ := R_seg HO i h0 hi hcl hcc hj hM hokp
  have hbg : base ≤ g := R_base HO g (by simp [Value.ownBlock])
  have hnx : n = xs.length := (R_reads' HO).1
  obtain ⟨_, inner, hown, hr⟩ := HO
  have hil : i.toNat < n := by omega
  have hB : Below base w0 (W.setCells g (i.toNat * d.sz + j) seg) := HB.trans ⟨hg.os, hg.tape, hg.output, hg.size, fun k hk => by
    have hlt : k < W.heap.size ∨ W.heap.size ≤ k := Nat.lt_or_ge _ _
    rcases hlt with hlt | hge
    · exact hg.block k hlt (fun he => by injection he with he; omega)
    · exact setCells_far seg _ k (by omega)⟩
  have hrun : (Instr.storeAt t (.pointer (some ⟨g, i.toNat * d.sz + j, none⟩)) u).run P W = .ok () (W.setCells g (i.toNat * d.sz + j) seg) := by
    rcases hown.2 with ⟨hv, _⟩ | ⟨g', cap', cur, hv, hb, hh, hnc, hcm, hcs, _⟩
    · cases hv
    injection hv with ha _ hc
    injection ha with ha
    injection ha with hg'
    subst hg'; subst hc
    refine run_store_run t u seg hh hu ht ?_ h1
    have h2 : i.toNat * d.sz + d.sz ≤ n * d.sz := by rw [← Nat.succ_mul]; exact Nat.mul_le_mul_right _ hil
    have h3 : n * d.sz ≤ cap * d.sz := Nat.mul_le_mul_right _ (by omega)
    omega
  rw [if_pos hw]
  unfold Oper.wp execOp
  simp only [ho, haddr, hx, Sem.run_bind, Sem.run_pure, Result.andThen_ok, hrun]
  show Kc (a.put o.dst undef) _
  rw [hN]
  exact h _ hrow hB hg
theorem H_store_step (d : Kd α) {w0 W : World} (base : Nat) (hN : o.dst = none) (hw : Region.wanted o (yielded ops a.tmps) = true) (t : TypeId) (p x : Operand) (ho : o.op = .store t p x) (e : TypeId) {g n cap o' : Nat} (i : Int) (j : Nat) (xs : List α) (x' : α) (u : Value) (seg c : List Value) (ok oki okp : Nat → Prop)
    (haddr : a.eval p = .pointer (some ⟨g, o', none⟩)) (hoff : o' = i.toNat * d.sz + j) (hx : a.eval x = u) (hu : u.cells.toList = seg) (ht : (P.info? t).map (·.size) = some seg.length) (hone : ∀ q ∈ seg, q.oneCell' = true)
    (HO : H d e W base ok (.slice (some ⟨g, 0, none⟩) n cap) xs i oki c) (h0 : 0 ≤ i) (hi : i < n)
    (hj : j + seg.length ≤ d.sz) (hM : d.M W base okp x' (c.take j ++ seg ++ c.drop (j + seg.length))) (hokp : ∀ k, okp k → oki k) (HB : Below base w0 W)
    (h : ∀ w1, S d e w1 base ok (.slice (some ⟨g, 0, none⟩) n cap) (xs.set i.toNat x') → Below base w0 w1 → W.grownBy w1 (some g) → Kc a w1) : if Region.wanted o (yielded ops a.tmps) = true then Oper.wp P o a W Kc Q else Kc (a.put o.dst undef) W := by
  obtain ⟨rows, _, hraw, hcl, hco, hcc, hback⟩ := H_raw HO h0 hi
  have hgo : some g = (Value.slice (some ⟨g, 0, none⟩) n cap).ownBlock := by simp [Value.ownBlock]
  have hng : ∀ k, oki k → k ≠ g := by
    intro k hk he
    subst he
    obtain ⟨_, f, hR⟩ := HO
    exact (hR.1 k hgo.symm).2 hk
  refine R_store_step (raw d.sz) base hN hw t p x ho e i j rows (c.take j ++ seg ++ c.drop (j + seg.length)) u seg c (fun _ => True) (fun _ => False) haddr hoff hx hu ht hone hraw h0 hi hcl hcc hj
    ⟨rfl, d.K_len (d.K_of_M hM), d.K_one (d.K_of_M hM)⟩ (fun _ hk => hk.elim) HB ?_
  intro w1 hr hb hg
  exact h w1 (H_back (hback w1 _ hg hr) (M_step hM (fun k hk hlt => hg.block k hlt (fun he => hng k (hokp k hk) (by injection he)))) hokp) hb hg
end
end
abbrev Cel := S101
abbrev kCel : Kd Cel := k101
abbrev kRow : Kd (List Cel) := Kd.slice 101 kCel
structure CeS where
  now : List Cel
  out : List (List Cel)
  cnt : Int
structure CeJ (base bn bo : Nat) (bk : Option Nat) (uw : Option Nat) (gN cN gO cO : Nat) (s : CeS) (w : World) : Prop where
  hn : w.heap[bn]? = some (.cells #[.slice (some ⟨gN, 0, none⟩) s.now.length cN] 99 (0, 0))
  ho : w.heap[bo]? = some (.cells #[.slice (some ⟨gO, 0, none⟩) s.out.length cO] 97 (0, 0))
  hk : ∀ b, bk = some b → w.heap[b]? = some (.cells #[.int .i64 s.cnt] 3 (0, 0))
  N : kCel.R 101 w base (fun k => some k ≠ uw) (.slice (some ⟨gN, 0, none⟩) s.now.length cN) s.now
  O : Kd.S kRow 99 w base (fun k => k ≠ gN ∧ k ≠ bn ∧ some k ≠ uw) (.slice (some ⟨gO, 0, none⟩) s.out.length cO) s.out
  bn_ : base ≤ bn
  bo_ : base ≤ bo
  bk_ : ∀ b, bk = some b → base ≤ b
  un : some bn ≠ uw
  uo : some bo ≠ uw
  uk : ∀ b, bk = some b → some b ≠ uw
def CeI (base bn bo bk : Nat) (uw : Option Nat) (s : CeS) (w : World) : Prop := ∃ gN cN gO cO, CeJ base bn bo (some bk) uw gN cN gO cO s w
section
variable {base bn bo gN cN gO cO : Nat} {bk uw : Option Nat} {s : CeS} {w w1 : World}
theorem CeJ.gN_ne (h : CeJ base bn bo bk uw gN cN gO cO s w) : bn ≠ gN ∧ bo ≠ gN ∧ (∀ b, bk = some b → b ≠ gN) ∧ some gN ≠ uw ∧ base ≤ gN ∧ gN < w.heap.size := by
  have e : (Value.slice (some ⟨gN, 0, none⟩) s.now.length cN).ownBlock = some gN := by simp [Value.ownBlock]
  refine ⟨fun q => Kd.R_ne h.N h.hn (by decide) (by rw [e, q]), fun q => Kd.R_ne h.N h.ho (by decide) (by rw [e, q]), fun b eb q => Kd.R_ne h.N (h.hk b eb) (by decide) (by rw [e, q]), h.N.1 gN e, Kd.R_base h.N gN e, Kd.R_lt h.N gN e⟩
theorem CeJ.gO_ne (h : CeJ base bn bo bk uw gN cN gO cO s w) : bn ≠ gO ∧ bo ≠ gO ∧ (∀ b, bk = some b → b ≠ gO) ∧ some gO ≠ uw ∧ gO ≠ gN ∧ base ≤ gO ∧ gO < w.heap.size := by
  have e : (Value.slice (some ⟨gO, 0, none⟩) s.out.length cO).ownBlock = some gO := by simp [Value.ownBlock]
  have hok := (Kd.S_R h.O).1 gO e
  exact ⟨fun q => hok.2.1 q.symm, fun q => Kd.S_ne h.O h.ho (by decide) (by rw [e, q]), fun b eb q => Kd.S_ne h.O (h.hk b eb) (by decide) (by rw [e, q]), hok.2.2, hok.1, Kd.S_base h.O gO e, Kd.S_lt h.O gO e⟩
theorem CeJ.step (h : CeJ base bn bo bk uw gN cN gO cO s w) (hm : ∀ k, k < w.heap.size → some k ≠ uw → w1.heap[k]? = w.heap[k]?) : CeJ base bn bo bk uw gN cN gO cO s w1 :=
  ⟨(hm bn (blk_lt h.hn) h.un).trans h.hn, (hm bo (blk_lt h.ho) h.uo).trans h.ho, fun b eb => (hm b (blk_lt (h.hk b eb)) (h.uk b eb)).trans (h.hk b eb), Kd.R_step h.N (fun k hk hlt => hm k hlt hk), Kd.S_step h.O (fun k hk hlt => hm k hlt hk.2.2), h.bn_, h.bo_, h.bk_, h.un, h.uo, h.uk⟩
theorem CeJ.below (h : CeJ base bn bo bk uw gN cN gO cO s w) (hb : Below w.heap.size w w1) : CeJ base bn bo bk uw gN cN gO cO s w1 := h.step (fun k hk _ => hb.block k hk)
theorem CeJ.drew (h : CeJ base bn bo bk uw gN cN gO cO s w) : CeJ base bn bo bk uw gN cN gO cO s w.drew := h.step (fun _ _ _ => rfl)
theorem CeJ.put (h : CeJ base bn bo bk uw gN cN gO cO s w) {i : Int} {x : Cel} {ok : Nat → Prop} (hR : kCel.R 101 w1 base ok (.slice (some ⟨gN, 0, none⟩) s.now.length cN) (s.now.set i.toNat x)) (hg : w.grownBy w1 (some gN)) :
    CeJ base bn bo bk uw gN cN gO cO { s with now := s.now.set i.toNat x } w1 ∧ ∀ k, uw = some k → k < w.heap.size → w1.heap[k]? = w.heap[k]? := by
  obtain ⟨n1, n2, n3, n4, n5, n6⟩ := h.gN_ne
  have f : ∀ k, k < w.heap.size → k ≠ gN → w1.heap[k]? = w.heap[k]? := fun k hk hn => hg.block k hk (fun e => hn (by injection e))
  have e : (Value.slice (some ⟨gN, 0, none⟩) s.now.length cN).ownBlock = some gN := by simp [Value.ownBlock]
  have hlen : (s.now.set i.toNat x).length = s.now.length := List.length_set
  refine ⟨⟨?_, (f bo (blk_lt h.ho) n2).trans h.ho, fun b eb => (f b (blk_lt (h.hk b eb)) (n3 b eb)).trans (h.hk b eb), ?_, Kd.S_step h.O (fun k hk hlt => f k hlt hk.1), h.bn_, h.bo_, h.bk_, h.un, h.uo, h.uk⟩, fun k ek hk => f k hk (fun q => n4 (by rw [ek, q]))⟩
  · show w1.heap[bn]? = some (.cells #[.slice (some ⟨gN, 0, none⟩) (s.now.set i.toNat x).length cN] _ _)
    rw [hlen]
    exact (f bn (blk_lt h.hn) n1).trans h.hn
  · show kCel.R _ w1 base _ (.slice (some ⟨gN, 0, none⟩) (s.now.set i.toNat x).length cN) (s.now.set i.toNat x)
    rw [hlen]
    exact Kd.R_mono (Kd.R_tight rfl hR) (fun k hk => by rw [e] at hk; injection hk with hk; rw [hk]; exact n4)
theorem CeJ.count {b : Nat} (h : CeJ base bn bo (some b) uw gN cN gO cO s w) (c : Int) : CeJ base bn bo (some b) uw gN cN gO cO { s with cnt := c } (w.setCell ⟨b, 0, none⟩ (.int .i64 c)) ∧ ∀ k, uw = some k → (w.setCell ⟨b, 0, none⟩ (.int .i64 c)).heap[k]? = w.heap[k]? := by
  have f : ∀ k, k ≠ b → (w.setCell ⟨b, 0, none⟩ (.int .i64 c)).heap[k]? = w.heap[k]? := fun k hk => Below.heap_setCell w ⟨b, 0, none⟩ _ k hk
  have hb := h.hk b rfl
  have d1 : bn ≠ b := fun e => by have h1 := h.hn; rw [e, hb] at h1; injection h1 with h1; injection h1 with _ h1; exact absurd h1 (by decide)
  have d2 : bo ≠ b := fun e => by have h1 := h.ho; rw [e, hb] at h1; injection h1 with h1; injection h1 with _ h1; exact absurd h1 (by decide)
  exact ⟨⟨(f bn d1).trans h.hn, (f bo d2).trans h.ho, fun b' eb => by injection eb with eb; subst eb; exact blk_put hb 0 _ rfl, Kd.R_set h.N hb (by decide) 0 _, Kd.S_set h.O hb (by decide) 0 _, h.bn_, h.bo_, h.bk_, h.un, h.uo, h.uk⟩, fun k ek => f k (fun q => h.uk b rfl (by rw [ek, q]))⟩
theorem CeJ.done {w2 : World} {v : Value} {i : Int} {row : List Cel} {oki : Nat → Prop} (h : CeJ base bn bo bk uw gN cN gO cO s w) (hv : kCel.R 101 w base oki v (s.out.getD i.toNat [])) (hvk : ∀ k, oki k → k ≠ gN ∧ some k ≠ uw) (h1 : w.grownBy w1 v.ownBlock)
    (hS : Kd.S kRow 99 w2 base (fun k => k ≠ gN ∧ k ≠ bn ∧ some k ≠ uw) (.slice (some ⟨gO, 0, none⟩) s.out.length cO) (s.out.set i.toNat row)) (h2 : w1.grownBy w2 (some gO)) :
    CeJ base bn bo bk uw gN cN gO cO { s with out := s.out.set i.toNat row } w2 ∧ ∀ k, uw = some k → k < w.heap.size → w2.heap[k]? = w.heap[k]? := by
  obtain ⟨n1, n2, n3, n4, n5, n6⟩ := h.gN_ne
  obtain ⟨m1, m2, m3, m4, m5, m6, m7⟩ := h.gO_ne
  have f : ∀ k, k < w.heap.size → some k ≠ v.ownBlock → k ≠ gO → w2.heap[k]? = w.heap[k]? := fun k hk hn hm => (h2.block k (Nat.lt_of_lt_of_le hk h1.size) (fun e => hm (by injection e))).trans (h1.block k hk hn)
  have hlen : (s.out.set i.toNat row).length = s.out.length := List.length_set
  have e : (Value.slice (some ⟨gN, 0, none⟩) s.now.length cN).ownBlock = some gN := by simp [Value.ownBlock]
  refine ⟨⟨(f bn (blk_lt h.hn) (Kd.R_ne hv h.hn (by decide)) m1).trans h.hn, ?_, fun b eb => (f b (blk_lt (h.hk b eb)) (Kd.R_ne hv (h.hk b eb) (by decide)) (m3 b eb)).trans (h.hk b eb), ?_, ?_, h.bn_, h.bo_, h.bk_, h.un, h.uo, h.uk⟩, fun k ek hk => f k hk (fun q => (hvk k (hv.1 k q.symm)).2 ek.symm) (fun q => m4 (by rw [ek, q]))⟩
  · show w2.heap[bo]? = some (.cells #[.slice (some ⟨gO, 0, none⟩) (s.out.set i.toNat row).length cO] _ _)
    rw [hlen]
    exact (f bo (blk_lt h.ho) (Kd.R_ne hv h.ho (by decide)) m2).trans h.ho
  · exact Kd.R_mono (Kd.R_step (Kd.R_tight rfl h.N) (fun k hk hlt => f k hlt (fun q => by rw [e] at hk; injection hk with hk; exact (hvk k (hv.1 k q.symm)).1 hk) (fun q => by rw [e] at hk; injection hk with hk; exact m5 (q.symm.trans hk)))) (fun k hk => h.N.1 k hk.symm)
  · show Kd.S kRow _ w2 base _ (.slice (some ⟨gO, 0, none⟩) (s.out.set i.toNat row).length cO) (s.out.set i.toNat row)
    rw [hlen]
    exact hS
theorem wrap64_small {n : Int} (h0 : -9223372036854775808 ≤ n) (h1 : n < 9223372036854775808) : wrap64 n = n := by unfold wrap64; omega
theorem CeJ.max (h : CeJ base bn bo bk uw gN cN gO cO s w) : s.now.length ≤ maxLen := by
  obtain ⟨_, inner, ⟨hl, ho⟩, _⟩ := h.N
  rcases ho with ⟨_, h2⟩ | ⟨g, cap, cur, _, _, _, hc, hm, _, _⟩ <;> omega
theorem CeJ.aim {uw : Option Nat} (h : CeJ base bn bo bk none gN cN gO cO s w) (hb : Below w.heap.size w w1) (hu : ∀ k, uw = some k → w.heap.size ≤ k) : CeJ base bn bo bk uw gN cN gO cO s w1 := by
  have f : ∀ k, k < w.heap.size → some k ≠ uw := fun k hk e => by have h1 := hu k e.symm; omega
  exact ⟨blk_below h.hn hb, blk_below h.ho hb, fun b eb => blk_below (h.hk b eb) hb, Kd.R_below (Kd.R_mono (Kd.R_bound h.N) (fun k hk => f k hk.2.2.1)) hb, Kd.S_below (Kd.S_mono (Kd.S_bound h.O) (fun k hk => ⟨hk.1.1, hk.1.2.1, f k hk.2.2.1⟩)) hb,
    h.bn_, h.bo_, h.bk_, f _ (blk_lt h.hn), f _ (blk_lt h.ho), fun b eb => f _ (blk_lt (h.hk b eb))⟩
theorem CeJ.free (h : CeJ base bn bo bk uw gN cN gO cO s w) : CeJ base bn bo bk none gN cN gO cO s w :=
  ⟨h.hn, h.ho, h.hk, Kd.R_mono h.N (fun _ _ => by simp), Kd.S_mono h.O (fun k hk => ⟨hk.1, hk.2.1, by simp⟩), h.bn_, h.bo_, h.bk_, by simp, by simp, fun _ _ => by simp⟩
theorem CeJ.made {b : Nat} (h : CeJ base bn bo none none gN cN gO cO s w) (hb : Below w.heap.size w w1) (hk : w1.heap[b]? = some (.cells #[.int .i64 0] 3 (0, 0))) (hbb : base ≤ b) : CeJ base bn bo (some b) none gN cN gO cO { s with cnt := 0 } w1 := by
  have h1 := h.below hb
  exact ⟨h1.hn, h1.ho, fun b' eb => by injection eb with eb; subst eb; exact hk, h1.N, h1.O, h1.bn_, h1.bo_, fun b' eb => by injection eb with eb; subst eb; exact hbb, by simp, by simp, fun _ _ => by simp⟩
theorem CeI_step {b : Nat} (h : CeI base bn bo b uw s w) (hm : ∀ k, k < w.heap.size → some k ≠ uw → w1.heap[k]? = w.heap[k]?) : CeI base bn bo b uw s w1 := by
  obtain ⟨gN, cN, gO, cO, h⟩ := h
  exact ⟨gN, cN, gO, cO, h.step hm⟩
theorem CeI_drew {b : Nat} (h : CeI base bn bo b uw s w) : CeI base bn bo b uw s w.drew := CeI_step h (fun _ _ _ => rfl)
theorem CeI_set {b g j : Nat} {u : Value} (h : CeI base bn bo b uw s w) (hu : uw = some g) : CeI base bn bo b uw s (w.setCell ⟨g, j, none⟩ u) := CeI_step h (fun k _ hk => Below.heap_setCell w ⟨g, j, none⟩ u k (fun e => hk (by rw [hu, e])))
theorem CeJ.cells (h : CeJ base bn bo bk uw gN cN gO cO s w) (i : Int) (h0 : 0 ≤ i) (h1 : i < s.now.length) :
    (∀ (j : Nat) u, ([.int .i64 (rd_T101 s.now i).f0, .int .i64 (rd_T101 s.now i).f1, .int .i64 (rd_T101 s.now i).f2, .int .i64 (rd_T101 s.now i).f3, .int .i64 (rd_T101 s.now i).f4] : List Value)[j]? = some u → w.cell? ⟨gN, i.toNat * 5 + j, none⟩ = some u) ∧ ∀ j, w.frozen? ⟨gN, i.toNat * 5 + j, none⟩ = false := by
  obtain ⟨c, hcl, hM, hcc, hfr⟩ := Kd.R_elem h.N z101 i h0 h1
  have hc : c = _ := k101_openM hM
  subst hc
  exact ⟨fun j u hu => hcc j u hu, fun j => hfr j⟩
end
end Go.Proofs.Ytoajlmlobaccdaa.P
