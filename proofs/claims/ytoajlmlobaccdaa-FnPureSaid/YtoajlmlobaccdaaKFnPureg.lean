/- What the law FnPure reaches, part 7: functions as plain Lean functions with the proofs that their calls come to them, and plain lemmas over these. Put together by a program (wip/pack.py). -/
import Derived.Test.YtoajlmlobaccdaaKFnPured
import Derived.Test.YtoajlmlobaccdaaKFnPurec
import Derived.Test.YtoajlmlobaccdaaKFnPuref
namespace Go.Proofs.Ytoajlmlobaccdaa.P
open Go.RowKit Go.Proofs.YtoajlmlobaccdaaW.PrintWords Go.Proofs.YtoajlmlobaccdaaW.PrintLast Go.Proofs.YtoajlmlobaccdaaW.PrintMore
attribute [local go_sem] ptrOf_slice
attribute [local go_sem] min2_str max2_int min2_int max_two min_two max_three min_three max_four min_four
set_option linter.unusedVariables false
set_option linter.unusedSimpArgs false
def impl_run_impl_IsWiring_1.l0 : Nat → Int → List Int → List Int → Int → Int → Option (Bool)
 | 0, _, _, _, _, _ => none
 | k + 1, x0, x7, x12, x13, x14 => if x14 < x13 then (if 0 ≤ x14 then (if x14 < (x12.length : Int) then (if (rd x12 x14) < 0 then (some false) else (if (rd x12 x14) > (wrap64 (x0 - 2)) then (some false) else (if 0 ≤ (rd x12 x14) then (if (rd x12 x14) < (x7.length : Int) then (if 0 ≤ (wrap64 ((rd x12 x14) + 1)) then (if (wrap64 ((rd x12 x14) + 1)) < (x7.length : Int) then (if (rd x7 (rd x12 x14)) > (rd x7 (wrap64 ((rd x12 x14) + 1))) then (some false) else ((impl_IsWiring_1.f x7 (rd x12 x14)).bind fun _ => (impl_run_impl_IsWiring_1.l0 k x0 ((x7.set ((rd x12 x14) : Int).toNat (rd x7 (wrap64 ((rd x12 x14) + 1)))).set ((wrap64 ((rd x12 x14) + 1)) : Int).toNat (rd x7 (rd x12 x14))) x12 x13 (wrap64 (x14 + 1))))) else (none)) else (none)) else (none)) else (none)))) else (none)) else (none)) else (some true)
def impl_run_impl_IsWiring_1.f (k : Nat) (a0 : Int) (l1 : List Int) (a2 : Unit) : Option (Bool) := (impl_upTo.f k a0).bind fun t777 => (impl_run_impl_IsWiring_1.l0 k a0 t777 l1 (l1.length : Int) 0)
theorem impl_run_impl_IsWiring_1.mono_l : ∀ k, (∀ y0 y1 y2 y3 y4, LeO (impl_run_impl_IsWiring_1.l0 k y0 y1 y2 y3 y4) (impl_run_impl_IsWiring_1.l0 (k + 1) y0 y1 y2 y3 y4))
 | 0 => fun _ _ _ _ _ r h => by simp [impl_run_impl_IsWiring_1.l0] at h
 | k + 1 => by
  have ih0 := impl_run_impl_IsWiring_1.mono_l k
  ·intro y0 y1 y2 y3 y4; unfold impl_run_impl_IsWiring_1.l0
   repeat' first | (with_reducible first | apply ih0 | apply impl_upTo.mono | exact LeO.refl _ | exact LeO.none _ | refine LeO.ite ?_ ?_ | refine LeO.bind ?_ (fun _ => ?_)) | exact LeO.none _
theorem impl_run_impl_IsWiring_1.mono : ∀ a0 a1 a2 k, LeO (impl_run_impl_IsWiring_1.f k a0 a1 a2) (impl_run_impl_IsWiring_1.f (k + 1) a0 a1 a2) := by
 intro a0 a1 a2 k; have ih0 := impl_run_impl_IsWiring_1.mono_l k; unfold impl_run_impl_IsWiring_1.f
 repeat' first | (with_reducible first | apply ih0 | apply impl_upTo.mono | exact LeO.refl _ | exact LeO.none _ | refine LeO.ite ?_ ?_ | refine LeO.bind ?_ (fun _ => ?_)) | exact LeO.none _
def impl_run_impl_IsWiring_1.T5 : Bool × List (List Nat × List Nat) := (true, [([], []), ([0], [0]), ([1], [1]), ([2], [2]), ([2], [2]), ([4, 2], [2, 4]), ([3, 5, 2], [2, 3, 5]), ([2, 6], [2, 6]), ([7, 2], [7]), ([8], [8]), ([8], [8]), ([9, 10, 8], [8, 9, 10]), ([11, 8], [8, 11]), ([8], [8]), ([8], [8]), ([14, 8], [8, 14]), ([13, 15, 8], [8, 13, 15]), ([16, 8], [8, 16]), ([12, 17, 8], [8, 12, 17]), ([8, 18], [8, 18])])
def impl_run_impl_IsWiring_1.B5 : List Nat := [0, 1, 3, 7, 7, 23, 63, 127, 255, 511, 511, 2047, 4095, 511, 511, 16895, 57855, 123391, 262143, 524287]
theorem impl_run_impl_IsWiring_1.tab5 : rtab .any (opsOf Try.f113 5) = impl_run_impl_IsWiring_1.T5 := by kernel_rfl
theorem impl_run_impl_IsWiring_1.bits5 : waitsOk impl_run_impl_IsWiring_1.T5.2 impl_run_impl_IsWiring_1.B5 = true := by kernel_rfl
def impl_run_impl_IsWiring_1.T8 : Bool × List (List Nat × List Nat) := (true, [([], []), ([], []), ([], []), ([], []), ([3], [3]), ([], []), ([], []), ([6], [6]), ([5, 7], [5, 7]), ([8], [8]), ([], []), ([], []), ([10, 11], [10, 11]), ([12], [12]), ([0, 1, 0, 1, 5, 6, 7, 8, 9, 13], [0, 1]), ([14, 9, 0, 1, 5, 6, 7, 8, 9, 13], [9, 14]), ([2, 4, 0, 1, 2, 3, 4, 5, 6, 7, 8, 9, 10, 11, 12, 13, 14, 15], [2, 4]), ([16, 13, 15, 0, 1, 2, 3, 4, 5, 6, 7, 8, 9, 10, 11, 12, 13, 14, 15], [13, 16])])
def impl_run_impl_IsWiring_1.B8 : List Nat := [0, 0, 0, 0, 8, 0, 0, 64, 224, 480, 0, 0, 3072, 7168, 16355, 32739, 65535, 131071]
theorem impl_run_impl_IsWiring_1.tab8 : rtab .any (opsOf Try.f113 8) = impl_run_impl_IsWiring_1.T8 := by kernel_rfl
theorem impl_run_impl_IsWiring_1.bits8 : waitsOk impl_run_impl_IsWiring_1.T8.2 impl_run_impl_IsWiring_1.B8 = true := by kernel_rfl
set_option maxHeartbeats 8000000 in
set_option maxRecDepth 100000 in
theorem impl_run_impl_IsWiring_1.calls (k : Nat) (a0 : Int) (A1 : Option Addr) (c1 : Nat) (l1 : List Int) (a2 : Unit) (r : Bool) (w : World) (hr1 : Kd.C (Kd.int .i64) w A1 l1.length l1) (hc1 : l1.length ≤ c1) (h : impl_run_impl_IsWiring_1.f k a0 l1 a2 = some r) :
  Calls Try.prog 113 #[.int .i64 a0, .slice A1 l1.length c1, .func (.func 163) #[] #[]] w fun e w' => e = .returned (.bool r) ∧ Below w.heap.size w w' := by
 have HR1 := am_ hr1; have HC1 := am_ hc1; clear hr1 hc1; have HB := am_ (Below.refl w.heap.size w); have H : ((impl_upTo.f k a0).bind fun t777 => (impl_run_impl_IsWiring_1.l0 k a0 t777 l1 (l1.length : Int) 0)) = some r := h; clear h; obtain ⟨t777, A4, H⟩ := bnd_ H; have H' := am_ H; clear H; go_enter Try.func113, Try.ntmps113
 go_wp2_with (first | ((with_reducible refine gc_ 168 rfl ?_); refine gR_ (some 11) Try.func168 #[.int .i64 a0] (impl_upTo.calls k a0 t777 _ A4.out) ?_; intro w5 v778 ho0 hb; have HO779 := rl0_ ho0 HB; replace HB := bs0_ HB hb; try clear hb; (try clear ho0)))
 go_loopg [14] k (fun kq v14 w' => ∃ (x7_1 : List Int) (x14_1 : Int), v14 = .int .i64 x14_1 ∧ Aside0 (impl_run_impl_IsWiring_1.l0 kq a0 x7_1 l1 (l1.length : Int) x14_1 = some r) ∧ Aside0 (kq ≤ k) ∧ Aside0 (Kd.R (Kd.int .i64) 3 w' w.heap.size (fun _ => True) v778 x7_1) ∧ Aside0 (Below w.heap.size w w'))
 case atStart => exact ⟨(t777), (0), vt_, H', ⟨Nat.le_refl _⟩, rX_ HO779, bX0_ HB⟩
 case round =>
  clear H'; obtain ⟨x7_1, x14_1, rfl, HA, HK1, HO_7, HB⟩ := hrel; cases gk with
  | zero => exact absurd HA.out (by simp [impl_run_impl_IsWiring_1.l0])
  | succ k1 =>
   have H := HA.out; clear HA; simp only [impl_run_impl_IsWiring_1.l0] at H
   by_cases c6 : x14_1 < (l1.length : Int)
   ·rw [if_pos c6] at H; have c6b0 := decide_eq_true c6; clear c6; by_cases c7 : 0 ≤ x14_1
    ·rw [if_pos c7] at H; have c7b0 := decide_eq_true c7; clear c7; by_cases c8 : x14_1 < (l1.length : Int)
     ·rw [if_pos c8] at H; have c8b0 := decide_eq_true c8; clear c8; by_cases c9 : (rd l1 x14_1) < 0
      ·rw [if_pos c9] at H; have c9b0 := decide_eq_true c9; clear c9; obtain rfl := Option.some.inj H; have p780 : 0 ≤ (x14_1 : Int) := oda_; have q780 : x14_1 < (l1.length : Int) := oda_; obtain ⟨ad780, e780, hx780_0⟩ := Kd.at_int HR1.out x14_1 p780 q780; cases e780; replace hx780_0 := hc_ HB hx780_0; replace p780 := eq_true p780; replace q780 := eq_true q780; try go_wp2
       replace HO_7 := am_ (Kd.R_drew HO_7.out); replace HB := bd_ HB; refine start_ (n := 20) (S := fun w' => True) (ds := []) #[false, false, false, false, false, false, false, false, false, false, false, false, false, false, false, false, false, false, false, false] (by kernel_rfl) rfl rfl trivial (fun hHeld => ?_); refine with_tabW impl_run_impl_IsWiring_1.tab5 impl_run_impl_IsWiring_1.bits5 (fun HT_ HW_ => ?_); generalize wr.drew = w10 at HO_7 HB hHeld ⊢
       refine pD_ 0 (some 18) HT_ (h := ?_); refine pD_ 1 (some 19) HT_ (h := ?_); refine pD_ 2 (some 20) HT_ (h := ?_); refine pure_ (i := 3) (N := some 21) (v := undef) (a' := ?_) #[true, true, true, true, false, false, false, false, false, false, false, false, false, false, false, false, false, false, false, false] rfl rfl (any_of HT_.out (by kernel_rfl)) (fun _ _ _ h => h) (Or.inr ⟨by rfl, rfl⟩) ?_ ?_; rotate_left
       ·simp only [Act.put, sA_, sZ_, sS_, i64_w, i32_w]
        rfl
       refine pure_ (i := 4) (N := some 22) (v := undef) (a' := ?_) #[true, true, true, true, true, false, false, false, false, false, false, false, false, false, false, false, false, false, false, false] rfl rfl (any_of HT_.out (by kernel_rfl)) (fun _ _ _ h => h) (Or.inr ⟨by rfl, rfl⟩) ?_ ?_; rotate_left
       ·simp only [Act.put, sA_, sZ_, sS_, i64_w, i32_w]
        rfl
       refine pure_ (i := 5) (N := some 23) (v := undef) (a' := ?_) #[true, true, true, true, true, true, false, false, false, false, false, false, false, false, false, false, false, false, false, false] rfl rfl (any_of HT_.out (by kernel_rfl)) (fun _ _ _ h => h) (Or.inr ⟨by rfl, rfl⟩) ?_ ?_; rotate_left
       ·simp only [Act.put, sA_, sZ_, sS_, i64_w, i32_w]
        rfl
       refine pure_ (i := 6) (N := some 24) (v := undef) (a' := ?_) #[true, true, true, true, true, true, true, false, false, false, false, false, false, false, false, false, false, false, false, false] rfl rfl (any_of HT_.out (by kernel_rfl)) (fun _ _ _ h => h) (Or.inr ⟨by rfl, rfl⟩) ?_ ?_; rotate_left
       ·simp only [Act.put, sA_, sZ_, sS_, i64_w, i32_w]
        rfl
       refine pD_ 7 (some 25) HT_ (h := ?_); refine pD_ 8 (some 26) HT_ (h := ?_); refine pure_ (i := 9) (N := some 27) (v := undef) (a' := ?_) #[true, true, true, true, true, true, true, true, true, true, false, false, false, false, false, false, false, false, false, false] rfl rfl (any_of HT_.out (by kernel_rfl)) (fun _ _ _ h => h) (Or.inr ⟨by rfl, rfl⟩) ?_ ?_; rotate_left
       ·simp only [Act.put, sA_, sZ_, sS_, i64_w, i32_w]
        rfl
       refine pure_ (i := 10) (N := some 28) (v := undef) (a' := ?_) #[true, true, true, true, true, true, true, true, true, true, true, false, false, false, false, false, false, false, false, false] rfl rfl (any_of HT_.out (by kernel_rfl)) (fun _ _ _ h => h) (Or.inr ⟨by rfl, rfl⟩) ?_ ?_; rotate_left
       ·simp only [Act.put, sA_, sZ_, sS_, i64_w, i32_w]
        rfl
       refine pure_ (i := 11) (N := some 29) (v := undef) (a' := ?_) #[true, true, true, true, true, true, true, true, true, true, true, true, false, false, false, false, false, false, false, false] rfl rfl (any_of HT_.out (by kernel_rfl)) (fun _ _ _ h => h) (Or.inr ⟨by rfl, rfl⟩) ?_ ?_; rotate_left
       ·simp only [Act.put, sA_, sZ_, sS_, i64_w, i32_w]
        rfl
       refine pure_ (i := 12) (N := some 30) (v := undef) (a' := ?_) #[true, true, true, true, true, true, true, true, true, true, true, true, true, false, false, false, false, false, false, false] rfl rfl (any_of HT_.out (by kernel_rfl)) (fun _ _ _ h => h) (Or.inr ⟨by rfl, rfl⟩) ?_ ?_; rotate_left
       ·simp only [Act.put, sA_, sZ_, sS_, i64_w, i32_w]
        rfl
       refine pure_ (i := 13) (N := some 31) (v := undef) (a' := ?_) #[true, true, true, true, true, true, true, true, true, true, true, true, true, true, false, false, false, false, false, false] rfl rfl (any_of HT_.out (by kernel_rfl)) (fun _ _ _ h => h) (Or.inr ⟨by rfl, rfl⟩) ?_ ?_; rotate_left
       ·simp only [Act.put, sA_, sZ_, sS_, i64_w, i32_w]
        rfl
       refine pure_ (i := 14) (N := some 32) (v := undef) (a' := ?_) #[true, true, true, true, true, true, true, true, true, true, true, true, true, true, true, false, false, false, false, false] rfl rfl (any_of HT_.out (by kernel_rfl)) (fun _ _ _ h => h) (Or.inr ⟨by rfl, rfl⟩) ?_ ?_; rotate_left
       ·simp only [Act.put, sA_, sZ_, sS_, i64_w, i32_w]
        rfl
       refine pure_ (i := 15) (N := some 33) (v := undef) (a' := ?_) #[true, true, true, true, true, true, true, true, true, true, true, true, true, true, true, true, false, false, false, false] rfl rfl (any_of HT_.out (by kernel_rfl)) (fun _ _ _ h => h) (Or.inr ⟨by rfl, rfl⟩) ?_ ?_; rotate_left
       ·simp only [Act.put, sA_, sZ_, sS_, i64_w, i32_w]
        rfl
       refine pure_ (i := 16) (N := some 34) (v := undef) (a' := ?_) #[true, true, true, true, true, true, true, true, true, true, true, true, true, true, true, true, true, false, false, false] rfl rfl (any_of HT_.out (by kernel_rfl)) (fun _ _ _ h => h) (Or.inr ⟨by rfl, rfl⟩) ?_ ?_; rotate_left
       ·simp only [Act.put, sA_, sZ_, sS_, i64_w, i32_w]
        rfl
       refine pure_ (i := 17) (N := some 35) (v := undef) (a' := ?_) #[true, true, true, true, true, true, true, true, true, true, true, true, true, true, true, true, true, true, false, false] rfl rfl (any_of HT_.out (by kernel_rfl)) (fun _ _ _ h => h) (Or.inr ⟨by rfl, rfl⟩) ?_ ?_; rotate_left
       ·simp only [Act.put, sA_, sZ_, sS_, i64_w, i32_w]
        rfl
       refine pure_ (i := 18) (N := some 36) (v := undef) (a' := ?_) #[true, true, true, true, true, true, true, true, true, true, true, true, true, true, true, true, true, true, true, false] rfl rfl (any_of HT_.out (by kernel_rfl)) (fun _ _ _ h => h) (Or.inr ⟨by rfl, rfl⟩) ?_ ?_; rotate_left
       ·simp only [Act.put, sA_, sZ_, sS_, i64_w, i32_w]
        rfl
       refine pD_ 19 (some 37) HT_ (h := ?_); refine done_ (done_of HT_.out (by kernel_rfl)) ?_; try go_wp2
       go_ret; exact ⟨er_, bx0 HB.out⟩
      ·rw [if_neg c9] at H; have c9b0 := decide_eq_false c9; clear c9; by_cases c11 : (rd l1 x14_1) > (wrap64 (a0 - 2))
       ·rw [if_pos c11] at H; have c11b0 := decide_eq_true c11; clear c11; obtain rfl := Option.some.inj H; have p780 : 0 ≤ (x14_1 : Int) := oda_; have q780 : x14_1 < (l1.length : Int) := oda_; obtain ⟨ad780, e780, hx780_0⟩ := Kd.at_int HR1.out x14_1 p780 q780; cases e780; replace hx780_0 := hc_ HB hx780_0; replace p780 := eq_true p780; replace q780 := eq_true q780; try go_wp2
        replace HO_7 := am_ (Kd.R_drew HO_7.out); replace HB := bd_ HB; refine start_ (n := 20) (S := fun w' => True) (ds := []) #[false, false, false, false, false, false, false, false, false, false, false, false, false, false, false, false, false, false, false, false] (by kernel_rfl) rfl rfl trivial (fun hHeld => ?_); refine with_tabW impl_run_impl_IsWiring_1.tab5 impl_run_impl_IsWiring_1.bits5 (fun HT_ HW_ => ?_); generalize wr.drew = w12 at HO_7 HB hHeld ⊢
        refine pD_ 0 (some 18) HT_ (h := ?_); refine pD_ 1 (some 19) HT_ (h := ?_); refine pD_ 2 (some 20) HT_ (h := ?_); refine pD_ 3 (some 21) HT_ (h := ?_); refine pD_ 4 (some 22) HT_ (h := ?_); refine pD_ 5 (some 23) HT_ (h := ?_); refine pD_ 6 (some 24) HT_ (h := ?_); refine pD_ 7 (some 25) HT_ (h := ?_); refine pD_ 8 (some 26) HT_ (h := ?_); refine pure_ (i := 9) (N := some 27) (v := undef) (a' := ?_) #[true, true, true, true, true, true, true, true, true, true, false, false, false, false, false, false, false, false, false, false] rfl rfl (any_of HT_.out (by kernel_rfl)) (fun _ _ _ h => h) (Or.inr ⟨by rfl, rfl⟩) ?_ ?_; rotate_left
        ·simp only [Act.put, sA_, sZ_, sS_, i64_w, i32_w]
         rfl
        refine pure_ (i := 10) (N := some 28) (v := undef) (a' := ?_) #[true, true, true, true, true, true, true, true, true, true, true, false, false, false, false, false, false, false, false, false] rfl rfl (any_of HT_.out (by kernel_rfl)) (fun _ _ _ h => h) (Or.inr ⟨by rfl, rfl⟩) ?_ ?_; rotate_left
        ·simp only [Act.put, sA_, sZ_, sS_, i64_w, i32_w]
         rfl
        refine pure_ (i := 11) (N := some 29) (v := undef) (a' := ?_) #[true, true, true, true, true, true, true, true, true, true, true, true, false, false, false, false, false, false, false, false] rfl rfl (any_of HT_.out (by kernel_rfl)) (fun _ _ _ h => h) (Or.inr ⟨by rfl, rfl⟩) ?_ ?_; rotate_left
        ·simp only [Act.put, sA_, sZ_, sS_, i64_w, i32_w]
         rfl
        refine pure_ (i := 12) (N := some 30) (v := undef) (a' := ?_) #[true, true, true, true, true, true, true, true, true, true, true, true, true, false, false, false, false, false, false, false] rfl rfl (any_of HT_.out (by kernel_rfl)) (fun _ _ _ h => h) (Or.inr ⟨by rfl, rfl⟩) ?_ ?_; rotate_left
        ·simp only [Act.put, sA_, sZ_, sS_, i64_w, i32_w]
         rfl
        refine pure_ (i := 13) (N := some 31) (v := undef) (a' := ?_) #[true, true, true, true, true, true, true, true, true, true, true, true, true, true, false, false, false, false, false, false] rfl rfl (any_of HT_.out (by kernel_rfl)) (fun _ _ _ h => h) (Or.inr ⟨by rfl, rfl⟩) ?_ ?_; rotate_left
        ·simp only [Act.put, sA_, sZ_, sS_, i64_w, i32_w]
         rfl
        refine pure_ (i := 14) (N := some 32) (v := undef) (a' := ?_) #[true, true, true, true, true, true, true, true, true, true, true, true, true, true, true, false, false, false, false, false] rfl rfl (any_of HT_.out (by kernel_rfl)) (fun _ _ _ h => h) (Or.inr ⟨by rfl, rfl⟩) ?_ ?_; rotate_left
        ·simp only [Act.put, sA_, sZ_, sS_, i64_w, i32_w]
         rfl
        refine pure_ (i := 15) (N := some 33) (v := undef) (a' := ?_) #[true, true, true, true, true, true, true, true, true, true, true, true, true, true, true, true, false, false, false, false] rfl rfl (any_of HT_.out (by kernel_rfl)) (fun _ _ _ h => h) (Or.inr ⟨by rfl, rfl⟩) ?_ ?_; rotate_left
        ·simp only [Act.put, sA_, sZ_, sS_, i64_w, i32_w]
         rfl
        refine pure_ (i := 16) (N := some 34) (v := undef) (a' := ?_) #[true, true, true, true, true, true, true, true, true, true, true, true, true, true, true, true, true, false, false, false] rfl rfl (any_of HT_.out (by kernel_rfl)) (fun _ _ _ h => h) (Or.inr ⟨by rfl, rfl⟩) ?_ ?_; rotate_left
        ·simp only [Act.put, sA_, sZ_, sS_, i64_w, i32_w]
         rfl
        refine pure_ (i := 17) (N := some 35) (v := undef) (a' := ?_) #[true, true, true, true, true, true, true, true, true, true, true, true, true, true, true, true, true, true, false, false] rfl rfl (any_of HT_.out (by kernel_rfl)) (fun _ _ _ h => h) (Or.inr ⟨by rfl, rfl⟩) ?_ ?_; rotate_left
        ·simp only [Act.put, sA_, sZ_, sS_, i64_w, i32_w]
         rfl
        refine pure_ (i := 18) (N := some 36) (v := undef) (a' := ?_) #[true, true, true, true, true, true, true, true, true, true, true, true, true, true, true, true, true, true, true, false] rfl rfl (any_of HT_.out (by kernel_rfl)) (fun _ _ _ h => h) (Or.inr ⟨by rfl, rfl⟩) ?_ ?_; rotate_left
        ·simp only [Act.put, sA_, sZ_, sS_, i64_w, i32_w]
         rfl
        refine pD_ 19 (some 37) HT_ (h := ?_); refine done_ (done_of HT_.out (by kernel_rfl)) ?_; try go_wp2
        go_ret; exact ⟨er_, bx0 HB.out⟩
       ·rw [if_neg c11] at H; have c11b0 := decide_eq_false c11; clear c11; by_cases c13 : 0 ≤ (rd l1 x14_1)
        ·rw [if_pos c13] at H; have c13b0 := decide_eq_true c13; clear c13; by_cases c14 : (rd l1 x14_1) < (x7_1.length : Int)
         ·rw [if_pos c14] at H; have c14b0 := decide_eq_true c14; clear c14; obtain ⟨ji15, hji15⟩ : ∃ j_ : Int, (wrap64 ((rd l1 x14_1) + 1)) = j_ := ⟨_, rfl⟩; first | rw [hji15] at H | simp only [hji15] at H
          have hji15w : (IntKind.i64.wrap ((rd l1 x14_1) + 1)) = ji15 := (i64_w _).trans hji15; by_cases c16 : 0 ≤ (ji15)
          ·rw [if_pos c16] at H; have c16b0 := decide_eq_true c16; clear c16; by_cases c17 : (ji15) < (x7_1.length : Int)
           ·rw [if_pos c17] at H; have c17b0 := decide_eq_true c17; clear c17; by_cases c18 : (rd x7_1 (rd l1 x14_1)) > (rd x7_1 (ji15))
            ·rw [if_pos c18] at H; have c18b0 := decide_eq_true c18; clear c18; obtain rfl := Option.some.inj H; have p780 : 0 ≤ (x14_1 : Int) := oda_; have q780 : x14_1 < (l1.length : Int) := oda_; obtain ⟨ad780, e780, hx780_0⟩ := Kd.at_int HR1.out x14_1 p780 q780; cases e780; replace hx780_0 := hc_ HB hx780_0; replace p780 := eq_true p780; replace q780 := eq_true q780; try go_wp2
             replace HO_7 := am_ (Kd.R_drew HO_7.out); replace HB := bd_ HB; obtain ⟨Ao20, co20, eo20⟩ := Kd.R_slice HO_7.out; (first | subst eo20 | (injection eo20 with f1_ f2_ f3_; have f4_ := f1_.symm; have f5_ := f3_.symm; clear f1_ f2_ f3_; subst f4_; subst f5_))
             have p781 : 0 ≤ ((rd l1 x14_1) : Int) := oda_; have q781 : (rd l1 x14_1) < (x7_1.length : Int) := oda_; obtain ⟨ad781, e781, hx781_0⟩ := Kd.at_int (Kd.R_reads' HO_7.out).2.2 (rd l1 x14_1) p781 q781; cases e781; replace p781 := eq_true p781; replace q781 := eq_true q781; have p782 : 0 ≤ ((ji15) : Int) := oda_; have q782 : (ji15) < (x7_1.length : Int) := oda_; obtain ⟨ad782, e782, hx782_0⟩ := Kd.at_int (Kd.R_reads' HO_7.out).2.2 (ji15) p782 q782; obtain rfl : ad781 = ad782 := (by injection e782); replace p782 := eq_true p782; replace q782 := eq_true q782; refine start_ (n := 20) (S := fun w' => w'.cell? (ad781.add ((rd l1 x14_1)).toNat) = some (.int .i64 (rd x7_1 (rd l1 x14_1))) ∧ w'.cell? (ad781.add ((ji15)).toNat) = some (.int .i64 (rd x7_1 (ji15)))) (ds := []) #[false, false, false, false, false, false, false, false, false, false, false, false, false, false, false, false, false, false, false, false] (by kernel_rfl) rfl rfl ⟨hx781_0, hx782_0⟩ (fun hHeld => ?_); refine with_tabW impl_run_impl_IsWiring_1.tab5 impl_run_impl_IsWiring_1.bits5 (fun HT_ HW_ => ?_); generalize wr.drew = w19 at HO_7 HB hx781_0 hx782_0 hHeld ⊢
             refine pD_ 0 (some 18) HT_ (h := ?_); refine pD_ 1 (some 19) HT_ (h := ?_); refine pD_ 2 (some 20) HT_ (h := ?_); refine pD_ 3 (some 21) HT_ (h := ?_); refine pD_ 4 (some 22) HT_ (h := ?_); refine pD_ 5 (some 23) HT_ (h := ?_); refine pD_ 6 (some 24) HT_ (h := ?_); refine pD_ 7 (some 25) HT_ (h := ?_); refine pD_ 8 (some 26) HT_ (h := ?_); refine pD_ 9 (some 27) HT_ (h := ?_); refine pD_ 10 (some 28) HT_ (h := ?_); refine pD_ 11 (some 29) HT_ (h := ?_); refine pD_ 13 (some 31) HT_ (h := ?_); refine pD_ 14 (some 32) HT_ (h := ?_); refine pD_ 15 (some 33) HT_ (h := ?_); refine pD_ 16 (some 34) HT_ (h := ?_); refine tD2_ 12 (some 30) HT_ HW_ hHeld (h := ?_); refine tD2_ 17 (some 35) HT_ HW_ hHeld (h := ?_); refine pD_ 18 (some 36) HT_ (h := ?_); refine pD_ 19 (some 37) HT_ (h := ?_); refine done_ (done_of HT_.out (by kernel_rfl)) ?_; try go_wp2
             go_ret; exact ⟨by first | rfl | (simp [errW_none, errW_some] <;> rfl) | (simp only [← hji15]; first | rfl | (simp [errW_none, errW_some] <;> rfl)) | (simp [*, errW_none, errW_some] <;> rfl), bx0 HB.out⟩
            ·rw [if_neg c18] at H; have c18b0 := decide_eq_false c18; clear c18; obtain ⟨_, A21, H⟩ := bnd_ H; obtain ⟨y785, hy785⟩ : ∃ y_ : List Int, y_ = (x7_1.set ((rd l1 x14_1) : Int).toNat (rd x7_1 (ji15))) := ⟨_, rfl⟩; replace H : (impl_run_impl_IsWiring_1.l0 k1 a0 (y785.set ((ji15) : Int).toNat (rd x7_1 (rd l1 x14_1))) l1 (l1.length : Int) (wrap64 (x14_1 + 1))) = some r := yH_ hy785 H; have Ny785 := am_ hy785; clear hy785; obtain ⟨y786, hy786⟩ : ∃ y_ : List Int, y_ = (y785.set ((ji15) : Int).toNat (rd x7_1 (rd l1 x14_1))) := ⟨_, rfl⟩; replace H : (impl_run_impl_IsWiring_1.l0 k1 a0 y786 l1 (l1.length : Int) (wrap64 (x14_1 + 1))) = some r := yH_ hy786 H; have Ny786 := am_ hy786; clear hy786; have H' := am_ H; clear H; have p780 : 0 ≤ (x14_1 : Int) := oda_; have q780 : x14_1 < (l1.length : Int) := oda_; obtain ⟨ad780, e780, hx780_0⟩ := Kd.at_int HR1.out x14_1 p780 q780; cases e780; replace hx780_0 := hc_ HB hx780_0; replace p780 := eq_true p780; replace q780 := eq_true q780; try go_wp2
             replace HO_7 := am_ (Kd.R_drew HO_7.out); replace HB := bd_ HB; obtain ⟨Ao25, co25, eo25⟩ := Kd.R_slice HO_7.out; (first | subst eo25 | (injection eo25 with f1_ f2_ f3_; have f4_ := f1_.symm; have f5_ := f3_.symm; clear f1_ f2_ f3_; subst f4_; subst f5_))
             have p781 : 0 ≤ ((rd l1 x14_1) : Int) := oda_; have q781 : (rd l1 x14_1) < (x7_1.length : Int) := oda_; obtain ⟨ad781, e781, hx781_0⟩ := Kd.at_int (Kd.R_reads' HO_7.out).2.2 (rd l1 x14_1) p781 q781; cases e781; replace p781 := eq_true p781; replace q781 := eq_true q781; have p782 : 0 ≤ ((ji15) : Int) := oda_; have q782 : (ji15) < (x7_1.length : Int) := oda_; obtain ⟨ad782, e782, hx782_0⟩ := Kd.at_int (Kd.R_reads' HO_7.out).2.2 (ji15) p782 q782; obtain rfl : ad781 = ad782 := (by injection e782); replace p782 := eq_true p782; replace q782 := eq_true q782; refine start_ (n := 20) (S := fun w' => w'.cell? (ad781.add ((rd l1 x14_1)).toNat) = some (.int .i64 (rd x7_1 (rd l1 x14_1))) ∧ w'.cell? (ad781.add ((ji15)).toNat) = some (.int .i64 (rd x7_1 (ji15)))) (ds := []) #[false, false, false, false, false, false, false, false, false, false, false, false, false, false, false, false, false, false, false, false] (by kernel_rfl) rfl rfl ⟨hx781_0, hx782_0⟩ (fun hHeld => ?_); refine with_tabW impl_run_impl_IsWiring_1.tab5 impl_run_impl_IsWiring_1.bits5 (fun HT_ HW_ => ?_); generalize wr.drew = w24 at HO_7 HB hx781_0 hx782_0 hHeld ⊢
             refine pD_ 0 (some 18) HT_ (h := ?_); refine pD_ 1 (some 19) HT_ (h := ?_); refine pD_ 2 (some 20) HT_ (h := ?_); refine pD_ 3 (some 21) HT_ (h := ?_); refine pD_ 4 (some 22) HT_ (h := ?_); refine pD_ 5 (some 23) HT_ (h := ?_); refine pD_ 6 (some 24) HT_ (h := ?_); refine pD_ 7 (some 25) HT_ (h := ?_); refine pD_ 8 (some 26) HT_ (h := ?_); refine pD_ 9 (some 27) HT_ (h := ?_); refine pD_ 10 (some 28) HT_ (h := ?_); refine pD_ 11 (some 29) HT_ (h := ?_); refine pD_ 13 (some 31) HT_ (h := ?_); refine pD_ 14 (some 32) HT_ (h := ?_); refine pD_ 15 (some 33) HT_ (h := ?_); refine pD_ 16 (some 34) HT_ (h := ?_); refine tD2_ 12 (some 30) HT_ HW_ hHeld (h := ?_); refine tD2_ 17 (some 35) HT_ HW_ hHeld (h := ?_); refine pD_ 18 (some 36) HT_ (h := ?_); refine pD_ 19 (some 37) HT_ (h := ?_); refine done_ (done_of HT_.out (by kernel_rfl)) ?_; try go_wp2_with (first | (go_at_call 163; (with_reducible refine (impl_IsWiring_1.calls _ _ x7_1 (rd l1 x14_1)  _ ?side1 ?side2 A21.out).mono ?_); (case side1 => exact cR_ HO_7); (case side2 => exact (Kd.R_reads' HO_7.out).2.1); rintro e w' ⟨rfl, ⟨nd, rfl⟩⟩; (try (rw [drewN_self w24]; generalize hq_ : World.drewN w24 _ = w24; have n0_ : Aside0 (Kd.R (Kd.int .i64) 3 w24 w.heap.size (fun _ => True) (.slice (some ad781) x7_1.length co25) x7_1) := ⟨by rw [← hq_]; exact (rx_ HO_7.out)⟩; have n1_ : Aside0 (Below w.heap.size w w24) := ⟨by rw [← hq_]; exact (bx0 HB.out)⟩; clear HO_7 HB hq_; have HO_7 := n0_; have HB := n1_; clear n0_ n1_))))
             replace HO_7 := am_ (Kd.R_drew HO_7.out); replace HB := bd_ HB; have p783 : 0 ≤ ((ji15) : Int) := oda_; have q783 : (ji15) < (x7_1.length : Int) := oda_; obtain ⟨ad783, e783, hx783_0⟩ := Kd.at_int (Kd.R_reads' HO_7.out).2.2 (ji15) p783 q783; obtain rfl : ad781 = ad783 := (by injection e783); replace p783 := eq_true p783; replace q783 := eq_true q783; have p784 : 0 ≤ ((rd l1 x14_1) : Int) := oda_; have q784 : (rd l1 x14_1) < (x7_1.length : Int) := oda_; obtain ⟨ad784, e784, hx784_0⟩ := Kd.at_int (Kd.R_reads' HO_7.out).2.2 (rd l1 x14_1) p784 q784; obtain rfl : ad781 = ad784 := (by injection e784); replace p784 := eq_true p784; replace q784 := eq_true q784; have p22 : 0 ≤ ((rd l1 x14_1) : Int) := oda_; have q22 : ((rd l1 x14_1) : Int) < ((x7_1.length : Int) : Int) := oda_; obtain ⟨go22, co22, eo22, gb22, gl22, cl22, HG22⟩ := Kd.R_form HO_7.out (by omega); (first | cases eo22 | (injection eo22 with ea_ en_ ec_; (first | subst ea_ | (injection ea_ with ea_; subst ea_)); subst ec_; clear en_))
             have GB22 := am_ gb22; have GG22 := am_ HG22; clear gb22 gl22 HG22; (first | simp only [add_plain] at hx781_0 | skip)
             (first | simp only [add_plain] at hx782_0 | skip)
             (first | simp only [add_plain] at hx783_0 | skip)
             (first | simp only [add_plain] at hx784_0 | skip)
             obtain ⟨hx22_0, hf22_0⟩ := Kd.R_celln 0 HO_7.out ((rd l1 x14_1) : Int) p22 q22; replace p22 := eq_true p22; replace q22 := eq_true q22; have HP27 := Kd.R_putn HO_7.out ((rd l1 x14_1) : Int) (rd x7_1 (ji15)); rw [← Ny785.out] at HP27; have HQ27 := am_ HP27; clear HP27; have p23 : 0 ≤ ((ji15) : Int) := oda_; have q23 : ((ji15) : Int) < ((x7_1.length : Int) : Int) := oda_; obtain ⟨hx23_0, hf23_0⟩ := Kd.R_celln 0 HQ27.out ((ji15) : Int) p23 q23; replace p23 := eq_true p23; replace q23 := eq_true q23; have HP28 := Kd.R_putn HQ27.out ((ji15) : Int) (rd x7_1 (rd l1 x14_1)); rw [← Ny786.out] at HP28; have HQ28 := am_ HP28; clear HP28; refine start_ (n := 18) (S := fun w' => w'.cell? ⟨go22, ((ji15)).toNat, none⟩ = some (.int .i64 (rd x7_1 (ji15))) ∧ w'.cell? ⟨go22, ((rd l1 x14_1)).toNat, none⟩ = some (.int .i64 (rd x7_1 (rd l1 x14_1)))) (ds := [15, 17]) #[false, false, false, false, false, false, false, false, false, false, false, false, false, false, false, false, false, false] (by kernel_rfl) rfl rfl ⟨hx783_0, hx784_0⟩ (fun hHeld => ?_); refine with_tabW impl_run_impl_IsWiring_1.tab8 impl_run_impl_IsWiring_1.bits8 (fun HT_ HW_ => ?_); generalize w24.drew = w26 at HO_7 HB GG22 HQ27 HQ28 hf22_0 hf23_0 hx22_0 hx23_0 hx781_0 hx782_0 hx783_0 hx784_0 hHeld ⊢
             refine pD_ 0 (some 42) HT_ (h := ?_); refine pD_ 1 (some 43) HT_ (h := ?_); refine pD_ 2 (some 44) HT_ (h := ?_); refine pD_ 3 (some 45) HT_ (h := ?_); refine pD_ 4 (some 46) HT_ (h := ?_); refine pD_ 5 (some 47) HT_ (h := ?_); refine pD_ 6 (some 48) HT_ (h := ?_); refine pD_ 7 (some 49) HT_ (h := ?_); refine pD_ 8 (some 50) HT_ (h := ?_); refine pD_ 10 (some 52) HT_ (h := ?_); refine pD_ 11 (some 53) HT_ (h := ?_); refine pD_ 12 (some 54) HT_ (h := ?_); refine tD2_ 9 (some 51) HT_ HW_ hHeld (h := ?_); refine tD2_ 13 (some 55) HT_ HW_ hHeld (h := ?_); refine pD_ 14 (some 56) HT_ (h := ?_); refine last_ (i := 15) (N := none) #[true, true, true, true, true, true, true, true, true, true, true, true, true, true, true, true, false, false] rfl rfl (one_of HT_.out (by kernel_rfl)) (by decide) (fun K hK => ?_); refine skip_ (w1 := ?_) (by rfl) rfl ?_ ?_; rotate_left
             ·go_simp
              rfl
             refine hK.out _ _ ?_; clear hK K; refine pD_ 16 (some 57) HT_ (h := ?_); refine last_ (i := 17) (N := none) #[true, true, true, true, true, true, true, true, true, true, true, true, true, true, true, true, true, true] rfl rfl (one_of HT_.out (by kernel_rfl)) (by decide) (fun K hK => ?_); refine skip_ (w1 := ?_) (by rfl) rfl ?_ ?_; rotate_left
             ·go_simp
              rfl
             refine hK.out _ _ ?_; clear hK K; refine done_ (done_of HT_.out (by kernel_rfl)) ?_; try go_wp2
             go_roundg k1
             case measure => have := HK1.out; omega
             case rel => exact ⟨(y786), (wrap64 (x14_1 + 1)), vt_, H', hl_ HK1, rX_ HQ28, bX2_ HB GB22 GB22⟩
           ·rw [if_neg c17] at H; exact absurd H (by simp)
          ·rw [if_neg c16] at H; exact absurd H (by simp)
         ·rw [if_neg c14] at H; exact absurd H (by simp)
        ·rw [if_neg c13] at H; exact absurd H (by simp)
     ·rw [if_neg c8] at H; exact absurd H (by simp)
    ·rw [if_neg c7] at H; exact absurd H (by simp)
   ·rw [if_neg c6] at H; have c6b0 := decide_eq_false c6; clear c6; obtain rfl := Option.some.inj H; go_wp2; go_ret; exact ⟨er_, bx0 HB.out⟩
def impl_IsWiring.f (k : Nat) (a0 : Int) (l1 : List Int) : Option (Bool) := (impl_isWires.f a0).bind fun t787 => (if t787 = true then (if (l1.length : Int) = (wrap64 (Int.tdiv (wrap64 (a0 * (wrap64 (a0 - 1)))) 2)) then ((impl_run_impl_IsWiring_1.f k a0 l1 ()).bind fun t788 => (some t788)) else (some false)) else (some false))
theorem impl_IsWiring.mono : ∀ a0 a1 k, LeO (impl_IsWiring.f k a0 a1) (impl_IsWiring.f (k + 1) a0 a1) := by
 intro a0 a1 k; unfold impl_IsWiring.f
 repeat' first | (with_reducible first | apply impl_run_impl_IsWiring_1.mono | exact LeO.refl _ | exact LeO.none _ | refine LeO.ite ?_ ?_ | refine LeO.bind ?_ (fun _ => ?_)) | exact LeO.none _
set_option maxHeartbeats 8000000 in
set_option maxRecDepth 100000 in
theorem impl_IsWiring.calls (k : Nat) (a0 : Int) (A1 : Option Addr) (c1 : Nat) (l1 : List Int) (r : Bool) (w : World) (hr1 : Kd.C (Kd.int .i64) w A1 l1.length l1) (hc1 : l1.length ≤ c1) (h : impl_IsWiring.f k a0 l1 = some r) :
  Calls Try.prog 94 #[.int .i64 a0, .slice A1 l1.length c1] w fun e w' => e = .returned (.bool r) ∧ Below w.heap.size w w' := by
 have HR1 := am_ hr1; have HC1 := am_ hc1; clear hr1 hc1; have HB := am_ (Below.refl w.heap.size w); have H : ((impl_isWires.f a0).bind fun t787 => (if t787 = true then (if (l1.length : Int) = (wrap64 (Int.tdiv (wrap64 (a0 * (wrap64 (a0 - 1)))) 2)) then ((impl_run_impl_IsWiring_1.f k a0 l1 ()).bind fun t788 => (some t788)) else (some false)) else (some false))) = some r := h; clear h; obtain ⟨t787, A3, H⟩ := bnd_ H; by_cases c4 : t787 = true
 ·subst c4; replace H := ifT_ H; by_cases c5 : (l1.length : Int) = (wrap64 (Int.tdiv (wrap64 (a0 * (wrap64 (a0 - 1)))) 2))
  ·rw [if_pos c5] at H; obtain ⟨c5b0, c5b1⟩ := eqT_ c5; clear c5; obtain ⟨t788, A6, H⟩ := bnd_ H; obtain rfl := Option.some.inj H; go_enter Try.func94, Try.ntmps94
   go_wp2_with (first | ((with_reducible refine gc_ 162 rfl ?_); refine gP_ (some 6) Try.func162 #[.int .i64 a0] (impl_isWires.calls a0 true _ A3.out) ?_; intro nd) | (go_at_call 113; (with_reducible refine (impl_run_impl_IsWiring_1.calls k a0 _ _ l1 () t788 _ ?side1 ?side2 A6.out).mono ?_); (case side1 => repeat (first | exact HR1.out | (with_reducible refine Kd.C_alloc ?_ _) | (with_reducible refine Kd.C_drewN ?_ _) | (with_reducible refine Kd.C_drew ?_))); (case side2 => exact HC1.out); rintro e w7 ⟨rfl, hb⟩; replace HB := bs0_ HB hb; try clear hb))
   go_ret; exact ⟨er_, bx0 HB.out⟩
  ·rw [if_neg c5] at H; obtain ⟨c5b0, c5b1⟩ := eqF_ c5; obtain rfl := Option.some.inj H; go_enter Try.func94, Try.ntmps94
   go_wp2_with (first | ((with_reducible refine gc_ 162 rfl ?_); refine gP_ (some 6) Try.func162 #[.int .i64 a0] (impl_isWires.calls a0 true _ A3.out) ?_; intro nd))
   go_ret; exact ⟨er_, bx0 HB.out⟩
 ·replace c4 := Bool.eq_false_iff.mpr c4; subst c4; replace H := ifF_ H; obtain rfl := Option.some.inj H; go_enter Try.func94, Try.ntmps94
  go_wp2_with (first | ((with_reducible refine gc_ 162 rfl ?_); refine gP_ (some 6) Try.func162 #[.int .i64 a0] (impl_isWires.calls a0 false _ A3.out) ?_; intro nd))
  go_ret; exact ⟨er_, bx0 HB.out⟩
def impl_TurnWiring.f (k : Nat) (a0 : Int) (l1 : List Int) : Option (List Int × Bool) := (impl_IsWiring.f k a0 l1).bind fun t1262 => (if t1262 = true then (if 1 ≤ (l1.length : Int) then ((slices_Clone_Sint_int.f (l1.drop 1)).bind fun t1264 => (if 0 < (l1.length : Int) then ((some (([wrap64 ((wrap64 (a0 - 2)) - (rd l1 0))] : List Int) : List Int)).bind fun y1268 => (if t1264.length + y1268.length < 17592186044416 then (some ((t1264 ++ y1268), true)) else (none))) else (none))) else (none)) else (some (([] : List Int), false)))
def impl_TurnWiring.T3 : Bool × List (List Nat × List Nat) := (true, [([], []), ([0], [0]), ([1], [1]), ([], []), ([3], [3]), ([], []), ([5], [5]), ([6], [6]), ([4, 7], [4, 7]), ([8], [8]), ([2, 9, 2], [2, 9]), ([10, 10, 0, 1, 2, 3, 4, 5, 6, 7, 8, 9, 10], [10]), ([11, 0, 1, 2, 3, 4, 5, 6, 7, 8, 9, 10, 11], [])])
def impl_TurnWiring.B3 : List Nat := [0, 1, 3, 0, 8, 0, 32, 96, 248, 504, 1023, 2047, 4095]
theorem impl_TurnWiring.tab3 : rtab .any (opsOf Try.f35 3) = impl_TurnWiring.T3 := by kernel_rfl
theorem impl_TurnWiring.bits3 : waitsOk impl_TurnWiring.T3.2 impl_TurnWiring.B3 = true := by kernel_rfl
set_option maxHeartbeats 8000000 in
set_option maxRecDepth 100000 in
theorem impl_TurnWiring.calls (k : Nat) (a0 : Int) (A1 : Option Addr) (c1 : Nat) (l1 : List Int) (r1 : List Int) (r2 : Bool) (w : World) (hr1 : Kd.C (Kd.int .i64) w A1 l1.length l1) (hc1 : l1.length ≤ c1) (h : impl_TurnWiring.f k a0 l1 = some (r1, r2)) :
  Calls Try.prog 35 #[.int .i64 a0, .slice A1 l1.length c1] w fun e w' => ∃ v0_ : Value, e = .returned (.tuple #[v0_, .bool r2]) ∧ Kd.R (Kd.int .i64) 3 w' w.heap.size (fun _ => True) v0_ r1 ∧ Below w.heap.size w w' := by
 have HR1 := am_ hr1; have HC1 := am_ hc1; clear hr1 hc1; have HB := am_ (Below.refl w.heap.size w); have H : ((impl_IsWiring.f k a0 l1).bind fun t1262 => (if t1262 = true then (if 1 ≤ (l1.length : Int) then ((slices_Clone_Sint_int.f (l1.drop 1)).bind fun t1264 => (if 0 < (l1.length : Int) then ((some (([wrap64 ((wrap64 (a0 - 2)) - (rd l1 0))] : List Int) : List Int)).bind fun y1268 => (if t1264.length + y1268.length < 17592186044416 then (some ((t1264 ++ y1268), true)) else (none))) else (none))) else (none)) else (some (([] : List Int), false)))) = some (r1, r2) := h; clear h; obtain ⟨t1262, A3, H⟩ := bnd_ H; by_cases c4 : t1262 = true
 ·subst c4; replace H := ifT_ H; by_cases c5 : 1 ≤ (l1.length : Int)
  ·rw [if_pos c5] at H; have c5b0 := eq_true c5; have c5b1 := decide_eq_true c5; clear c5; obtain ⟨t1264, A6, H⟩ := bnd_ H; by_cases c7 : 0 < (l1.length : Int)
   ·rw [if_pos c7] at H; have c7b0 := decide_eq_true c7; have c7b1 : decide (0 < l1.length) = true := decide_eq_true (by omega); clear c7; obtain ⟨y1268, hy1268⟩ : ∃ y_ : List Int, y_ = (([wrap64 ((wrap64 (a0 - 2)) - (rd l1 0))] : List Int)) := ⟨_, rfl⟩; replace H : (if t1264.length + y1268.length < 17592186044416 then (some ((t1264 ++ y1268), true)) else (none)) = some (r1, r2) := yH_ hy1268 H; have Ny1268 := am_ hy1268; clear hy1268; by_cases c8 : t1264.length + y1268.length < 17592186044416
    ·rw [if_pos c8] at H; have LMc8 := am_ c8; clear c8; obtain ⟨y1271, hy1271⟩ : ∃ y_ : List Int, y_ = (t1264 ++ y1268) := ⟨_, rfl⟩; replace H : (some (y1271, true)) = some (r1, r2) := yH_ hy1271 H; have Ny1271 := am_ hy1271; clear hy1271; simp only [Option.some.injEq, Prod.mk.injEq] at H
     obtain ⟨rfl, rfl⟩ := H; go_enter Try.func35, Try.ntmps35
     try go_wp2_with (first | ((with_reducible refine gc_ 94 rfl ?_); refine gL_ (some 8) Try.func94 #[.int .i64 a0, .slice A1 l1.length c1] ?_; (with_reducible refine (impl_IsWiring.calls k a0 _ _ l1 true _ ?side1 ?side2 A3.out).mono ?_); (case side1 => repeat (first | exact HR1.out | (with_reducible refine Kd.C_alloc ?_ _) | (with_reducible refine Kd.C_drewN ?_ _) | (with_reducible refine Kd.C_drew ?_))); (case side2 => exact HC1.out); rintro e w9 ⟨rfl, hb⟩; refine ⟨_, rfl, ?_⟩; replace HB := bs0_ HB hb; try clear hb))
     replace HB := bd_ HB; obtain ⟨i011, hi011, _, hsz11, _⟩ := info_parts info3; obtain ⟨A11, hcut11, hA11, hC11⟩ := print_drop_of (P := Try.prog) (Value.int .i64) 0 34 3 .i64 Try.underlying34 hi011 hsz11 A1 c1 l1 1 (by omega) (oda_) HC1.out; have HR1263 := am_ (Kd.C_of_reads (h1 := fun _ => rfl) (hA11 _ (Kd.reads_of_C HR1.out))); have HC1263 := am_ hC11; clear hA11 hC11 hi011 hsz11; have p1267 : 0 ≤ (0 : Int) := (by omega); have q1267 : 0 < (l1.length : Int) := oda_; obtain ⟨ad1267, e1267, hx1267_0⟩ := Kd.at_int HR1.out 0 p1267 q1267; have hw1267_0 := hx1267_0; (try rw [show ((0 : Int)).toNat = 0 from rfl] at hw1267_0)
     (try rw [show 0 * 1 = 0 from rfl] at hw1267_0)
     (try rw [Addr.add_zero'] at hw1267_0)
     cases e1267; have qi1267 : (0 < l1.length) = True := eq_true (by omega); (try rw [show ((0 : Int)).toNat = 0 from rfl] at hx1267_0)
     (try rw [Addr.add_zero'] at hx1267_0)
     replace hx1267_0 := hc_ HB hx1267_0; replace p1267 := eq_true p1267; replace q1267 := eq_true q1267; refine start_ (n := 13) (S := fun w' => w'.cell? ad1267 = some (.int .i64 (rd l1 0))) (ds := []) #[false, false, false, false, false, false, false, false, false, false, false, false, false] (by kernel_rfl) rfl rfl ((hc_ HB hw1267_0)) (fun hHeld => ?_); refine with_tabW impl_TurnWiring.tab3 impl_TurnWiring.bits3 (fun HT_ HW_ => ?_); generalize w9.drew = w10 at HB HR1263 hx1267_0 hHeld ⊢
     refine pD_ 0 (some 10) HT_ (h := ?_); refine pD_ 1 (some 11) HT_ (h := ?_); refine pD_ 3 (some 13) HT_ (h := ?_); refine pD_ 4 (some 14) HT_ (h := ?_); refine pD_ 5 (some 15) HT_ (h := ?_); refine pD_ 6 (some 16) HT_ (h := ?_); refine take_ (i := 7) (N := some 17) (v := ?_) (a' := ?_) #[true, true, false, true, true, true, true, true, false, false, false, false, false] rfl rfl (take_ofW HT_.out HW_.out (by kernel_rfl)) (fun _ _ _ h => h) (Or.inl ⟨by rfl, ?_⟩) hHeld ?_ ?_; rotate_left
     ·intro w' s0; go_simp
      with_reducible rfl
     rotate_left
     ·simp only [Act.put, sA_, sZ_, sS_, i64_w, i32_w]
      rfl
     refine pD_ 8 (some 18) HT_ (h := ?_); refine join_ (σ := Value × Value) 3 #[true, true, true, true, true, true, true, true, true, true, false, false, false] (fun s_ => [(12, s_.1), (19, s_.2)]) (fun s_ w' => (w'.cell? ad1267 = some (.int .i64 (rd l1 0))) ∧ (Kd.R (Kd.int .i64) 3 w' w.heap.size (fun k_ => some k_ ≠ (s_.2 : Value).ownBlock) s_.1 t1264) ∧ (Kd.R (Kd.int .i64) 3 w' w.heap.size (fun k_ => some k_ ≠ (s_.1 : Value).ownBlock) s_.2 y1268) ∧ (Below w.heap.size w w')) ?_ ?_; rotate_left
     ·intro hCont; refine two_ (i := 2) (j := 9) (Ni := some 12) (Nj := some 19) #[true, true, true, true, true, true, true, true, true, false, false, false, false] #[true, true, false, true, true, true, true, true, true, true, false, false, false] rfl rfl rfl rfl (two_of HT_.out (by kernel_rfl)) (by decide) (by decide) (fun K hK => ?_) (fun K hK => ?_)
      ·skip
       refine goes_ Try.func112 (by kernel_rfl) rfl #[.slice A11 (l1.drop 1).length (c1 - 1)] (by rfl) rfl rfl (by (try simp only [List.map_toArray, List.map_cons, List.map_nil]); first | done | (rw [show (l1.drop 1).length = (l1.length - 1) from List.length_drop] <;> rfl) | rfl | (simp only [List.length_drop, List.length_take]; rfl)) ?_; with_reducible refine (slices_Clone_Sint_int.calls _ _ (l1.drop 1) t1264 _ ?side1 ?side2 A6.out).mono ?_
       (case side1 => exact cS_ HR1263 HB)
       (case side2 => exact HC1263.out)
       rintro e w12 ⟨v1265, rfl, ho0, hb⟩; refine ⟨_, rfl, ?_⟩; have HO1266 := rl0_ ho0 HB; replace HB := bs0_ HB hb; try clear hb
       (try clear ho0)
       refine hK.out _ _ ((hc_ HB hw1267_0)) (fun hHeld => ?_); clear hK K; refine nm_ 12 (h := ?_); refine oN_ 9 (some 19) HT_ (fun K hK => ?_); refine Kd.R_lit_step (Kd.int .i64) _ 3 ?hg (N := 19) ?hd (xs := ([wrap64 ((wrap64 (a0 - 2)) - (rd l1 0))] : List Int)) (inner := [.int .i64 (wrap64 ((wrap64 (a0 - 2)) - (rd l1 0)))]) (ok := fun _ => True) (okp := fun _ => True) ?hr ?hp (fun _ hk => hk) trivial (Below.refl _ _) (Nat.le_refl _) (by simp) ?_; (case hd => rfl); (case hg => rfl); (case hr => first | (go_simp; done) | (go_simp; rfl)); (case hp => exact (Reps.one (show Kd.M (Kd.int .i64) _ _ _ (wrap64 ((wrap64 (a0 - 2)) - (rd l1 0))) [.int .i64 (wrap64 ((wrap64 (a0 - 2)) - (rd l1 0)))] from rfl) (Reps.none _ _))); intro v1269 w13 ho14 hb hg_ hnew_; clear hg_ hnew_; (first | rw [← Ny1268.out] at ho14 | (simp only [Int.reduceToNat] at ho14; rw [← Ny1268.out] at ho14))
       have HO1270 := am_ (Kd.R_lower (Kd.R_new' ho14 (Kd.R_lt (rx_ HO1266.out))) (below_size (bx0 HB.out))); replace HO1266 := re_ HO1266 ho14 hb; replace HB := bs0_ HB hb; clear hb ho14; refine hK.out _ _ ((hc_ HB hw1267_0)) (fun hHeld => ?_); clear hK K; refine nm_ 19 (h := ?_); exact norm_ (by simp only [putAll, Act.put, sA_, sZ_, sS_]) (hCont (v1265, v1269) _ ⟨hHeld, (by refine rx_ ?_; exact Kd.R_mono HO1266.out (fun _ hk => hk.2)), (by refine rx_ ?_; exact Kd.R_mono HO1270.out (fun _ hk => hk.2)), (bx0 HB.out)⟩)
      ·skip
       refine Kd.R_lit_step (Kd.int .i64) _ 3 ?hg (N := 19) ?hd (xs := ([wrap64 ((wrap64 (a0 - 2)) - (rd l1 0))] : List Int)) (inner := [.int .i64 (wrap64 ((wrap64 (a0 - 2)) - (rd l1 0)))]) (ok := fun _ => True) (okp := fun _ => True) ?hr ?hp (fun _ hk => hk) trivial (Below.refl _ _) (Nat.le_refl _) (by simp) ?_; (case hd => rfl); (case hg => rfl); (case hr => first | (go_simp; done) | (go_simp; rfl)); (case hp => exact (Reps.one (show Kd.M (Kd.int .i64) _ _ _ (wrap64 ((wrap64 (a0 - 2)) - (rd l1 0))) [.int .i64 (wrap64 ((wrap64 (a0 - 2)) - (rd l1 0)))] from rfl) (Reps.none _ _))); intro v1269 w12 ho13 hb hg_ hnew_; clear hg_ hnew_; (first | rw [← Ny1268.out] at ho13 | (simp only [Int.reduceToNat] at ho13; rw [← Ny1268.out] at ho13))
       have HO1270 := rl0_ ho13 HB; replace HB := bs0_ HB hb; clear hb ho13; refine hK.out _ _ ((hc_ HB hw1267_0)) (fun hHeld => ?_); clear hK K; refine nm_ 19 (h := ?_); refine oN_ 2 (some 12) HT_ (fun K hK => ?_); refine goes_ Try.func112 (by kernel_rfl) rfl #[.slice A11 (l1.drop 1).length (c1 - 1)] (by rfl) rfl rfl (by (try simp only [List.map_toArray, List.map_cons, List.map_nil]); first | done | (rw [show (l1.drop 1).length = (l1.length - 1) from List.length_drop] <;> rfl) | rfl | (simp only [List.length_drop, List.length_take]; rfl)) ?_; with_reducible refine (slices_Clone_Sint_int.calls _ _ (l1.drop 1) t1264 _ ?side1 ?side2 A6.out).mono ?_
       (case side1 => exact cS_ HR1263 HB)
       (case side2 => exact HC1263.out)
       rintro e w14 ⟨v1265, rfl, ho0, hb⟩; refine ⟨_, rfl, ?_⟩; have HO1266 := am_ (Kd.R_lower (Kd.R_new' ho0 (Kd.R_lt (rx_ HO1270.out))) (below_size (bx0 HB.out))); replace HO1270 := re_ HO1270 ho0 hb; replace HB := bs0_ HB hb; try clear hb
       (try clear ho0)
       refine hK.out _ _ ((hc_ HB hw1267_0)) (fun hHeld => ?_); clear hK K; refine nm_ 12 (h := ?_); exact norm_ (by simp only [putAll, Act.put, sA_, sZ_, sS_]) (hCont (v1265, v1269) _ ⟨hHeld, (by refine rx_ ?_; exact Kd.R_mono HO1266.out (fun _ hk => hk.2)), (by refine rx_ ?_; exact Kd.R_mono HO1270.out (fun _ hk => hk.2)), (bx0 HB.out)⟩)
     rintro ⟨v1265, v1269⟩ w15 ⟨hS_, h0_, h1_, h2_⟩; have n0_ : Aside0 (Kd.R (Kd.int .i64) 3 w15 w.heap.size (fun k_ => some k_ ≠ (v1269 : Value).ownBlock) v1265 t1264) := ⟨h0_⟩; have n1_ : Aside0 (Kd.R (Kd.int .i64) 3 w15 w.heap.size (fun k_ => some k_ ≠ (v1265 : Value).ownBlock) v1269 y1268) := ⟨h1_⟩; have n2_ : Aside0 (Below w.heap.size w w15) := ⟨h2_⟩; clear HB; clear h0_ h1_ h2_; have HO1266 := n0_; have HO1270 := n1_; have HB := n2_; clear n0_ n1_ n2_; have hHeld : w15.cell? ad1267 = some (.int .i64 (rd l1 0)) := hS_; obtain ⟨Ao17, co17, eo17⟩ := Kd.R_slice HO1270.out; (first | subst eo17 | (injection eo17 with f1_ f2_ f3_; have f4_ := f1_.symm; have f5_ := f3_.symm; clear f1_ f2_ f3_; subst f4_; subst f5_))
     refine norm_ (a' := ?_) ?_ ?_; rotate_left
     ·simp only [putAll, Act.put, sA_, sZ_, sS_]
      rfl
     refine oN_ 10 (some 20) HT_ (fun K hK => ?_); refine Kd.R_append_rows_step (Kd.int .i64) (w0 := w) w.heap.size (by rfl) (.tmp 12) (.tmp 19) 34 3 (.int .i64 0) 8 rfl Try.underlying34 info3 rfl (by decide) (by omega) v1265 t1264 y1268 _ _ _ (fun k_ => some k_ ≠ (.slice Ao17 y1268.length co17 : Value).ownBlock) (fun _ => False) rfl rfl ?aO ?aR (fun _ _ h => h) (fun _ h => h.elim) ?aF ?aB ?aS ?aL ?_; (case aR => exact cR_ HO1270)
     (case aB => exact (bx0 HB.out))
     (case aF => exact (fun k_ hk => Kd.fresh' (Kd.R_lt (rx_ HO1270.out)) k_ hk))
     (case aO => exact (rx_ HO1266.out))
     (case aS => exact (below_size (bx0 HB.out)))
     (case aL => have := LMc8.out; omega)
     intro v1272 w16 ho hb hg hat; rw [← Ny1271.out] at ho; replace HO1270 := am_ (Kd.R_after (ok := (fun _ => True)) (by refine rx_ ?_; exact Kd.R_mono HO1270.out (fun _ hk => ⟨trivial, hk⟩)) hg hat); replace HB := am_ hb; have HO1273 := am_ ho; clear HO1266; clear ho hb hg hat; refine hK.out _ _ ((hc_ HB hw1267_0)) (fun hHeld => ?_); clear hK K; refine nm_ 20 (h := ?_); refine pD_ 11 (some 4) HT_ (h := ?_); refine pD_ 12 (some 5) HT_ (h := ?_); refine done_ (done_of HT_.out (by kernel_rfl)) ?_; try go_wp2
     go_ret2
     exact ⟨_, by first | rfl | (simp [errW_none, errW_some] <;> rfl) | (simp [*, errW_none, errW_some] <;> rfl), by refine rx_ ?_; exact Kd.R_mono HO1273.out (fun _ hk => trivial), bx0 HB.out⟩
    ·rw [if_neg c8] at H; exact absurd H (by simp)
   ·rw [if_neg c7] at H; exact absurd H (by simp)
  ·rw [if_neg c5] at H; exact absurd H (by simp)
 ·replace c4 := Bool.eq_false_iff.mpr c4; subst c4; replace H := ifF_ H; simp only [Option.some.injEq, Prod.mk.injEq] at H
  obtain ⟨rfl, rfl⟩ := H; go_enter Try.func35, Try.ntmps35
  go_wp2_with (first | ((with_reducible refine gc_ 94 rfl ?_); refine gL_ (some 8) Try.func94 #[.int .i64 a0, .slice A1 l1.length c1] ?_; (with_reducible refine (impl_IsWiring.calls k a0 _ _ l1 false _ ?side1 ?side2 A3.out).mono ?_); (case side1 => repeat (first | exact HR1.out | (with_reducible refine Kd.C_alloc ?_ _) | (with_reducible refine Kd.C_drewN ?_ _) | (with_reducible refine Kd.C_drew ?_))); (case side2 => exact HC1.out); rintro e w18 ⟨rfl, hb⟩; refine ⟨_, rfl, ?_⟩; replace HB := bs0_ HB hb; try clear hb))
  go_ret2
  exact ⟨_, by first | rfl | (simp [errW_none, errW_some] <;> rfl) | (simp [*, errW_none, errW_some] <;> rfl), by first | exact Kd.R_nil _ _ _ _ _ | exact Kd.N_nil _ _ _ _ _ | exact Kd.V_nil _ _ _ _ _ | exact Kd.Q_nil _ _ _ _ _ | exact Kd.S_nil _ _ _ _ _, bx0 HB.out⟩
mutual
def spec_IsWiring.j0 : Nat → Int → List Int → Bool → Option (Bool)
 | 0, _, _, _ => none
 | k + 1, x0, x1, x19 => if x19 = true then (some false) else ((spec_l12Start.f k x0).bind fun t115 => (spec_IsWiring.l0 k x1 t115 0))
def spec_IsWiring.l0 : Nat → List Int → List Int → Int → Option (Bool)
 | 0, _, _, _ => none
 | k + 1, x1, x5, x6 => if x6 < (x1.length : Int) then (if 0 ≤ x6 then ((spec_l12Swap.f x5 (rd x1 x6)).bind fun bt119 => (if bt119.1 = true then (spec_IsWiring.l0 k x1 bt119.2 (wrap64 (x6 + 1))) else (some false))) else (none)) else (some true)
end
def spec_IsWiring.f (k : Nat) (a0 : Int) (l1 : List Int) : Option (Bool) := (spec_l1In.f a0 3 6).bind fun t114 => (if t114 = true then (spec_IsWiring.j0 k a0 l1 ((l1.length : Int) != (wrap64 (Int.tdiv (wrap64 (a0 * (wrap64 (a0 - 1)))) 2)))) else (spec_IsWiring.j0 k a0 l1 true))
set_option maxHeartbeats 8000000 in
set_option maxRecDepth 100000 in
theorem spec_IsWiring.calls (k : Nat) (a0 : Int) (A1 : Option Addr) (c1 : Nat) (l1 : List Int) (r : Bool) (w : World) (hr1 : Kd.C (Kd.int .i64) w A1 l1.length l1) (hc1 : l1.length ≤ c1) (h : spec_IsWiring.f k a0 l1 = some r) :
  Calls Try.prog 78 #[.int .i64 a0, .slice A1 l1.length c1] w fun e w' => e = .returned (.bool r) ∧ Below w.heap.size w w' := by
 have HR1 := am_ hr1; have HC1 := am_ hc1; clear hr1 hc1; have HB := am_ (Below.refl w.heap.size w); have H : ((spec_l1In.f a0 3 6).bind fun t114 => (if t114 = true then (spec_IsWiring.j0 k a0 l1 ((l1.length : Int) != (wrap64 (Int.tdiv (wrap64 (a0 * (wrap64 (a0 - 1)))) 2)))) else (spec_IsWiring.j0 k a0 l1 true))) = some r := h; clear h; have HC3 := am_ H; clear H; go_enter Try.func78, Try.ntmps78
 go_upto_region 1 with (fail)
 go_cut [19] (fun v19 wc => ∃ (kq : Nat) (x19_2 : Bool), v19 = .bool x19_2 ∧ Aside0 (spec_IsWiring.j0 kq a0 l1 x19_2 = some r) ∧ Aside0 (kq ≤ k) ∧ Aside0 (Below w.heap.size w wc))
 case first =>
  have H := HC3.out; clear HC3; obtain ⟨t114, A4, H⟩ := bnd_ H; by_cases c5 : t114 = true
  ·subst c5; replace H := ifT_ H; have H' := am_ H; clear H; go_wp2_with (first | ((with_reducible refine gc_ 79 rfl ?_); refine gP_ (some 8) Try.func79 #[.int .i64 a0, .int .i64 3, .int .i64 6] (spec_l1In.calls a0 3 6 true _ A4.out) ?_; intro nd))
   go_meet
   case rel => exact ⟨_, (((l1.length : Int) != (wrap64 (Int.tdiv (wrap64 (a0 * (wrap64 (a0 - 1)))) 2)))), vt_, H', le_, bX0_ HB⟩
  ·replace c5 := Bool.eq_false_iff.mpr c5; subst c5; replace H := ifF_ H; have H' := am_ H; clear H; go_wp2_with (first | ((with_reducible refine gc_ 79 rfl ?_); refine gP_ (some 8) Try.func79 #[.int .i64 a0, .int .i64 3, .int .i64 6] (spec_l1In.calls a0 3 6 false _ A4.out) ?_; intro nd))
   go_meet
   case rel => exact ⟨_, (true), vt_, H', le_, bX0_ HB⟩
 case rest =>
  clear HC3; obtain ⟨kq, x19_2, rfl, HA, HJ2, HB⟩ := hcut; cases kq with
  | zero => exact absurd HA.out (by simp [spec_IsWiring.j0])
  | succ kj2 =>
   have H := HA.out; clear HA; simp only [spec_IsWiring.j0] at H
   by_cases c6 : x19_2 = true
   ·subst c6; replace H := ifT_ H; obtain rfl := Option.some.inj H; go_wp2; go_ret; exact ⟨er_, bx0 HB.out⟩
   ·replace c6 := Bool.eq_false_iff.mpr c6; subst c6; replace H := ifF_ H; obtain ⟨t115, A7, H⟩ := bnd_ H; have H' := am_ H; clear H; go_wp2_with (first | ((with_reducible refine gc_ 145 rfl ?_); refine gR_ (some 21) Try.func145 #[.int .i64 a0] (spec_l12Start.calls kj2 a0 t115 _ A7.out) ?_; intro w8 v116 ho0 hb; have HO117 := rl0_ ho0 HB; replace HB := bs0_ HB hb; try clear hb; (try clear ho0)))
    go_loopg [6] kj2 (fun kq v6 w' => ∃ (x5_2 : List Int) (x6_2 : Int), v6 = .int .i64 x6_2 ∧ Aside0 (spec_IsWiring.l0 kq l1 x5_2 x6_2 = some r) ∧ Aside0 (kq ≤ kj2) ∧ Aside0 (Kd.R (Kd.int .i64) 3 w' w.heap.size (fun _ => True) v116 x5_2) ∧ Aside0 (Below w.heap.size w w'))
    case atStart => exact ⟨(t115), (0), vt_, H', ⟨Nat.le_refl _⟩, rX_ HO117, bX0_ HB⟩
    case round =>
     clear H'; try clear c6
     obtain ⟨x5_2, x6_2, rfl, HA, HK2, HO_5, HB⟩ := hrel; cases gk with
     | zero => exact absurd HA.out (by simp [spec_IsWiring.l0])
     | succ k2 =>
      have H := HA.out; clear HA; simp only [spec_IsWiring.l0] at H
      by_cases c9 : x6_2 < (l1.length : Int)
      ·rw [if_pos c9] at H; have c9b0 := decide_eq_true c9; clear c9; by_cases c10 : 0 ≤ x6_2
       ·rw [if_pos c10] at H; have c10b0 := decide_eq_true c10; clear c10; replace H := Option.bind_eq_some_iff.mp H; obtain ⟨⟨t119, t120⟩, A110, H⟩ := H; replace H : (if t119 = true then (spec_IsWiring.l0 k2 l1 t120 (wrap64 (x6_2 + 1))) else (some false)) = some r := H; have A11 := am_ A110; clear A110; by_cases c12 : t119 = true
        ·subst c12; replace H := ifT_ H; have H' := am_ H; clear H; have p118 : 0 ≤ (x6_2 : Int) := oda_; have q118 : x6_2 < (l1.length : Int) := oda_; obtain ⟨ad118, e118, hx118_0⟩ := Kd.at_int HR1.out x6_2 p118 q118; cases e118; replace hx118_0 := hc_ HB hx118_0; replace p118 := eq_true p118; replace q118 := eq_true q118; obtain ⟨Ao13, co13, eo13⟩ := Kd.R_slice HO_5.out; subst eo13; go_wp2_with (first | ((with_reducible refine gc_ 147 rfl ?_); refine gL_ (some 33) Try.func147 #[.slice Ao13 x5_2.length co13, .int .i64 (rd l1 x6_2)] ?_; (with_reducible refine (spec_l12Swap.calls (fun k_ => some k_ = (.slice Ao13 x5_2.length co13 : Value).ownBlock) (.slice Ao13 x5_2.length co13) x5_2 (rd l1 x6_2) true t120 w _ ?side1 ?side2 A11.out).mono ?_); (case side1 => exact bx0 HB.out); (case side2 => exact Kd.R_tight rfl HO_5.out); rintro e w14 ⟨rfl, hy0, hb, hkp⟩; refine ⟨_, rfl, ?_⟩; replace HO_5 := am_ (Kd.R_reok rfl hy0 (fun k_ e_ => HO_5.out.1 k_ e_)); replace HB := am_ hb; (try clear hb); (try clear hkp); (try clear hy0)))
         go_roundg k2
         case measure => have := HJ2.out; have := HK2.out; omega
         case rel => exact ⟨(t120), (wrap64 (x6_2 + 1)), vt_, H', hl2_ HJ2 HK2, rX_ HO_5, bX0_ HB⟩
        ·replace c12 := Bool.eq_false_iff.mpr c12; subst c12; replace H := ifF_ H; obtain rfl := Option.some.inj H; have p118 : 0 ≤ (x6_2 : Int) := oda_; have q118 : x6_2 < (l1.length : Int) := oda_; obtain ⟨ad118, e118, hx118_0⟩ := Kd.at_int HR1.out x6_2 p118 q118; cases e118; replace hx118_0 := hc_ HB hx118_0; replace p118 := eq_true p118; replace q118 := eq_true q118; obtain ⟨Ao15, co15, eo15⟩ := Kd.R_slice HO_5.out; subst eo15; go_wp2_with (first | ((with_reducible refine gc_ 147 rfl ?_); refine gL_ (some 33) Try.func147 #[.slice Ao15 x5_2.length co15, .int .i64 (rd l1 x6_2)] ?_; (with_reducible refine (spec_l12Swap.calls (fun k_ => some k_ = (.slice Ao15 x5_2.length co15 : Value).ownBlock) (.slice Ao15 x5_2.length co15) x5_2 (rd l1 x6_2) false t120 w _ ?side1 ?side2 A11.out).mono ?_); (case side1 => exact bx0 HB.out); (case side2 => exact Kd.R_tight rfl HO_5.out); rintro e w16 ⟨rfl, hy0, hb, hkp⟩; refine ⟨_, rfl, ?_⟩; replace HO_5 := am_ (Kd.R_reok rfl hy0 (fun k_ e_ => HO_5.out.1 k_ e_)); replace HB := am_ hb; (try clear hb); (try clear hkp); (try clear hy0)))
         go_ret; exact ⟨er_, bx0 HB.out⟩
       ·rw [if_neg c10] at H; exact absurd H (by simp)
      ·rw [if_neg c9] at H; have c9b0 := decide_eq_false c9; clear c9; obtain rfl := Option.some.inj H; go_wp2; go_ret; exact ⟨er_, bx0 HB.out⟩
def spec_TurnWiring.f (k : Nat) (a0 : Int) (l1 : List Int) : Option (List Int × Bool) := (spec_IsWiring.f k a0 l1).bind fun t1443 => (if t1443 = true then ((some (([] : List Int) : List Int)).bind fun y1444 => (if 1 ≤ (l1.length : Int) then (if y1444.length + (l1.drop 1).length < 17592186044416 then ((some (y1444 ++ (l1.drop 1) : List Int)).bind fun y1448 => (if 0 < (l1.length : Int) then ((some (([wrap64 ((wrap64 (a0 - 2)) - (rd l1 0))] : List Int) : List Int)).bind fun y1452 => (if y1448.length + y1452.length < 17592186044416 then (some ((y1448 ++ y1452), true)) else (none))) else (none))) else (none)) else (none))) else (some ((([] : List Int)), false)))
def spec_TurnWiring.T3 : Bool × List (List Nat × List Nat) := (true, [([], []), ([], []), ([1], [1]), ([0, 2], [0, 2]), ([], []), ([4], [4]), ([], []), ([6], [6]), ([7], [7]), ([5, 8], [5, 8]), ([9], [9]), ([3, 10, 3], [3, 10]), ([11, 11, 0, 1, 2, 3, 4, 5, 6, 7, 8, 9, 10, 11], [11]), ([12, 0, 1, 2, 3, 4, 5, 6, 7, 8, 9, 10, 11, 12], [])])
def spec_TurnWiring.B3 : List Nat := [0, 0, 2, 7, 0, 16, 0, 64, 192, 496, 1008, 2047, 4095, 8191]
theorem spec_TurnWiring.tab3 : rtab .any (opsOf Try.f39 3) = spec_TurnWiring.T3 := by kernel_rfl
theorem spec_TurnWiring.bits3 : waitsOk spec_TurnWiring.T3.2 spec_TurnWiring.B3 = true := by kernel_rfl
set_option maxHeartbeats 8000000 in
set_option maxRecDepth 100000 in
theorem spec_TurnWiring.calls (k : Nat) (a0 : Int) (A1 : Option Addr) (c1 : Nat) (l1 : List Int) (r1 : List Int) (r2 : Bool) (w : World) (hr1 : Kd.C (Kd.int .i64) w A1 l1.length l1) (hc1 : l1.length ≤ c1) (h : spec_TurnWiring.f k a0 l1 = some (r1, r2)) :
  Calls Try.prog 39 #[.int .i64 a0, .slice A1 l1.length c1] w fun e w' => ∃ v0_ : Value, e = .returned (.tuple #[v0_, .bool r2]) ∧ Kd.R (Kd.int .i64) 3 w' w.heap.size (fun _ => True) v0_ r1 ∧ Below w.heap.size w w' := by
 have HR1 := am_ hr1; have HC1 := am_ hc1; clear hr1 hc1; have HB := am_ (Below.refl w.heap.size w); have H : ((spec_IsWiring.f k a0 l1).bind fun t1443 => (if t1443 = true then ((some (([] : List Int) : List Int)).bind fun y1444 => (if 1 ≤ (l1.length : Int) then (if y1444.length + (l1.drop 1).length < 17592186044416 then ((some (y1444 ++ (l1.drop 1) : List Int)).bind fun y1448 => (if 0 < (l1.length : Int) then ((some (([wrap64 ((wrap64 (a0 - 2)) - (rd l1 0))] : List Int) : List Int)).bind fun y1452 => (if y1448.length + y1452.length < 17592186044416 then (some ((y1448 ++ y1452), true)) else (none))) else (none))) else (none)) else (none))) else (some ((([] : List Int)), false)))) = some (r1, r2) := h; clear h; obtain ⟨t1443, A3, H⟩ := bnd_ H; by_cases c4 : t1443 = true
 ·subst c4; replace H := ifT_ H; obtain ⟨y1444, hy1444⟩ : ∃ y_ : List Int, y_ = (([] : List Int)) := ⟨_, rfl⟩; replace H : (if 1 ≤ (l1.length : Int) then (if y1444.length + (l1.drop 1).length < 17592186044416 then ((some (y1444 ++ (l1.drop 1) : List Int)).bind fun y1448 => (if 0 < (l1.length : Int) then ((some (([wrap64 ((wrap64 (a0 - 2)) - (rd l1 0))] : List Int) : List Int)).bind fun y1452 => (if y1448.length + y1452.length < 17592186044416 then (some ((y1448 ++ y1452), true)) else (none))) else (none))) else (none)) else (none)) = some (r1, r2) := yH_ hy1444 H; have Ny1444 := am_ hy1444; clear hy1444; by_cases c5 : 1 ≤ (l1.length : Int)
  ·rw [if_pos c5] at H; have c5b0 := eq_true c5; have c5b1 := decide_eq_true c5; clear c5; by_cases c6 : y1444.length + (l1.drop 1).length < 17592186044416
   ·rw [if_pos c6] at H; have LMc6 := am_ c6; clear c6; obtain ⟨y1448, hy1448⟩ : ∃ y_ : List Int, y_ = (y1444 ++ (l1.drop 1)) := ⟨_, rfl⟩; replace H : (if 0 < (l1.length : Int) then ((some (([wrap64 ((wrap64 (a0 - 2)) - (rd l1 0))] : List Int) : List Int)).bind fun y1452 => (if y1448.length + y1452.length < 17592186044416 then (some ((y1448 ++ y1452), true)) else (none))) else (none)) = some (r1, r2) := yH_ hy1448 H; have Ny1448 := am_ hy1448; clear hy1448; by_cases c7 : 0 < (l1.length : Int)
    ·rw [if_pos c7] at H; have c7b0 := decide_eq_true c7; have c7b1 : decide (0 < l1.length) = true := decide_eq_true (by omega); clear c7; obtain ⟨y1452, hy1452⟩ : ∃ y_ : List Int, y_ = (([wrap64 ((wrap64 (a0 - 2)) - (rd l1 0))] : List Int)) := ⟨_, rfl⟩; replace H : (if y1448.length + y1452.length < 17592186044416 then (some ((y1448 ++ y1452), true)) else (none)) = some (r1, r2) := yH_ hy1452 H; have Ny1452 := am_ hy1452; clear hy1452; by_cases c8 : y1448.length + y1452.length < 17592186044416
     ·rw [if_pos c8] at H; have LMc8 := am_ c8; clear c8; obtain ⟨y1455, hy1455⟩ : ∃ y_ : List Int, y_ = (y1448 ++ y1452) := ⟨_, rfl⟩; replace H : (some (y1455, true)) = some (r1, r2) := yH_ hy1455 H; have Ny1455 := am_ hy1455; clear hy1455; simp only [Option.some.injEq, Prod.mk.injEq] at H
      obtain ⟨rfl, rfl⟩ := H; go_enter Try.func39, Try.ntmps39
      try go_wp2_with (first | ((with_reducible refine gc_ 78 rfl ?_); refine gL_ (some 8) Try.func78 #[.int .i64 a0, .slice A1 l1.length c1] ?_; (with_reducible refine (spec_IsWiring.calls k a0 _ _ l1 true _ ?side1 ?side2 A3.out).mono ?_); (case side1 => repeat (first | exact HR1.out | (with_reducible refine Kd.C_alloc ?_ _) | (with_reducible refine Kd.C_drewN ?_ _) | (with_reducible refine Kd.C_drew ?_))); (case side2 => exact HC1.out); rintro e w9 ⟨rfl, hb⟩; refine ⟨_, rfl, ?_⟩; replace HB := bs0_ HB hb; try clear hb))
      replace HB := bd_ HB; obtain ⟨i011, hi011, _, hsz11, _⟩ := info_parts info3; obtain ⟨A11, hcut11, hA11, hC11⟩ := print_drop_of (P := Try.prog) (Value.int .i64) 0 34 3 .i64 Try.underlying34 hi011 hsz11 A1 c1 l1 1 (by omega) (oda_) HC1.out; have HR1447 := am_ (Kd.C_of_reads (h1 := fun _ => rfl) (hA11 _ (Kd.reads_of_C HR1.out))); have HC1447 := am_ hC11; clear hA11 hC11 hi011 hsz11; have p1451 : 0 ≤ (0 : Int) := (by omega); have q1451 : 0 < (l1.length : Int) := oda_; obtain ⟨ad1451, e1451, hx1451_0⟩ := Kd.at_int HR1.out 0 p1451 q1451; have hw1451_0 := hx1451_0; (try rw [show ((0 : Int)).toNat = 0 from rfl] at hw1451_0)
      (try rw [show 0 * 1 = 0 from rfl] at hw1451_0)
      (try rw [Addr.add_zero'] at hw1451_0)
      cases e1451; have qi1451 : (0 < l1.length) = True := eq_true (by omega); (try rw [show ((0 : Int)).toNat = 0 from rfl] at hx1451_0)
      (try rw [Addr.add_zero'] at hx1451_0)
      replace hx1451_0 := hc_ HB hx1451_0; replace p1451 := eq_true p1451; replace q1451 := eq_true q1451; refine start_ (n := 14) (S := fun w' => w'.cell? ad1451 = some (.int .i64 (rd l1 0))) (ds := []) #[false, false, false, false, false, false, false, false, false, false, false, false, false, false] (by kernel_rfl) rfl rfl ((hc_ HB hw1451_0)) (fun hHeld => ?_); refine with_tabW spec_TurnWiring.tab3 spec_TurnWiring.bits3 (fun HT_ HW_ => ?_); generalize w9.drew = w10 at HB HR1447 hx1451_0 hHeld ⊢
      refine pD_ 1 (some 12) HT_ (h := ?_); refine pD_ 2 (some 13) HT_ (h := ?_); refine pD_ 4 (some 15) HT_ (h := ?_); refine pD_ 5 (some 16) HT_ (h := ?_); refine pD_ 6 (some 17) HT_ (h := ?_); refine pD_ 7 (some 18) HT_ (h := ?_); refine take_ (i := 8) (N := some 19) (v := ?_) (a' := ?_) #[false, true, true, false, true, true, true, true, true, false, false, false, false, false] rfl rfl (take_ofW HT_.out HW_.out (by kernel_rfl)) (fun _ _ _ h => h) (Or.inl ⟨by rfl, ?_⟩) hHeld ?_ ?_; rotate_left
      ·intro w' s0; go_simp
       with_reducible rfl
      rotate_left
      ·simp only [Act.put, sA_, sZ_, sS_, i64_w, i32_w]
       rfl
      refine pD_ 9 (some 20) HT_ (h := ?_); refine join_ (σ := Value × Value × Value) 3 #[true, true, true, true, true, true, true, true, true, true, true, false, false, false] (fun s_ => [(11, s_.1), (14, s_.2.1), (21, s_.2.2)]) (fun s_ w' => (w'.cell? ad1451 = some (.int .i64 (rd l1 0))) ∧ (Kd.R (Kd.int .i64) 3 w' w.heap.size (fun k_ => some k_ ≠ (s_.2.2 : Value).ownBlock) s_.2.1 y1448) ∧ (Kd.R (Kd.int .i64) 3 w' w.heap.size (fun k_ => some k_ ≠ (s_.2.1 : Value).ownBlock) s_.2.2 y1452) ∧ (Below w.heap.size w w')) ?_ ?_; rotate_left
      ·intro hCont; refine two_ (i := 0) (j := 10) (Ni := some 11) (Nj := some 21) #[true, true, true, false, true, true, true, true, true, true, false, false, false, false] #[false, true, true, false, true, true, true, true, true, true, true, false, false, false] rfl rfl rfl rfl (two_of HT_.out (by kernel_rfl)) (by decide) (by decide) (fun K hK => ?_) (fun K hK => ?_)
       ·skip
        refine Kd.R_lit_step (Kd.int .i64) _ 3 ?hg (N := 11) ?hd (xs := ([] : List Int)) (inner := []) (ok := fun _ => True) (okp := fun _ => True) ?hr ?hp (fun _ hk => hk) trivial (Below.refl _ _) (Nat.le_refl _) (by simp) ?_; (case hd => rfl); (case hg => rfl); (case hr => first | (go_simp; done) | (go_simp; rfl)); (case hp => exact (Reps.none _ _)); intro v1445 w12 ho13 hb hg_ hnew_; clear hg_ hnew_; (first | rw [← Ny1444.out] at ho13 | (simp only [Int.reduceToNat] at ho13; rw [← Ny1444.out] at ho13))
        have HO1446 := rl0_ ho13 HB; replace HB := bs0_ HB hb; clear hb ho13; refine hK.out _ _ ((hc_ HB hw1451_0)) (fun hHeld => ?_); clear hK K; refine nm_ 11 (h := ?_); refine two_ (i := 3) (j := 10) (Ni := some 14) (Nj := some 21) #[true, true, true, true, true, true, true, true, true, true, false, false, false, false] #[true, true, true, false, true, true, true, true, true, true, true, false, false, false] rfl rfl rfl rfl (two_of HT_.out (by kernel_rfl)) (by decide) (by decide) (fun K hK => ?_) (fun K hK => ?_)
        ·skip
         refine Kd.R_append_rows_step (Kd.int .i64) (w0 := w) w.heap.size (by rfl) (.tmp 11) (.tmp 13) 34 3 (.int .i64 0) 8 rfl Try.underlying34 info3 rfl (by decide) (by omega) v1445 y1444 (l1.drop 1) _ _ _ (fun _ => True) (fun _ => False) rfl rfl ?aO ?aR (fun _ _ h => h) (fun _ h => h.elim) ?aF ?aB ?aS ?aL ?_; (case aR => first | (rw [← show (l1.drop 1).length = (l1.length - 1) from List.length_drop]; exact cS_ HR1447 HB) | (exact cS_ HR1447 HB))
         (case aB => exact (bx0 HB.out))
         (case aF => exact (fun _ _ => trivial))
         (case aO => exact (rx_ HO1446.out))
         (case aS => exact (below_size (bx0 HB.out)))
         (case aL => have := LMc6.out; have hlx_ := (show (l1.drop 1).length = (l1.length - 1) from List.length_drop); omega)
         intro v1449 w14 ho hb hg hat; rw [← Ny1448.out] at ho; replace HB := am_ hb; have HO1450 := am_ ho; clear HO1446; clear ho hb hg hat; refine hK.out _ _ ((hc_ HB hw1451_0)) (fun hHeld => ?_); clear hK K; refine nm_ 14 (h := ?_); refine oN_ 10 (some 21) HT_ (fun K hK => ?_); refine Kd.R_lit_step (Kd.int .i64) _ 3 ?hg (N := 21) ?hd (xs := ([wrap64 ((wrap64 (a0 - 2)) - (rd l1 0))] : List Int)) (inner := [.int .i64 (wrap64 ((wrap64 (a0 - 2)) - (rd l1 0)))]) (ok := fun _ => True) (okp := fun _ => True) ?hr ?hp (fun _ hk => hk) trivial (Below.refl _ _) (Nat.le_refl _) (by simp) ?_; (case hd => rfl); (case hg => rfl); (case hr => first | (go_simp; done) | (go_simp; rfl)); (case hp => exact (Reps.one (show Kd.M (Kd.int .i64) _ _ _ (wrap64 ((wrap64 (a0 - 2)) - (rd l1 0))) [.int .i64 (wrap64 ((wrap64 (a0 - 2)) - (rd l1 0)))] from rfl) (Reps.none _ _))); intro v1453 w15 ho16 hb hg_ hnew_; clear hg_ hnew_; (first | rw [← Ny1452.out] at ho16 | (simp only [Int.reduceToNat] at ho16; rw [← Ny1452.out] at ho16))
         have HO1454 := am_ (Kd.R_lower (Kd.R_new' ho16 (Kd.R_lt (rx_ HO1450.out))) (below_size (bx0 HB.out))); replace HO1450 := re_ HO1450 ho16 hb; replace HB := bs0_ HB hb; clear hb ho16; refine hK.out _ _ ((hc_ HB hw1451_0)) (fun hHeld => ?_); clear hK K; refine nm_ 21 (h := ?_); exact norm_ (by simp only [putAll, Act.put, sA_, sZ_, sS_]) (hCont (v1445, v1449, v1453) _ ⟨hHeld, (by refine rx_ ?_; exact Kd.R_mono HO1450.out (fun _ hk => hk.2)), (by refine rx_ ?_; exact Kd.R_mono HO1454.out (fun _ hk => hk.2)), (bx0 HB.out)⟩)
        ·skip
         refine Kd.R_lit_step (Kd.int .i64) _ 3 ?hg (N := 21) ?hd (xs := ([wrap64 ((wrap64 (a0 - 2)) - (rd l1 0))] : List Int)) (inner := [.int .i64 (wrap64 ((wrap64 (a0 - 2)) - (rd l1 0)))]) (ok := fun _ => True) (okp := fun _ => True) ?hr ?hp (fun _ hk => hk) trivial (Below.refl _ _) (Nat.le_refl _) (by simp) ?_; (case hd => rfl); (case hg => rfl); (case hr => first | (go_simp; done) | (go_simp; rfl)); (case hp => exact (Reps.one (show Kd.M (Kd.int .i64) _ _ _ (wrap64 ((wrap64 (a0 - 2)) - (rd l1 0))) [.int .i64 (wrap64 ((wrap64 (a0 - 2)) - (rd l1 0)))] from rfl) (Reps.none _ _))); intro v1453 w14 ho15 hb hg_ hnew_; clear hg_ hnew_; (first | rw [← Ny1452.out] at ho15 | (simp only [Int.reduceToNat] at ho15; rw [← Ny1452.out] at ho15))
         have HO1454 := am_ (Kd.R_lower (Kd.R_new' ho15 (Kd.R_lt (rx_ HO1446.out))) (below_size (bx0 HB.out))); replace HO1446 := re_ HO1446 ho15 hb; replace HB := bs0_ HB hb; clear hb ho15; refine hK.out _ _ ((hc_ HB hw1451_0)) (fun hHeld => ?_); clear hK K; refine nm_ 21 (h := ?_); refine oN_ 3 (some 14) HT_ (fun K hK => ?_); refine Kd.R_append_rows_step (Kd.int .i64) (w0 := w) w.heap.size (by rfl) (.tmp 11) (.tmp 13) 34 3 (.int .i64 0) 8 rfl Try.underlying34 info3 rfl (by decide) (by omega) v1445 y1444 (l1.drop 1) _ _ _ (fun k_ => some k_ ≠ (v1453 : Value).ownBlock) (fun _ => False) rfl rfl ?aO ?aR (fun _ _ h => h) (fun _ h => h.elim) ?aF ?aB ?aS ?aL ?_; (case aR => first | (rw [← show (l1.drop 1).length = (l1.length - 1) from List.length_drop]; exact cS_ HR1447 HB) | (exact cS_ HR1447 HB))
         (case aB => exact (bx0 HB.out))
         (case aF => exact (fun k_ hk => Kd.fresh' (Kd.R_lt (rx_ HO1454.out)) k_ hk))
         (case aO => exact (by refine rx_ ?_; exact Kd.R_mono HO1446.out (fun _ hk => hk.2)))
         (case aS => exact (below_size (bx0 HB.out)))
         (case aL => have := LMc6.out; have hlx_ := (show (l1.drop 1).length = (l1.length - 1) from List.length_drop); omega)
         intro v1449 w16 ho hb hg hat; rw [← Ny1448.out] at ho; replace HO1454 := am_ (Kd.R_after (ok := (fun _ => True)) (by refine rx_ ?_; first | exact HO1454.out | exact Kd.R_len HO1454.out) hg hat); replace HB := am_ hb; have HO1450 := am_ ho; clear HO1446; clear ho hb hg hat; refine hK.out _ _ ((hc_ HB hw1451_0)) (fun hHeld => ?_); clear hK K; refine nm_ 14 (h := ?_); exact norm_ (by simp only [putAll, Act.put, sA_, sZ_, sS_]) (hCont (v1445, v1449, v1453) _ ⟨hHeld, (rx_ HO1450.out), (by refine rx_ ?_; exact Kd.R_mono HO1454.out (fun _ hk => hk.2)), (bx0 HB.out)⟩)
       ·skip
        refine Kd.R_lit_step (Kd.int .i64) _ 3 ?hg (N := 21) ?hd (xs := ([wrap64 ((wrap64 (a0 - 2)) - (rd l1 0))] : List Int)) (inner := [.int .i64 (wrap64 ((wrap64 (a0 - 2)) - (rd l1 0)))]) (ok := fun _ => True) (okp := fun _ => True) ?hr ?hp (fun _ hk => hk) trivial (Below.refl _ _) (Nat.le_refl _) (by simp) ?_; (case hd => rfl); (case hg => rfl); (case hr => first | (go_simp; done) | (go_simp; rfl)); (case hp => exact (Reps.one (show Kd.M (Kd.int .i64) _ _ _ (wrap64 ((wrap64 (a0 - 2)) - (rd l1 0))) [.int .i64 (wrap64 ((wrap64 (a0 - 2)) - (rd l1 0)))] from rfl) (Reps.none _ _))); intro v1453 w12 ho13 hb hg_ hnew_; clear hg_ hnew_; (first | rw [← Ny1452.out] at ho13 | (simp only [Int.reduceToNat] at ho13; rw [← Ny1452.out] at ho13))
        have HO1454 := rl0_ ho13 HB; replace HB := bs0_ HB hb; clear hb ho13; refine hK.out _ _ ((hc_ HB hw1451_0)) (fun hHeld => ?_); clear hK K; refine nm_ 21 (h := ?_); refine oN_ 0 (some 11) HT_ (fun K hK => ?_); refine Kd.R_lit_step (Kd.int .i64) _ 3 ?hg (N := 11) ?hd (xs := ([] : List Int)) (inner := []) (ok := fun _ => True) (okp := fun _ => True) ?hr ?hp (fun _ hk => hk) trivial (Below.refl _ _) (Nat.le_refl _) (by simp) ?_; (case hd => rfl); (case hg => rfl); (case hr => first | (go_simp; done) | (go_simp; rfl)); (case hp => exact (Reps.none _ _)); intro v1445 w14 ho15 hb hg_ hnew_; clear hg_ hnew_; (first | rw [← Ny1444.out] at ho15 | (simp only [Int.reduceToNat] at ho15; rw [← Ny1444.out] at ho15))
        have HO1446 := am_ (Kd.R_lower (Kd.R_new' ho15 (Kd.R_lt (rx_ HO1454.out))) (below_size (bx0 HB.out))); replace HO1454 := re_ HO1454 ho15 hb; replace HB := bs0_ HB hb; clear hb ho15; refine hK.out _ _ ((hc_ HB hw1451_0)) (fun hHeld => ?_); clear hK K; refine nm_ 11 (h := ?_); refine oN_ 3 (some 14) HT_ (fun K hK => ?_); refine Kd.R_append_rows_step (Kd.int .i64) (w0 := w) w.heap.size (by rfl) (.tmp 11) (.tmp 13) 34 3 (.int .i64 0) 8 rfl Try.underlying34 info3 rfl (by decide) (by omega) v1445 y1444 (l1.drop 1) _ _ _ (fun k_ => some k_ ≠ (v1453 : Value).ownBlock) (fun _ => False) rfl rfl ?aO ?aR (fun _ _ h => h) (fun _ h => h.elim) ?aF ?aB ?aS ?aL ?_; (case aR => first | (rw [← show (l1.drop 1).length = (l1.length - 1) from List.length_drop]; exact cS_ HR1447 HB) | (exact cS_ HR1447 HB))
        (case aB => exact (bx0 HB.out))
        (case aF => exact (fun k_ hk => Kd.fresh' (Kd.R_lt (rx_ HO1454.out)) k_ hk))
        (case aO => exact (by refine rx_ ?_; exact Kd.R_mono HO1446.out (fun _ hk => hk.2)))
        (case aS => exact (below_size (bx0 HB.out)))
        (case aL => have := LMc6.out; have hlx_ := (show (l1.drop 1).length = (l1.length - 1) from List.length_drop); omega)
        intro v1449 w16 ho hb hg hat; rw [← Ny1448.out] at ho; replace HO1454 := am_ (Kd.R_after (ok := (fun _ => True)) (by refine rx_ ?_; first | exact HO1454.out | exact Kd.R_len HO1454.out) hg hat); replace HB := am_ hb; have HO1450 := am_ ho; clear HO1446; clear ho hb hg hat; refine hK.out _ _ ((hc_ HB hw1451_0)) (fun hHeld => ?_); clear hK K; refine nm_ 14 (h := ?_); exact norm_ (by simp only [putAll, Act.put, sA_, sZ_, sS_]) (hCont (v1445, v1449, v1453) _ ⟨hHeld, (rx_ HO1450.out), (by refine rx_ ?_; exact Kd.R_mono HO1454.out (fun _ hk => hk.2)), (bx0 HB.out)⟩)
      rintro ⟨v1445, v1449, v1453⟩ w17 ⟨hS_, h0_, h1_, h2_⟩; have n0_ : Aside0 (Kd.R (Kd.int .i64) 3 w17 w.heap.size (fun k_ => some k_ ≠ (v1453 : Value).ownBlock) v1449 y1448) := ⟨h0_⟩; have n1_ : Aside0 (Kd.R (Kd.int .i64) 3 w17 w.heap.size (fun k_ => some k_ ≠ (v1449 : Value).ownBlock) v1453 y1452) := ⟨h1_⟩; have n2_ : Aside0 (Below w.heap.size w w17) := ⟨h2_⟩; clear HB; clear h0_ h1_ h2_; have HO1450 := n0_; have HO1454 := n1_; have HB := n2_; clear n0_ n1_ n2_; have hHeld : w17.cell? ad1451 = some (.int .i64 (rd l1 0)) := hS_; obtain ⟨Ao19, co19, eo19⟩ := Kd.R_slice HO1454.out; (first | subst eo19 | (injection eo19 with f1_ f2_ f3_; have f4_ := f1_.symm; have f5_ := f3_.symm; clear f1_ f2_ f3_; subst f4_; subst f5_))
      refine norm_ (a' := ?_) ?_ ?_; rotate_left
      ·simp only [putAll, Act.put, sA_, sZ_, sS_]
       rfl
      refine oN_ 11 (some 22) HT_ (fun K hK => ?_); refine Kd.R_append_rows_step (Kd.int .i64) (w0 := w) w.heap.size (by rfl) (.tmp 14) (.tmp 21) 34 3 (.int .i64 0) 8 rfl Try.underlying34 info3 rfl (by decide) (by omega) v1449 y1448 y1452 _ _ _ (fun k_ => some k_ ≠ (.slice Ao19 y1452.length co19 : Value).ownBlock) (fun _ => False) rfl rfl ?aO ?aR (fun _ _ h => h) (fun _ h => h.elim) ?aF ?aB ?aS ?aL ?_; (case aR => exact cR_ HO1454)
      (case aB => exact (bx0 HB.out))
      (case aF => exact (fun k_ hk => Kd.fresh' (Kd.R_lt (rx_ HO1454.out)) k_ hk))
      (case aO => exact (rx_ HO1450.out))
      (case aS => exact (below_size (bx0 HB.out)))
      (case aL => have := LMc8.out; omega)
      intro v1456 w18 ho hb hg hat; rw [← Ny1455.out] at ho; replace HO1454 := am_ (Kd.R_after (ok := (fun _ => True)) (by refine rx_ ?_; exact Kd.R_mono HO1454.out (fun _ hk => ⟨trivial, hk⟩)) hg hat); replace HB := am_ hb; have HO1457 := am_ ho; clear HO1450; clear ho hb hg hat; refine hK.out _ _ ((hc_ HB hw1451_0)) (fun hHeld => ?_); clear hK K; refine nm_ 22 (h := ?_); refine pD_ 12 (some 4) HT_ (h := ?_); refine pD_ 13 (some 5) HT_ (h := ?_); refine done_ (done_of HT_.out (by kernel_rfl)) ?_; try go_wp2
      go_ret2
      exact ⟨_, by first | rfl | (simp [errW_none, errW_some] <;> rfl) | (simp [*, errW_none, errW_some] <;> rfl), by refine rx_ ?_; exact Kd.R_mono HO1457.out (fun _ hk => trivial), bx0 HB.out⟩
     ·rw [if_neg c8] at H; exact absurd H (by simp)
    ·rw [if_neg c7] at H; exact absurd H (by simp)
   ·rw [if_neg c6] at H; exact absurd H (by simp)
  ·rw [if_neg c5] at H; exact absurd H (by simp)
 ·replace c4 := Bool.eq_false_iff.mpr c4; subst c4; replace H := ifF_ H; obtain ⟨y1458, hy1458⟩ : ∃ y_ : List Int, y_ = (([] : List Int)) := ⟨_, rfl⟩; replace H : (some (y1458, false)) = some (r1, r2) := yH_ hy1458 H; have Ny1458 := am_ hy1458; clear hy1458; simp only [Option.some.injEq, Prod.mk.injEq] at H
  obtain ⟨rfl, rfl⟩ := H; go_enter Try.func39, Try.ntmps39
  go_wp2_with (first | ((with_reducible refine gc_ 78 rfl ?_); refine gL_ (some 8) Try.func78 #[.int .i64 a0, .slice A1 l1.length c1] ?_; (with_reducible refine (spec_IsWiring.calls k a0 _ _ l1 false _ ?side1 ?side2 A3.out).mono ?_); (case side1 => repeat (first | exact HR1.out | (with_reducible refine Kd.C_alloc ?_ _) | (with_reducible refine Kd.C_drewN ?_ _) | (with_reducible refine Kd.C_drew ?_))); (case side2 => exact HC1.out); rintro e w20 ⟨rfl, hb⟩; refine ⟨_, rfl, ?_⟩; replace HB := bs0_ HB hb; try clear hb) | ((with_reducible refine gd_ 10 rfl ?_); refine Kd.R_lit (Kd.int .i64) _ 3 ?hg (N := 10) ?hd (xs := ([] : List Int)) (inner := []) (ok := fun _ => True) (okp := fun _ => True) ?hr ?hp (fun _ hk => hk) trivial (Below.refl _ _) (Nat.le_refl _) (by simp) ?_; (case hd => rfl); (case hg => rfl); (case hr => first | (go_simp; done) | (go_simp; rfl)); (case hp => exact (Reps.none _ _)); intro v1459 w21 ho22 hb hg_ hnew_; clear hg_ hnew_; (first | rw [← Ny1458.out] at ho22 | (simp only [Int.reduceToNat] at ho22; rw [← Ny1458.out] at ho22)); have HO1460 := rl0_ ho22 HB; replace HB := bs0_ HB hb; clear hb ho22))
  go_ret2
  exact ⟨_, by first | rfl | (simp [errW_none, errW_some] <;> rfl) | (simp [*, errW_none, errW_some] <;> rfl), rx_ HO1460.out, bx0 HB.out⟩
mutual
def impl_triplesOf.l0 : Nat → Int → List (S89) → Int → Option ((List (S89)))
 | 0, _, _, _ => none
 | k + 1, x0, x3, x4 => if x4 < x0 then (impl_triplesOf.l1 k x0 x3 x4 (wrap64 (x4 + 1))) else (some x3)
def impl_triplesOf.l1 : Nat → Int → List (S89) → Int → Int → Option ((List (S89)))
 | 0, _, _, _, _ => none
 | k + 1, x0, x3, x4, x5 => if x5 < x0 then (impl_triplesOf.l2 k x0 x3 x4 x5 (wrap64 (x5 + 1))) else (impl_triplesOf.l0 k x0 x3 (wrap64 (x4 + 1)))
def impl_triplesOf.l2 : Nat → Int → List (S89) → Int → Int → Int → Option ((List (S89)))
 | 0, _, _, _, _, _ => none
 | k + 1, x0, x3, x4, x5, x6 => if x6 < x0 then (if x3.length < 5864062014805 then (impl_triplesOf.l2 k x0 (x3 ++ [(⟨x4, x5, x6⟩ : S89)]) x4 x5 (wrap64 (x6 + 1))) else (none)) else (impl_triplesOf.l1 k x0 x3 x4 (wrap64 (x5 + 1)))
end
def impl_triplesOf.f (k : Nat) (a0 : Int) : Option ((List (S89))) := impl_triplesOf.l0 k a0 ([] : List (S89)) 0
theorem impl_triplesOf.mono_l : ∀ k, (∀ y0 y1 y2, LeO (impl_triplesOf.l0 k y0 y1 y2) (impl_triplesOf.l0 (k + 1) y0 y1 y2)) ∧ (∀ y0 y1 y2 y3, LeO (impl_triplesOf.l1 k y0 y1 y2 y3) (impl_triplesOf.l1 (k + 1) y0 y1 y2 y3)) ∧ (∀ y0 y1 y2 y3 y4, LeO (impl_triplesOf.l2 k y0 y1 y2 y3 y4) (impl_triplesOf.l2 (k + 1) y0 y1 y2 y3 y4))
 | 0 => ⟨fun _ _ _ r h => by simp [impl_triplesOf.l0] at h, fun _ _ _ _ r h => by simp [impl_triplesOf.l1] at h, fun _ _ _ _ _ r h => by simp [impl_triplesOf.l2] at h⟩
 | k + 1 => by
  obtain ⟨ih0, ih1, ih2⟩ := impl_triplesOf.mono_l k; refine ⟨?_, ?_, ?_⟩ <;> (intros; (first | unfold impl_triplesOf.l0 | unfold impl_triplesOf.l1 | unfold impl_triplesOf.l2); repeat' first | (with_reducible first | apply ih0 | apply ih1 | apply ih2 | exact LeO.refl _ | exact LeO.none _ | refine LeO.ite ?_ ?_ | refine LeO.bind ?_ (fun _ => ?_)) | exact LeO.none _)
theorem impl_triplesOf.mono : ∀ a0 k, LeO (impl_triplesOf.f k a0) (impl_triplesOf.f (k + 1) a0) := by
 intro a0 k; obtain ⟨ih0, ih1, ih2⟩ := impl_triplesOf.mono_l k; unfold impl_triplesOf.f
 repeat' first | (with_reducible first | apply ih0 | apply ih1 | apply ih2 | exact LeO.refl _ | exact LeO.none _ | refine LeO.ite ?_ ?_ | refine LeO.bind ?_ (fun _ => ?_)) | exact LeO.none _
set_option maxHeartbeats 8000000 in
set_option maxRecDepth 100000 in
theorem impl_triplesOf.calls (k : Nat) (a0 : Int) (r : List (S89)) (w : World) (h : impl_triplesOf.f k a0 = some r) :
  Calls Try.prog 84 #[.int .i64 a0] w fun e w' => ∃ v0_ : Value, e = .returned (v0_) ∧ Kd.R k89 89 w' w.heap.size (fun _ => True) v0_ r ∧ Below w.heap.size w w' := by
 have hu89 := Try.underlying89; have HB := am_ (Below.refl w.heap.size w); have H : (impl_triplesOf.l0 k a0 ([] : List (S89)) 0) = some r := h; clear h; have H' := am_ H; clear H; go_enter Try.func84, Try.ntmps84
 go_wp2; go_loopg [3, 4] k (fun kq v3 v4 w' => ∃ (x3_1 : List (S89)) (x4_1 : Int), v4 = .int .i64 x4_1 ∧ Aside0 (impl_triplesOf.l0 kq a0 x3_1 x4_1 = some r) ∧ Aside0 (kq ≤ k) ∧ Aside0 (Kd.R k89 89 w' w.heap.size (fun _ => True) v3 x3_1) ∧ Aside0 (Below w.heap.size w w'))
 case atStart => exact ⟨(([] : List (S89))), (0), vt_, H', ⟨Nat.le_refl _⟩, ⟨by first | exact Kd.R_nil _ _ _ _ _ | exact Kd.N_nil _ _ _ _ _ | exact Kd.V_nil _ _ _ _ _ | exact Kd.Q_nil _ _ _ _ _ | exact Kd.S_nil _ _ _ _ _⟩, bX0_ HB⟩
 case round =>
  clear H'; obtain ⟨x3_1, x4_1, rfl, HA, HK1, HO_3, HB⟩ := hrel; cases gk with
  | zero => exact absurd HA.out (by simp [impl_triplesOf.l0])
  | succ k1 =>
   have H := HA.out; clear HA; simp only [impl_triplesOf.l0] at H
   by_cases c2 : x4_1 < a0
   ·rw [if_pos c2] at H; have c2b0 := decide_eq_true c2; clear c2; have H' := am_ H; clear H; go_wp2; go_loopg [3, 5] k1 (fun kq v3 v5 w' => ∃ (x3_2 : List (S89)) (x5_2 : Int), v5 = .int .i64 x5_2 ∧ Aside0 (impl_triplesOf.l1 kq a0 x3_2 x4_1 x5_2 = some r) ∧ Aside0 (kq ≤ k1) ∧ Aside0 (Kd.R k89 89 w' w.heap.size (fun _ => True) v3 x3_2) ∧ Aside0 (Below w.heap.size w w'))
    case atStart => exact ⟨(x3_1), (wrap64 (x4_1 + 1)), vt_, H', ⟨Nat.le_refl _⟩, rX_ HO_3, bX0_ HB⟩
    case round =>
     clear H'; try clear c2b0
     obtain ⟨x3_2, x5_2, rfl, HA, HK2, HO_3, HB⟩ := hrel; cases gk with
     | zero => exact absurd HA.out (by simp [impl_triplesOf.l1])
     | succ k2 =>
      have H := HA.out; clear HA; simp only [impl_triplesOf.l1] at H
      by_cases c3 : x5_2 < a0
      ·rw [if_pos c3] at H; have c3b0 := decide_eq_true c3; clear c3; have H' := am_ H; clear H; go_wp2; go_loopg [3, 6] k2 (fun kq v3 v6 w' => ∃ (x3_3 : List (S89)) (x6_3 : Int), v6 = .int .i64 x6_3 ∧ Aside0 (impl_triplesOf.l2 kq a0 x3_3 x4_1 x5_2 x6_3 = some r) ∧ Aside0 (kq ≤ k2) ∧ Aside0 (Kd.R k89 89 w' w.heap.size (fun _ => True) v3 x3_3) ∧ Aside0 (Below w.heap.size w w'))
       case atStart => exact ⟨(x3_2), (wrap64 (x5_2 + 1)), vt_, H', ⟨Nat.le_refl _⟩, rX_ HO_3, bX0_ HB⟩
       case round =>
        clear H'; try clear c2b0 c3b0
        obtain ⟨x3_3, x6_3, rfl, HA, HK3, HO_3, HB⟩ := hrel; cases gk with
        | zero => exact absurd HA.out (by simp [impl_triplesOf.l2])
        | succ k3 =>
         have H := HA.out; clear HA; simp only [impl_triplesOf.l2] at H
         by_cases c4 : x6_3 < a0
         ·rw [if_pos c4] at H; have c4b0 := decide_eq_true c4; clear c4; by_cases c5 : x3_3.length < 5864062014805
          ·rw [if_pos c5] at H; have LMc5 := am_ c5; clear c5; obtain ⟨y332, hy332⟩ : ∃ y_ : List (S89), y_ = (x3_3 ++ [(⟨x4_1, x5_2, x6_3⟩ : S89)]) := ⟨_, rfl⟩; replace H : (impl_triplesOf.l2 k3 a0 y332 x4_1 x5_2 (wrap64 (x6_3 + 1))) = some r := yH_ hy332 H; have Ny332 := am_ hy332; clear hy332; have H' := am_ H; clear H; go_wp2_with (first | ((with_reducible refine gate_builtin (b := .append) (xs := #[.tmp 26, .tmp 31]) rfl ?_); at_builtin; refine Kd.R_append k89 (w0 := w) w.heap.size rfl (.tmp 26) (.tmp 31) 81 89 (.agg #[(.int .i64 0), (.int .i64 0), (.int .i64 0)]) 24 rfl Try.underlying81 info89 rfl (by decide) (by omega) u3 x3_3 (⟨x4_1, x5_2, x6_3⟩ : S89) [.int .i64 x4_1, .int .i64 x5_2, .int .i64 x6_3] (fun _ => True) (fun _ => False) rfl rfl ?aP (fun _ hk => hk.elim) ?aF ?aO ?aB ?aS ?aL ?_; (case aP => exact k89_mkM _ _ _ (⟨x4_1, x5_2, x6_3⟩ : S89)); (case aB => exact (bx0 HB.out)); (case aF => exact (fun _ _ => trivial)); (case aO => exact (rx_ HO_3.out)); (case aS => exact (below_size (bx0 HB.out))); (case aL => have := LMc5.out; omega); intro v333 w6 ho hb hg hat; rw [← Ny332.out] at ho; replace HB := am_ hb; have HO334 := am_ ho; clear HO_3; clear ho hb hg hat))
           go_roundg k3
           case measure => have := HK1.out; have := HK2.out; have := HK3.out; omega
           case rel => exact ⟨(y332), (wrap64 (x6_3 + 1)), vt_, H', hl3_ HK1 HK2 HK3, rX_ HO334, bX0_ HB⟩
          ·rw [if_neg c5] at H; exact absurd H (by simp)
         ·rw [if_neg c4] at H; have c4b0 := decide_eq_false c4; clear c4; have H' := am_ H; clear H; go_wp2; go_roundg k3
          case measure => have := HK1.out; have := HK2.out; have := HK3.out; omega
          case rel => exact ⟨(x3_3), (wrap64 (x5_2 + 1)), vt_, H', hl3_ HK1 HK2 HK3, rX_ HO_3, bX0_ HB⟩
      ·rw [if_neg c3] at H; have c3b0 := decide_eq_false c3; clear c3; have H' := am_ H; clear H; go_wp2; go_roundg k2
       case measure => have := HK1.out; have := HK2.out; omega
       case rel => exact ⟨(x3_2), (wrap64 (x4_1 + 1)), vt_, H', hl2_ HK1 HK2, rX_ HO_3, bX0_ HB⟩
   ·rw [if_neg c2] at H; have c2b0 := decide_eq_false c2; clear c2; obtain rfl := Option.some.inj H; go_wp2; go_ret; exact ⟨_, by first | rfl | (simp [errW_none, errW_some] <;> rfl) | (simp [*, errW_none, errW_some] <;> rfl), rx_ HO_3.out, bx0 HB.out⟩
def impl_isFar.f (a0 : Int) (a1 : Int) : Option (Bool) := if a0 < (wrap64 (-a1)) then (some true) else (some (decide (a0 > a1)))
set_option maxHeartbeats 8000000 in
set_option maxRecDepth 100000 in
theorem impl_isFar.calls (a0 : Int) (a1 : Int) (r : Bool) (w : World) (h : impl_isFar.f a0 a1 = some r) :
  Calls Try.prog 224 #[.int .i64 a0, .int .i64 a1] w fun e w' => e = .returned (.bool r) ∧ Drawn0 w w' := by
 have H : (if a0 < (wrap64 (-a1)) then (some true) else (some (decide (a0 > a1)))) = some r := h; clear h; by_cases c3 : a0 < (wrap64 (-a1))
 ·rw [if_pos c3] at H; have c3b0 := decide_eq_true c3; clear c3; obtain rfl := Option.some.inj H; go_enter Try.func224, Try.ntmps224
  go_wp2; go_ret; exact ⟨by first | rfl | (simp; done) | (simp [*]; done), dr_⟩
 ·rw [if_neg c3] at H; have c3b0 := decide_eq_false c3; clear c3; obtain rfl := Option.some.inj H; go_enter Try.func224, Try.ntmps224
  go_wp2; go_ret; exact ⟨by first | rfl | (simp; done) | (simp [*]; done), dr_⟩
def impl_areNear_1.f (a0_0 : Int) (a0_1 : Int) (s1_0 : Int) : Option (Bool) := (impl_isFar.f a0_0 s1_0).bind fun t1275 => (if t1275 = true then (some true) else ((impl_isFar.f a0_1 s1_0).bind fun t1276 => (some t1276)))
set_option maxHeartbeats 8000000 in
set_option maxRecDepth 100000 in
theorem impl_areNear_1.calls (a0_0 : Int) (a0_1 : Int) (gb1 : Nat) (s1_0 : Int) (r : Bool) (w : World) (hb1_ : w.heap[gb1]? = some (.cells #[.int .i64 s1_0] 3 (0, 0))) (h : impl_areNear_1.f a0_0 a0_1 s1_0 = some r) :
  Calls Try.prog 223 #[.agg #[.int .i64 a0_0, .int .i64 a0_1], .pointer (some ⟨gb1, 0, none⟩)] w fun e w' => e = .returned (.bool r) ∧ Below w.heap.size w w' := by
 have hu56 := Try.underlying56; have BK1 := am_ hb1_; clear hb1_; have HB := am_ (Below.refl w.heap.size w); have H : ((impl_isFar.f a0_0 s1_0).bind fun t1275 => (if t1275 = true then (some true) else ((impl_isFar.f a0_1 s1_0).bind fun t1276 => (some t1276)))) = some r := h; clear h; obtain ⟨t1275, A3, H⟩ := bnd_ H; by_cases c4 : t1275 = true
 ·subst c4; replace H := ifT_ H; obtain rfl := Option.some.inj H; go_enter Try.func223, Try.ntmps223
  go_wp2_with (first | ((with_reducible refine gd_ 2 rfl ?_); refine be_ 2 #[.int .i64 a0_0, .int .i64 a0_1] 56 ?_; intro gb1274 hg w5 hbox hb; have BK1274 := am_ hbox; have GW1274 := am_ ((by rw [hg]; exact (below_size (by repeat (first | (with_reducible first | exact HB.out | apply below_alloc | apply pw_below_drewN | apply below_drew1 | refine below_set ?_ GE1.out) | exact HB.out))) : w.heap.size ≤ gb1274)); have GE1274 := am_ ((by rw [hg]; exact (below_size (by repeat (first | (with_reducible first | exact HB.out | apply below_alloc | apply pw_below_drewN | apply below_drew1 | refine below_set ?_ GE1.out) | exact HB.out))) : w.heap.size ≤ gb1274)); replace HB := am_ (below_step (by repeat (first | (with_reducible first | exact HB.out | apply below_alloc | apply pw_below_drewN | apply below_drew1 | refine below_set ?_ GE1.out) | exact HB.out)) hb); have NB1_1274 := nl_ BK1 hg; have NB1274_1 := ng_ BK1 hg; replace BK1 := bb_ BK1 hb; clear hb hbox hg; have hnb6 := NB1274_1.out; have hnc6 := NB1_1274.out; obtain ⟨hcz7_0, hfz7_0, hcz7_1, hfz7_1⟩ := bk2_ BK1274; obtain ⟨hcz8_0, hfz8_0⟩ := bk1_ BK1) | ((with_reducible refine gc_ 224 rfl ?_); refine gP_ (some 7) Try.func224 #[.int .i64 a0_0, .int .i64 s1_0] (impl_isFar.calls a0_0 s1_0 true _ A3.out) ?_; intro nd))
  go_ret; exact ⟨er_, by repeat (first | (with_reducible first | exact HB.out | apply below_alloc | apply pw_below_drewN | apply below_drew1 | refine below_set ?_ GE1.out | refine below_set ?_ GE1274.out) | exact HB.out)⟩
 ·replace c4 := Bool.eq_false_iff.mpr c4; subst c4; replace H := ifF_ H; obtain ⟨t1276, A9, H⟩ := bnd_ H; obtain rfl := Option.some.inj H; go_enter Try.func223, Try.ntmps223
  go_wp2_with (first | ((with_reducible refine gd_ 2 rfl ?_); refine be_ 2 #[.int .i64 a0_0, .int .i64 a0_1] 56 ?_; intro gb1274 hg w10 hbox hb; have BK1274 := am_ hbox; have GW1274 := am_ ((by rw [hg]; exact (below_size (by repeat (first | (with_reducible first | exact HB.out | apply below_alloc | apply pw_below_drewN | apply below_drew1 | refine below_set ?_ GE1.out) | exact HB.out))) : w.heap.size ≤ gb1274)); have GE1274 := am_ ((by rw [hg]; exact (below_size (by repeat (first | (with_reducible first | exact HB.out | apply below_alloc | apply pw_below_drewN | apply below_drew1 | refine below_set ?_ GE1.out) | exact HB.out))) : w.heap.size ≤ gb1274)); replace HB := am_ (below_step (by repeat (first | (with_reducible first | exact HB.out | apply below_alloc | apply pw_below_drewN | apply below_drew1 | refine below_set ?_ GE1.out) | exact HB.out)) hb); have NB1_1274 := nl_ BK1 hg; have NB1274_1 := ng_ BK1 hg; replace BK1 := bb_ BK1 hb; clear hb hbox hg; have hnb11 := NB1274_1.out; have hnc11 := NB1_1274.out; obtain ⟨hcz12_0, hfz12_0, hcz12_1, hfz12_1⟩ := bk2_ BK1274; obtain ⟨hcz13_0, hfz13_0⟩ := bk1_ BK1) | ((with_reducible refine gc_ 224 rfl ?_); refine gP_ (some 7) Try.func224 #[.int .i64 a0_0, .int .i64 s1_0] (impl_isFar.calls a0_0 s1_0 false _ A3.out) ?_; intro nd) | (go_at_call 224; (with_reducible refine (impl_isFar.calls a0_1 s1_0 t1276 _ A9.out).mono ?_); rintro e w' ⟨rfl, ⟨nd, rfl⟩⟩))
  go_ret; exact ⟨er_, by repeat (first | (with_reducible first | exact HB.out | apply below_alloc | apply pw_below_drewN | apply below_drew1 | refine below_set ?_ GE1.out | refine below_set ?_ GE1274.out) | exact HB.out)⟩
def slices_IndexFunc_Simpl_Point_impl_Point_impl_areNear_1.l0 : Nat → List (S56) → Int → Int → Int → Option (Int)
 | 0, _, _, _, _ => none
 | k + 1, x0, x7, x8, x2000 => if x8 < x7 then (if 0 ≤ x8 then (if x8 < (x0.length : Int) then ((impl_areNear_1.f ((rd_T56 x0 x8).f0) ((rd_T56 x0 x8).f1) x2000).bind fun t1278 => (if t1278 = true then (some x8) else (slices_IndexFunc_Simpl_Point_impl_Point_impl_areNear_1.l0 k x0 x7 (wrap64 (x8 + 1)) x2000))) else (none)) else (none)) else (some (-1))
def slices_IndexFunc_Simpl_Point_impl_Point_impl_areNear_1.f (k : Nat) (l0 : List (S56)) (s1_0 : Int) : Option (Int) := slices_IndexFunc_Simpl_Point_impl_Point_impl_areNear_1.l0 k l0 (l0.length : Int) 0 s1_0
set_option maxHeartbeats 8000000 in
set_option maxRecDepth 100000 in
theorem slices_IndexFunc_Simpl_Point_impl_Point_impl_areNear_1.calls (k : Nat) (A0 : Option Addr) (c0 : Nat) (l0 : List (S56)) (gb1 : Nat) (s1_0 : Int) (r : Int) (w : World) (hr0 : Kd.C k56 w A0 l0.length l0) (hc0 : l0.length ≤ c0) (hb1_ : w.heap[gb1]? = some (.cells #[.int .i64 s1_0] 3 (0, 0))) (h : slices_IndexFunc_Simpl_Point_impl_Point_impl_areNear_1.f k l0 s1_0 = some r) :
  Calls Try.prog 256 #[.slice A0 l0.length c0, .func (.func 223) #[] #[.pointer (some ⟨gb1, 0, none⟩)]] w fun e w' => e = .returned (.int .i64 r) ∧ Below w.heap.size w w' := by
 have hu56 := Try.underlying56; have HR0 := am_ hr0; have HC0 := am_ hc0; clear hr0 hc0; have BK1 := am_ hb1_; clear hb1_; have HB := am_ (Below.refl w.heap.size w); have H : (slices_IndexFunc_Simpl_Point_impl_Point_impl_areNear_1.l0 k l0 (l0.length : Int) 0 s1_0) = some r := h; clear h; have H' := am_ H; clear H; go_enter Try.func256, Try.ntmps256
 go_wp2; go_loopg [8] k (fun kq v8 w' => ∃ (x8_1 : Int), v8 = .int .i64 x8_1 ∧ Aside0 (slices_IndexFunc_Simpl_Point_impl_Point_impl_areNear_1.l0 kq l0 (l0.length : Int) x8_1 s1_0 = some r) ∧ Aside0 (kq ≤ k) ∧ Aside0 (w'.heap[gb1]? = some (.cells #[.int .i64 s1_0] 3 (0, 0))) ∧ Aside0 (Below w.heap.size w w'))
 case atStart => exact ⟨(0), vt_, H', ⟨Nat.le_refl _⟩, kX_ BK1, ⟨by repeat (first | (with_reducible first | exact HB.out | apply below_alloc | apply pw_below_drewN | apply below_drew1 | refine below_set ?_ GE1.out) | exact HB.out)⟩⟩
 case round =>
  clear H'; obtain ⟨x8_1, rfl, HA, HK1, BK1, HB⟩ := hrel; cases gk with
  | zero => exact absurd HA.out (by simp [slices_IndexFunc_Simpl_Point_impl_Point_impl_areNear_1.l0])
  | succ k1 =>
   have H := HA.out; clear HA; simp only [slices_IndexFunc_Simpl_Point_impl_Point_impl_areNear_1.l0] at H
   by_cases c3 : x8_1 < (l0.length : Int)
   ·rw [if_pos c3] at H; have c3b0 := decide_eq_true c3; clear c3; by_cases c4 : 0 ≤ x8_1
    ·rw [if_pos c4] at H; have c4b0 := decide_eq_true c4; clear c4; by_cases c5 : x8_1 < (l0.length : Int)
     ·rw [if_pos c5] at H; have c5b0 := decide_eq_true c5; clear c5; obtain ⟨t1278, A6, H⟩ := bnd_ H; by_cases c7 : t1278 = true
      ·subst c7; replace H := ifT_ H; obtain rfl := Option.some.inj H; have p1277 : 0 ≤ (x8_1 : Int) := oda_; have q1277 : x8_1 < (l0.length : Int) := oda_; obtain ⟨ad1277, e1277, hx1277_0, hx1277_1⟩ := at_T56 HR0.out x8_1 p1277 q1277; cases e1277; replace hx1277_0 := hc_ HB hx1277_0; replace hx1277_1 := hc_ HB hx1277_1; replace p1277 := eq_true p1277; replace q1277 := eq_true q1277; go_wp2_with (first | (go_at_call 223; (with_reducible refine (impl_areNear_1.calls ((rd_T56 l0 x8_1).f0) ((rd_T56 l0 x8_1).f1) gb1 s1_0 true _ ?side1 A6.out).mono ?_); (case side1 => exact (kx_ BK1.out)); rintro e w8 ⟨rfl, hb⟩; replace BK1 := bb_ BK1 hb; replace HB := am_ (below_step (by repeat (first | (with_reducible first | exact HB.out | apply below_alloc | apply pw_below_drewN | apply below_drew1 | refine below_set ?_ GE1.out) | exact HB.out)) hb); try clear hb))
       go_ret; exact ⟨er_, by repeat (first | (with_reducible first | exact HB.out | apply below_alloc | apply pw_below_drewN | apply below_drew1 | refine below_set ?_ GE1.out) | exact HB.out)⟩
      ·replace c7 := Bool.eq_false_iff.mpr c7; subst c7; replace H := ifF_ H; have H' := am_ H; clear H; have p1277 : 0 ≤ (x8_1 : Int) := oda_; have q1277 : x8_1 < (l0.length : Int) := oda_; obtain ⟨ad1277, e1277, hx1277_0, hx1277_1⟩ := at_T56 HR0.out x8_1 p1277 q1277; cases e1277; replace hx1277_0 := hc_ HB hx1277_0; replace hx1277_1 := hc_ HB hx1277_1; replace p1277 := eq_true p1277; replace q1277 := eq_true q1277; go_wp2_with (first | (go_at_call 223; (with_reducible refine (impl_areNear_1.calls ((rd_T56 l0 x8_1).f0) ((rd_T56 l0 x8_1).f1) gb1 s1_0 false _ ?side1 A6.out).mono ?_); (case side1 => exact (kx_ BK1.out)); rintro e w9 ⟨rfl, hb⟩; replace BK1 := bb_ BK1 hb; replace HB := am_ (below_step (by repeat (first | (with_reducible first | exact HB.out | apply below_alloc | apply pw_below_drewN | apply below_drew1 | refine below_set ?_ GE1.out) | exact HB.out)) hb); try clear hb))
       go_roundg k1
       case measure => have := HK1.out; omega
       case rel => exact ⟨(wrap64 (x8_1 + 1)), vt_, H', hl_ HK1, kX_ BK1, ⟨by repeat (first | (with_reducible first | exact HB.out | apply below_alloc | apply pw_below_drewN | apply below_drew1 | refine below_set ?_ GE1.out) | exact HB.out)⟩⟩
     ·rw [if_neg c5] at H; exact absurd H (by simp)
    ·rw [if_neg c4] at H; exact absurd H (by simp)
   ·rw [if_neg c3] at H; have c3b0 := decide_eq_false c3; clear c3; obtain rfl := Option.some.inj H; go_wp2; go_ret; exact ⟨er_, by repeat (first | (with_reducible first | exact HB.out | apply below_alloc | apply pw_below_drewN | apply below_drew1 | refine below_set ?_ GE1.out) | exact HB.out)⟩
def slices_ContainsFunc_Simpl_Point_impl_Point_impl_areNear_1.f (k : Nat) (l0 : List (S56)) (s1_0 : Int) : Option (Bool) := (slices_IndexFunc_Simpl_Point_impl_Point_impl_areNear_1.f k l0 s1_0).bind fun t1279 => (some (decide (t1279 ≥ 0)))
set_option maxHeartbeats 8000000 in
set_option maxRecDepth 100000 in
theorem slices_ContainsFunc_Simpl_Point_impl_Point_impl_areNear_1.calls (k : Nat) (A0 : Option Addr) (c0 : Nat) (l0 : List (S56)) (gb1 : Nat) (s1_0 : Int) (r : Bool) (w : World) (hr0 : Kd.C k56 w A0 l0.length l0) (hc0 : l0.length ≤ c0) (hb1_ : w.heap[gb1]? = some (.cells #[.int .i64 s1_0] 3 (0, 0))) (h : slices_ContainsFunc_Simpl_Point_impl_Point_impl_areNear_1.f k l0 s1_0 = some r) :
  Calls Try.prog 222 #[.slice A0 l0.length c0, .func (.func 223) #[] #[.pointer (some ⟨gb1, 0, none⟩)]] w fun e w' => e = .returned (.bool r) ∧ Below w.heap.size w w' := by
 have HR0 := am_ hr0; have HC0 := am_ hc0; clear hr0 hc0; have BK1 := am_ hb1_; clear hb1_; have HB := am_ (Below.refl w.heap.size w); have H : ((slices_IndexFunc_Simpl_Point_impl_Point_impl_areNear_1.f k l0 s1_0).bind fun t1279 => (some (decide (t1279 ≥ 0)))) = some r := h; clear h; obtain ⟨t1279, A3, H⟩ := bnd_ H; obtain rfl := Option.some.inj H; go_enter Try.func222, Try.ntmps222
 go_wp2_with (first | ((with_reducible refine gc_ 256 rfl ?_); refine gL_ (some 7) Try.func256 #[.slice A0 l0.length c0, .func (.func 223) #[] #[.pointer (some ⟨gb1, 0, none⟩)]] ?_; (with_reducible refine (slices_IndexFunc_Simpl_Point_impl_Point_impl_areNear_1.calls k _ _ l0 gb1 s1_0 t1279 _ ?side1 ?side2 ?side3 A3.out).mono ?_); (case side1 => repeat (first | exact HR0.out | (with_reducible refine Kd.C_alloc ?_ _) | (with_reducible refine Kd.C_drewN ?_ _) | (with_reducible refine Kd.C_drew ?_))); (case side2 => exact HC0.out); (case side3 => exact (kx_ BK1.out)); rintro e w4 ⟨rfl, hb⟩; refine ⟨_, rfl, ?_⟩; replace BK1 := bb_ BK1 hb; replace HB := am_ (below_step (by repeat (first | (with_reducible first | exact HB.out | apply below_alloc | apply pw_below_drewN | apply below_drew1 | refine below_set ?_ GE1.out) | exact HB.out)) hb); try clear hb))
 go_ret; exact ⟨er_, by repeat (first | (with_reducible first | exact HB.out | apply below_alloc | apply pw_below_drewN | apply below_drew1 | refine below_set ?_ GE1.out) | exact HB.out)⟩
def impl_areNear.f (k : Nat) (a0 : Int) (l1 : List (S56)) : Option (Bool) := (slices_ContainsFunc_Simpl_Point_impl_Point_impl_areNear_1.f k l1 a0).bind fun t1281 => (some (!t1281))
set_option maxHeartbeats 8000000 in
set_option maxRecDepth 100000 in
theorem impl_areNear.calls (k : Nat) (a0 : Int) (A1 : Option Addr) (c1 : Nat) (l1 : List (S56)) (r : Bool) (w : World) (hr1 : Kd.C k56 w A1 l1.length l1) (hc1 : l1.length ≤ c1) (h : impl_areNear.f k a0 l1 = some r) :
  Calls Try.prog 175 #[.int .i64 a0, .slice A1 l1.length c1] w fun e w' => e = .returned (.bool r) ∧ Below w.heap.size w w' := by
 have HR1 := am_ hr1; have HC1 := am_ hc1; clear hr1 hc1; have HB := am_ (Below.refl w.heap.size w); have H : ((slices_ContainsFunc_Simpl_Point_impl_Point_impl_areNear_1.f k l1 a0).bind fun t1281 => (some (!t1281))) = some r := h; clear h; obtain ⟨t1281, A3, H⟩ := bnd_ H; obtain rfl := Option.some.inj H; go_enter Try.func175, Try.ntmps175
 go_wp2_with (first | ((with_reducible refine gd_ 2 rfl ?_); refine be_ 2 #[.int .i64 a0] 3 ?_; intro gb1280 hg w4 hbox hb; have BK1280 := am_ hbox; have GW1280 := gw0_ HB hg; have GE1280 := GW1280; replace HB := bs0_ HB hb; clear hb hbox hg) | ((with_reducible refine gc_ 222 rfl ?_); refine gL_ (some 7) Try.func222 #[.slice A1 l1.length c1, .func (.func 223) #[] #[.pointer (some ⟨gb1280, 0, none⟩)]] ?_; (with_reducible refine (slices_ContainsFunc_Simpl_Point_impl_Point_impl_areNear_1.calls k _ _ l1 gb1280 a0 t1281 _ ?side1 ?side2 ?side3 A3.out).mono ?_); (case side1 => exact cS_ HR1 HB); (case side2 => exact HC1.out); (case side3 => exact (kx_ BK1280.out)); rintro e w5 ⟨rfl, hb⟩; refine ⟨_, rfl, ?_⟩; replace BK1280 := bb_ BK1280 hb; replace HB := bs1_ HB hb GE1280; try clear hb))
 go_ret; exact ⟨er_, bx1 HB.out GE1280.out⟩
def cmp_isNaN_int.f (a0 : Int) : Option (Bool) := some false
set_option maxHeartbeats 8000000 in
set_option maxRecDepth 100000 in
theorem cmp_isNaN_int.calls (a0 : Int) (r : Bool) (w : World) (h : cmp_isNaN_int.f a0 = some r) :
  Calls Try.prog 178 #[.int .i64 a0] w fun e w' => e = .returned (.bool r) ∧ Drawn0 w w' := by
 have H : (some false) = some r := h; clear h; obtain rfl := Option.some.inj H; go_enter Try.func178, Try.ntmps178
 go_wp2; go_ret; exact ⟨by first | rfl | (simp; done) | (simp [*]; done), dr_⟩
def cmp_Compare_int.f (a0 : Int) (a1 : Int) : Option (Int) := (cmp_isNaN_int.f a0).bind fun t978 => ((cmp_isNaN_int.f a1).bind fun t979 => (if t978 = true then (if t979 = true then (some 0) else (some (-1))) else (if t979 = true then (some 1) else (if a0 < a1 then (some (-1)) else (if a0 > a1 then (some 1) else (some 0))))))
set_option maxHeartbeats 8000000 in
set_option maxRecDepth 100000 in
theorem cmp_Compare_int.calls (a0 : Int) (a1 : Int) (r : Int) (w : World) (h : cmp_Compare_int.f a0 a1 = some r) :
  Calls Try.prog 120 #[.int .i64 a0, .int .i64 a1] w fun e w' => e = .returned (.int .i64 r) ∧ Drawn0 w w' := by
 have H : ((cmp_isNaN_int.f a0).bind fun t978 => ((cmp_isNaN_int.f a1).bind fun t979 => (if t978 = true then (if t979 = true then (some 0) else (some (-1))) else (if t979 = true then (some 1) else (if a0 < a1 then (some (-1)) else (if a0 > a1 then (some 1) else (some 0))))))) = some r := h; clear h; obtain ⟨t978, A3, H⟩ := bnd_ H; obtain ⟨t979, A4, H⟩ := bnd_ H; by_cases c5 : t978 = true
 ·subst c5; replace H := ifT_ H; by_cases c6 : t979 = true
  ·subst c6; replace H := ifT_ H; obtain rfl := Option.some.inj H; go_enter Try.func120, Try.ntmps120
   go_wp2_with (first | ((with_reducible refine gc_ 178 rfl ?_); refine gP_ (some 8) Try.func178 #[.int .i64 a0] (cmp_isNaN_int.calls a0 true _ A3.out) ?_; intro nd) | ((with_reducible refine gc_ 178 rfl ?_); refine gP_ (some 10) Try.func178 #[.int .i64 a1] (cmp_isNaN_int.calls a1 true _ A4.out) ?_; intro nd))
   go_ret; exact ⟨by first | rfl | (simp; done) | (simp [*]; done), dr_⟩
  ·replace c6 := Bool.eq_false_iff.mpr c6; subst c6; replace H := ifF_ H; obtain rfl := Option.some.inj H; go_enter Try.func120, Try.ntmps120
   go_wp2_with (first | ((with_reducible refine gc_ 178 rfl ?_); refine gP_ (some 8) Try.func178 #[.int .i64 a0] (cmp_isNaN_int.calls a0 true _ A3.out) ?_; intro nd) | ((with_reducible refine gc_ 178 rfl ?_); refine gP_ (some 10) Try.func178 #[.int .i64 a1] (cmp_isNaN_int.calls a1 false _ A4.out) ?_; intro nd))
   go_ret; exact ⟨by first | rfl | (simp; done) | (simp [*]; done), dr_⟩
 ·replace c5 := Bool.eq_false_iff.mpr c5; subst c5; replace H := ifF_ H; by_cases c7 : t979 = true
  ·subst c7; replace H := ifT_ H; obtain rfl := Option.some.inj H; go_enter Try.func120, Try.ntmps120
   go_wp2_with (first | ((with_reducible refine gc_ 178 rfl ?_); refine gP_ (some 8) Try.func178 #[.int .i64 a0] (cmp_isNaN_int.calls a0 false _ A3.out) ?_; intro nd) | ((with_reducible refine gc_ 178 rfl ?_); refine gP_ (some 10) Try.func178 #[.int .i64 a1] (cmp_isNaN_int.calls a1 true _ A4.out) ?_; intro nd))
   go_ret; exact ⟨by first | rfl | (simp; done) | (simp [*]; done), dr_⟩
  ·replace c7 := Bool.eq_false_iff.mpr c7; subst c7; replace H := ifF_ H; by_cases c8 : a0 < a1
   ·rw [if_pos c8] at H; have c8b0 := decide_eq_true c8; clear c8; obtain rfl := Option.some.inj H; go_enter Try.func120, Try.ntmps120
    go_wp2_with (first | ((with_reducible refine gc_ 178 rfl ?_); refine gP_ (some 8) Try.func178 #[.int .i64 a0] (cmp_isNaN_int.calls a0 false _ A3.out) ?_; intro nd) | ((with_reducible refine gc_ 178 rfl ?_); refine gP_ (some 10) Try.func178 #[.int .i64 a1] (cmp_isNaN_int.calls a1 false _ A4.out) ?_; intro nd))
    go_ret; exact ⟨by first | rfl | (simp; done) | (simp [*]; done), dr_⟩
   ·rw [if_neg c8] at H; have c8b0 := decide_eq_false c8; clear c8; by_cases c9 : a0 > a1
    ·rw [if_pos c9] at H; have c9b0 := decide_eq_true c9; clear c9; obtain rfl := Option.some.inj H; go_enter Try.func120, Try.ntmps120
     go_wp2_with (first | ((with_reducible refine gc_ 178 rfl ?_); refine gP_ (some 8) Try.func178 #[.int .i64 a0] (cmp_isNaN_int.calls a0 false _ A3.out) ?_; intro nd) | ((with_reducible refine gc_ 178 rfl ?_); refine gP_ (some 10) Try.func178 #[.int .i64 a1] (cmp_isNaN_int.calls a1 false _ A4.out) ?_; intro nd))
     go_ret; exact ⟨by first | rfl | (simp; done) | (simp [*]; done), dr_⟩
    ·rw [if_neg c9] at H; have c9b0 := decide_eq_false c9; clear c9; obtain rfl := Option.some.inj H; go_enter Try.func120, Try.ntmps120
     go_wp2_with (first | ((with_reducible refine gc_ 178 rfl ?_); refine gP_ (some 8) Try.func178 #[.int .i64 a0] (cmp_isNaN_int.calls a0 false _ A3.out) ?_; intro nd) | ((with_reducible refine gc_ 178 rfl ?_); refine gP_ (some 10) Try.func178 #[.int .i64 a1] (cmp_isNaN_int.calls a1 false _ A4.out) ?_; intro nd))
     go_ret; exact ⟨by first | rfl | (simp; done) | (simp [*]; done), dr_⟩
def impl_signOf.f (a0 : Int) : Option (Int) := (cmp_Compare_int.f a0 0).bind fun t1282 => (some t1282)
set_option maxHeartbeats 8000000 in
set_option maxRecDepth 100000 in
theorem impl_signOf.calls (a0 : Int) (r : Int) (w : World) (h : impl_signOf.f a0 = some r) :
  Calls Try.prog 225 #[.int .i64 a0] w fun e w' => e = .returned (.int .i64 r) ∧ Drawn0 w w' := by
 have H : ((cmp_Compare_int.f a0 0).bind fun t1282 => (some t1282)) = some r := h; clear h; obtain ⟨t1282, A2, H⟩ := bnd_ H; obtain rfl := Option.some.inj H; go_enter Try.func225, Try.ntmps225
 go_wp2_with (first | ((with_reducible refine gc_ 120 rfl ?_); refine gP_ (some 4) Try.func120 #[.int .i64 a0, .int .i64 0] (cmp_Compare_int.calls a0 0 t1282 _ A2.out) ?_; intro nd))
 go_ret; exact ⟨by first | rfl | (simp; done) | (simp [*]; done), dr_⟩
end Go.Proofs.Ytoajlmlobaccdaa.P
