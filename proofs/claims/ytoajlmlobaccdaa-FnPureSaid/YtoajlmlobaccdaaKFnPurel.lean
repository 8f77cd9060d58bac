/- What the law FnPure reaches, part 12: functions as plain Lean functions with the proofs that their calls come to them, and plain lemmas over these. Put together by a program (wip/pack.py). -/
import Derived.Test.YtoajlmlobaccdaaKFnPured
import Derived.Test.YtoajlmlobaccdaaKFnPurec
import Derived.Test.YtoajlmlobaccdaaKFnPuref
import Derived.Test.YtoajlmlobaccdaaKFnPurek
namespace Go.Proofs.Ytoajlmlobaccdaa.P
open Go.RowKit Go.Proofs.YtoajlmlobaccdaaW.PrintWords Go.Proofs.YtoajlmlobaccdaaW.PrintLast Go.Proofs.YtoajlmlobaccdaaW.PrintMore
attribute [local go_sem] ptrOf_slice
attribute [local go_sem] min2_str max2_int min2_int max_two min_two max_three min_three max_four min_four
set_option linter.unusedVariables false
set_option linter.unusedSimpArgs false
def impl_run_ce.l0 : Nat → Int → List Int → CeS → List Int → Int → Int → Option (Bool × CeS)
  | 0, _, _, _, _, _, _ => none
  | k + 1, x0, x7, xs, x12, x13, x14 => if x14 < x13 then (if 0 ≤ x14 then (if x14 < (x12.length : Int) then (if (rd x12 x14) < 0 then (some (false, xs)) else (if (rd x12 x14) > (wrap64 (x0 - 2)) then (some (false, xs)) else (if 0 ≤ (rd x12 x14) then (if (rd x12 x14) < (x7.length : Int) then (if 0 ≤ (wrap64 ((rd x12 x14) + 1)) then (if (wrap64 ((rd x12 x14) + 1)) < (x7.length : Int) then (if (rd x7 (rd x12 x14)) > (rd x7 (wrap64 ((rd x12 x14) + 1))) then (some (false, xs)) else (if ceOk xs (rd x7 (rd x12 x14)) (rd x7 (wrap64 ((rd x12 x14) + 1))) (rd x12 x14) then (impl_run_ce.l0 k x0 ((x7.set ((rd x12 x14) : Int).toNat (rd x7 (wrap64 ((rd x12 x14) + 1)))).set ((wrap64 ((rd x12 x14) + 1)) : Int).toNat (rd x7 (rd x12 x14))) (ceStep xs (rd x7 (rd x12 x14)) (rd x7 (wrap64 ((rd x12 x14) + 1))) (rd x12 x14)) x12 x13 (wrap64 (x14 + 1))) else none)) else (none)) else (none)) else (none)) else (none)))) else (none)) else (none)) else (some (true, xs))
def impl_run_ce.f (k : Nat) (a0 : Int) (l1 : List Int) (xs : CeS) : Option (Bool × CeS) := (impl_upTo.f k a0).bind fun t0 => (impl_run_ce.l0 k a0 t0 xs l1 (l1.length : Int) 0)
theorem impl_run_ce.mono_l : ∀ k y0 y1 y2 y3 y4 y5, LeO (impl_run_ce.l0 k y0 y1 y2 y3 y4 y5) (impl_run_ce.l0 (k + 1) y0 y1 y2 y3 y4 y5)
  | 0 => fun _ _ _ _ _ _ r h => by simp [impl_run_ce.l0] at h
  | k + 1 => by
    have ih0 := impl_run_ce.mono_l k; intro y0 y1 y2 y3 y4 y5; unfold impl_run_ce.l0
    repeat' first | (with_reducible first | apply ih0 | exact LeO.refl _ | exact LeO.none _ | refine LeO.ite ?_ ?_ | refine LeO.bind ?_ (fun _ => ?_))
theorem impl_run_ce.mono : ∀ a0 a1 a2 k, LeO (impl_run_ce.f k a0 a1 a2) (impl_run_ce.f (k + 1) a0 a1 a2) := fun a0 a1 a2 k => LeO.bind (impl_upTo.mono _ _) (fun _ => impl_run_ce.mono_l _ _ _ _ _ _ _)
def impl_run_ce.T5 : Bool × List (List Nat × List Nat) := (true, [([], []), ([0], [0]), ([1], [1]), ([2], [2]), ([2], [2]), ([4, 2], [2, 4]), ([3, 5, 2], [2, 3, 5]), ([2, 6], [2, 6]), ([7, 2], [7]), ([8], [8]), ([8], [8]), ([9, 10, 8], [8, 9, 10]), ([11, 8], [8, 11]), ([8], [8]), ([8], [8]), ([14, 8], [8, 14]), ([13, 15, 8], [8, 13, 15]), ([16, 8], [8, 16]), ([12, 17, 8], [8, 12, 17]), ([8, 18], [8, 18])])
def impl_run_ce.B5 : List Nat := [0, 1, 3, 7, 7, 23, 63, 127, 255, 511, 511, 2047, 4095, 511, 511, 16895, 57855, 123391, 262143, 524287]
theorem impl_run_ce.tab5 : rtab .any (opsOf Try.f113 5) = impl_run_ce.T5 := by kernel_rfl
theorem impl_run_ce.bits5 : waitsOk impl_run_ce.T5.2 impl_run_ce.B5 = true := by kernel_rfl
def impl_run_ce.T8 : Bool × List (List Nat × List Nat) := (true, [([], []), ([], []), ([], []), ([], []), ([3], [3]), ([], []), ([], []), ([6], [6]), ([5, 7], [5, 7]), ([8], [8]), ([], []), ([], []), ([10, 11], [10, 11]), ([12], [12]), ([0, 1, 0, 1, 5, 6, 7, 8, 9, 13], [0, 1]), ([14, 9, 0, 1, 5, 6, 7, 8, 9, 13], [9, 14]), ([2, 4, 0, 1, 2, 3, 4, 5, 6, 7, 8, 9, 10, 11, 12, 13, 14, 15], [2, 4]), ([16, 13, 15, 0, 1, 2, 3, 4, 5, 6, 7, 8, 9, 10, 11, 12, 13, 14, 15], [13, 16])])
def impl_run_ce.B8 : List Nat := [0, 0, 0, 0, 8, 0, 0, 64, 224, 480, 0, 0, 3072, 7168, 16355, 32739, 65535, 131071]
theorem impl_run_ce.tab8 : rtab .any (opsOf Try.f113 8) = impl_run_ce.T8 := by kernel_rfl
theorem impl_run_ce.bits8 : waitsOk impl_run_ce.T8.2 impl_run_ce.B8 = true := by kernel_rfl
set_option maxHeartbeats 8000000 in
set_option maxRecDepth 100000 in
theorem impl_run_ce.calls (k : Nat) (a0 : Int) (A1 : Option Addr) (c1 : Nat) (l1 : List Int) (xs0 : CeS) (bn bo bk : Nat) (r : Bool) (xr : CeS) (w0 w : World) (hB : Below w0.heap.size w0 w) (hr1 : Kd.C (Kd.int .i64) w0 A1 l1.length l1) (hc1 : l1.length ≤ c1) (hI : ∀ (uw : Option Nat) (w' : World), Below w.heap.size w w' → (∀ k, uw = some k → w.heap.size ≤ k) → CeI w0.heap.size bn bo bk uw xs0 w') (h : impl_run_ce.f k a0 l1 xs0 = some (r, xr)) :
    Calls Try.prog 113 #[.int .i64 a0, .slice A1 l1.length c1, .func (.func 165) #[] #[.pointer (some ⟨bk, 0, none⟩), .pointer (some ⟨bn, 0, none⟩), .pointer (some ⟨bo, 0, none⟩)]] w fun e w' => e = .returned (.bool r) ∧ (∃ uw, CeI w0.heap.size bn bo bk uw xr w') ∧ Below w0.heap.size w0 w' := by
  have HR1 := am_ hr1; have HC1 := am_ hc1; clear hr1 hc1; have HB := am_ hB; have H : ((impl_upTo.f k a0).bind fun t777 => (impl_run_ce.l0 k a0 t777 xs0 l1 (l1.length : Int) 0)) = some (r, xr) := h; clear h; obtain ⟨t777, A4, H⟩ := bnd_ H; have H' := am_ H; clear H; go_enter Try.func113, Try.ntmps113
  go_wp2_with (first | ((with_reducible refine gc_ 168 rfl ?_); refine gR_ (some 11) Try.func168 #[.int .i64 a0] (impl_upTo.calls k a0 t777 _ A4.out) ?_; intro w5 v778 ho0 hb; have n0_ := am_ (Kd.R_lower ho0 (below_size (bx0 HB.out))); have n1_ := am_ (below_step (bx0 HB.out) hb); have HI := am_ (hI v778.ownBlock _ hb (fun k e => Kd.R_base ho0 k e)); clear HB; have HO779 := n0_; have HB := n1_; clear n0_ n1_; try clear hb; (try clear ho0)))
  go_loopg [14] k (fun kq v14 w' => ∃ (x7_1 : List Int) (xs_1 : CeS) (x14_1 : Int), v14 = .int .i64 x14_1 ∧ Aside0 (impl_run_ce.l0 kq a0 x7_1 xs_1 l1 (l1.length : Int) x14_1 = some (r, xr)) ∧ Aside0 (kq ≤ k) ∧ Aside0 (Kd.R (Kd.int .i64) 3 w' w0.heap.size (fun _ => True) v778 x7_1) ∧ Aside0 (Below w0.heap.size w0 w') ∧ Aside0 (CeI w0.heap.size bn bo bk (v778 : Value).ownBlock xs_1 w'))
  case atStart => exact ⟨(t777), xs0, (0), vt_, H', ⟨Nat.le_refl _⟩, rX_ HO779, bX0_ HB, HI⟩
  case round =>
    clear H'; obtain ⟨x7_1, xs_1, x14_1, rfl, HA, HK1, HO_7, HB, HI⟩ := hrel; cases gk with
    | zero => exact absurd HA.out (by simp [impl_run_ce.l0])
    | succ k1 =>
      have H := HA.out; clear HA; simp only [impl_run_ce.l0] at H
      by_cases c6 : x14_1 < (l1.length : Int)
      · rw [if_pos c6] at H; have c6b0 := decide_eq_true c6; clear c6; by_cases c7 : 0 ≤ x14_1
        · rw [if_pos c7] at H; have c7b0 := decide_eq_true c7; clear c7; by_cases c8 : x14_1 < (l1.length : Int)
          · rw [if_pos c8] at H; have c8b0 := decide_eq_true c8; clear c8; by_cases c9 : (rd l1 x14_1) < 0
            · rw [if_pos c9] at H; have c9b0 := decide_eq_true c9; clear c9; obtain ⟨rfl, rfl⟩ := Prod.mk.inj (Option.some.inj H); have p780 : 0 ≤ (x14_1 : Int) := oda_; have q780 : x14_1 < (l1.length : Int) := oda_; obtain ⟨ad780, e780, hx780_0⟩ := Kd.at_int HR1.out x14_1 p780 q780; cases e780; replace hx780_0 := (HB.out.cell (World.block_lt_of_cell? w0 _ hx780_0)).trans hx780_0; replace p780 := eq_true p780; replace q780 := eq_true q780; try go_wp2
              replace HO_7 := am_ (Kd.R_drew HO_7.out); replace HB := bd_ HB; replace HI := am_ (CeI_drew HI.out); refine start_ (n := 20) (S := fun w' => True) (ds := []) #[false, false, false, false, false, false, false, false, false, false, false, false, false, false, false, false, false, false, false, false] (by kernel_rfl) rfl rfl trivial (fun hHeld => ?_); refine with_tabW impl_run_ce.tab5 impl_run_ce.bits5 (fun HT_ HW_ => ?_); generalize wr.drew = w10 at HO_7 HB HI hHeld ⊢
              refine pD_ 0 (some 18) HT_ (h := ?_); refine pD_ 1 (some 19) HT_ (h := ?_); refine pD_ 2 (some 20) HT_ (h := ?_); refine pure_ (i := 3) (N := some 21) (v := undef) (a' := ?_) #[true, true, true, true, false, false, false, false, false, false, false, false, false, false, false, false, false, false, false, false] rfl rfl (any_of HT_.out (by kernel_rfl)) (fun _ _ _ h => h) (Or.inr ⟨by rfl, rfl⟩) ?_ ?_; rotate_left
              · simp only [Act.put, sA_, sZ_, sS_, i64_w, i32_w]
                rfl
              refine pure_ (i := 4) (N := some 22) (v := undef) (a' := ?_) #[true, true, true, true, true, false, false, false, false, false, false, false, false, false, false, false, false, false, false, false] rfl rfl (any_of HT_.out (by kernel_rfl)) (fun _ _ _ h => h) (Or.inr ⟨by rfl, rfl⟩) ?_ ?_; rotate_left
              · simp only [Act.put, sA_, sZ_, sS_, i64_w, i32_w]
                rfl
              refine pure_ (i := 5) (N := some 23) (v := undef) (a' := ?_) #[true, true, true, true, true, true, false, false, false, false, false, false, false, false, false, false, false, false, false, false] rfl rfl (any_of HT_.out (by kernel_rfl)) (fun _ _ _ h => h) (Or.inr ⟨by rfl, rfl⟩) ?_ ?_; rotate_left
              · simp only [Act.put, sA_, sZ_, sS_, i64_w, i32_w]
                rfl
              refine pure_ (i := 6) (N := some 24) (v := undef) (a' := ?_) #[true, true, true, true, true, true, true, false, false, false, false, false, false, false, false, false, false, false, false, false] rfl rfl (any_of HT_.out (by kernel_rfl)) (fun _ _ _ h => h) (Or.inr ⟨by rfl, rfl⟩) ?_ ?_; rotate_left
              · simp only [Act.put, sA_, sZ_, sS_, i64_w, i32_w]
                rfl
              refine pD_ 7 (some 25) HT_ (h := ?_); refine pD_ 8 (some 26) HT_ (h := ?_); refine pure_ (i := 9) (N := some 27) (v := undef) (a' := ?_) #[true, true, true, true, true, true, true, true, true, true, false, false, false, false, false, false, false, false, false, false] rfl rfl (any_of HT_.out (by kernel_rfl)) (fun _ _ _ h => h) (Or.inr ⟨by rfl, rfl⟩) ?_ ?_; rotate_left
              · simp only [Act.put, sA_, sZ_, sS_, i64_w, i32_w]
                rfl
              refine pure_ (i := 10) (N := some 28) (v := undef) (a' := ?_) #[true, true, true, true, true, true, true, true, true, true, true, false, false, false, false, false, false, false, false, false] rfl rfl (any_of HT_.out (by kernel_rfl)) (fun _ _ _ h => h) (Or.inr ⟨by rfl, rfl⟩) ?_ ?_; rotate_left
              · simp only [Act.put, sA_, sZ_, sS_, i64_w, i32_w]
                rfl
              refine pure_ (i := 11) (N := some 29) (v := undef) (a' := ?_) #[true, true, true, true, true, true, true, true, true, true, true, true, false, false, false, false, false, false, false, false] rfl rfl (any_of HT_.out (by kernel_rfl)) (fun _ _ _ h => h) (Or.inr ⟨by rfl, rfl⟩) ?_ ?_; rotate_left
              · simp only [Act.put, sA_, sZ_, sS_, i64_w, i32_w]
                rfl
              refine pure_ (i := 12) (N := some 30) (v := undef) (a' := ?_) #[true, true, true, true, true, true, true, true, true, true, true, true, true, false, false, false, false, false, false, false] rfl rfl (any_of HT_.out (by kernel_rfl)) (fun _ _ _ h => h) (Or.inr ⟨by rfl, rfl⟩) ?_ ?_; rotate_left
              · simp only [Act.put, sA_, sZ_, sS_, i64_w, i32_w]
                rfl
              refine pure_ (i := 13) (N := some 31) (v := undef) (a' := ?_) #[true, true, true, true, true, true, true, true, true, true, true, true, true, true, false, false, false, false, false, false] rfl rfl (any_of HT_.out (by kernel_rfl)) (fun _ _ _ h => h) (Or.inr ⟨by rfl, rfl⟩) ?_ ?_; rotate_left
              · simp only [Act.put, sA_, sZ_, sS_, i64_w, i32_w]
                rfl
              refine pure_ (i := 14) (N := some 32) (v := undef) (a' := ?_) #[true, true, true, true, true, true, true, true, true, true, true, true, true, true, true, false, false, false, false, false] rfl rfl (any_of HT_.out (by kernel_rfl)) (fun _ _ _ h => h) (Or.inr ⟨by rfl, rfl⟩) ?_ ?_; rotate_left
              · simp only [Act.put, sA_, sZ_, sS_, i64_w, i32_w]
                rfl
              refine pure_ (i := 15) (N := some 33) (v := undef) (a' := ?_) #[true, true, true, true, true, true, true, true, true, true, true, true, true, true, true, true, false, false, false, false] rfl rfl (any_of HT_.out (by kernel_rfl)) (fun _ _ _ h => h) (Or.inr ⟨by rfl, rfl⟩) ?_ ?_; rotate_left
              · simp only [Act.put, sA_, sZ_, sS_, i64_w, i32_w]
                rfl
              refine pure_ (i := 16) (N := some 34) (v := undef) (a' := ?_) #[true, true, true, true, true, true, true, true, true, true, true, true, true, true, true, true, true, false, false, false] rfl rfl (any_of HT_.out (by kernel_rfl)) (fun _ _ _ h => h) (Or.inr ⟨by rfl, rfl⟩) ?_ ?_; rotate_left
              · simp only [Act.put, sA_, sZ_, sS_, i64_w, i32_w]
                rfl
              refine pure_ (i := 17) (N := some 35) (v := undef) (a' := ?_) #[true, true, true, true, true, true, true, true, true, true, true, true, true, true, true, true, true, true, false, false] rfl rfl (any_of HT_.out (by kernel_rfl)) (fun _ _ _ h => h) (Or.inr ⟨by rfl, rfl⟩) ?_ ?_; rotate_left
              · simp only [Act.put, sA_, sZ_, sS_, i64_w, i32_w]
                rfl
              refine pure_ (i := 18) (N := some 36) (v := undef) (a' := ?_) #[true, true, true, true, true, true, true, true, true, true, true, true, true, true, true, true, true, true, true, false] rfl rfl (any_of HT_.out (by kernel_rfl)) (fun _ _ _ h => h) (Or.inr ⟨by rfl, rfl⟩) ?_ ?_; rotate_left
              · simp only [Act.put, sA_, sZ_, sS_, i64_w, i32_w]
                rfl
              refine pD_ 19 (some 37) HT_ (h := ?_); refine done_ (done_of HT_.out (by kernel_rfl)) ?_; try go_wp2
              go_ret; exact ⟨er_, ⟨_, HI.out⟩, bx0 HB.out⟩
            · rw [if_neg c9] at H; have c9b0 := decide_eq_false c9; clear c9; by_cases c11 : (rd l1 x14_1) > (wrap64 (a0 - 2))
              · rw [if_pos c11] at H; have c11b0 := decide_eq_true c11; clear c11; obtain ⟨rfl, rfl⟩ := Prod.mk.inj (Option.some.inj H); have p780 : 0 ≤ (x14_1 : Int) := oda_; have q780 : x14_1 < (l1.length : Int) := oda_; obtain ⟨ad780, e780, hx780_0⟩ := Kd.at_int HR1.out x14_1 p780 q780; cases e780; replace hx780_0 := (HB.out.cell (World.block_lt_of_cell? w0 _ hx780_0)).trans hx780_0; replace p780 := eq_true p780; replace q780 := eq_true q780; try go_wp2
                replace HO_7 := am_ (Kd.R_drew HO_7.out); replace HB := bd_ HB; replace HI := am_ (CeI_drew HI.out); refine start_ (n := 20) (S := fun w' => True) (ds := []) #[false, false, false, false, false, false, false, false, false, false, false, false, false, false, false, false, false, false, false, false] (by kernel_rfl) rfl rfl trivial (fun hHeld => ?_); refine with_tabW impl_run_ce.tab5 impl_run_ce.bits5 (fun HT_ HW_ => ?_); generalize wr.drew = w12 at HO_7 HB HI hHeld ⊢
                refine pD_ 0 (some 18) HT_ (h := ?_); refine pD_ 1 (some 19) HT_ (h := ?_); refine pD_ 2 (some 20) HT_ (h := ?_); refine pD_ 3 (some 21) HT_ (h := ?_); refine pD_ 4 (some 22) HT_ (h := ?_); refine pD_ 5 (some 23) HT_ (h := ?_); refine pD_ 6 (some 24) HT_ (h := ?_); refine pD_ 7 (some 25) HT_ (h := ?_); refine pD_ 8 (some 26) HT_ (h := ?_); refine pure_ (i := 9) (N := some 27) (v := undef) (a' := ?_) #[true, true, true, true, true, true, true, true, true, true, false, false, false, false, false, false, false, false, false, false] rfl rfl (any_of HT_.out (by kernel_rfl)) (fun _ _ _ h => h) (Or.inr ⟨by rfl, rfl⟩) ?_ ?_; rotate_left
                · simp only [Act.put, sA_, sZ_, sS_, i64_w, i32_w]
                  rfl
                refine pure_ (i := 10) (N := some 28) (v := undef) (a' := ?_) #[true, true, true, true, true, true, true, true, true, true, true, false, false, false, false, false, false, false, false, false] rfl rfl (any_of HT_.out (by kernel_rfl)) (fun _ _ _ h => h) (Or.inr ⟨by rfl, rfl⟩) ?_ ?_; rotate_left
                · simp only [Act.put, sA_, sZ_, sS_, i64_w, i32_w]
                  rfl
                refine pure_ (i := 11) (N := some 29) (v := undef) (a' := ?_) #[true, true, true, true, true, true, true, true, true, true, true, true, false, false, false, false, false, false, false, false] rfl rfl (any_of HT_.out (by kernel_rfl)) (fun _ _ _ h => h) (Or.inr ⟨by rfl, rfl⟩) ?_ ?_; rotate_left
                · simp only [Act.put, sA_, sZ_, sS_, i64_w, i32_w]
                  rfl
                refine pure_ (i := 12) (N := some 30) (v := undef) (a' := ?_) #[true, true, true, true, true, true, true, true, true, true, true, true, true, false, false, false, false, false, false, false] rfl rfl (any_of HT_.out (by kernel_rfl)) (fun _ _ _ h => h) (Or.inr ⟨by rfl, rfl⟩) ?_ ?_; rotate_left
                · simp only [Act.put, sA_, sZ_, sS_, i64_w, i32_w]
                  rfl
                refine pure_ (i := 13) (N := some 31) (v := undef) (a' := ?_) #[true, true, true, true, true, true, true, true, true, true, true, true, true, true, false, false, false, false, false, false] rfl rfl (any_of HT_.out (by kernel_rfl)) (fun _ _ _ h => h) (Or.inr ⟨by rfl, rfl⟩) ?_ ?_; rotate_left
                · simp only [Act.put, sA_, sZ_, sS_, i64_w, i32_w]
                  rfl
                refine pure_ (i := 14) (N := some 32) (v := undef) (a' := ?_) #[true, true, true, true, true, true, true, true, true, true, true, true, true, true, true, false, false, false, false, false] rfl rfl (any_of HT_.out (by kernel_rfl)) (fun _ _ _ h => h) (Or.inr ⟨by rfl, rfl⟩) ?_ ?_; rotate_left
                · simp only [Act.put, sA_, sZ_, sS_, i64_w, i32_w]
                  rfl
                refine pure_ (i := 15) (N := some 33) (v := undef) (a' := ?_) #[true, true, true, true, true, true, true, true, true, true, true, true, true, true, true, true, false, false, false, false] rfl rfl (any_of HT_.out (by kernel_rfl)) (fun _ _ _ h => h) (Or.inr ⟨by rfl, rfl⟩) ?_ ?_; rotate_left
                · simp only [Act.put, sA_, sZ_, sS_, i64_w, i32_w]
                  rfl
                refine pure_ (i := 16) (N := some 34) (v := undef) (a' := ?_) #[true, true, true, true, true, true, true, true, true, true, true, true, true, true, true, true, true, false, false, false] rfl rfl (any_of HT_.out (by kernel_rfl)) (fun _ _ _ h => h) (Or.inr ⟨by rfl, rfl⟩) ?_ ?_; rotate_left
                · simp only [Act.put, sA_, sZ_, sS_, i64_w, i32_w]
                  rfl
                refine pure_ (i := 17) (N := some 35) (v := undef) (a' := ?_) #[true, true, true, true, true, true, true, true, true, true, true, true, true, true, true, true, true, true, false, false] rfl rfl (any_of HT_.out (by kernel_rfl)) (fun _ _ _ h => h) (Or.inr ⟨by rfl, rfl⟩) ?_ ?_; rotate_left
                · simp only [Act.put, sA_, sZ_, sS_, i64_w, i32_w]
                  rfl
                refine pure_ (i := 18) (N := some 36) (v := undef) (a' := ?_) #[true, true, true, true, true, true, true, true, true, true, true, true, true, true, true, true, true, true, true, false] rfl rfl (any_of HT_.out (by kernel_rfl)) (fun _ _ _ h => h) (Or.inr ⟨by rfl, rfl⟩) ?_ ?_; rotate_left
                · simp only [Act.put, sA_, sZ_, sS_, i64_w, i32_w]
                  rfl
                refine pD_ 19 (some 37) HT_ (h := ?_); refine done_ (done_of HT_.out (by kernel_rfl)) ?_; try go_wp2
                go_ret; exact ⟨er_, ⟨_, HI.out⟩, bx0 HB.out⟩
              · rw [if_neg c11] at H; have c11b0 := decide_eq_false c11; clear c11; by_cases c13 : 0 ≤ (rd l1 x14_1)
                · rw [if_pos c13] at H; have c13b0 := decide_eq_true c13; clear c13; by_cases c14 : (rd l1 x14_1) < (x7_1.length : Int)
                  · rw [if_pos c14] at H; have c14b0 := decide_eq_true c14; clear c14; obtain ⟨ji15, hji15⟩ : ∃ j_ : Int, (wrap64 ((rd l1 x14_1) + 1)) = j_ := ⟨_, rfl⟩; first | rw [hji15] at H | simp only [hji15] at H
                    have hji15w : (IntKind.i64.wrap ((rd l1 x14_1) + 1)) = ji15 := (i64_w _).trans hji15; by_cases c16 : 0 ≤ (ji15)
                    · rw [if_pos c16] at H; have c16b0 := decide_eq_true c16; clear c16; by_cases c17 : (ji15) < (x7_1.length : Int)
                      · rw [if_pos c17] at H; have c17b0 := decide_eq_true c17; clear c17; by_cases c18 : (rd x7_1 (rd l1 x14_1)) > (rd x7_1 (ji15))
                        · rw [if_pos c18] at H; have c18b0 := decide_eq_true c18; clear c18; obtain ⟨rfl, rfl⟩ := Prod.mk.inj (Option.some.inj H); have p780 : 0 ≤ (x14_1 : Int) := oda_; have q780 : x14_1 < (l1.length : Int) := oda_; obtain ⟨ad780, e780, hx780_0⟩ := Kd.at_int HR1.out x14_1 p780 q780; cases e780; replace hx780_0 := (HB.out.cell (World.block_lt_of_cell? w0 _ hx780_0)).trans hx780_0; replace p780 := eq_true p780; replace q780 := eq_true q780; try go_wp2
                          replace HO_7 := am_ (Kd.R_drew HO_7.out); replace HB := bd_ HB; replace HI := am_ (CeI_drew HI.out); obtain ⟨Ao20, co20, eo20⟩ := Kd.R_slice HO_7.out; (first | subst eo20 | (injection eo20 with f1_ f2_ f3_; have f4_ := f1_.symm; have f5_ := f3_.symm; clear f1_ f2_ f3_; subst f4_; subst f5_))
                          have p781 : 0 ≤ ((rd l1 x14_1) : Int) := oda_; have q781 : (rd l1 x14_1) < (x7_1.length : Int) := oda_; obtain ⟨ad781, e781, hx781_0⟩ := Kd.at_int (Kd.R_reads' HO_7.out).2.2 (rd l1 x14_1) p781 q781; cases e781; replace p781 := eq_true p781; replace q781 := eq_true q781; have p782 : 0 ≤ ((ji15) : Int) := oda_; have q782 : (ji15) < (x7_1.length : Int) := oda_; obtain ⟨ad782, e782, hx782_0⟩ := Kd.at_int (Kd.R_reads' HO_7.out).2.2 (ji15) p782 q782; obtain rfl : ad781 = ad782 := (by injection e782); replace p782 := eq_true p782; replace q782 := eq_true q782; refine start_ (n := 20) (S := fun w' => w'.cell? (ad781.add ((rd l1 x14_1)).toNat) = some (.int .i64 (rd x7_1 (rd l1 x14_1))) ∧ w'.cell? (ad781.add ((ji15)).toNat) = some (.int .i64 (rd x7_1 (ji15)))) (ds := []) #[false, false, false, false, false, false, false, false, false, false, false, false, false, false, false, false, false, false, false, false] (by kernel_rfl) rfl rfl ⟨hx781_0, hx782_0⟩ (fun hHeld => ?_); refine with_tabW impl_run_ce.tab5 impl_run_ce.bits5 (fun HT_ HW_ => ?_); generalize wr.drew = w19 at HO_7 HB HI hx781_0 hx782_0 hHeld ⊢
                          refine pD_ 0 (some 18) HT_ (h := ?_); refine pD_ 1 (some 19) HT_ (h := ?_); refine pD_ 2 (some 20) HT_ (h := ?_); refine pD_ 3 (some 21) HT_ (h := ?_); refine pD_ 4 (some 22) HT_ (h := ?_); refine pD_ 5 (some 23) HT_ (h := ?_); refine pD_ 6 (some 24) HT_ (h := ?_); refine pD_ 7 (some 25) HT_ (h := ?_); refine pD_ 8 (some 26) HT_ (h := ?_); refine pD_ 9 (some 27) HT_ (h := ?_); refine pD_ 10 (some 28) HT_ (h := ?_); refine pD_ 11 (some 29) HT_ (h := ?_); refine pD_ 13 (some 31) HT_ (h := ?_); refine pD_ 14 (some 32) HT_ (h := ?_); refine pD_ 15 (some 33) HT_ (h := ?_); refine pD_ 16 (some 34) HT_ (h := ?_); refine tD2_ 12 (some 30) HT_ HW_ hHeld (h := ?_); refine tD2_ 17 (some 35) HT_ HW_ hHeld (h := ?_); refine pD_ 18 (some 36) HT_ (h := ?_); refine pD_ 19 (some 37) HT_ (h := ?_); refine done_ (done_of HT_.out (by kernel_rfl)) ?_; try go_wp2
                          go_ret; exact ⟨by first | rfl | (simp [errW_none, errW_some] <;> rfl) | (simp only [← hji15]; first | rfl | (simp [errW_none, errW_some] <;> rfl)) | (simp [*, errW_none, errW_some] <;> rfl), ⟨_, HI.out⟩, bx0 HB.out⟩
                        · rw [if_neg c18] at H; have c18b0 := decide_eq_false c18; clear c18; by_cases cL : ceOk xs_1 (rd x7_1 (rd l1 x14_1)) (rd x7_1 (ji15)) (rd l1 x14_1)
                          case neg =>
                            rw [if_neg cL] at H; exact absurd H (by simp)
                          rw [if_pos cL] at H; have LM := am_ cL; clear cL; replace H : (impl_run_ce.l0 k1 a0 ((x7_1.set ((rd l1 x14_1) : Int).toNat (rd x7_1 (ji15))).set ((ji15) : Int).toNat (rd x7_1 (rd l1 x14_1))) (ceStep xs_1 (rd x7_1 (rd l1 x14_1)) (rd x7_1 (ji15)) (rd l1 x14_1)) l1 (l1.length : Int) (wrap64 (x14_1 + 1))) = some (r, xr) := H; obtain ⟨y785, hy785⟩ : ∃ y_ : List Int, y_ = (x7_1.set ((rd l1 x14_1) : Int).toNat (rd x7_1 (ji15))) := ⟨_, rfl⟩; replace H : (impl_run_ce.l0 k1 a0 (y785.set ((ji15) : Int).toNat (rd x7_1 (rd l1 x14_1))) (ceStep xs_1 (rd x7_1 (rd l1 x14_1)) (rd x7_1 (ji15)) (rd l1 x14_1)) l1 (l1.length : Int) (wrap64 (x14_1 + 1))) = some (r, xr) := yH_ hy785 H; have Ny785 := am_ hy785; clear hy785; obtain ⟨y786, hy786⟩ : ∃ y_ : List Int, y_ = (y785.set ((ji15) : Int).toNat (rd x7_1 (rd l1 x14_1))) := ⟨_, rfl⟩; replace H : (impl_run_ce.l0 k1 a0 y786 (ceStep xs_1 (rd x7_1 (rd l1 x14_1)) (rd x7_1 (ji15)) (rd l1 x14_1)) l1 (l1.length : Int) (wrap64 (x14_1 + 1))) = some (r, xr) := yH_ hy786 H; have Ny786 := am_ hy786; clear hy786; have H' := am_ H; clear H; have p780 : 0 ≤ (x14_1 : Int) := oda_; have q780 : x14_1 < (l1.length : Int) := oda_; obtain ⟨ad780, e780, hx780_0⟩ := Kd.at_int HR1.out x14_1 p780 q780; cases e780; replace hx780_0 := (HB.out.cell (World.block_lt_of_cell? w0 _ hx780_0)).trans hx780_0; replace p780 := eq_true p780; replace q780 := eq_true q780; try go_wp2
                          replace HO_7 := am_ (Kd.R_drew HO_7.out); replace HB := bd_ HB; replace HI := am_ (CeI_drew HI.out); obtain ⟨Ao25, co25, eo25⟩ := Kd.R_slice HO_7.out; (first | subst eo25 | (injection eo25 with f1_ f2_ f3_; have f4_ := f1_.symm; have f5_ := f3_.symm; clear f1_ f2_ f3_; subst f4_; subst f5_))
                          have p781 : 0 ≤ ((rd l1 x14_1) : Int) := oda_; have q781 : (rd l1 x14_1) < (x7_1.length : Int) := oda_; obtain ⟨ad781, e781, hx781_0⟩ := Kd.at_int (Kd.R_reads' HO_7.out).2.2 (rd l1 x14_1) p781 q781; cases e781; replace p781 := eq_true p781; replace q781 := eq_true q781; have p782 : 0 ≤ ((ji15) : Int) := oda_; have q782 : (ji15) < (x7_1.length : Int) := oda_; obtain ⟨ad782, e782, hx782_0⟩ := Kd.at_int (Kd.R_reads' HO_7.out).2.2 (ji15) p782 q782; obtain rfl : ad781 = ad782 := (by injection e782); replace p782 := eq_true p782; replace q782 := eq_true q782; refine start_ (n := 20) (S := fun w' => w'.cell? (ad781.add ((rd l1 x14_1)).toNat) = some (.int .i64 (rd x7_1 (rd l1 x14_1))) ∧ w'.cell? (ad781.add ((ji15)).toNat) = some (.int .i64 (rd x7_1 (ji15)))) (ds := []) #[false, false, false, false, false, false, false, false, false, false, false, false, false, false, false, false, false, false, false, false] (by kernel_rfl) rfl rfl ⟨hx781_0, hx782_0⟩ (fun hHeld => ?_); refine with_tabW impl_run_ce.tab5 impl_run_ce.bits5 (fun HT_ HW_ => ?_); generalize wr.drew = w24 at HO_7 HB HI hx781_0 hx782_0 hHeld ⊢
                          refine pD_ 0 (some 18) HT_ (h := ?_); refine pD_ 1 (some 19) HT_ (h := ?_); refine pD_ 2 (some 20) HT_ (h := ?_); refine pD_ 3 (some 21) HT_ (h := ?_); refine pD_ 4 (some 22) HT_ (h := ?_); refine pD_ 5 (some 23) HT_ (h := ?_); refine pD_ 6 (some 24) HT_ (h := ?_); refine pD_ 7 (some 25) HT_ (h := ?_); refine pD_ 8 (some 26) HT_ (h := ?_); refine pD_ 9 (some 27) HT_ (h := ?_); refine pD_ 10 (some 28) HT_ (h := ?_); refine pD_ 11 (some 29) HT_ (h := ?_); refine pD_ 13 (some 31) HT_ (h := ?_); refine pD_ 14 (some 32) HT_ (h := ?_); refine pD_ 15 (some 33) HT_ (h := ?_); refine pD_ 16 (some 34) HT_ (h := ?_); refine tD2_ 12 (some 30) HT_ HW_ hHeld (h := ?_); refine tD2_ 17 (some 35) HT_ HW_ hHeld (h := ?_); refine pD_ 18 (some 36) HT_ (h := ?_); refine pD_ 19 (some 37) HT_ (h := ?_); refine done_ (done_of HT_.out (by kernel_rfl)) ?_; go_wp2_with (first | (go_at_call 165; (with_reducible refine (ce1_calls (.slice (some ad781) x7_1.length co25 : Value).ownBlock bn bo bk xs_1 _ _ x7_1 (rd l1 x14_1) ji15 w0 _ HB.out (Kd.R_reads' HO_7.out).2.2 (Kd.R_reads' HO_7.out).2.1 HI.out (fun k e => ⟨Kd.R_lt HO_7.out k e, Kd.R_typed HO_7.out k e⟩) (of_eq_true p781) (of_eq_true q781) hji15 (of_eq_true p782) (of_eq_true q782) LM.out).mono ?_); rintro e w25 ⟨rfl, hI1, hB1, hW1⟩; have n0_ := am_ (Kd.R_mono (Kd.R_step (Kd.R_tight rfl HO_7.out) (fun k hk _ => hW1 k hk.symm)) (fun _ _ => trivial : ∀ k, _ → True)); have n1_ := am_ hB1; have n2_ := am_ hI1; clear HO_7 HB HI hI1 hB1 hW1; have HO_7 := n0_; have HB := n1_; have HI := n2_; clear n0_ n1_ n2_))
                          replace HO_7 := am_ (Kd.R_drew HO_7.out); replace HB := bd_ HB; replace HI := am_ (CeI_drew HI.out); have p783 : 0 ≤ ((ji15) : Int) := oda_; have q783 : (ji15) < (x7_1.length : Int) := oda_; obtain ⟨ad783, e783, hx783_0⟩ := Kd.at_int (Kd.R_reads' HO_7.out).2.2 (ji15) p783 q783; obtain rfl : ad781 = ad783 := (by injection e783); replace p783 := eq_true p783; replace q783 := eq_true q783; have p784 : 0 ≤ ((rd l1 x14_1) : Int) := oda_; have q784 : (rd l1 x14_1) < (x7_1.length : Int) := oda_; obtain ⟨ad784, e784, hx784_0⟩ := Kd.at_int (Kd.R_reads' HO_7.out).2.2 (rd l1 x14_1) p784 q784; obtain rfl : ad781 = ad784 := (by injection e784); replace p784 := eq_true p784; replace q784 := eq_true q784; have p22 : 0 ≤ ((rd l1 x14_1) : Int) := oda_; have q22 : ((rd l1 x14_1) : Int) < ((x7_1.length : Int) : Int) := oda_; obtain ⟨go22, co22, eo22, gb22, gl22, cl22, HG22⟩ := Kd.R_form HO_7.out (by omega); (first | cases eo22 | (injection eo22 with ea_ en_ ec_; (first | subst ea_ | (injection ea_ with ea_; subst ea_)); subst ec_; clear en_))
                          have GB22 := am_ gb22; have GG22 := am_ HG22; clear gb22 gl22 HG22; (first | simp only [add_plain] at hx781_0 | skip)
                          (first | simp only [add_plain] at hx782_0 | skip)
                          (first | simp only [add_plain] at hx783_0 | skip)
                          (first | simp only [add_plain] at hx784_0 | skip)
                          obtain ⟨hx22_0, hf22_0⟩ := Kd.R_celln 0 HO_7.out ((rd l1 x14_1) : Int) p22 q22; replace p22 := eq_true p22; replace q22 := eq_true q22; have HP27 := Kd.R_putn HO_7.out ((rd l1 x14_1) : Int) (rd x7_1 (ji15)); rw [← Ny785.out] at HP27; have HQ27 := am_ HP27; clear HP27; have p23 : 0 ≤ ((ji15) : Int) := oda_; have q23 : ((ji15) : Int) < ((x7_1.length : Int) : Int) := oda_; obtain ⟨hx23_0, hf23_0⟩ := Kd.R_celln 0 HQ27.out ((ji15) : Int) p23 q23; replace p23 := eq_true p23; replace q23 := eq_true q23; have HP28 := Kd.R_putn HQ27.out ((ji15) : Int) (rd x7_1 (rd l1 x14_1)); rw [← Ny786.out] at HP28; have HQ28 := am_ HP28; clear HP28; refine start_ (n := 18) (S := fun w' => w'.cell? ⟨go22, ((ji15)).toNat, none⟩ = some (.int .i64 (rd x7_1 (ji15))) ∧ w'.cell? ⟨go22, ((rd l1 x14_1)).toNat, none⟩ = some (.int .i64 (rd x7_1 (rd l1 x14_1)))) (ds := [15, 17]) #[false, false, false, false, false, false, false, false, false, false, false, false, false, false, false, false, false, false] (by kernel_rfl) rfl rfl ⟨hx783_0, hx784_0⟩ (fun hHeld => ?_); refine with_tabW impl_run_ce.tab8 impl_run_ce.bits8 (fun HT_ HW_ => ?_); generalize w25.drew = w26 at HO_7 HB HI GG22 HQ27 HQ28 hf22_0 hf23_0 hx22_0 hx23_0 hx781_0 hx782_0 hx783_0 hx784_0 hHeld ⊢
                          refine pD_ 0 (some 42) HT_ (h := ?_); refine pD_ 1 (some 43) HT_ (h := ?_); refine pD_ 2 (some 44) HT_ (h := ?_); refine pD_ 3 (some 45) HT_ (h := ?_); refine pD_ 4 (some 46) HT_ (h := ?_); refine pD_ 5 (some 47) HT_ (h := ?_); refine pD_ 6 (some 48) HT_ (h := ?_); refine pD_ 7 (some 49) HT_ (h := ?_); refine pD_ 8 (some 50) HT_ (h := ?_); refine pD_ 10 (some 52) HT_ (h := ?_); refine pD_ 11 (some 53) HT_ (h := ?_); refine pD_ 12 (some 54) HT_ (h := ?_); refine tD2_ 9 (some 51) HT_ HW_ hHeld (h := ?_); refine tD2_ 13 (some 55) HT_ HW_ hHeld (h := ?_); refine pD_ 14 (some 56) HT_ (h := ?_); refine last_ (i := 15) (N := none) #[true, true, true, true, true, true, true, true, true, true, true, true, true, true, true, true, false, false] rfl rfl (one_of HT_.out (by kernel_rfl)) (by decide) (fun K hK => ?_); refine skip_ (w1 := ?_) (by rfl) rfl ?_ ?_; rotate_left
                          · go_simp
                            rfl
                          refine hK.out _ _ ?_; clear hK K; refine pD_ 16 (some 57) HT_ (h := ?_); refine last_ (i := 17) (N := none) #[true, true, true, true, true, true, true, true, true, true, true, true, true, true, true, true, true, true] rfl rfl (one_of HT_.out (by kernel_rfl)) (by decide) (fun K hK => ?_); refine skip_ (w1 := ?_) (by rfl) rfl ?_ ?_; rotate_left
                          · go_simp
                            rfl
                          refine hK.out _ _ ?_; clear hK K; refine done_ (done_of HT_.out (by kernel_rfl)) ?_; try go_wp2
                          go_roundg k1
                          case measure => have := HK1.out; omega
                          case rel => exact ⟨(y786), _, (wrap64 (x14_1 + 1)), vt_, H', hl_ HK1, rX_ HQ28, bX2_ HB GB22 GB22, ⟨by repeat (first | exact HI.out | refine CeI_set ?_ rfl)⟩⟩
                      · rw [if_neg c17] at H; exact absurd H (by simp)
                    · rw [if_neg c16] at H; exact absurd H (by simp)
                  · rw [if_neg c14] at H; exact absurd H (by simp)
                · rw [if_neg c13] at H; exact absurd H (by simp)
          · rw [if_neg c8] at H; exact absurd H (by simp)
        · rw [if_neg c7] at H; exact absurd H (by simp)
      · rw [if_neg c6] at H; have c6b0 := decide_eq_false c6; clear c6; obtain ⟨rfl, rfl⟩ := Prod.mk.inj (Option.some.inj H); go_wp2; go_ret; exact ⟨er_, ⟨_, HI.out⟩, bx0 HB.out⟩
def impl_fullSet.f (a0 : Int) : Option (Int) := if 0 ≤ a0 then (some (wrap64 ((shl .i64 1 a0) - 1))) else (none)
set_option maxHeartbeats 8000000 in
set_option maxRecDepth 100000 in
theorem impl_fullSet.calls (a0 : Int) (r : Int) (w : World) (h : impl_fullSet.f a0 = some r) :
  Calls Try.prog 164 #[.int .i64 a0] w fun e w' => e = .returned (.int .i64 r) ∧ Drawn0 w w' := by
 have H : (if 0 ≤ a0 then (some (wrap64 ((shl .i64 1 a0) - 1))) else (none)) = some r := h; clear h; by_cases c2 : 0 ≤ a0
 ·rw [if_pos c2] at H; have c2b0 := eq_true c2; have c2b1 := decide_eq_true c2; clear c2; obtain ⟨ji3, hji3⟩ : ∃ j_ : Int, (shl .i64 1 a0) = j_ := ⟨_, rfl⟩; first | rw [hji3] at H | simp only [hji3] at H
  have hji3_ : (IntKind.i64.wrap (1 * 2 ^ min a0.toNat 64)) = ji3 := hji3; have hji3z : a0 ≤ 64 → (IntKind.i64.wrap (1 * 2 ^ a0.toNat)) = ji3 := shl_small hji3; have hji3u : (IntKind.i64.wrap (2 ^ min a0.toNat 64)) = ji3 := by have h_ := hji3_; rw [Int.one_mul] at h_; exact h_
  have hji3v : a0 ≤ 64 → (IntKind.i64.wrap (2 ^ a0.toNat)) = ji3 := fun hle_ => by have h_ := hji3z hle_; rw [Int.one_mul] at h_; exact h_
  have hji3y : (wrap64 (1 * 2 ^ min a0.toNat 64)) = ji3 := (i64_w _).symm.trans hji3_; have hji3x : a0 ≤ 64 → (wrap64 (1 * 2 ^ a0.toNat)) = ji3 := fun h_ => (i64_w _).symm.trans (hji3z h_)
  obtain rfl := Option.some.inj H; go_enter Try.func164, Try.ntmps164
  go_wp2; go_ret; exact ⟨by first | rfl | (simp; done) | (simp only [← hji3] <;> (first | rfl | simp)) | (simp [*]; done), dr_⟩
 ·rw [if_neg c2] at H; exact absurd H (by simp)
end Go.Proofs.Ytoajlmlobaccdaa.P
