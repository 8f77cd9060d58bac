/- What the law FnExactCountWays reaches, part 5: functions as plain Lean functions with the proofs that their calls come to them, and plain lemmas over these. Put together by a program (wip/pack.py). -/
import Derived.Test.YtoajlmlobaccdaaKFnExactCountWaysa
import Derived.Test.YtoajlmlobaccdaaKFnExactCountWaysb
import Derived.Test.YtoajlmlobaccdaaKFnExactCountWaysd
import Derived.Test.YtoajlmlobaccdaaWWords
import Derived.ChangeArms
import Derived.Deep.Slices
import Derived.Deep.Fields
import Derived.WideShapes
import Derived.KernelRfl
namespace Go.Proofs.Ytoajlmlobaccdaa.P
open Go.RowKit Go.Proofs.YtoajlmlobaccdaaW.PrintWords Go.Proofs.YtoajlmlobaccdaaW.PrintLast Go.Proofs.YtoajlmlobaccdaaW.PrintMore
attribute [local go_sem] ptrOf_slice
attribute [local go_sem] min2_str max2_int min2_int max_two min_two max_three min_three max_four min_four
set_option linter.unusedVariables false
set_option linter.unusedSimpArgs false
mutual
def impl_CountWays.l0 : Nat → List (List (S101)) → List Int → Int → Option (Int)
  | 0, _, _, _ => none
  | k + 1, x5, x6, x7 => if x7 ≥ 0 then (if 0 ≤ x7 then (if x7 < (x5.length : Int) then (if 0 ≤ ((rd_L11 x5 x7).length : Int) then (if (((rd_L11 x5 x7).length : Int) : Int).toNat ≤ 35184372088832 then (impl_CountWays.l1 k x5 x6 x7 (List.replicate (((rd_L11 x5 x7).length : Int) : Int).toNat 0) (rd_L11 x5 x7) ((rd_L11 x5 x7).length : Int) 0) else (none)) else (none)) else (none)) else (none)) else (if 0 < (x6.length : Int) then (some (rd x6 0)) else (none))
def impl_CountWays.l1 : Nat → List (List (S101)) → List Int → Int → List Int → List (S101) → Int → Int → Option (Int)
  | 0, _, _, _, _, _, _, _ => none
  | k + 1, x5, x6, x7, x8, x36, x37, x38 => if x38 < x37 then (if 0 ≤ x38 then (if x38 < (x36.length : Int) then (if 0 ≤ (wrap64 (x7 + 1)) then (if (wrap64 (x7 + 1)) < (x5.length : Int) then (impl_CountWays.l2 k x5 x6 x7 x8 x38 x36 x37 x38 (rd_L11 x5 (wrap64 (x7 + 1))) ((rd_L11 x5 (wrap64 (x7 + 1))).length : Int) 0 ((rd_T101 x36 x38).f0) ((rd_T101 x36 x38).f1) ((rd_T101 x36 x38).f2) ((rd_T101 x36 x38).f3) ((rd_T101 x36 x38).f4)) else (none)) else (none)) else (none)) else (none)) else (impl_CountWays.l0 k x5 x8 (wrap64 (x7 - 1)))
def impl_CountWays.l2 : Nat → List (List (S101)) → List Int → Int → List Int → Int → List (S101) → Int → Int → List (S101) → Int → Int → Int → Int → Int → Int → Int → Option (Int)
  | 0, _, _, _, _, _, _, _, _, _, _, _, _, _, _, _, _ => none
  | k + 1, x5, x6, x7, x8, x9, x36, x37, x38, x47, x48, x49, x800000, x800001, x800002, x800003, x800004 => if x49 < x48 then (if 0 ≤ x49 then (if x49 < (x47.length : Int) then (if (mx x800002 ((rd_T101 x47 x49).f2)) < (mn x800003 ((rd_T101 x47 x49).f3)) then (if 0 ≤ x9 then (if x9 < (x8.length : Int) then (if x49 < (x6.length : Int) then (impl_CountWays.l2 k x5 x6 x7 (x8.set (x9 : Int).toNat (wrap64 ((rd x8 x9) + (rd x6 x49)))) x9 x36 x37 x38 x47 x48 (wrap64 (x49 + 1)) x800000 x800001 x800002 x800003 x800004) else (none)) else (none)) else (none)) else (impl_CountWays.l2 k x5 x6 x7 x8 x9 x36 x37 x38 x47 x48 (wrap64 (x49 + 1)) x800000 x800001 x800002 x800003 x800004)) else (none)) else (none)) else (impl_CountWays.l1 k x5 x6 x7 x8 x36 x37 (wrap64 (x38 + 1)))
end
def impl_CountWays.f (k : Nat) (a0 : Int) (l0 : List Int) : Option (Int) := (impl_IsWiring.f k a0 l0).bind fun b => if b = true then ((impl_cellsOf.f k a0 l0).bind fun l1 => impl_CountWays.l0 k l1 (([1] : List Int)) (wrap64 (a0 - 1))) else some (-1)
theorem impl_CountWays.mono_l : ∀ k, (∀ y0 y1 y2, LeO (impl_CountWays.l0 k y0 y1 y2) (impl_CountWays.l0 (k + 1) y0 y1 y2)) ∧ (∀ y0 y1 y2 y3 y4 y5 y6, LeO (impl_CountWays.l1 k y0 y1 y2 y3 y4 y5 y6) (impl_CountWays.l1 (k + 1) y0 y1 y2 y3 y4 y5 y6)) ∧ (∀ y0 y1 y2 y3 y4 y5 y6 y7 y8 y9 y10 y11 y12 y13 y14 y15, LeO (impl_CountWays.l2 k y0 y1 y2 y3 y4 y5 y6 y7 y8 y9 y10 y11 y12 y13 y14 y15) (impl_CountWays.l2 (k + 1) y0 y1 y2 y3 y4 y5 y6 y7 y8 y9 y10 y11 y12 y13 y14 y15))
  | 0 => ⟨fun _ _ _ r h => by simp [impl_CountWays.l0] at h, fun _ _ _ _ _ _ _ r h => by simp [impl_CountWays.l1] at h, fun _ _ _ _ _ _ _ _ _ _ _ _ _ _ _ _ r h => by simp [impl_CountWays.l2] at h⟩
  | k + 1 => by
    obtain ⟨ih0, ih1, ih2⟩ := impl_CountWays.mono_l k; refine ⟨?_, ?_, ?_⟩ <;> (intros; (first | unfold impl_CountWays.l0 | unfold impl_CountWays.l1 | unfold impl_CountWays.l2); repeat' first | (with_reducible first | apply ih0 | apply ih1 | apply ih2 | exact LeO.refl _ | exact LeO.none _ | refine LeO.ite ?_ ?_ | refine LeO.bind ?_ (fun _ => ?_)) | exact LeO.none _)
theorem impl_CountWays.mono : ∀ a0 a1 k, LeO (impl_CountWays.f k a0 a1) (impl_CountWays.f (k + 1) a0 a1) := fun a0 a1 k => LeO.bind (impl_IsWiring.mono _ _ _) (fun _ => LeO.ite (LeO.bind (impl_cellsOf.mono _ _ _) (fun _ => (impl_CountWays.mono_l k).1 _ _ _)) (LeO.refl _))
def impl_CountWays.T16 : Bool × List (List Nat × List Nat) := (true, [([], []), ([], []), ([], []), ([], []), ([2, 3], [2, 3]), ([4], [4]), ([], []), ([], []), ([6, 7], [6, 7]), ([8], [8]), ([5, 9], [5, 9]), ([0, 1, 0, 1, 2, 3, 4, 5, 6, 7, 8, 9, 10], [0, 1]), ([11, 10, 0, 1, 2, 3, 4, 5, 6, 7, 8, 9, 10], [10, 11])])
def impl_CountWays.B16 : List Nat := [0, 0, 0, 0, 12, 28, 0, 0, 192, 448, 1020, 2047, 4095]
theorem impl_CountWays.tab16 : rtab .any (opsOf Try.f22 16) = impl_CountWays.T16 := by kernel_rfl
theorem impl_CountWays.bits16 : waitsOk impl_CountWays.T16.2 impl_CountWays.B16 = true := by kernel_rfl
set_option maxHeartbeats 8000000 in
set_option maxRecDepth 100000 in
theorem impl_CountWays.calls (k : Nat) (a0 : Int) (AW : Option Addr) (cW : Nat) (lW : List Int) (r : Int) (w00 : World) (hr0 : Kd.C (Kd.int .i64) w00 AW lW.length lW) (hc0 : lW.length ≤ cW) (h : impl_CountWays.f k a0 lW = some r) :
    Calls Try.prog 22 #[.int .i64 a0, .slice AW lW.length cW] w00 fun e w' => e = .returned (.int .i64 r) ∧ Below w00.heap.size w00 w' := by
  have hu101 := Try.underlying101; have HR0 := am_ hr0; have HC0 := am_ hc0; clear hr0 hc0; obtain ⟨b, A0_, h⟩ := Option.bind_eq_some_iff.mp (show ((impl_IsWiring.f k a0 lW).bind fun b => if b = true then ((impl_cellsOf.f k a0 lW).bind fun l1 => impl_CountWays.l0 k l1 (([1] : List Int)) (wrap64 (a0 - 1))) else some (-1)) = some r from h); have AI := am_ A0_; clear A0_; cases b with
  | false =>
    obtain rfl := Option.some.inj (show some (-1 : Int) = some r from h); clear h; go_enter Try.func22, Try.ntmps22
    go_wp2_with (first | (go_at_call 94; refine (impl_IsWiring.calls k a0 AW cW lW false _ HR0.out HC0.out AI.out).mono ?_; rintro e w3 ⟨rfl, hB3⟩; have HB3 := am_ hB3; clear hB3))
    go_ret; exact ⟨by first | rfl | (simp; done), HB3.out⟩
  | true =>
  obtain ⟨l1, A1_, H⟩ := Option.bind_eq_some_iff.mp (show ((impl_cellsOf.f k a0 lW).bind fun l1 => impl_CountWays.l0 k l1 (([1] : List Int)) (wrap64 (a0 - 1))) = some r from h); have AC := am_ A1_; clear A1_ h; obtain ⟨y789, hy789⟩ : ∃ y_ : List Int, y_ = (([1] : List Int)) := ⟨_, rfl⟩; replace H : (impl_CountWays.l0 k l1 y789 (wrap64 (a0 - 1))) = some r := yH_ hy789 H; have Ny789 := am_ hy789; clear hy789; have H' := am_ H; clear H; go_enter Try.func22, Try.ntmps22
  go_wp2_with (first
   | (go_at_call 94; refine (impl_IsWiring.calls k a0 AW cW lW true _ HR0.out HC0.out AI.out).mono ?_; rintro e wI ⟨rfl, hB3⟩; have HBI := am_ hB3; clear hB3)
   | (go_at_call 95; refine (impl_cellsOf.calls k a0 AW cW lW l1 wI (Kd.C_below HR0.out HBI.out) HC0.out AC.out).mono ?_; rintro e w ⟨vL, rfl, hL, hBL⟩; obtain ⟨A1, c1, rfl, hc1, hr1⟩ := Kd.S_reads hL; have HR1 := am_ hr1; have HC1 := am_ hc1; have HB00 := am_ (below_step HBI.out hBL); have HB := am_ (Below.refl w.heap.size w); clear hr1 hc1 hL hBL)
   | ((with_reducible refine gd_ 20 rfl ?_); refine Kd.R_lit (Kd.int .i64) _ 3 ?hg (N := 20) ?hd (xs := ([1] : List Int)) (inner := [.int .i64 1]) (ok := fun _ => True) (okp := fun _ => True) ?hr ?hp (fun _ hk => hk) trivial (Below.refl _ _) (Nat.le_refl _) (by simp) ?_; (case hd => rfl); (case hg => rfl); (case hr => first | (go_simp; done) | (go_simp; rfl)); (case hp => exact (Reps.one (show Kd.M (Kd.int .i64) _ _ _ 1 [.int .i64 1] from rfl) (Reps.none _ _))); intro v790 w3 ho4 hb hg_ hnew_; clear hg_ hnew_; (first | rw [← Ny789.out] at ho4 | (simp only [Int.reduceToNat] at ho4; rw [← Ny789.out] at ho4)); have HO791 := rl0_ ho4 HB; replace HB := bs0_ HB hb; clear hb ho4))
  go_loopg [6, 7] k (fun kq v6 v7 w' => ∃ (x6_1 : List Int) (x7_1 : Int), v7 = .int .i64 x7_1 ∧ Aside0 (impl_CountWays.l0 kq l1 x6_1 x7_1 = some r) ∧ Aside0 (kq ≤ k) ∧ Aside0 (Kd.R (Kd.int .i64) 3 w' w.heap.size (fun _ => True) v6 x6_1) ∧ Aside0 (Below w.heap.size w w'))
  case atStart => exact ⟨(y789), (wrap64 (a0 - 1)), vt_, H', ⟨Nat.le_refl _⟩, rX_ HO791, bX0_ HB⟩
  case round =>
    clear H'; obtain ⟨x6_1, x7_1, rfl, HA, HK1, HO_6, HB⟩ := hrel; cases gk with
    | zero => exact absurd HA.out (by simp [impl_CountWays.l0])
    | succ k1 =>
      have H := HA.out; clear HA; simp only [impl_CountWays.l0] at H
      by_cases c5 : x7_1 ≥ 0
      · rw [if_pos c5] at H; have c5b0 := decide_eq_true c5; clear c5; by_cases c6 : 0 ≤ x7_1
        · rw [if_pos c6] at H; have c6b0 := decide_eq_true c6; clear c6; by_cases c7 : x7_1 < (l1.length : Int)
          · rw [if_pos c7] at H; have c7b0 := decide_eq_true c7; clear c7; by_cases c8 : 0 ≤ ((rd_L11 l1 x7_1).length : Int)
            · rw [if_pos c8] at H; have c8b0 := eq_true c8; have c8b1 := decide_eq_true c8; clear c8; by_cases c9 : (((rd_L11 l1 x7_1).length : Int) : Int).toNat ≤ 35184372088832
              · rw [if_pos c9] at H; have c9b0 := eq_true c9; have c9b1 := decide_eq_true c9; clear c9; obtain ⟨y794, hy794⟩ : ∃ y_ : List Int, y_ = (List.replicate (((rd_L11 l1 x7_1).length : Int) : Int).toNat 0) := ⟨_, rfl⟩; replace H : (impl_CountWays.l1 k1 l1 x6_1 x7_1 y794 (rd_L11 l1 x7_1) ((rd_L11 l1 x7_1).length : Int) 0) = some r := yH_ hy794 H; have Ny794 := am_ hy794; clear hy794; have H' := am_ H; clear H; have p793 : 0 ≤ (x7_1 : Int) := oda_; have q793 : x7_1 < (l1.length : Int) := oda_; obtain ⟨ad793, A793_0, c793_0, e793, hx793_0, hl793_0, hi793_0⟩ := at_L11 HR1.out x7_1 p793 q793; cases e793; replace hx793_0 := hc_ HB hx793_0; have HR793_0 := am_ hi793_0; have HC793_0 := am_ hl793_0; clear hi793_0 hl793_0; replace p793 := eq_true p793; replace q793 := eq_true q793; go_wp2_with (first | ((with_reducible refine gd_ 32 rfl ?_); refine Kd.R_make (Kd.int .i64) _ 3 rfl (N := 32) rfl 34 _ _ rfl ((rd_L11 l1 x7_1).length : Int) rfl rfl Try.underlying34 (.int .i64 0) 8 info3 rfl (by decide) (by omega) 0 (ok := fun _ => True) (okp := fun _ => True) rfl (fun _ hk => hk) trivial (oda_) (Nat.le_trans (Nat.mul_le_mul_right _ (oda_ : ((rd_L11 l1 x7_1).length : Int).toNat ≤ 35184372088832)) (by omega)) (Below.refl _ _) (Nat.le_refl _) ?_; intro v795 w10 ho11 hb hg_ hnew_; clear hg_ hnew_; (first | rw [← Ny794.out] at ho11 | (simp only [Int.reduceToNat] at ho11; rw [← Ny794.out] at ho11)); have HO796 := am_ (Kd.R_lower (Kd.R_new' ho11 (Kd.R_lt (rx_ HO_6.out))) (below_size (bx0 HB.out))); replace HO_6 := re_ HO_6 ho11 hb; replace HB := bs0_ HB hb; clear hb ho11; have p797 : 0 ≤ (x7_1 : Int) := oda_; have q797 : x7_1 < (l1.length : Int) := oda_; obtain ⟨ad797, A797_0, c797_0, e797, hx797_0, hl797_0, hi797_0⟩ := at_L11 HR1.out x7_1 p797 q797; obtain rfl : ad793 = ad797 := (by injection e797); replace hx797_0 := hc_ HB hx797_0; have HR797_0 := am_ hi797_0; have HC797_0 := am_ hl797_0; clear hi797_0 hl797_0; replace p797 := eq_true p797; replace q797 := eq_true q797))
                go_loopg [38] k1 (fun kq v38 w' => ∃ (x8_2 : List Int) (x38_2 : Int), v38 = .int .i64 x38_2 ∧ Aside0 (impl_CountWays.l1 kq l1 x6_1 x7_1 x8_2 (rd_L11 l1 x7_1) ((rd_L11 l1 x7_1).length : Int) x38_2 = some r) ∧ Aside0 (kq ≤ k1) ∧ Aside0 (Kd.R (Kd.int .i64) 3 w' w.heap.size (fun k_ => some k_ ≠ (v795 : Value).ownBlock) u6 x6_1) ∧ Aside0 (Kd.R (Kd.int .i64) 3 w' w.heap.size (fun k_ => some k_ ≠ (u6 : Value).ownBlock) v795 x8_2) ∧ Aside0 (Below w.heap.size w w'))
                case atStart => exact ⟨(y794), (0), vt_, H', ⟨Nat.le_refl _⟩, ⟨by refine rx_ ?_; exact Kd.R_mono HO_6.out (fun _ hk => hk.2)⟩, ⟨by refine rx_ ?_; exact Kd.R_mono HO796.out (fun _ hk => hk.2)⟩, bX0_ HB⟩
                case round =>
                  clear H'; try clear c5b0 c6b0 c7b0 c8b0 c8b1 c9b0 c9b1 hx793_0 hx797_0 p793 p797 q793 q797
                  obtain ⟨x8_2, x38_2, rfl, HA, HK2, HO_6, HO_8, HB⟩ := hrel; cases gk with
                  | zero => exact absurd HA.out (by simp [impl_CountWays.l1])
                  | succ k2 =>
                    have H := HA.out; clear HA; simp only [impl_CountWays.l1] at H
                    by_cases c12 : x38_2 < ((rd_L11 l1 x7_1).length : Int)
                    · rw [if_pos c12] at H; have c12b0 := decide_eq_true c12; clear c12; by_cases c13 : 0 ≤ x38_2
                      · rw [if_pos c13] at H; have c13b0 := decide_eq_true c13; clear c13; by_cases c14 : x38_2 < ((rd_L11 l1 x7_1).length : Int)
                        · rw [if_pos c14] at H; have c14b0 := decide_eq_true c14; clear c14; obtain ⟨ji15, hji15⟩ : ∃ j_ : Int, (wrap64 (x7_1 + 1)) = j_ := ⟨_, rfl⟩; first | rw [hji15] at H | simp only [hji15] at H
                          have hji15w : (IntKind.i64.wrap (x7_1 + 1)) = ji15 := (i64_w _).trans hji15; by_cases c16 : 0 ≤ (ji15)
                          · rw [if_pos c16] at H; have c16b0 := decide_eq_true c16; clear c16; by_cases c17 : (ji15) < (l1.length : Int)
                            · rw [if_pos c17] at H; have c17b0 := decide_eq_true c17; clear c17; have H' := am_ H; clear H; have p798 : 0 ≤ (x38_2 : Int) := oda_; have q798 : x38_2 < ((rd_L11 l1 x7_1).length : Int) := oda_; obtain ⟨ad798, e798, hx798_0, hx798_1, hx798_2, hx798_3, hx798_4⟩ := at_T101 HR797_0.out x38_2 p798 q798; cases e798; replace hx798_0 := hc_ HB hx798_0; replace hx798_1 := hc_ HB hx798_1; replace hx798_2 := hc_ HB hx798_2; replace hx798_3 := hc_ HB hx798_3; replace hx798_4 := hc_ HB hx798_4; replace p798 := eq_true p798; replace q798 := eq_true q798; go_wp2_with (first | ((with_reducible refine gd_ 10 rfl ?_); refine be_ 10 #[.int .i64 0, .int .i64 0, .int .i64 0, .int .i64 0, .int .i64 0] 101 ?_; intro gb799 hg w18 hbox hb; replace HO_6 := rb_ HO_6 hb; replace HO_8 := rb_ HO_8 hb; have BK799 := am_ hbox; have GW799 := gw0_ HB hg; have GE799 := GW799; replace HB := bs0_ HB hb; clear hb hbox hg; obtain ⟨hcz19_0, hfz19_0, hcz19_1, hfz19_1, hcz19_2, hfz19_2, hcz19_3, hfz19_3, hcz19_4, hfz19_4⟩ := bk5_ BK799; have p800 : 0 ≤ ((ji15) : Int) := oda_; have q800 : (ji15) < (l1.length : Int) := oda_; obtain ⟨ad800, A800_0, c800_0, e800, hx800_0, hl800_0, hi800_0⟩ := at_L11 HR1.out (ji15) p800 q800; obtain rfl : ad793 = ad800 := (by injection e800); have hn800_0 : ad793.block ≠ gb799 := Nat.ne_of_lt (Nat.lt_of_lt_of_le (by have := World.block_lt_of_cell? _ _ hx800_0; first | rwa [add_block] at this | exact this) GW799.out); have hn800_1 : ad793.block ≠ gb799 := Nat.ne_of_lt (Nat.lt_of_lt_of_le (by have := World.block_lt_of_cell? _ _ hx800_0; first | rwa [add_block] at this | exact this) GW799.out); have hn800_2 : ad793.block ≠ gb799 := Nat.ne_of_lt (Nat.lt_of_lt_of_le (by have := World.block_lt_of_cell? _ _ hx800_0; first | rwa [add_block] at this | exact this) GW799.out); have hn800_3 : ad793.block ≠ gb799 := Nat.ne_of_lt (Nat.lt_of_lt_of_le (by have := World.block_lt_of_cell? _ _ hx800_0; first | rwa [add_block] at this | exact this) GW799.out); have hn800_4 : ad793.block ≠ gb799 := Nat.ne_of_lt (Nat.lt_of_lt_of_le (by have := World.block_lt_of_cell? _ _ hx800_0; first | rwa [add_block] at this | exact this) GW799.out); replace hx800_0 := hc_ HB hx800_0; have HR800_0 := am_ hi800_0; have HC800_0 := am_ hl800_0; clear hi800_0 hl800_0; replace hx800_0 := (cell_far (p := ⟨gb799, 0, none⟩) (by first | (rw [add_block]; exact hn800_0) | (show (Addr.add _ _).block ≠ _; rw [add_block]; exact hn800_0) | exact hn800_0) (.int .i64 ((rd_T101 (rd_L11 l1 x7_1) x38_2).f0))).trans hx800_0; replace hx800_0 := (cell_far (p := ⟨gb799, 1, none⟩) (by first | (rw [add_block]; exact hn800_1) | (show (Addr.add _ _).block ≠ _; rw [add_block]; exact hn800_1) | exact hn800_1) (.int .i64 ((rd_T101 (rd_L11 l1 x7_1) x38_2).f1))).trans hx800_0; replace hx800_0 := (cell_far (p := ⟨gb799, 2, none⟩) (by first | (rw [add_block]; exact hn800_2) | (show (Addr.add _ _).block ≠ _; rw [add_block]; exact hn800_2) | exact hn800_2) (.int .i64 ((rd_T101 (rd_L11 l1 x7_1) x38_2).f2))).trans hx800_0; replace hx800_0 := (cell_far (p := ⟨gb799, 3, none⟩) (by first | (rw [add_block]; exact hn800_3) | (show (Addr.add _ _).block ≠ _; rw [add_block]; exact hn800_3) | exact hn800_3) (.int .i64 ((rd_T101 (rd_L11 l1 x7_1) x38_2).f3))).trans hx800_0; replace hx800_0 := (cell_far (p := ⟨gb799, 4, none⟩) (by first | (rw [add_block]; exact hn800_4) | (show (Addr.add _ _).block ≠ _; rw [add_block]; exact hn800_4) | exact hn800_4) (.int .i64 ((rd_T101 (rd_L11 l1 x7_1) x38_2).f4))).trans hx800_0; clear hn800_0; clear hn800_1; clear hn800_2; clear hn800_3; clear hn800_4; replace p800 := eq_true p800; replace q800 := eq_true q800))
                              go_loopg [49] k2 (fun kq v49 w' => ∃ (x8_3 : List Int) (x49_3 : Int), v49 = .int .i64 x49_3 ∧ Aside0 (impl_CountWays.l2 kq l1 x6_1 x7_1 x8_3 x38_2 (rd_L11 l1 x7_1) ((rd_L11 l1 x7_1).length : Int) x38_2 (rd_L11 l1 (ji15)) ((rd_L11 l1 (ji15)).length : Int) x49_3 ((rd_T101 (rd_L11 l1 x7_1) x38_2).f0) ((rd_T101 (rd_L11 l1 x7_1) x38_2).f1) ((rd_T101 (rd_L11 l1 x7_1) x38_2).f2) ((rd_T101 (rd_L11 l1 x7_1) x38_2).f3) ((rd_T101 (rd_L11 l1 x7_1) x38_2).f4) = some r) ∧ Aside0 (kq ≤ k2) ∧ Aside0 (Kd.R (Kd.int .i64) 3 w' w.heap.size (fun k_ => some k_ ≠ (v795 : Value).ownBlock) u6 x6_1) ∧ Aside0 (Kd.R (Kd.int .i64) 3 w' w.heap.size (fun k_ => some k_ ≠ (u6 : Value).ownBlock) v795 x8_3) ∧ Aside0 (w'.heap[gb799]? = some (.cells #[.int .i64 ((rd_T101 (rd_L11 l1 x7_1) x38_2).f0), .int .i64 ((rd_T101 (rd_L11 l1 x7_1) x38_2).f1), .int .i64 ((rd_T101 (rd_L11 l1 x7_1) x38_2).f2), .int .i64 ((rd_T101 (rd_L11 l1 x7_1) x38_2).f3), .int .i64 ((rd_T101 (rd_L11 l1 x7_1) x38_2).f4)] 101 (0, 0))) ∧ Aside0 (Below w.heap.size w w'))
                              case atStart => exact ⟨(x8_2), (0), vt_, H', ⟨Nat.le_refl _⟩, ⟨by refine rx_ ?_; exact Kd.R_mono (Kd.R_far (p := ⟨gb799, 4, none⟩) (Kd.R_far (p := ⟨gb799, 3, none⟩) (Kd.R_far (p := ⟨gb799, 2, none⟩) (Kd.R_far (p := ⟨gb799, 1, none⟩) (Kd.R_far (p := ⟨gb799, 0, none⟩) (Kd.R_types HO_6.out BK799.out (by decide)) (fun _ hk => hk.2) (.int .i64 ((rd_T101 (rd_L11 l1 x7_1) x38_2).f0))) (fun _ hk => hk.2) (.int .i64 ((rd_T101 (rd_L11 l1 x7_1) x38_2).f1))) (fun _ hk => hk.2) (.int .i64 ((rd_T101 (rd_L11 l1 x7_1) x38_2).f2))) (fun _ hk => hk.2) (.int .i64 ((rd_T101 (rd_L11 l1 x7_1) x38_2).f3))) (fun _ hk => hk.2) (.int .i64 ((rd_T101 (rd_L11 l1 x7_1) x38_2).f4))) (fun _ hk => hk.1)⟩, ⟨by refine rx_ ?_; exact Kd.R_mono (Kd.R_far (p := ⟨gb799, 4, none⟩) (Kd.R_far (p := ⟨gb799, 3, none⟩) (Kd.R_far (p := ⟨gb799, 2, none⟩) (Kd.R_far (p := ⟨gb799, 1, none⟩) (Kd.R_far (p := ⟨gb799, 0, none⟩) (Kd.R_types HO_8.out BK799.out (by decide)) (fun _ hk => hk.2) (.int .i64 ((rd_T101 (rd_L11 l1 x7_1) x38_2).f0))) (fun _ hk => hk.2) (.int .i64 ((rd_T101 (rd_L11 l1 x7_1) x38_2).f1))) (fun _ hk => hk.2) (.int .i64 ((rd_T101 (rd_L11 l1 x7_1) x38_2).f2))) (fun _ hk => hk.2) (.int .i64 ((rd_T101 (rd_L11 l1 x7_1) x38_2).f3))) (fun _ hk => hk.2) (.int .i64 ((rd_T101 (rd_L11 l1 x7_1) x38_2).f4))) (fun _ hk => hk.1)⟩, ⟨by refine kx_ ?_; refine blk_put (cs := #[.int .i64 ((rd_T101 (rd_L11 l1 x7_1) x38_2).f0), .int .i64 ((rd_T101 (rd_L11 l1 x7_1) x38_2).f1), .int .i64 ((rd_T101 (rd_L11 l1 x7_1) x38_2).f2), .int .i64 ((rd_T101 (rd_L11 l1 x7_1) x38_2).f3), .int .i64 0]) ?_ 4 _ rfl; refine kx_ ?_; refine blk_put (cs := #[.int .i64 ((rd_T101 (rd_L11 l1 x7_1) x38_2).f0), .int .i64 ((rd_T101 (rd_L11 l1 x7_1) x38_2).f1), .int .i64 ((rd_T101 (rd_L11 l1 x7_1) x38_2).f2), .int .i64 0, .int .i64 0]) ?_ 3 _ rfl; refine kx_ ?_; refine blk_put (cs := #[.int .i64 ((rd_T101 (rd_L11 l1 x7_1) x38_2).f0), .int .i64 ((rd_T101 (rd_L11 l1 x7_1) x38_2).f1), .int .i64 0, .int .i64 0, .int .i64 0]) ?_ 2 _ rfl; refine kx_ ?_; refine blk_put (cs := #[.int .i64 ((rd_T101 (rd_L11 l1 x7_1) x38_2).f0), .int .i64 0, .int .i64 0, .int .i64 0, .int .i64 0]) ?_ 1 _ rfl; refine kx_ ?_; refine blk_put (cs := #[.int .i64 0, .int .i64 0, .int .i64 0, .int .i64 0, .int .i64 0]) ?_ 0 _ rfl; refine kx_ ?_; exact BK799.out⟩, bX1_ HB GE799⟩
                              case round =>
                                clear H'; try clear c5b0 c6b0 c7b0 c8b0 c8b1 c9b0 c9b1 c12b0 c13b0 c14b0 c16b0 c17b0 hcz19_0 hcz19_1 hcz19_2 hcz19_3 hcz19_4 hfz19_0 hfz19_1 hfz19_2 hfz19_3 hfz19_4 hx793_0 hx797_0 hx798_0 hx798_1 hx798_2 hx798_3 hx798_4 hx800_0 p793 p797 p798 p800 q793 q797 q798 q800
                                obtain ⟨x8_3, x49_3, rfl, HA, HK3, HO_6, HO_8, BK799, HB⟩ := hrel; cases gk with
                                | zero => exact absurd HA.out (by simp [impl_CountWays.l2])
                                | succ k3 =>
                                  have H := HA.out; clear HA; simp only [impl_CountWays.l2] at H
                                  by_cases c20 : x49_3 < ((rd_L11 l1 (ji15)).length : Int)
                                  · rw [if_pos c20] at H; have c20b0 := decide_eq_true c20; clear c20; by_cases c21 : 0 ≤ x49_3
                                    · rw [if_pos c21] at H; have c21b0 := decide_eq_true c21; clear c21; by_cases c22 : x49_3 < ((rd_L11 l1 (ji15)).length : Int)
                                      · rw [if_pos c22] at H; have c22b0 := decide_eq_true c22; clear c22; obtain ⟨ji23, hji23⟩ : ∃ j_ : Int, (mx ((rd_T101 (rd_L11 l1 x7_1) x38_2).f2) ((rd_T101 (rd_L11 l1 (ji15)) x49_3).f2)) = j_ := ⟨_, rfl⟩; first | rw [hji23] at H | simp only [hji23] at H
                                        have hji23_ : (if ((rd_T101 (rd_L11 l1 x7_1) x38_2).f2) < ((rd_T101 (rd_L11 l1 (ji15)) x49_3).f2) then ((rd_T101 (rd_L11 l1 (ji15)) x49_3).f2) else ((rd_T101 (rd_L11 l1 x7_1) x38_2).f2)) = ji23 := hji23; obtain ⟨ji24, hji24⟩ : ∃ j_ : Int, (mn ((rd_T101 (rd_L11 l1 x7_1) x38_2).f3) ((rd_T101 (rd_L11 l1 (ji15)) x49_3).f3)) = j_ := ⟨_, rfl⟩; first | rw [hji24] at H | simp only [hji24] at H
                                        have hji24_ : (if ((rd_T101 (rd_L11 l1 (ji15)) x49_3).f3) < ((rd_T101 (rd_L11 l1 x7_1) x38_2).f3) then ((rd_T101 (rd_L11 l1 (ji15)) x49_3).f3) else ((rd_T101 (rd_L11 l1 x7_1) x38_2).f3)) = ji24 := hji24; by_cases c25 : (ji23) < (ji24)
                                        · rw [if_pos c25] at H; have c25b0 := decide_eq_true c25; clear c25; by_cases c26 : 0 ≤ x38_2
                                          · rw [if_pos c26] at H; have c26b0 := decide_eq_true c26; clear c26; by_cases c27 : x38_2 < (x8_3.length : Int)
                                            · rw [if_pos c27] at H; have c27b0 := decide_eq_true c27; clear c27; by_cases c28 : x49_3 < (x6_1.length : Int)
                                              · rw [if_pos c28] at H; have c28b0 := decide_eq_true c28; clear c28; obtain ⟨y805, hy805⟩ : ∃ y_ : List Int, y_ = (x8_3.set (x38_2 : Int).toNat (wrap64 ((rd x8_3 x38_2) + (rd x6_1 x49_3)))) := ⟨_, rfl⟩; replace H : (impl_CountWays.l2 k3 l1 x6_1 x7_1 y805 x38_2 (rd_L11 l1 x7_1) ((rd_L11 l1 x7_1).length : Int) x38_2 (rd_L11 l1 (ji15)) ((rd_L11 l1 (ji15)).length : Int) (wrap64 (x49_3 + 1)) ((rd_T101 (rd_L11 l1 x7_1) x38_2).f0) ((rd_T101 (rd_L11 l1 x7_1) x38_2).f1) ((rd_T101 (rd_L11 l1 x7_1) x38_2).f2) ((rd_T101 (rd_L11 l1 x7_1) x38_2).f3) ((rd_T101 (rd_L11 l1 x7_1) x38_2).f4)) = some r := yH_ hy805 H; have Ny805 := am_ hy805; clear hy805; have H' := am_ H; clear H; have p801 : 0 ≤ (x49_3 : Int) := oda_; have q801 : x49_3 < ((rd_L11 l1 (ji15)).length : Int) := oda_; obtain ⟨ad801, e801, hx801_0, hx801_1, hx801_2, hx801_3, hx801_4⟩ := at_T101 HR800_0.out x49_3 p801 q801; cases e801; replace hx801_0 := hc_ HB hx801_0; replace hx801_1 := hc_ HB hx801_1; replace hx801_2 := hc_ HB hx801_2; replace hx801_3 := hc_ HB hx801_3; replace hx801_4 := hc_ HB hx801_4; replace p801 := eq_true p801; replace q801 := eq_true q801; try go_wp2_with (first | ((with_reducible refine gd_ 12 rfl ?_); refine be_ 12 #[.int .i64 0, .int .i64 0, .int .i64 0, .int .i64 0, .int .i64 0] 101 ?_; intro gb802 hg w30 hbox hb; replace HO_6 := rb_ HO_6 hb; replace HO_8 := rb_ HO_8 hb; have BK802 := am_ hbox; have GW802 := gw1_ HB hg GE799; have GE802 := GW802; replace HB := bs1_ HB hb GE799; have NB799_802 := nl_ BK799 hg; have NB802_799 := ng_ BK799 hg; replace BK799 := bb_ BK799 hb; clear hb hbox hg; have hnb31 := NB802_799.out; have hnc31 := NB799_802.out; obtain ⟨hcz32_0, hfz32_0, hcz32_1, hfz32_1, hcz32_2, hfz32_2, hcz32_3, hfz32_3, hcz32_4, hfz32_4⟩ := bk5_ BK802; obtain ⟨hcz33_0, hfz33_0, hcz33_1, hfz33_1, hcz33_2, hfz33_2, hcz33_3, hfz33_3, hcz33_4, hfz33_4⟩ := bk5_ BK799))
                                                have n0_ : Aside0 (Kd.R (Kd.int .i64) 3 (((((w30.setCell ⟨gb802, 0, none⟩ (.int .i64 ((rd_T101 (rd_L11 l1 (ji15)) x49_3).f0))).setCell ⟨gb802, 1, none⟩ (.int .i64 ((rd_T101 (rd_L11 l1 (ji15)) x49_3).f1))).setCell ⟨gb802, 2, none⟩ (.int .i64 ((rd_T101 (rd_L11 l1 (ji15)) x49_3).f2))).setCell ⟨gb802, 3, none⟩ (.int .i64 ((rd_T101 (rd_L11 l1 (ji15)) x49_3).f3))).setCell ⟨gb802, 4, none⟩ (.int .i64 ((rd_T101 (rd_L11 l1 (ji15)) x49_3).f4))) w.heap.size (fun k_ => some k_ ≠ (v795 : Value).ownBlock) u6 x6_1) := ⟨by refine rx_ ?_; exact Kd.R_mono (Kd.R_far (p := ⟨gb802, 4, none⟩) (Kd.R_far (p := ⟨gb802, 3, none⟩) (Kd.R_far (p := ⟨gb802, 2, none⟩) (Kd.R_far (p := ⟨gb802, 1, none⟩) (Kd.R_far (p := ⟨gb802, 0, none⟩) (Kd.R_types HO_6.out BK802.out (by decide)) (fun _ hk => hk.2) (.int .i64 ((rd_T101 (rd_L11 l1 (ji15)) x49_3).f0))) (fun _ hk => hk.2) (.int .i64 ((rd_T101 (rd_L11 l1 (ji15)) x49_3).f1))) (fun _ hk => hk.2) (.int .i64 ((rd_T101 (rd_L11 l1 (ji15)) x49_3).f2))) (fun _ hk => hk.2) (.int .i64 ((rd_T101 (rd_L11 l1 (ji15)) x49_3).f3))) (fun _ hk => hk.2) (.int .i64 ((rd_T101 (rd_L11 l1 (ji15)) x49_3).f4))) (fun _ hk => hk.1)⟩; have n1_ : Aside0 (Kd.R (Kd.int .i64) 3 (((((w30.setCell ⟨gb802, 0, none⟩ (.int .i64 ((rd_T101 (rd_L11 l1 (ji15)) x49_3).f0))).setCell ⟨gb802, 1, none⟩ (.int .i64 ((rd_T101 (rd_L11 l1 (ji15)) x49_3).f1))).setCell ⟨gb802, 2, none⟩ (.int .i64 ((rd_T101 (rd_L11 l1 (ji15)) x49_3).f2))).setCell ⟨gb802, 3, none⟩ (.int .i64 ((rd_T101 (rd_L11 l1 (ji15)) x49_3).f3))).setCell ⟨gb802, 4, none⟩ (.int .i64 ((rd_T101 (rd_L11 l1 (ji15)) x49_3).f4))) w.heap.size (fun k_ => some k_ ≠ (u6 : Value).ownBlock) v795 x8_3) := ⟨by refine rx_ ?_; exact Kd.R_mono (Kd.R_far (p := ⟨gb802, 4, none⟩) (Kd.R_far (p := ⟨gb802, 3, none⟩) (Kd.R_far (p := ⟨gb802, 2, none⟩) (Kd.R_far (p := ⟨gb802, 1, none⟩) (Kd.R_far (p := ⟨gb802, 0, none⟩) (Kd.R_types HO_8.out BK802.out (by decide)) (fun _ hk => hk.2) (.int .i64 ((rd_T101 (rd_L11 l1 (ji15)) x49_3).f0))) (fun _ hk => hk.2) (.int .i64 ((rd_T101 (rd_L11 l1 (ji15)) x49_3).f1))) (fun _ hk => hk.2) (.int .i64 ((rd_T101 (rd_L11 l1 (ji15)) x49_3).f2))) (fun _ hk => hk.2) (.int .i64 ((rd_T101 (rd_L11 l1 (ji15)) x49_3).f3))) (fun _ hk => hk.2) (.int .i64 ((rd_T101 (rd_L11 l1 (ji15)) x49_3).f4))) (fun _ hk => hk.1)⟩
                                                have n2_ : Aside0 ((((((w30.setCell ⟨gb802, 0, none⟩ (.int .i64 ((rd_T101 (rd_L11 l1 (ji15)) x49_3).f0))).setCell ⟨gb802, 1, none⟩ (.int .i64 ((rd_T101 (rd_L11 l1 (ji15)) x49_3).f1))).setCell ⟨gb802, 2, none⟩ (.int .i64 ((rd_T101 (rd_L11 l1 (ji15)) x49_3).f2))).setCell ⟨gb802, 3, none⟩ (.int .i64 ((rd_T101 (rd_L11 l1 (ji15)) x49_3).f3))).setCell ⟨gb802, 4, none⟩ (.int .i64 ((rd_T101 (rd_L11 l1 (ji15)) x49_3).f4))).heap[gb799]? = some (.cells #[.int .i64 ((rd_T101 (rd_L11 l1 x7_1) x38_2).f0), .int .i64 ((rd_T101 (rd_L11 l1 x7_1) x38_2).f1), .int .i64 ((rd_T101 (rd_L11 l1 x7_1) x38_2).f2), .int .i64 ((rd_T101 (rd_L11 l1 x7_1) x38_2).f3), .int .i64 ((rd_T101 (rd_L11 l1 x7_1) x38_2).f4)] 101 (0, 0))) := ⟨by refine kx_ ?_; refine blk_far ?_ NB799_802.out _; refine kx_ ?_; refine blk_far ?_ NB799_802.out _; refine kx_ ?_; refine blk_far ?_ NB799_802.out _; refine kx_ ?_; refine blk_far ?_ NB799_802.out _; refine kx_ ?_; refine blk_far ?_ NB799_802.out _; refine kx_ ?_; exact BK799.out⟩; have n3_ : Aside0 ((((((w30.setCell ⟨gb802, 0, none⟩ (.int .i64 ((rd_T101 (rd_L11 l1 (ji15)) x49_3).f0))).setCell ⟨gb802, 1, none⟩ (.int .i64 ((rd_T101 (rd_L11 l1 (ji15)) x49_3).f1))).setCell ⟨gb802, 2, none⟩ (.int .i64 ((rd_T101 (rd_L11 l1 (ji15)) x49_3).f2))).setCell ⟨gb802, 3, none⟩ (.int .i64 ((rd_T101 (rd_L11 l1 (ji15)) x49_3).f3))).setCell ⟨gb802, 4, none⟩ (.int .i64 ((rd_T101 (rd_L11 l1 (ji15)) x49_3).f4))).heap[gb802]? = some (.cells #[.int .i64 ((rd_T101 (rd_L11 l1 (ji15)) x49_3).f0), .int .i64 ((rd_T101 (rd_L11 l1 (ji15)) x49_3).f1), .int .i64 ((rd_T101 (rd_L11 l1 (ji15)) x49_3).f2), .int .i64 ((rd_T101 (rd_L11 l1 (ji15)) x49_3).f3), .int .i64 ((rd_T101 (rd_L11 l1 (ji15)) x49_3).f4)] 101 (0, 0))) := ⟨by refine kx_ ?_; refine blk_put (cs := #[.int .i64 ((rd_T101 (rd_L11 l1 (ji15)) x49_3).f0), .int .i64 ((rd_T101 (rd_L11 l1 (ji15)) x49_3).f1), .int .i64 ((rd_T101 (rd_L11 l1 (ji15)) x49_3).f2), .int .i64 ((rd_T101 (rd_L11 l1 (ji15)) x49_3).f3), .int .i64 0]) ?_ 4 _ rfl; refine kx_ ?_; refine blk_put (cs := #[.int .i64 ((rd_T101 (rd_L11 l1 (ji15)) x49_3).f0), .int .i64 ((rd_T101 (rd_L11 l1 (ji15)) x49_3).f1), .int .i64 ((rd_T101 (rd_L11 l1 (ji15)) x49_3).f2), .int .i64 0, .int .i64 0]) ?_ 3 _ rfl; refine kx_ ?_; refine blk_put (cs := #[.int .i64 ((rd_T101 (rd_L11 l1 (ji15)) x49_3).f0), .int .i64 ((rd_T101 (rd_L11 l1 (ji15)) x49_3).f1), .int .i64 0, .int .i64 0, .int .i64 0]) ?_ 2 _ rfl; refine kx_ ?_; refine blk_put (cs := #[.int .i64 ((rd_T101 (rd_L11 l1 (ji15)) x49_3).f0), .int .i64 0, .int .i64 0, .int .i64 0, .int .i64 0]) ?_ 1 _ rfl; refine kx_ ?_; refine blk_put (cs := #[.int .i64 0, .int .i64 0, .int .i64 0, .int .i64 0, .int .i64 0]) ?_ 0 _ rfl; refine kx_ ?_; exact BK802.out⟩
                                                have n4_ : Aside0 (Below w.heap.size w (((((w30.setCell ⟨gb802, 0, none⟩ (.int .i64 ((rd_T101 (rd_L11 l1 (ji15)) x49_3).f0))).setCell ⟨gb802, 1, none⟩ (.int .i64 ((rd_T101 (rd_L11 l1 (ji15)) x49_3).f1))).setCell ⟨gb802, 2, none⟩ (.int .i64 ((rd_T101 (rd_L11 l1 (ji15)) x49_3).f2))).setCell ⟨gb802, 3, none⟩ (.int .i64 ((rd_T101 (rd_L11 l1 (ji15)) x49_3).f3))).setCell ⟨gb802, 4, none⟩ (.int .i64 ((rd_T101 (rd_L11 l1 (ji15)) x49_3).f4)))) := bX2_ HB GE799 GE802; (try clear HO_6)
                                                (try clear HO_8)
                                                (try clear BK799)
                                                (try clear BK802)
                                                (try clear HB)
                                                generalize (((((w30.setCell ⟨gb802, 0, none⟩ (.int .i64 ((rd_T101 (rd_L11 l1 (ji15)) x49_3).f0))).setCell ⟨gb802, 1, none⟩ (.int .i64 ((rd_T101 (rd_L11 l1 (ji15)) x49_3).f1))).setCell ⟨gb802, 2, none⟩ (.int .i64 ((rd_T101 (rd_L11 l1 (ji15)) x49_3).f2))).setCell ⟨gb802, 3, none⟩ (.int .i64 ((rd_T101 (rd_L11 l1 (ji15)) x49_3).f3))).setCell ⟨gb802, 4, none⟩ (.int .i64 ((rd_T101 (rd_L11 l1 (ji15)) x49_3).f4))) = w34 at n0_ n1_ n2_ n3_ n4_ ⊢
                                                have HO_6 := n0_; have HO_8 := n1_; have BK799 := n2_; have BK802 := n3_; have HB := n4_; clear n0_ n1_ n2_ n3_ n4_; replace HO_6 := am_ (Kd.R_drew HO_6.out); replace HO_8 := am_ (Kd.R_drew HO_8.out); replace BK799 := am_ (blk_drew BK799.out); replace BK802 := am_ (blk_drew BK802.out); replace HB := bd_ HB; obtain ⟨Ao36, co36, eo36⟩ := Kd.R_slice HO_8.out; (first | subst eo36 | (injection eo36 with f1_ f2_ f3_; have f4_ := f1_.symm; have f5_ := f3_.symm; clear f1_ f2_ f3_; subst f4_; subst f5_))
                                                have p803 : 0 ≤ (x38_2 : Int) := oda_; have q803 : x38_2 < (x8_3.length : Int) := oda_; obtain ⟨ad803, e803, hx803_0⟩ := Kd.at_int (Kd.R_reads' HO_8.out).2.2 x38_2 p803 q803; cases e803; replace p803 := eq_true p803; replace q803 := eq_true q803; obtain ⟨Ao37, co37, eo37⟩ := Kd.R_slice HO_6.out; (first | subst eo37 | (injection eo37 with f1_ f2_ f3_; have f4_ := f1_.symm; have f5_ := f3_.symm; clear f1_ f2_ f3_; subst f4_; subst f5_))
                                                have p804 : 0 ≤ (x49_3 : Int) := oda_; have q804 : x49_3 < (x6_1.length : Int) := oda_; obtain ⟨ad804, e804, hx804_0⟩ := Kd.at_int (Kd.R_reads' HO_6.out).2.2 x49_3 p804 q804; cases e804; replace p804 := eq_true p804; replace q804 := eq_true q804; have p29 : 0 ≤ (x38_2 : Int) := oda_; have q29 : (x38_2 : Int) < ((x8_3.length : Int) : Int) := oda_; obtain ⟨go29, co29, eo29, gb29, gl29, cl29, HG29⟩ := Kd.R_form HO_8.out (by omega); (first | cases eo29 | (injection eo29 with ea_ en_ ec_; (first | subst ea_ | (injection ea_ with ea_; subst ea_)); subst ec_; clear en_))
                                                have GB29 := am_ gb29; have GG29 := am_ HG29; clear gb29 gl29 HG29; (first | simp only [add_plain] at hx803_0 | skip)
                                                obtain ⟨hx29_0, hf29_0⟩ := Kd.R_celln 0 HO_8.out (x38_2 : Int) p29 q29; replace p29 := eq_true p29; replace q29 := eq_true q29; have HP38 := Kd.R_putn HO_8.out (x38_2 : Int) (wrap64 ((rd x8_3 x38_2) + (rd x6_1 x49_3))); rw [← Ny805.out] at HP38; have HQ38 := am_ HP38; clear HP38; refine start_ (n := 13) (S := fun w' => w'.cell? ⟨go29, (x38_2).toNat, none⟩ = some (.int .i64 (rd x8_3 x38_2)) ∧ w'.cell? (ad804.add (x49_3).toNat) = some (.int .i64 (rd x6_1 x49_3))) (ds := [12]) #[false, false, false, false, false, false, false, false, false, false, false, false, false] (by kernel_rfl) rfl rfl ⟨hx803_0, hx804_0⟩ (fun hHeld => ?_); refine with_tabW impl_CountWays.tab16 impl_CountWays.bits16 (fun HT_ HW_ => ?_); generalize w34.drew = w35 at HO_6 HO_8 BK799 BK802 HB GG29 HQ38 hf29_0 hx29_0 hx803_0 hx804_0 hHeld ⊢
                                                refine pD_ 0 (some 65) HT_ (h := ?_); refine pD_ 1 (some 66) HT_ (h := ?_); refine pD_ 2 (some 67) HT_ (h := ?_); refine pD_ 3 (some 68) HT_ (h := ?_); refine pD_ 4 (some 69) HT_ (h := ?_); refine pD_ 6 (some 71) HT_ (h := ?_); refine pD_ 7 (some 72) HT_ (h := ?_); refine pD_ 8 (some 73) HT_ (h := ?_); refine tD2_ 5 (some 70) HT_ HW_ hHeld (h := ?_); refine tD2_ 9 (some 74) HT_ HW_ hHeld (h := ?_); refine pD_ 10 (some 75) HT_ (h := ?_); refine pD_ 11 (some 76) HT_ (h := ?_); refine last_ (i := 12) (N := none) #[true, true, true, true, true, true, true, true, true, true, true, true, true] rfl rfl (one_of HT_.out (by kernel_rfl)) (by decide) (fun K hK => ?_); refine skip_ (w1 := ?_) (by rfl) rfl ?_ ?_; rotate_left
                                                · go_simp
                                                  rfl
                                                refine hK.out _ _ ?_; clear hK K; refine done_ (done_of HT_.out (by kernel_rfl)) ?_; try go_wp2
                                                go_roundg k3
                                                case measure => have := HK1.out; have := HK2.out; have := HK3.out; omega
                                                case rel => exact ⟨(y805), (wrap64 (x49_3 + 1)), vt_, H', hl3_ HK1 HK2 HK3, ⟨by refine rx_ ?_; exact Kd.R_mono (Kd.R_far (p := ⟨go29, (x38_2 : Int).toNat, none⟩) (Kd.R_mono HO_6.out (fun k_ hk => (⟨hk, fun e_ => hk (by rw [e_]; rfl)⟩ : _ ∧ k_ ≠ go29))) (fun _ hk => hk.2) (.int .i64 (wrap64 ((rd x8_3 x38_2) + (rd x6_1 x49_3))))) (fun _ hk => hk.1)⟩, rX_ HQ38, ⟨by refine kx_ ?_; refine blk_far ?_ (by have h_ := Kd.R_ne HO_8.out BK799.out (by decide); intro e_; exact h_ (by rw [e_]; rfl)) _; refine kx_ ?_; exact BK799.out⟩, bX3_ HB GB29 GE799 GE802⟩
                                              · rw [if_neg c28] at H; exact absurd H (by simp)
                                            · rw [if_neg c27] at H; exact absurd H (by simp)
                                          · rw [if_neg c26] at H; exact absurd H (by simp)
                                        · rw [if_neg c25] at H; have c25b0 := decide_eq_false c25; clear c25; have H' := am_ H; clear H; have p801 : 0 ≤ (x49_3 : Int) := oda_; have q801 : x49_3 < ((rd_L11 l1 (ji15)).length : Int) := oda_; obtain ⟨ad801, e801, hx801_0, hx801_1, hx801_2, hx801_3, hx801_4⟩ := at_T101 HR800_0.out x49_3 p801 q801; cases e801; replace hx801_0 := hc_ HB hx801_0; replace hx801_1 := hc_ HB hx801_1; replace hx801_2 := hc_ HB hx801_2; replace hx801_3 := hc_ HB hx801_3; replace hx801_4 := hc_ HB hx801_4; replace p801 := eq_true p801; replace q801 := eq_true q801; go_wp2_with (first | ((with_reducible refine gd_ 12 rfl ?_); refine be_ 12 #[.int .i64 0, .int .i64 0, .int .i64 0, .int .i64 0, .int .i64 0] 101 ?_; intro gb802 hg w39 hbox hb; replace HO_6 := rb_ HO_6 hb; replace HO_8 := rb_ HO_8 hb; have BK802 := am_ hbox; have GW802 := gw1_ HB hg GE799; have GE802 := GW802; replace HB := bs1_ HB hb GE799; have NB799_802 := nl_ BK799 hg; have NB802_799 := ng_ BK799 hg; replace BK799 := bb_ BK799 hb; clear hb hbox hg; have hnb40 := NB802_799.out; have hnc40 := NB799_802.out; obtain ⟨hcz41_0, hfz41_0, hcz41_1, hfz41_1, hcz41_2, hfz41_2, hcz41_3, hfz41_3, hcz41_4, hfz41_4⟩ := bk5_ BK802; obtain ⟨hcz42_0, hfz42_0, hcz42_1, hfz42_1, hcz42_2, hfz42_2, hcz42_3, hfz42_3, hcz42_4, hfz42_4⟩ := bk5_ BK799))
                                          go_roundg k3
                                          case measure => have := HK1.out; have := HK2.out; have := HK3.out; omega
                                          case rel => exact ⟨(x8_3), (wrap64 (x49_3 + 1)), vt_, H', hl3_ HK1 HK2 HK3, ⟨by refine rx_ ?_; exact Kd.R_mono (Kd.R_far (p := ⟨gb802, 4, none⟩) (Kd.R_far (p := ⟨gb802, 3, none⟩) (Kd.R_far (p := ⟨gb802, 2, none⟩) (Kd.R_far (p := ⟨gb802, 1, none⟩) (Kd.R_far (p := ⟨gb802, 0, none⟩) (Kd.R_types HO_6.out BK802.out (by decide)) (fun _ hk => hk.2) (.int .i64 ((rd_T101 (rd_L11 l1 (ji15)) x49_3).f0))) (fun _ hk => hk.2) (.int .i64 ((rd_T101 (rd_L11 l1 (ji15)) x49_3).f1))) (fun _ hk => hk.2) (.int .i64 ((rd_T101 (rd_L11 l1 (ji15)) x49_3).f2))) (fun _ hk => hk.2) (.int .i64 ((rd_T101 (rd_L11 l1 (ji15)) x49_3).f3))) (fun _ hk => hk.2) (.int .i64 ((rd_T101 (rd_L11 l1 (ji15)) x49_3).f4))) (fun _ hk => hk.1)⟩, ⟨by refine rx_ ?_; exact Kd.R_mono (Kd.R_far (p := ⟨gb802, 4, none⟩) (Kd.R_far (p := ⟨gb802, 3, none⟩) (Kd.R_far (p := ⟨gb802, 2, none⟩) (Kd.R_far (p := ⟨gb802, 1, none⟩) (Kd.R_far (p := ⟨gb802, 0, none⟩) (Kd.R_types HO_8.out BK802.out (by decide)) (fun _ hk => hk.2) (.int .i64 ((rd_T101 (rd_L11 l1 (ji15)) x49_3).f0))) (fun _ hk => hk.2) (.int .i64 ((rd_T101 (rd_L11 l1 (ji15)) x49_3).f1))) (fun _ hk => hk.2) (.int .i64 ((rd_T101 (rd_L11 l1 (ji15)) x49_3).f2))) (fun _ hk => hk.2) (.int .i64 ((rd_T101 (rd_L11 l1 (ji15)) x49_3).f3))) (fun _ hk => hk.2) (.int .i64 ((rd_T101 (rd_L11 l1 (ji15)) x49_3).f4))) (fun _ hk => hk.1)⟩, ⟨by refine kx_ ?_; refine blk_far ?_ NB799_802.out _; refine kx_ ?_; refine blk_far ?_ NB799_802.out _; refine kx_ ?_; refine blk_far ?_ NB799_802.out _; refine kx_ ?_; refine blk_far ?_ NB799_802.out _; refine kx_ ?_; refine blk_far ?_ NB799_802.out _; refine kx_ ?_; exact BK799.out⟩, bX2_ HB GE799 GE802⟩
                                      · rw [if_neg c22] at H; exact absurd H (by simp)
                                    · rw [if_neg c21] at H; exact absurd H (by simp)
                                  · rw [if_neg c20] at H; have c20b0 := decide_eq_false c20; clear c20; have H' := am_ H; clear H; go_wp2; go_roundg k3
                                    case measure => have := HK1.out; have := HK2.out; have := HK3.out; omega
                                    case rel => exact ⟨(x8_3), (wrap64 (x38_2 + 1)), vt_, H', hl3_ HK1 HK2 HK3, rX_ HO_6, rX_ HO_8, bX1_ HB GE799⟩
                            · rw [if_neg c17] at H; exact absurd H (by simp)
                          · rw [if_neg c16] at H; exact absurd H (by simp)
                        · rw [if_neg c14] at H; exact absurd H (by simp)
                      · rw [if_neg c13] at H; exact absurd H (by simp)
                    · rw [if_neg c12] at H; have c12b0 := decide_eq_false c12; clear c12; have H' := am_ H; clear H; go_wp2; go_roundg k2
                      case measure => have := HK1.out; have := HK2.out; omega
                      case rel => exact ⟨(x8_2), (wrap64 (x7_1 - 1)), vt_, H', hl2_ HK1 HK2, ⟨by refine rx_ ?_; exact Kd.R_mono HO_8.out (fun _ hk => trivial)⟩, bX0_ HB⟩
              · rw [if_neg c9] at H; exact absurd H (by simp)
            · rw [if_neg c8] at H; exact absurd H (by simp)
          · rw [if_neg c7] at H; exact absurd H (by simp)
        · rw [if_neg c6] at H; exact absurd H (by simp)
      · rw [if_neg c5] at H; have c5b0 := decide_eq_false c5; clear c5; by_cases c43 : 0 < (x6_1.length : Int)
        · rw [if_pos c43] at H; have c43b0 := decide_eq_true c43; have c43b1 : decide (0 < x6_1.length) = true := decide_eq_true (by omega); clear c43; obtain rfl := Option.some.inj H; obtain ⟨Ao44, co44, eo44⟩ := Kd.R_slice HO_6.out; subst eo44; have p792 : 0 ≤ (0 : Int) := (by omega); have q792 : 0 < (x6_1.length : Int) := oda_; obtain ⟨ad792, e792, hx792_0⟩ := Kd.at_int (Kd.R_reads' HO_6.out).2.2 0 p792 q792; cases e792; have qi792 : (0 < x6_1.length) = True := eq_true (by omega); (try rw [show ((0 : Int)).toNat = 0 from rfl] at hx792_0)
          (try rw [Addr.add_zero'] at hx792_0)
          replace p792 := eq_true p792; replace q792 := eq_true q792; go_wp2; go_ret; exact ⟨er_, below_step HB00.out (bx0 HB.out)⟩
        · rw [if_neg c43] at H; exact absurd H (by simp)
def laws_FnExactCountWays.f (k : Nat) (a0 : Int) (l1 : List Int) : Option (Bool) := if (l1.length : Int) > 1048576 then (some true) else ((laws_toIntS.f k l1).bind fun t791 => ((spec_CountWays.f k a0 t791).bind fun t794 => ((laws_toIntS.f k l1).bind fun t795 => ((impl_CountWays.f k a0 t795).bind fun t798 => (if t798 = t794 then ((laws_toIntS.f k l1).bind fun t799 => ((laws_eqIntS.f k t795 t799).bind fun t802 => (if t802 = true then (some true) else (some false)))) else (some false))))))
set_option maxHeartbeats 8000000 in
set_option maxRecDepth 100000 in
theorem laws_FnExactCountWays.calls (k : Nat) (a0 : Int) (A1 : Option Addr) (c1 : Nat) (l1 : List Int) (r : Bool) (w : World) (hr1 : Kd.C (Kd.int .i64) w A1 l1.length l1) (hc1 : l1.length ≤ c1) (h : laws_FnExactCountWays.f k a0 l1 = some r) :
  Calls Try.prog 5 #[.int .i64 a0, .slice A1 l1.length c1] w fun e w' => e = .returned (.bool r) ∧ Below w.heap.size w w' := by
 have HR1 := am_ hr1; have HC1 := am_ hc1; clear hr1 hc1; have HB := am_ (Below.refl w.heap.size w); have H : (if (l1.length : Int) > 1048576 then (some true) else ((laws_toIntS.f k l1).bind fun t791 => ((spec_CountWays.f k a0 t791).bind fun t794 => ((laws_toIntS.f k l1).bind fun t795 => ((impl_CountWays.f k a0 t795).bind fun t798 => (if t798 = t794 then ((laws_toIntS.f k l1).bind fun t799 => ((laws_eqIntS.f k t795 t799).bind fun t802 => (if t802 = true then (some true) else (some false)))) else (some false))))))) = some r := h; clear h; by_cases c3 : (l1.length : Int) > 1048576
 ·rw [if_pos c3] at H; have c3b0 := decide_eq_true c3; have c3b1 : decide (1048576 < l1.length) = true := decide_eq_true (by omega); clear c3; obtain rfl := Option.some.inj H; go_enter Try.func5, Try.ntmps5
  go_wp2; go_ret; exact ⟨er_, bx0 HB.out⟩
 ·rw [if_neg c3] at H; have c3b0 := decide_eq_false c3; have c3b1 : decide (1048576 < l1.length) = false := decide_eq_false (by omega); clear c3; obtain ⟨t791, A4, H⟩ := bnd_ H; obtain ⟨t794, A5, H⟩ := bnd_ H; obtain ⟨t795, A6, H⟩ := bnd_ H; obtain ⟨t798, A7, H⟩ := bnd_ H; by_cases c8 : t798 = t794
  ·rw [if_pos c8] at H; obtain ⟨c8b0, c8b1⟩ := eqT_ c8; clear c8; obtain ⟨t799, A9, H⟩ := bnd_ H; obtain ⟨t802, A10, H⟩ := bnd_ H; by_cases c11 : t802 = true
   ·subst c11; replace H := ifT_ H; obtain rfl := Option.some.inj H; go_enter Try.func5, Try.ntmps5
    go_wp2_with (first | ((with_reducible refine gc_ 21 rfl ?_); refine gL_ (some 13) Try.func21 #[.slice A1 l1.length c1] ?_; (with_reducible refine (laws_toIntS.calls k _ _ l1 t791 _ ?side1 ?side2 A4.out).mono ?_); (case side1 => repeat (first | exact HR1.out | (with_reducible refine Kd.C_alloc ?_ _) | (with_reducible refine Kd.C_drewN ?_ _) | (with_reducible refine Kd.C_drew ?_))); (case side2 => exact HC1.out); rintro e w12 ⟨v792, rfl, ho0, hb⟩; refine ⟨_, rfl, ?_⟩; have HO793 := rl0_ ho0 HB; replace HB := bs0_ HB hb; try clear hb; (try clear ho0); obtain ⟨Ao13, co13, eo13⟩ := Kd.R_slice HO793.out; subst eo13) | ((with_reducible refine gc_ 20 rfl ?_); refine gL_ (some 14) Try.func20 #[.int .i64 a0, .slice Ao13 t791.length co13] ?_; (with_reducible refine (spec_CountWays.calls k a0 _ _ t791 t794 _ ?side1 ?side2 A5.out).mono ?_); (case side1 => exact cR_ HO793); (case side2 => exact (Kd.R_reads' HO793.out).2.1); rintro e w14 ⟨rfl, hb⟩; refine ⟨_, rfl, ?_⟩; replace HO793 := rb_ HO793 hb; replace HB := bs0_ HB hb; try clear hb) | ((with_reducible refine gc_ 21 rfl ?_); refine gL_ (some 16) Try.func21 #[.slice A1 l1.length c1] ?_; (with_reducible refine (laws_toIntS.calls k _ _ l1 t795 _ ?side1 ?side2 A6.out).mono ?_); (case side1 => exact cS_ HR1 HB); (case side2 => exact HC1.out); rintro e w15 ⟨v796, rfl, ho0, hb⟩; refine ⟨_, rfl, ?_⟩; have HO797 := am_ (Kd.R_lower (Kd.R_new' ho0 (Kd.R_lt (rx_ HO793.out))) (below_size (bx0 HB.out))); replace HO793 := re_ HO793 ho0 hb; replace HB := bs0_ HB hb; try clear hb; (try clear ho0); obtain ⟨Ao16, co16, eo16⟩ := Kd.R_slice HO797.out; subst eo16) | ((with_reducible refine gc_ 22 rfl ?_); refine gL_ (some 19) Try.func22 #[.int .i64 a0, .slice Ao16 t795.length co16] ?_; (with_reducible refine (impl_CountWays.calls k a0 _ _ t795 t798 _ ?side1 ?side2 A7.out).mono ?_); (case side1 => exact cR_ HO797); (case side2 => exact (Kd.R_reads' HO797.out).2.1); rintro e w17 ⟨rfl, hb⟩; refine ⟨_, rfl, ?_⟩; replace HO793 := rb_ HO793 hb; replace HO797 := rb_ HO797 hb; replace HB := bs0_ HB hb; try clear hb) | ((with_reducible refine gc_ 21 rfl ?_); refine gL_ (some 25) Try.func21 #[.slice A1 l1.length c1] ?_; (with_reducible refine (laws_toIntS.calls k _ _ l1 t799 _ ?side1 ?side2 A9.out).mono ?_); (case side1 => exact cS_ HR1 HB); (case side2 => exact HC1.out); rintro e w18 ⟨v800, rfl, ho0, hb⟩; refine ⟨_, rfl, ?_⟩; have HO801 := am_ (Kd.R_lower (Kd.R_new' (Kd.R_new' ho0 (Kd.R_lt (rx_ HO793.out))) (Kd.R_lt (rx_ HO797.out))) (below_size (bx0 HB.out))); replace HO793 := re_ HO793 ho0 hb; replace HO797 := re_ HO797 ho0 hb; replace HB := bs0_ HB hb; try clear hb; (try clear ho0); obtain ⟨Ao19, co19, eo19⟩ := Kd.R_slice HO801.out; subst eo19) | ((with_reducible refine gc_ 23 rfl ?_); refine gL_ (some 26) Try.func23 #[.slice Ao16 t795.length co16, .slice Ao19 t799.length co19] ?_; (with_reducible refine (laws_eqIntS.calls k _ _ t795 _ _ t799 true _ ?side1 ?side2 ?side3 ?side4 A10.out).mono ?_); (case side1 => exact cR_ HO797); (case side2 => exact (Kd.R_reads' HO797.out).2.1); (case side3 => exact cR_ HO801); (case side4 => exact (Kd.R_reads' HO801.out).2.1); rintro e w' ⟨rfl, ⟨nd, rfl⟩⟩; refine ⟨_, rfl, ?_⟩))
    go_ret; exact ⟨er_, bx0 HB.out⟩
   ·replace c11 := Bool.eq_false_iff.mpr c11; subst c11; replace H := ifF_ H; obtain rfl := Option.some.inj H; go_enter Try.func5, Try.ntmps5
    go_wp2_with (first | ((with_reducible refine gc_ 21 rfl ?_); refine gL_ (some 13) Try.func21 #[.slice A1 l1.length c1] ?_; (with_reducible refine (laws_toIntS.calls k _ _ l1 t791 _ ?side1 ?side2 A4.out).mono ?_); (case side1 => repeat (first | exact HR1.out | (with_reducible refine Kd.C_alloc ?_ _) | (with_reducible refine Kd.C_drewN ?_ _) | (with_reducible refine Kd.C_drew ?_))); (case side2 => exact HC1.out); rintro e w20 ⟨v792, rfl, ho0, hb⟩; refine ⟨_, rfl, ?_⟩; have HO793 := rl0_ ho0 HB; replace HB := bs0_ HB hb; try clear hb; (try clear ho0); obtain ⟨Ao21, co21, eo21⟩ := Kd.R_slice HO793.out; subst eo21) | ((with_reducible refine gc_ 20 rfl ?_); refine gL_ (some 14) Try.func20 #[.int .i64 a0, .slice Ao21 t791.length co21] ?_; (with_reducible refine (spec_CountWays.calls k a0 _ _ t791 t794 _ ?side1 ?side2 A5.out).mono ?_); (case side1 => exact cR_ HO793); (case side2 => exact (Kd.R_reads' HO793.out).2.1); rintro e w22 ⟨rfl, hb⟩; refine ⟨_, rfl, ?_⟩; replace HO793 := rb_ HO793 hb; replace HB := bs0_ HB hb; try clear hb) | ((with_reducible refine gc_ 21 rfl ?_); refine gL_ (some 16) Try.func21 #[.slice A1 l1.length c1] ?_; (with_reducible refine (laws_toIntS.calls k _ _ l1 t795 _ ?side1 ?side2 A6.out).mono ?_); (case side1 => exact cS_ HR1 HB); (case side2 => exact HC1.out); rintro e w23 ⟨v796, rfl, ho0, hb⟩; refine ⟨_, rfl, ?_⟩; have HO797 := am_ (Kd.R_lower (Kd.R_new' ho0 (Kd.R_lt (rx_ HO793.out))) (below_size (bx0 HB.out))); replace HO793 := re_ HO793 ho0 hb; replace HB := bs0_ HB hb; try clear hb; (try clear ho0); obtain ⟨Ao24, co24, eo24⟩ := Kd.R_slice HO797.out; subst eo24) | ((with_reducible refine gc_ 22 rfl ?_); refine gL_ (some 19) Try.func22 #[.int .i64 a0, .slice Ao24 t795.length co24] ?_; (with_reducible refine (impl_CountWays.calls k a0 _ _ t795 t798 _ ?side1 ?side2 A7.out).mono ?_); (case side1 => exact cR_ HO797); (case side2 => exact (Kd.R_reads' HO797.out).2.1); rintro e w25 ⟨rfl, hb⟩; refine ⟨_, rfl, ?_⟩; replace HO793 := rb_ HO793 hb; replace HO797 := rb_ HO797 hb; replace HB := bs0_ HB hb; try clear hb) | ((with_reducible refine gc_ 21 rfl ?_); refine gL_ (some 25) Try.func21 #[.slice A1 l1.length c1] ?_; (with_reducible refine (laws_toIntS.calls k _ _ l1 t799 _ ?side1 ?side2 A9.out).mono ?_); (case side1 => exact cS_ HR1 HB); (case side2 => exact HC1.out); rintro e w26 ⟨v800, rfl, ho0, hb⟩; refine ⟨_, rfl, ?_⟩; have HO801 := am_ (Kd.R_lower (Kd.R_new' (Kd.R_new' ho0 (Kd.R_lt (rx_ HO793.out))) (Kd.R_lt (rx_ HO797.out))) (below_size (bx0 HB.out))); replace HO793 := re_ HO793 ho0 hb; replace HO797 := re_ HO797 ho0 hb; replace HB := bs0_ HB hb; try clear hb; (try clear ho0); obtain ⟨Ao27, co27, eo27⟩ := Kd.R_slice HO801.out; subst eo27) | ((with_reducible refine gc_ 23 rfl ?_); refine gL_ (some 26) Try.func23 #[.slice Ao24 t795.length co24, .slice Ao27 t799.length co27] ?_; (with_reducible refine (laws_eqIntS.calls k _ _ t795 _ _ t799 false _ ?side1 ?side2 ?side3 ?side4 A10.out).mono ?_); (case side1 => exact cR_ HO797); (case side2 => exact (Kd.R_reads' HO797.out).2.1); (case side3 => exact cR_ HO801); (case side4 => exact (Kd.R_reads' HO801.out).2.1); rintro e w' ⟨rfl, ⟨nd, rfl⟩⟩; refine ⟨_, rfl, ?_⟩))
    go_ret; exact ⟨er_, bx0 HB.out⟩
  ·rw [if_neg c8] at H; obtain ⟨c8b0, c8b1⟩ := eqF_ c8; obtain rfl := Option.some.inj H; go_enter Try.func5, Try.ntmps5
   go_wp2_with (first | ((with_reducible refine gc_ 21 rfl ?_); refine gL_ (some 13) Try.func21 #[.slice A1 l1.length c1] ?_; (with_reducible refine (laws_toIntS.calls k _ _ l1 t791 _ ?side1 ?side2 A4.out).mono ?_); (case side1 => repeat (first | exact HR1.out | (with_reducible refine Kd.C_alloc ?_ _) | (with_reducible refine Kd.C_drewN ?_ _) | (with_reducible refine Kd.C_drew ?_))); (case side2 => exact HC1.out); rintro e w28 ⟨v792, rfl, ho0, hb⟩; refine ⟨_, rfl, ?_⟩; have HO793 := rl0_ ho0 HB; replace HB := bs0_ HB hb; try clear hb; (try clear ho0); obtain ⟨Ao29, co29, eo29⟩ := Kd.R_slice HO793.out; subst eo29) | ((with_reducible refine gc_ 20 rfl ?_); refine gL_ (some 14) Try.func20 #[.int .i64 a0, .slice Ao29 t791.length co29] ?_; (with_reducible refine (spec_CountWays.calls k a0 _ _ t791 t794 _ ?side1 ?side2 A5.out).mono ?_); (case side1 => exact cR_ HO793); (case side2 => exact (Kd.R_reads' HO793.out).2.1); rintro e w30 ⟨rfl, hb⟩; refine ⟨_, rfl, ?_⟩; replace HO793 := rb_ HO793 hb; replace HB := bs0_ HB hb; try clear hb) | ((with_reducible refine gc_ 21 rfl ?_); refine gL_ (some 16) Try.func21 #[.slice A1 l1.length c1] ?_; (with_reducible refine (laws_toIntS.calls k _ _ l1 t795 _ ?side1 ?side2 A6.out).mono ?_); (case side1 => exact cS_ HR1 HB); (case side2 => exact HC1.out); rintro e w31 ⟨v796, rfl, ho0, hb⟩; refine ⟨_, rfl, ?_⟩; have HO797 := am_ (Kd.R_lower (Kd.R_new' ho0 (Kd.R_lt (rx_ HO793.out))) (below_size (bx0 HB.out))); replace HO793 := re_ HO793 ho0 hb; replace HB := bs0_ HB hb; try clear hb; (try clear ho0); obtain ⟨Ao32, co32, eo32⟩ := Kd.R_slice HO797.out; subst eo32) | ((with_reducible refine gc_ 22 rfl ?_); refine gL_ (some 19) Try.func22 #[.int .i64 a0, .slice Ao32 t795.length co32] ?_; (with_reducible refine (impl_CountWays.calls k a0 _ _ t795 t798 _ ?side1 ?side2 A7.out).mono ?_); (case side1 => exact cR_ HO797); (case side2 => exact (Kd.R_reads' HO797.out).2.1); rintro e w33 ⟨rfl, hb⟩; refine ⟨_, rfl, ?_⟩; replace HO793 := rb_ HO793 hb; replace HO797 := rb_ HO797 hb; replace HB := bs0_ HB hb; try clear hb))
   go_ret; exact ⟨er_, bx0 HB.out⟩
def laws_FnExactCountWays.Pure : Prop := ∀ (a0 : Int) (l1 : List Int), (Lit.int .i64 a0).wf = true → l1.length ≤ maxLen → l1.length * 8 ≤ 140737488351232 → (∀ x ∈ l1, (Lit.int .i64 x).wf = true) → ∃ k, laws_FnExactCountWays.f k a0 l1 = some true
end Go.Proofs.Ytoajlmlobaccdaa.P
namespace Go.Proofs.Ytoajlmlobaccdaa.Rk
open Go.RowKit Go.ChangeShapes Go.WideShapes Go.Deep Go.Proofs.YtoajlmlobaccdaaW.PrintWords
def I64 (n : Int) : Prop := -9223372036854775808 ≤ n ∧ n ≤ 9223372036854775807
theorem I64_of {n : Int} (h : (Lit.int .i64 n).wf = true) : I64 n := by
  have e1 : IntKind.i64.min = -9223372036854775808 := by decide
  have e2 : IntKind.i64.max = 9223372036854775807 := by decide
  simp [Lit.wf, e1, e2] at h
  unfold I64
  omega
section
variable {H : Type} {enc : TypeId × Value → H} {P : Program} {w : World} {base : Nat} {spare : Nat → Bool} {held : Bool} {α : Type}
def Elem (enc : TypeId × Value → H) (P : Program) (w : World) (base : Nat) (spare : Nat → Bool) (held : Bool) (e : TypeId) (d : Kd α) (Q : α → Prop) : Prop :=
  ∀ (fuel : Nat) (cs : List Value) (x : DataW H × List MemPlace), DataW.trod enc P w base spare held fuel e cs = some x → ∃ y, d.K w y cs ∧ Q y
theorem row_of [Inhabited α] {t e : TypeId} {d : Kd α} {Q : α → Prop} {a : Option Addr} {len cap : Nat} {D : DataW H} {ps : List MemPlace} (ht : P.underlying t = some (.slice e)) (hC : P.cellsOf e = d.sz) (he : Elem enc P w base spare held e d Q)
    (h : DataW.Trod enc P w base spare held t (.slice a len cap) D ps) : ∃ l : List α, len = l.length ∧ d.C w a l.length l ∧ l.length ≤ cap ∧ l.length ≤ 9223372036854775807 ∧ ∀ y ∈ l, Q y := by
  obtain ⟨fuel, hf⟩ := h
  rcases open_slice ht hf with ⟨hcs, _⟩ | ⟨ad, len', cap', m, n, D', Pl, hcs, _, hl, hm, hmm, _, hi⟩
  · simp [Value.cells] at hcs
    obtain ⟨rfl, rfl, rfl⟩ := hcs
    exact ⟨[], rfl, Kd.C_nil d w, Nat.zero_le _, by simp, fun y hy => by simp at hy⟩
  · simp [Value.cells] at hcs
    obtain ⟨rfl, rfl, rfl⟩ := hcs
    have hlm : len ≤ m := by rw [hmm]; split <;> omega
    have key : ∀ i, i < len → ∃ y : α, ∃ cs : List Value, cs.length = d.sz ∧ d.K w y cs ∧ Q y ∧ ∀ j u, cs[j]? = some u → w.cell? (ad.add (i * d.sz + j)) = some u := by
      intro i hil
      obtain ⟨cs', hc, htr⟩ := hi i (by omega)
      rw [hC] at hc
      obtain ⟨_, hcl, hat⟩ := World.cells?_some hc
      obtain ⟨y, hK, hQ⟩ := he _ _ _ htr
      refine ⟨y, cs', hcl, hK, hQ, fun j u hu => ?_⟩
      have hj : j < d.sz := by rw [← hcl]; exact (List.getElem?_eq_some_iff.1 hu).1
      rw [← Deep.add_add, hat j hj]
      exact hu
    obtain ⟨f, hff⟩ := choose_lt key
    unfold maxLen at hm
    refine ⟨(List.range len).map f, by simp, ⟨rfl, by simp; omega, fun hn => ⟨ad, rfl, fun j p hp => ?_⟩⟩, by simpa using hl, by simp; omega, fun y hy => ?_⟩
    · have hjl : j < len := by simpa using (List.getElem?_eq_some_iff.1 hp).1
      have : p = f j := by simpa [hjl] using hp.symm
      subst this
      obtain ⟨cs, h1, h2, _, h4⟩ := hff j hjl
      exact ⟨cs, h1, h2, h4⟩
    · obtain ⟨i, hi2, rfl⟩ := List.mem_map.1 hy
      exact (hff i (List.mem_range.1 hi2)).choose_spec.2.2.1
theorem ints_of {t e : TypeId} {k : IntKind} {a : Option Addr} {len cap : Nat} {D : DataW H} {ps : List MemPlace} (ht : P.underlying t = some (.slice e)) (hu : P.underlying e = some (.int k)) (hC : P.cellsOf e = 1)
    (h : DataW.Trod enc P w base spare held t (.slice a len cap) D ps) : ∃ l : List Int, len = l.length ∧ (Kd.int k).C w a l.length l ∧ l.length ≤ cap ∧ l.length ≤ 9223372036854775807 ∧ ∀ y ∈ l, (Lit.int k y).wf = true :=
  row_of (d := Kd.int k) (Q := fun y => (Lit.int k y).wf = true) ht hC (fun fuel cs x hx => by
    obtain ⟨n, rfl, _, hw⟩ := DataW.trod_int hu hx
    exact ⟨n, rfl, hw⟩) h
end
end Go.Proofs.Ytoajlmlobaccdaa.Rk
namespace Go.Proofs.Ytoajlmlobaccdaa.P
open Go.RowKit Go.ChangeShapes Go.WideShapes Go.Deep Go.Proofs.Ytoajlmlobaccdaa.Rk Go.Proofs.YtoajlmlobaccdaaW.PrintWords
def Q101 (x : S101) : Prop := I64 x.f0 ∧ I64 x.f1 ∧ I64 x.f2 ∧ I64 x.f3 ∧ I64 x.f4
instance : Inhabited S101 := ⟨z101⟩
def Q31 (x : S31) : Prop := I64 x.f0 ∧ x.f1.size ≤ 9223372036854775807
instance : Inhabited S31 := ⟨z31⟩
def Q56 (x : S56) : Prop := I64 x.f0 ∧ I64 x.f1
instance : Inhabited S56 := ⟨z56⟩
def Q28 (x : S28) : Prop := I64 x.f0 ∧ x.f1.size ≤ 9223372036854775807
instance : Inhabited S28 := ⟨z28⟩
end Go.Proofs.Ytoajlmlobaccdaa.P
namespace Go.Proofs.Ytoajlmlobaccdaa.Pl
set_option linter.unusedSimpArgs false
set_option linter.unusedVariables false
open Go.RowKit Go.Proofs.YtoajlmlobaccdaaW.PrintWords
theorem wrap_in {n : Int} (h0 : -9223372036854775808 ≤ n) (h1 : n ≤ 9223372036854775807) : wrap64 n = n := by
  unfold wrap64
  omega
theorem wrap_nat (i : Nat) (h : i < 9223372036854775807) : wrap64 ((i : Int) + 1) = ((i + 1 : Nat) : Int) := by
  unfold wrap64
  omega
theorem Ev.const {α : Type} {x : Option α} {r : α} (h : x = some r) : Ev (fun _ => x) r := ⟨0, fun _ _ => h⟩
theorem Ev.ite_pos {α : Type} {c : Prop} [Decidable c] {g f : Nat → Option α} {r : α} (h : c) (k : Ev g r) : Ev (fun n => if c then g n else f n) r := by
  simpa only [if_pos h] using k
theorem Ev.ite_neg {α : Type} {c : Prop} [Decidable c] {g f : Nat → Option α} {r : α} (h : ¬ c) (k : Ev f r) : Ev (fun n => if c then g n else f n) r := by
  simpa only [if_neg h] using k
theorem Ev.bind0 {α β : Type} {x : Option α} {f : Nat → α → Option β} {a : α} {r : β} (h : x = some a) (k : Ev (fun n => f n a) r) : Ev (fun n => x.bind (f n)) r := by
  subst h
  exact k
theorem Ev.loop {ρ : Type} (g : Nat → Nat → Option ρ) (n : Nat) (r : ρ) (hend : Ev (g n) r) (hstep : ∀ i, i < n → Ev (g (i + 1)) r → Ev (g i) r) : ∀ i, i ≤ n → Ev (g i) r := by
  have key : ∀ d i, i + d = n → Ev (g i) r := by
    intro d
    induction d with
    | zero => intro i hi; obtain rfl : i = n := by omega
              exact hend
    | succ d ih => intro i hi; exact hstep i (by omega) (ih (i + 1) (by omega))
  intro i hi
  exact key (n - i) i (by omega)
theorem getD_lt {α : Type} (l : List α) (d : α) (i : Nat) (h : i < l.length) : l.getD i d = l[i] := by
  rw [List.getD_eq_getElem?_getD, List.getElem?_eq_getElem h]
  rfl
theorem fill_set {α : Type} (l : List α) (z : α) (n i : Nat) (hl : l.length = n) (hi : i < n) : (l.take i ++ List.replicate (n - i) z).set i (l[i]'(by omega)) = l.take (i + 1) ++ List.replicate (n - (i + 1)) z := by
  rw [List.set_append_right _ _ (by rw [List.length_take]; omega)]
  have h1 : i - (l.take i).length = 0 := by rw [List.length_take]; omega
  rw [h1, show n - i = (n - (i + 1)) + 1 by omega, List.replicate_succ, List.set_cons_zero, List.take_succ_eq_append_getElem (by omega), List.append_assoc]
  rfl
end Go.Proofs.Ytoajlmlobaccdaa.Pl
namespace Go.Proofs.Ytoajlmlobaccdaa.Pure
set_option linter.unusedSimpArgs false
set_option linter.unusedVariables false
open Go.RowKit Go.Proofs.YtoajlmlobaccdaaW.PrintWords Go.Proofs.Ytoajlmlobaccdaa.P Go.Proofs.Ytoajlmlobaccdaa.Pl
def okAt (l : List Int) (p : Int) : Prop := 0 ≤ p ∧ p ≤ (l.length : Int) - 2 ∧ rd l p ≤ rd l (p + 1)
instance (l : List Int) (p : Int) : Decidable (okAt l p) := by unfold okAt; infer_instance
def swp (l : List Int) (p : Int) : List Int := (l.set p.toNat (rd l (p + 1))).set (p + 1).toNat (rd l p)
theorem swp_length (l : List Int) (p : Int) : (swp l p).length = l.length := by simp [swp]
def runW : List Int → List Int → Option (List Int)
  | l, [] => some l
  | l, p :: w => if okAt l p then runW (swp l p) w else none
def upTo (n : Nat) : List Int := (List.range n).map fun i : Nat => (i : Int)
theorem upTo_length (n : Nat) : (upTo n).length = n := by simp [upTo]
theorem upTo_succ (n : Nat) : upTo (n + 1) = upTo n ++ [(n : Int)] := by simp [upTo, List.range_succ]
def isW (n : Int) (w : List Int) : Bool := decide (3 ≤ n ∧ n ≤ 6 ∧ (w.length : Int) = Int.tdiv (n * (n - 1)) 2) && (runW (upTo n.toNat) w).isSome
theorem impl_upTo_ev (n : Nat) (h : n ≤ 1000) : Ev (fun k => impl_upTo.f k n) (upTo n) := by
  have key := Ev.loop (fun i k => impl_upTo.l0 k n (upTo i) i) n (upTo n) ?_ ?_ 0 (by omega)
  · exact key
  · refine Ev.step (fun k => impl_upTo.l0.eq_2 ..) ?_
    exact Ev.ite_neg (by omega) (Ev.now _)
  · intro i hi ih
    refine Ev.step (fun k => impl_upTo.l0.eq_2 ..) ?_
    refine Ev.ite_pos (by omega) (Ev.ite_pos (by rw [upTo_length]; omega) ?_)
    rw [wrap_nat i (by omega), ← upTo_succ]
    exact ih
theorem spec_l12Start_ev (n : Nat) (h : n ≤ 1000) : Ev (fun k => spec_l12Start.f k n) (upTo n) := by
  have key := Ev.loop (fun i k => spec_l12Start.l0 k n (upTo i) i) n (upTo n) ?_ ?_ 0 (by omega)
  · exact key
  · refine Ev.step (fun k => spec_l12Start.l0.eq_2 ..) ?_
    exact Ev.ite_neg (by omega) (Ev.now _)
  · intro i hi ih
    refine Ev.step (fun k => spec_l12Start.l0.eq_2 ..) ?_
    refine Ev.ite_pos (by omega) (Ev.ite_pos (by rw [upTo_length]; omega) ?_)
    rw [wrap_nat i (by omega), ← upTo_succ]
    exact ih
theorem l12Swap_eq (l : List Int) (p : Int) (hl : l.length ≤ 1000) (hn : 2 ≤ l.length) : spec_l12Swap.f l p = some (if okAt l p then (true, swp l p) else (false, l)) := by
  unfold spec_l12Swap.f spec_l1In.f
  rw [wrap_in (n := (l.length : Int) - 2) (by omega) (by omega)]
  by_cases h0 : p ≥ 0
  · rw [if_pos h0]
    by_cases h1 : p ≤ (l.length : Int) - 2
    · have hw : wrap64 (p + 1) = p + 1 := wrap_in (by omega) (by omega)
      simp only [hw, h1, decide_true, Option.bind_some, if_true]
      rw [if_pos (by omega), if_pos (by omega), if_pos (by omega), if_pos (by omega)]
      by_cases h2 : rd l p > rd l (p + 1)
      · rw [if_pos h2, if_neg (by unfold okAt; omega)]
      · rw [if_neg h2, if_pos (by unfold okAt; omega)]
        rfl
    · simp only [h1, decide_false, Option.bind_some]
      rw [if_neg (by simp), if_neg (by unfold okAt; omega)]
  · rw [if_neg h0]
    simp only [Option.bind_some]
    rw [if_neg (by simp), if_neg (by unfold okAt; omega)]
theorem drop_rd (w : List Int) (i : Nat) (h : i < w.length) : w.drop i = rd w (i : Int) :: w.drop (i + 1) := by
  rw [List.drop_eq_getElem_cons h]
  unfold rd
  rw [Int.toNat_natCast, getD_lt _ _ _ h]
theorem spec_loop (w : List Int) (hw : w.length ≤ 1000) : ∀ d i, i + d = w.length → ∀ l : List Int, l.length ≤ 1000 → 2 ≤ l.length → Ev (fun k => spec_IsWiring.l0 k w l i) (runW l (w.drop i)).isSome := by
  intro d
  induction d with
  | zero =>
    intro i hi l _ _
    refine Ev.step (fun k => spec_IsWiring.l0.eq_2 ..) ?_
    rw [List.drop_of_length_le (by omega)]
    exact Ev.ite_neg (by omega) (Ev.now _)
  | succ d ih =>
    intro i hi l hl h2
    refine Ev.step (fun k => spec_IsWiring.l0.eq_2 ..) ?_
    rw [drop_rd w i (by omega)]
    refine Ev.ite_pos (by omega) (Ev.ite_pos (by omega) (Ev.bind0 (l12Swap_eq l _ hl h2) ?_))
    unfold runW
    by_cases ho : okAt l (rd w (i : Int))
    · rw [if_pos ho, if_pos ho, wrap_nat i (by omega)]
      exact Ev.ite_pos rfl (ih (i + 1) (by omega) _ (by rw [swp_length]; exact hl) (by rw [swp_length]; exact h2))
    · rw [if_neg ho, if_neg ho]
      exact Ev.ite_neg (by simp) (Ev.now _)
theorem impl_loop (n : Nat) (hn : 2 ≤ n) (hn6 : n ≤ 1000) (w : List Int) (hw : w.length ≤ 1000) : ∀ d i, i + d = w.length → ∀ l : List Int, l.length = n → Ev (fun k => impl_run_impl_IsWiring_1.l0 k n l w w.length i) (runW l (w.drop i)).isSome := by
  intro d
  induction d with
  | zero =>
    intro i hi l _
    refine Ev.step (fun k => impl_run_impl_IsWiring_1.l0.eq_2 ..) ?_
    rw [List.drop_of_length_le (by omega)]
    exact Ev.ite_neg (by omega) (Ev.now _)
  | succ d ih =>
    intro i hi l hl
    refine Ev.step (fun k => impl_run_impl_IsWiring_1.l0.eq_2 ..) ?_
    rw [drop_rd w i (by omega)]
    generalize rd w (i : Int) = p
    refine Ev.ite_pos (by omega) (Ev.ite_pos (by omega) (Ev.ite_pos (by omega) ?_))
    rw [wrap_in (n := (n : Int) - 2) (by omega) (by omega)]
    unfold runW
    by_cases h0 : p < 0
    · rw [if_neg (by unfold okAt; omega)]
      exact Ev.ite_pos h0 (Ev.now _)
    refine Ev.ite_neg h0 ?_
    by_cases h1 : p > (n : Int) - 2
    · rw [if_neg (by unfold okAt; omega)]
      exact Ev.ite_pos h1 (Ev.now _)
    refine Ev.ite_neg h1 ?_
    rw [wrap_in (n := p + 1) (by omega) (by omega)]
    refine Ev.ite_pos (by omega) (Ev.ite_pos (by omega) (Ev.ite_pos (by omega) (Ev.ite_pos (by omega) ?_)))
    by_cases h2 : rd l p > rd l (p + 1)
    · rw [if_neg (by unfold okAt; omega)]
      exact Ev.ite_pos h2 (Ev.now _)
    refine Ev.ite_neg h2 (Ev.bind0 rfl ?_)
    rw [if_pos (by unfold okAt; omega), wrap_nat i (by omega)]
    exact ih (i + 1) (by omega) _ (by rw [← hl]; exact swp_length l p)
theorem count_small {n : Int} (h3 : 3 ≤ n) (h6 : n ≤ 6) : wrap64 (n * wrap64 (n - 1)) = n * (n - 1) ∧ wrap64 (Int.tdiv (n * (n - 1)) 2) = Int.tdiv (n * (n - 1)) 2 ∧ 0 ≤ Int.tdiv (n * (n - 1)) 2 ∧ Int.tdiv (n * (n - 1)) 2 ≤ 15 := by
  have : n = 3 ∨ n = 4 ∨ n = 5 ∨ n = 6 := by omega
  obtain rfl | rfl | rfl | rfl := this <;> (unfold wrap64; decide)
theorem spec_IsWiring_ev (n : Int) (w : List Int) : Ev (fun k => spec_IsWiring.f k n w) (isW n w) := by
  unfold spec_IsWiring.f isW
  by_cases h3 : n ≥ 3
  · by_cases h6 : n ≤ 6
    · obtain ⟨e1, e2, e3, e4⟩ := count_small h3 h6
      refine Ev.bind0 (a := true) (by unfold spec_l1In.f; rw [if_pos h3]; simp [h6]) (Ev.ite_pos rfl ?_)
      rw [e1, e2]
      refine Ev.step (fun k => spec_IsWiring.j0.eq_2 ..) ?_
      by_cases hc : (w.length : Int) = Int.tdiv (n * (n - 1)) 2
      · rw [show decide (3 ≤ n ∧ n ≤ 6 ∧ (w.length : Int) = Int.tdiv (n * (n - 1)) 2) = true from decide_eq_true ⟨h3, h6, hc⟩, Bool.true_and]
        refine Ev.ite_neg (by simp [hc]) ?_
        obtain ⟨m, rfl⟩ := Int.eq_ofNat_of_zero_le (show 0 ≤ n by omega)
        refine Ev.bind (spec_l12Start_ev m (by omega)) ?_
        exact spec_loop w (by omega) w.length 0 (by omega) (upTo m) (by rw [upTo_length]; omega) (by rw [upTo_length]; omega)
      · rw [show decide (3 ≤ n ∧ n ≤ 6 ∧ (w.length : Int) = Int.tdiv (n * (n - 1)) 2) = false from decide_eq_false (fun h => hc h.2.2), Bool.false_and]
        exact Ev.ite_pos (by simp [hc]) (Ev.now _)
    · rw [show decide (3 ≤ n ∧ n ≤ 6 ∧ (w.length : Int) = Int.tdiv (n * (n - 1)) 2) = false from decide_eq_false (fun h => h6 h.2.1), Bool.false_and]
      refine Ev.bind0 (a := false) (by unfold spec_l1In.f; rw [if_pos h3]; simp [h6]) (Ev.ite_neg (by simp) ?_)
      refine Ev.step (fun k => spec_IsWiring.j0.eq_2 ..) ?_
      exact Ev.ite_pos rfl (Ev.now _)
  · rw [show decide (3 ≤ n ∧ n ≤ 6 ∧ (w.length : Int) = Int.tdiv (n * (n - 1)) 2) = false from decide_eq_false (fun h => h3 h.1), Bool.false_and]
    refine Ev.bind0 (a := false) (by unfold spec_l1In.f; rw [if_neg h3]) (Ev.ite_neg (by simp) ?_)
    refine Ev.step (fun k => spec_IsWiring.j0.eq_2 ..) ?_
    exact Ev.ite_pos rfl (Ev.now _)
theorem impl_IsWiring_ev (n : Int) (w : List Int) : Ev (fun k => impl_IsWiring.f k n w) (isW n w) := by
  unfold impl_IsWiring.f isW
  by_cases h3 : n ≥ 3
  · by_cases h6 : n ≤ 6
    · obtain ⟨e1, e2, e3, e4⟩ := count_small h3 h6
      refine Ev.bind0 (a := true) (by unfold impl_isWires.f; rw [if_pos h3]; simp [h6]) (Ev.ite_pos rfl ?_)
      rw [e1, e2]
      by_cases hc : (w.length : Int) = Int.tdiv (n * (n - 1)) 2
      · rw [show decide (3 ≤ n ∧ n ≤ 6 ∧ (w.length : Int) = Int.tdiv (n * (n - 1)) 2) = true from decide_eq_true ⟨h3, h6, hc⟩, Bool.true_and]
        refine Ev.ite_pos hc ?_
        obtain ⟨m, rfl⟩ := Int.eq_ofNat_of_zero_le (show 0 ≤ n by omega)
        refine Ev.bind (a := (runW (upTo m) w).isSome) ?_ (Ev.now _)
        unfold impl_run_impl_IsWiring_1.f
        refine Ev.bind (impl_upTo_ev m (by omega)) ?_
        exact impl_loop m (by omega) (by omega) w (by omega) w.length 0 (by omega) (upTo m) (upTo_length m)
      · rw [show decide (3 ≤ n ∧ n ≤ 6 ∧ (w.length : Int) = Int.tdiv (n * (n - 1)) 2) = false from decide_eq_false (fun h => hc h.2.2), Bool.false_and]
        exact Ev.ite_neg hc (Ev.now _)
    · rw [show decide (3 ≤ n ∧ n ≤ 6 ∧ (w.length : Int) = Int.tdiv (n * (n - 1)) 2) = false from decide_eq_false (fun h => h6 h.2.1), Bool.false_and]
      refine Ev.bind0 (a := false) (by unfold impl_isWires.f; rw [if_pos h3]; simp [h6]) (Ev.ite_neg (by simp) (Ev.now _))
  · rw [show decide (3 ≤ n ∧ n ≤ 6 ∧ (w.length : Int) = Int.tdiv (n * (n - 1)) 2) = false from decide_eq_false (fun h => h3 h.1), Bool.false_and]
    exact Ev.bind0 (a := false) (by unfold impl_isWires.f; rw [if_neg h3]) (Ev.ite_neg (by simp) (Ev.now _))
theorem isW_bounds {n : Int} {w : List Int} (h : isW n w = true) : 3 ≤ n ∧ n ≤ 6 ∧ w.length ≤ 15 := by
  unfold isW at h
  rw [Bool.and_eq_true, decide_eq_true_eq] at h
  obtain ⟨⟨h3, h6, hc⟩, _⟩ := h
  exact ⟨h3, h6, by have := (count_small h3 h6).2.2.2; omega⟩
end Go.Proofs.Ytoajlmlobaccdaa.Pure
namespace Go.Proofs.Ytoajlmlobaccdaa.Pure
set_option linter.unusedSimpArgs false
set_option linter.unusedVariables false
def cellsL (q : Int) : Int → Int → List Int → List (Int × Int)
  | k, f, [] => [(f, k)]
  | k, f, p :: w => if p + 1 = q then (f, k) :: cellsL q (k + 1) k w else cellsL q (k + 1) f w
def ovl (a b : Int × Int) : Bool := decide (max a.1 b.1 < min a.2 b.2)
def rowS (a : Int × Int) : List (Int × Int) → List Int → Int
  | b :: B, x :: xs => (if ovl a b = true then x else 0) + rowS a B xs
  | _, _ => 0
def nextW (A B : List (Int × Int)) (ways : List Int) : List Int := A.map fun a => rowS a B ways
def specW (q : Int) : List Int → Bool → Int → List Int → List Int
  | ways, met, acc, [] => [if met = true then acc else acc + ways.headD 0]
  | ways, met, acc, p :: w =>
    if p = q then specW q ways.tail false (if met = true then acc else acc + ways.headD 0) w
    else if p + 1 = q then (if met = true then acc else acc + ways.headD 0) :: specW q ways false 0 w
    else specW q ways true (if met = true then acc else acc + ways.headD 0) w
def addH (c : Int) : List Int → List Int
  | x :: l => (c + x) :: l
  | [] => []
theorem cellsL_form (q : Int) : ∀ (w : List Int) (k f : Int), ∃ t A, cellsL q k f w = (f, t) :: A ∧ k ≤ t ∧ ∀ a ∈ A, k ≤ a.1
  | [], k, f => ⟨k, [], rfl, Int.le_refl _, fun a h => by cases h⟩
  | p :: w, k, f => by
    unfold cellsL
    split
    · obtain ⟨t, A, e, h1, h2⟩ := cellsL_form q w (k + 1) k
      refine ⟨k, _, rfl, Int.le_refl _, fun a ha => ?_⟩
      rw [e] at ha
      rcases List.mem_cons.1 ha with rfl | ha
      · exact Int.le_refl _
      · have := h2 a ha; omega
    · obtain ⟨t, A, e, h1, h2⟩ := cellsL_form q w (k + 1) f
      exact ⟨t, A, e, by omega, fun a ha => by have := h2 a ha; omega⟩
theorem cellsL_len (q : Int) : ∀ (w : List Int) (k f : Int), (cellsL q k f w).length ≤ w.length + 1
  | [], k, f => by simp [cellsL]
  | p :: w, k, f => by
    unfold cellsL
    have h1 := cellsL_len q w (k + 1) k
    have h2 := cellsL_len q w (k + 1) f
    split <;> simp only [List.length_cons] <;> omega
theorem rowS_far (a : Int × Int) : ∀ (B : List (Int × Int)) (ways : List Int), (∀ b ∈ B, ovl a b = false) → rowS a B ways = 0
  | [], _, _ => rfl
  | b :: B, [], _ => rfl
  | b :: B, x :: xs, h => by
    rw [rowS, h b List.mem_cons_self, if_neg (by simp), rowS_far a B xs (fun c hc => h c (List.mem_cons_of_mem _ hc))]
    rfl
theorem ovl_true {a b : Int × Int} {k : Int} (h1 : a.1 < k) (h2 : b.1 < k) (h3 : k ≤ a.2) (h4 : k ≤ b.2) : ovl a b = true := by
  unfold ovl; rw [decide_eq_true_eq]; omega
theorem ovl_false {a b : Int × Int} (h : a.2 ≤ b.1 ∨ b.2 ≤ a.1) : ovl a b = false := by
  unfold ovl; rw [decide_eq_false_iff_not]; omega
theorem specW_eq (q : Int) : ∀ (w : List Int) (k fa fb : Int) (ways : List Int) (met : Bool) (acc : Int), fa < k → fb < k → ways.length = (cellsL (q + 1) k fb w).length →
    specW q ways met acc w = addH (acc - (if met = true then ways.headD 0 else 0)) (nextW (cellsL q k fa w) (cellsL (q + 1) k fb w) ways)
  | [], k, fa, fb, ways, met, acc, ha, hb, hl => by
    match ways, hl with
    | [x], _ =>
      have ho : ovl (fa, k) (fb, k) = true := ovl_true (k := k) ha hb (Int.le_refl _) (Int.le_refl _)
      simp only [specW, cellsL, nextW, List.map_cons, List.map_nil, rowS, ho, addH, List.headD_cons, if_true]
      cases met <;> simp <;> omega
  | p :: w, k, fa, fb, ways, met, acc, ha, hb, hl => by
    by_cases h1 : p = q
    · have e1 : cellsL (q + 1) k fb (p :: w) = (fb, k) :: cellsL (q + 1) (k + 1) k w := by rw [cellsL, if_pos (by omega)]
      have e2 : cellsL q k fa (p :: w) = cellsL q (k + 1) fa w := by rw [cellsL, if_neg (by omega)]
      rw [e1] at hl ⊢
      rw [e2]
      cases ways with
      | nil => simp at hl
      | cons x xs =>
        have hl' : xs.length = (cellsL (q + 1) (k + 1) k w).length := by simpa using hl
        rw [specW, if_pos h1, List.tail_cons, specW_eq q w (k + 1) fa k xs false _ (by omega) (by omega) hl']
        obtain ⟨t, A, eA, hk, hA⟩ := cellsL_form q w (k + 1) fa
        rw [eA]
        have o1 : ovl (fa, t) (fb, k) = true := ovl_true (k := k) ha hb (by show k ≤ t; omega) (Int.le_refl _)
        simp only [nextW, List.map_cons, rowS, o1, addH, List.headD_cons, if_true]
        congr 1
        · cases met <;> simp <;> omega
        · refine List.map_congr_left fun a haA => ?_
          rw [ovl_false (.inr (by show k ≤ a.1; have := hA a haA; omega)), if_neg (by simp), Int.zero_add]
    · by_cases h2 : p + 1 = q
      · have e1 : cellsL (q + 1) k fb (p :: w) = cellsL (q + 1) (k + 1) fb w := by rw [cellsL, if_neg (by omega)]
        have e2 : cellsL q k fa (p :: w) = (fa, k) :: cellsL q (k + 1) k w := by rw [cellsL, if_pos h2]
        rw [e1] at hl ⊢
        rw [e2]
        rw [specW, if_neg h1, if_pos h2, specW_eq q w (k + 1) k fb ways false 0 (by omega) (by omega) hl]
        obtain ⟨t, B, eB, hk, hB⟩ := cellsL_form (q + 1) w (k + 1) fb
        have o1 : ∀ x xs, ways = x :: xs → rowS (fa, k) (cellsL (q + 1) (k + 1) fb w) ways = x := fun x xs e => by
          rw [eB, e, rowS, ovl_true (k := k) ha hb (Int.le_refl _) (by show k ≤ t; omega), if_pos rfl, rowS_far _ _ _ (fun b hbB => ovl_false (.inl (by show k ≤ b.1; have := hB b hbB; omega)))]
          omega
        cases hw : ways with
        | nil => rw [hw, eB] at hl; simp at hl
        | cons x xs =>
          have o2 := o1 x xs hw
          rw [hw] at o2
          obtain ⟨t2, A2, eA2, _, _⟩ := cellsL_form q w (k + 1) k
          simp only [nextW, List.map_cons, o2, addH, List.headD_cons]
          rw [eA2]
          simp only [List.map_cons, addH]
          congr 1
          · cases met <;> simp <;> omega
          · congr 1
            simp
      · have e1 : cellsL (q + 1) k fb (p :: w) = cellsL (q + 1) (k + 1) fb w := by rw [cellsL, if_neg (by omega)]
        have e2 : cellsL q k fa (p :: w) = cellsL q (k + 1) fa w := by rw [cellsL, if_neg (by omega)]
        rw [e1] at hl ⊢
        rw [e2, specW, if_neg h1, if_neg h2, specW_eq q w (k + 1) fa fb ways true _ (by omega) (by omega) hl]
        congr 1
        cases met <;> simp
end Go.Proofs.Ytoajlmlobaccdaa.Pure
namespace Go.Proofs.Ytoajlmlobaccdaa.Pure
set_option linter.unusedSimpArgs false
set_option linter.unusedVariables false
open Go.RowKit Go.Proofs.YtoajlmlobaccdaaW.PrintWords Go.Proofs.Ytoajlmlobaccdaa.P Go.Proofs.Ytoajlmlobaccdaa.Pl
def full (i : Int) : Int := wrap64 ((shl .i64 1 i) - 1)
def inC (n : Int) : Nat → Nat → CeS → CeS
  | 0, _, s => s
  | d + 1, i, s => inC n d (i + 1) (ceIn n s i (full i))
def runC : List Int → CeS → List Int → CeS
  | [], s, _ => s
  | p :: w, s, l => runC w (ceStep s (rd l p) (rd l (p + 1)) p) (swp l p)
def endC : Nat → Nat → CeS → CeS
  | 0, _, s => s
  | d + 1, i, s => endC d (i + 1) (ceEnd s i)
theorem ceIn_len (n : Int) (s : CeS) (i t : Int) : (ceIn n s i t).now.length = s.now.length ∧ (ceIn n s i t).out = s.out := by
  unfold ceIn ceNew ceD ceD2 ceD1
  constructor <;> (split <;> split <;> simp)
theorem ceStep_len (s : CeS) (a b p : Int) : (ceStep s a b p).now.length = s.now.length ∧ (ceStep s a b p).out.length = s.out.length ∧ (ceStep s a b p).cnt = wrap64 (s.cnt + 1) := by
  unfold ceStep ceD ceD2 ceD1 ceC ceB ceA
  simp
theorem ceEnd_len (s : CeS) (i : Int) : (ceEnd s i).now.length = s.now.length ∧ (ceEnd s i).out.length = s.out.length ∧ (ceEnd s i).cnt = s.cnt := by
  unfold ceEnd ceB ceA
  simp
theorem inC_len (n : Int) : ∀ d i (s : CeS), (inC n d i s).now.length = s.now.length ∧ (inC n d i s).out = s.out
  | 0, _, _ => ⟨rfl, rfl⟩
  | d + 1, i, s => by
    obtain ⟨h1, h2⟩ := inC_len n d (i + 1) (ceIn n s i (full i))
    obtain ⟨h3, h4⟩ := ceIn_len n s i (full i)
    exact ⟨h1.trans h3, h2.trans h4⟩
def frm (s : CeS) (q : Nat) : Int := (s.now.getD q Cel.z).f2
def ft (c : Cel) : Int × Int := (c.f2, c.f3)
def rws (s : CeS) (q : Nat) : List (Int × Int) := (s.out.getD q []).map ft
theorem celAt_nat (l : List Cel) (i : Int) : celAt l i = l.getD i.toNat Cel.z := rfl
theorem getD_set {α : Type} (l : List α) (i j : Nat) (x z : α) (hi : i < l.length) : (l.set i x).getD j z = if i = j then x else l.getD j z := by
  rw [List.getD_eq_getElem?_getD, List.getD_eq_getElem?_getD, List.getElem?_set]
  by_cases h : i = j
  · subst h; simp [hi]
  · simp [h]
theorem frm_now (s : CeS) (i : Int) (x : Cel) (q : Nat) (hi : i.toNat < s.now.length) : frm { s with now := s.now.set i.toNat x } q = if i.toNat = q then x.f2 else frm s q := by
  unfold frm
  show ((s.now.set i.toNat x).getD q Cel.z).f2 = _
  rw [getD_set _ _ _ _ _ hi]
  split <;> rfl
theorem frm_D (s : CeS) (a i : Int) (q : Nat) (hi : i.toNat < s.now.length) : frm (ceD s a i) q = frm s q := by
  have h2 : i.toNat < (ceD1 s i).now.length := by unfold ceD1; simp; exact hi
  unfold ceD ceD2
  rw [frm_now _ _ _ _ h2]
  split
  · rename_i e
    subst e
    show (celAt (ceD1 s i).now i).f2 = _
    rw [celAt_nat]
    show frm (ceD1 s i) i.toNat = _
    unfold ceD1
    rw [frm_now _ _ _ _ hi, if_pos rfl]
    rfl
  · unfold ceD1
    rw [frm_now _ _ _ _ hi]
    split
    · rename_i e; subst e; rfl
    · rfl
theorem rws_out (s : CeS) (i : Int) (x : List Cel) (q : Nat) (hi : i.toNat < s.out.length) : rws { s with out := s.out.set i.toNat x } q = if i.toNat = q then x.map ft else rws s q := by
  unfold rws
  show ((s.out.set i.toNat x).getD q []).map ft = _
  rw [getD_set _ _ _ _ _ hi]
  split <;> rfl
theorem step_frm (s : CeS) (a b : Int) (p : Nat) (hp : p + 2 < s.now.length) (ho : p + 1 < s.out.length) (q : Nat) :
    frm (ceStep s a b p) q = (if p + 1 = q then s.cnt else frm s q) ∧ rws (ceStep s a b p) q = (if p + 1 = q then rws s q ++ [(frm s q, s.cnt)] else rws s q) := by
  have e1 : ((p : Int) + 1).toNat = p + 1 := by omega
  have e2 : ((p : Int) + 2).toNat = p + 2 := by omega
  have e0 : ((p : Int)).toNat = p := by omega
  obtain ⟨sA, hA⟩ : ∃ t, t = ceA s ((p : Int) + 1) := ⟨_, rfl⟩
  obtain ⟨sB, hB⟩ : ∃ t, t = ceB sA ((p : Int) + 1) := ⟨_, rfl⟩
  obtain ⟨sC, hC⟩ : ∃ t, t = ceC sB a b ((p : Int) + 1) := ⟨_, rfl⟩
  have lA : sA.now.length = s.now.length ∧ sA.out = s.out ∧ sA.cnt = s.cnt := by rw [hA]; unfold ceA; simp
  have lB : sB.now = sA.now ∧ sB.out.length = sA.out.length ∧ sB.cnt = sA.cnt := by rw [hB]; unfold ceB; simp
  have lC : sC.now.length = sB.now.length ∧ sC.out = sB.out ∧ sC.cnt = sB.cnt := by rw [hC]; unfold ceC; simp
  have eS : ceStep s a b p = { ceD (ceD sC b p) a ((p : Int) + 2) with cnt := wrap64 ((ceD (ceD sC b p) a ((p : Int) + 2)).cnt + 1) } := by unfold ceStep; rw [← hA, ← hB, ← hC]
  rw [eS]
  have fA : ∀ q, frm sA q = frm s q := fun q => by
    rw [hA]; unfold ceA; rw [frm_now _ _ _ _ (by rw [e1]; omega)]
    split
    · rename_i e; subst e; rfl
    · rfl
  constructor
  · show frm (ceD (ceD sC b p) a ((p : Int) + 2)) q = _
    rw [frm_D _ _ _ _ (by rw [e2]; unfold ceD ceD2 ceD1; simp; rw [lC.1, lB.1, lA.1]; exact hp), frm_D _ _ _ _ (by rw [e0, lC.1, lB.1, lA.1]; omega), hC]
    unfold ceC
    rw [frm_now _ _ _ _ (by rw [e1, lB.1, lA.1]; omega), e1]
    split
    · exact (lB.2.2.trans lA.2.2)
    · unfold frm; rw [lB.1]; exact fA q
  · show rws (ceD (ceD sC b p) a ((p : Int) + 2)) q = _
    have e3 : rws (ceD (ceD sC b p) a ((p : Int) + 2)) q = rws sB q := by unfold rws; rw [show (ceD (ceD sC b p) a ((p : Int) + 2)).out = sB.out from lC.2.1]
    rw [e3, hB]
    unfold ceB
    rw [rws_out _ _ _ _ (by rw [e1, lA.2.1]; exact ho), e1]
    split
    · rename_i e
      rw [List.map_append, List.map_singleton]
      unfold rws
      rw [← e, lA.2.1]
      congr 2
      show ft (celAt sA.now ((p : Int) + 1)) = (frm s (p + 1), s.cnt)
      rw [celAt_nat, e1, hA]
      unfold ceA
      show ft ((s.now.set ((p : Int) + 1).toNat _).getD (p + 1) Cel.z) = _
      rw [getD_set _ _ _ _ _ (by rw [e1]; omega), if_pos e1]
      unfold ft frm
      rw [celAt_nat, e1]
    · unfold rws; rw [lA.2.1]
theorem end_frm (s : CeS) (p : Nat) (hp : p < s.now.length) (ho : p < s.out.length) (q : Nat) :
    frm (ceEnd s p) q = frm s q ∧ rws (ceEnd s p) q = (if p = q then rws s q ++ [(frm s q, s.cnt)] else rws s q) := by
  have e0 : ((p : Int)).toNat = p := by omega
  obtain ⟨sA, hA⟩ : ∃ t, t = ceA s (p : Int) := ⟨_, rfl⟩
  have lA : sA.now.length = s.now.length ∧ sA.out = s.out ∧ sA.cnt = s.cnt := by rw [hA]; unfold ceA; simp
  have eS : ceEnd s p = ceB sA p := by unfold ceEnd; rw [← hA]
  rw [eS]
  constructor
  · show frm sA q = _
    rw [hA]; unfold ceA; rw [frm_now _ _ _ _ (by rw [e0]; omega)]
    split
    · rename_i e; subst e; rfl
    · rfl
  · unfold ceB
    rw [rws_out _ _ _ _ (by rw [e0, lA.2.1]; exact ho), e0]
    split
    · rename_i e
      rw [List.map_append, List.map_singleton]
      unfold rws
      rw [← e, lA.2.1]
      congr 2
      show ft (celAt sA.now (p : Int)) = (frm s p, s.cnt)
      rw [celAt_nat, e0, hA]
      unfold ceA
      show ft ((s.now.set (p : Int).toNat _).getD p Cel.z) = _
      rw [getD_set _ _ _ _ _ (by rw [e0]; omega), if_pos e0]
      unfold ft frm
      rw [celAt_nat, e0]
    · unfold rws; rw [lA.2.1]
theorem rd_nonneg {l : List Int} (h : ∀ x ∈ l, 0 ≤ x) (p : Int) : 0 ≤ rd l p := by
  unfold rd
  rw [List.getD_eq_getElem?_getD]
  rcases Nat.lt_or_ge p.toNat l.length with h1 | h1
  · rw [List.getElem?_eq_getElem h1]; exact h _ (List.getElem_mem h1)
  · rw [List.getElem?_eq_none h1]; exact Int.le_refl _
theorem mem_set_of {l : List Int} {i : Nat} {y x : Int} (h : x ∈ l.set i y) : x = y ∨ x ∈ l := by
  rcases List.mem_or_eq_of_mem_set h with h | h
  · exact .inr h
  · exact .inl h
theorem swp_nonneg {l : List Int} (h : ∀ x ∈ l, 0 ≤ x) (p : Int) : ∀ x ∈ swp l p, 0 ≤ x := by
  intro x hx
  unfold swp at hx
  rcases mem_set_of hx with rfl | hx
  · exact rd_nonneg h _
  rcases mem_set_of hx with rfl | hx
  · exact rd_nonneg h _
  · exact h x hx
theorem run_ce_ev (n : Nat) (hn : 2 ≤ n) (hn6 : n ≤ 1000) (w : List Int) (hw : w.length ≤ 1000) : ∀ d i, i + d = w.length → ∀ (l r : List Int) (s : CeS), runW l (w.drop i) = some r → l.length = n → (∀ x ∈ l, 0 ≤ x) → s.now.length = n + 1 → s.out.length = n + 1 → (∀ q, (rws s q).length ≤ i) →
    Ev (fun k => impl_run_ce.l0 k n l s w w.length i) (true, runC (w.drop i) s l)
  | 0, i, hi, l, r, s, hr, hl, h0, hn1, ho1, hq => by
    refine Ev.step (fun k => impl_run_ce.l0.eq_2 ..) (Ev.ite_neg (by omega) (Ev.const ?_))
    rw [List.drop_of_length_le (by omega)]
    rfl
  | d + 1, i, hi, l, r, s, hr, hl, h0, hn1, ho1, hq => by
    refine Ev.step (fun k => impl_run_ce.l0.eq_2 ..) ?_
    rw [drop_rd w i (by omega)] at hr ⊢
    generalize rd w (i : Int) = p at hr ⊢
    unfold runW at hr
    by_cases ho : okAt l p
    · rw [if_pos ho] at hr
      obtain ⟨o1, o2, o3⟩ := ho
      refine Ev.ite_pos (by omega) (Ev.ite_pos (by omega) (Ev.ite_pos (by omega) ?_))
      rw [wrap_in (n := (n : Int) - 2) (by omega) (by omega), wrap_in (n := p + 1) (by omega) (by omega)]
      obtain ⟨m, rfl⟩ : ∃ m : Nat, p = m := ⟨p.toNat, by omega⟩
      have hm : m + 2 < s.now.length ∧ m + 1 < s.out.length := by omega
      have hok : ceOk s (rd l m) (rd l ((m : Int) + 1)) m := by
        refine ⟨rd_nonneg h0 _, rd_nonneg h0 _, by omega, by omega, ?_⟩
        have h1 := hq ((m : Int) + 1).toNat
        unfold rws at h1
        rw [List.length_map] at h1
        omega
      refine Ev.ite_neg (by omega) (Ev.ite_neg (by omega) (Ev.ite_pos (by omega) (Ev.ite_pos (by omega) (Ev.ite_pos (by omega) (Ev.ite_pos (by omega) (Ev.ite_neg (by omega) (Ev.ite_pos hok ?_)))))))
      rw [wrap_nat i (by omega), runC]
      obtain ⟨l1, l2, l3⟩ := ceStep_len s (rd l m) (rd l ((m : Int) + 1)) m
      refine run_ce_ev n hn hn6 w hw d (i + 1) (by omega) (swp l m) r _ hr (by rw [swp_length]; exact hl) (swp_nonneg h0 _) (by rw [l1]; exact hn1) (by rw [l2]; exact ho1) (fun q => ?_)
      rw [(step_frm s _ _ m hm.1 hm.2 q).2]
      have h1 := hq q
      split
      · rw [List.length_append, List.length_singleton]; omega
      · omega
    · rw [if_neg ho] at hr
      cases hr
theorem inC_ev (n : Nat) (hn : n ≤ 60) : ∀ d i, i + d = n + 1 → ∀ s : CeS, Ev (fun k => impl_cellsOf.l0 k n s i) (inC n d i s)
  | 0, i, hi, s => Ev.step (fun k => impl_cellsOf.l0.eq_2 ..) (Ev.ite_neg (by omega) (Ev.now _))
  | d + 1, i, hi, s => by
    refine Ev.step (fun k => impl_cellsOf.l0.eq_2 ..) (Ev.ite_pos (by omega) (Ev.bind0 (a := full i) ?_ ?_))
    · unfold impl_fullSet.f full
      rw [if_pos (by omega)]
    · exact inC_ev n hn d (i + 1) (by omega) _
theorem endC_ev (m : Nat) (hm : m ≤ 1000) : ∀ d i, i + d = m → ∀ s : CeS, s.now.length = m → s.out.length = m → (∀ q, (rws s q).length ≤ 1000 + i) → Ev (fun k => impl_cellsOf.l1 k s i) (endC d i s)
  | 0, i, hi, s, h1, h2, hq => Ev.step (fun k => impl_cellsOf.l1.eq_2 ..) (Ev.ite_neg (by omega) (Ev.now _))
  | d + 1, i, hi, s, h1, h2, hq => by
    obtain ⟨l1, l2, l3⟩ := ceEnd_len s (i : Int)
    refine Ev.step (fun k => impl_cellsOf.l1.eq_2 ..) (Ev.ite_pos (by omega) (Ev.ite_pos ⟨by omega, ?_⟩ ?_))
    · have h := hq i
      unfold rws at h
      rw [List.length_map] at h
      rw [show (i : Int).toNat = i by omega]
      omega
    · refine endC_ev m hm d (i + 1) (by omega) _ (by rw [l1]; exact h1) (by rw [l2]; exact h2) (fun q => ?_)
      rw [(end_frm s i (by omega) (by omega) q).2]
      have h := hq q
      split
      · rw [List.length_append, List.length_singleton]; omega
      · omega
def cellsS (n : Int) (w : List Int) : CeS := endC (n.toNat + 1) 0 (runC w { inC n (n.toNat + 1) 0 (ceStart n) with cnt := 0 } (upTo n.toNat))
def cellsP (n : Int) (w : List Int) : List (List Cel) := (cellsS n w).out
theorem runC_len : ∀ (w : List Int) (s : CeS) (l : List Int), (runC w s l).now.length = s.now.length ∧ (runC w s l).out.length = s.out.length
  | [], _, _ => ⟨rfl, rfl⟩
  | p :: w, s, l => by
    obtain ⟨h1, h2⟩ := runC_len w (ceStep s (rd l p) (rd l (p + 1)) p) (swp l p)
    obtain ⟨l1, l2, _⟩ := ceStep_len s (rd l p) (rd l (p + 1)) p
    exact ⟨h1.trans l1, h2.trans l2⟩
theorem runC_rows : ∀ (w l r : List Int) (n : Nat) (s : CeS) (i : Nat), runW l w = some r → l.length = n → s.now.length = n + 1 → s.out.length = n + 1 → i + w.length ≤ 1000 → s.cnt = i → (∀ q, (rws s q).length ≤ i) →
    (∀ q, (rws (runC w s l) q).length ≤ i + w.length) ∧ (runC w s l).cnt = ((i + w.length : Nat) : Int) ∧ ∀ q : Nat, rws (runC w s l) q ++ [(frm (runC w s l) q, (runC w s l).cnt)] = rws s q ++ cellsL q s.cnt (frm s q) w
  | [], l, r, n, s, i, hr, hl, h1, h2, hi, hc, hq => ⟨fun q => by have := hq q; simpa [runC] using this, by simpa [runC] using hc, fun q => rfl⟩
  | p :: w, l, r, n, s, i, hr, hl, h1, h2, hi, hc, hq => by
    unfold runW at hr
    by_cases ho : okAt l p
    · rw [if_pos ho] at hr
      obtain ⟨o1, o2, o3⟩ := ho
      obtain ⟨m, rfl⟩ : ∃ m : Nat, p = m := ⟨p.toNat, by omega⟩
      have hm : m + 2 < s.now.length ∧ m + 1 < s.out.length := by omega
      obtain ⟨l1, l2, l3⟩ := ceStep_len s (rd l m) (rd l ((m : Int) + 1)) m
      have e3 : (ceStep s (rd l m) (rd l ((m : Int) + 1)) m).cnt = ((i + 1 : Nat) : Int) := by rw [l3, hc]; rw [List.length_cons] at hi; exact wrap_nat i (by omega)
      have hs := step_frm s (rd l m) (rd l ((m : Int) + 1)) m hm.1 hm.2
      rw [List.length_cons] at hi
      obtain ⟨g1, g2, g3⟩ := runC_rows w (swp l m) r n (ceStep s (rd l m) (rd l ((m : Int) + 1)) m) (i + 1) hr (by rw [swp_length]; exact hl) (by rw [l1]; exact h1) (by rw [l2]; exact h2) (by omega) e3 (fun q => by
        rw [(hs q).2]
        have h := hq q
        split
        · rw [List.length_append, List.length_singleton]; omega
        · omega)
      refine ⟨fun q => ?_, ?_, fun q => ?_⟩
      · rw [runC, List.length_cons]; have := g1 q; omega
      · rw [runC, g2, List.length_cons]; congr 1; omega
      · rw [runC, g3 q, (hs q).1, (hs q).2, e3, cellsL, hc]
        by_cases e : m + 1 = q
        · rw [if_pos e, if_pos e, if_pos (by omega), List.append_assoc]; rfl
        · rw [if_neg e, if_neg e, if_neg (by omega)]; rfl
    · rw [if_neg ho] at hr
      cases hr
theorem frm_in (n : Int) (s : CeS) (i : Nat) (t : Int) (hi : i < s.now.length) (q : Nat) : frm (ceIn n s i t) q = if i = q then -1 else frm s q := by
  have e0 : ((i : Int)).toNat = i := by omega
  have hN : ∀ q, frm (ceNew s i t) q = if i = q then -1 else frm s q := fun q => by
    unfold ceNew; rw [frm_now _ _ _ _ (by rw [e0]; exact hi), e0]
  have lN : (ceNew s i t).now.length = s.now.length := by unfold ceNew; simp
  have lD : ∀ (s : CeS) a, (ceD s a i).now.length = s.now.length := fun s a => by unfold ceD ceD2 ceD1; simp
  unfold ceIn
  split <;> split
  · show frm (ceD (ceD (ceNew s i t) ((i : Int) - 1) i) i i) q = _
    rw [frm_D _ _ _ _ (by rw [e0, lD, lN]; exact hi), frm_D _ _ _ _ (by rw [e0, lN]; exact hi)]; exact hN q
  · show frm (ceD (ceNew s i t) ((i : Int) - 1) i) q = _
    rw [frm_D _ _ _ _ (by rw [e0, lN]; exact hi)]; exact hN q
  · show frm (ceD (ceNew s i t) i i) q = _
    rw [frm_D _ _ _ _ (by rw [e0, lN]; exact hi)]; exact hN q
  · exact hN q
theorem frm_inC (n : Int) : ∀ d i (s : CeS), i + d ≤ s.now.length → ∀ q, frm (inC n d i s) q = if i ≤ q ∧ q < i + d then -1 else frm s q
  | 0, i, s, h, q => by rw [if_neg (by omega)]; rfl
  | d + 1, i, s, h, q => by
    show frm (inC n d (i + 1) (ceIn n s i (full i))) q = _
    rw [frm_inC n d (i + 1) _ (by rw [(ceIn_len n s i (full i)).1]; omega) q, frm_in n s i _ (by omega) q]
    by_cases h1 : i + 1 ≤ q ∧ q < i + 1 + d
    · rw [if_pos h1, if_pos (by omega)]
    · rw [if_neg h1]
      by_cases h2 : i = q
      · rw [if_pos h2, if_pos (by omega)]
      · rw [if_neg h2, if_neg (by omega)]
theorem endC_rows : ∀ d i (s : CeS), i + d = s.now.length → s.out.length = s.now.length → ∀ q, rws (endC d i s) q = (if i ≤ q ∧ q < i + d then rws s q ++ [(frm s q, s.cnt)] else rws s q) ∧ (endC d i s).out.length = s.out.length
  | 0, i, s, h, ho, q => by rw [if_neg (by omega)]; exact ⟨rfl, rfl⟩
  | d + 1, i, s, h, ho, q => by
    obtain ⟨l1, l2, l3⟩ := ceEnd_len s (i : Int)
    obtain ⟨e1, e2⟩ := end_frm s i (by omega) (by omega) q
    obtain ⟨g1, g2⟩ := endC_rows d (i + 1) (ceEnd s i) (by rw [l1]; omega) (by rw [l1, l2]; exact ho) q
    refine ⟨?_, g2.trans l2⟩
    show rws (endC d (i + 1) (ceEnd s i)) q = _
    rw [g1, e1, e2, l3]
    by_cases h1 : i + 1 ≤ q ∧ q < i + 1 + d
    · rw [if_pos h1, if_neg (by omega), if_pos (by omega)]
    · rw [if_neg h1]
      by_cases h2 : i = q
      · rw [if_pos h2, if_pos (by omega)]
      · rw [if_neg h2, if_neg (by omega)]
theorem runW_of (n : Int) (w : List Int) (h : isW n w = true) : ∃ r, runW (upTo n.toNat) w = some r := by
  unfold isW at h
  rw [Bool.and_eq_true] at h
  exact Option.isSome_iff_exists.1 h.2
theorem upTo_nonneg (n : Nat) : ∀ x ∈ upTo n, 0 ≤ x := by
  intro x hx
  unfold upTo at hx
  obtain ⟨i, _, rfl⟩ := List.mem_map.1 hx
  omega
theorem start_facts (n : Int) (w : List Int) (h : isW n w = true) : ∃ s : CeS, s = { inC n (n.toNat + 1) 0 (ceStart n) with cnt := 0 } ∧ s.now.length = n.toNat + 1 ∧ s.out.length = n.toNat + 1 ∧ (∀ q, rws s q = []) ∧ (∀ q, q ≤ n.toNat → frm s q = -1) ∧ s.cnt = 0 := by
  obtain ⟨h3, h6, hl⟩ := isW_bounds h
  have hs : (n + 1).toNat = n.toNat + 1 := by omega
  have l0 : (ceStart n).now.length = n.toNat + 1 ∧ (ceStart n).out = List.replicate (n.toNat + 1) [] := by unfold ceStart; rw [hs]; simp
  obtain ⟨l1, l2⟩ := inC_len n (n.toNat + 1) 0 (ceStart n)
  refine ⟨_, rfl, l1.trans l0.1, ?_, fun q => ?_, fun q hq => ?_, rfl⟩
  · show (inC n (n.toNat + 1) 0 (ceStart n)).out.length = _
    rw [l2, l0.2, List.length_replicate]
  · unfold rws
    show ((inC n (n.toNat + 1) 0 (ceStart n)).out.getD q []).map ft = []
    rw [l2, l0.2, List.getD_eq_getElem?_getD, List.getElem?_replicate]
    split <;> rfl
  · show frm (inC n (n.toNat + 1) 0 (ceStart n)) q = -1
    rw [frm_inC n (n.toNat + 1) 0 (ceStart n) (by rw [l0.1]; omega) q, if_pos (by omega)]
theorem cellsOf_ev (n : Int) (w : List Int) (h : isW n w = true) : Ev (fun k => impl_cellsOf.f k n w) (cellsP n w) := by
  obtain ⟨h3, h6, hl⟩ := isW_bounds h
  obtain ⟨r, hr⟩ := runW_of n w h
  obtain ⟨s, hs, s1, s2, s3, s4, s5⟩ := start_facts n w h
  obtain ⟨m, rfl⟩ : ∃ m : Nat, n = m := ⟨n.toNat, by omega⟩
  rw [show (m : Int).toNat = m by omega] at *
  unfold impl_cellsOf.f
  refine Ev.ite_pos (by omega) (Ev.bind (inC_ev m (by omega) (m + 1) 0 (by omega) (ceStart m)) ?_)
  rw [← hs]
  refine Ev.bind (a := (true, runC w s (upTo m))) ?_ ?_
  · unfold impl_run_ce.f
    refine Ev.bind (impl_upTo_ev m (by omega)) ?_
    have h := run_ce_ev m (by omega) (by omega) w (by omega) w.length 0 (by omega) (upTo m) r s (by simpa using hr) (upTo_length m) (upTo_nonneg m) s1 s2 (fun q => by rw [s3 q]; exact Nat.le_refl _)
    simpa using h
  · obtain ⟨g1, g2, g3⟩ := runC_rows w (upTo m) r m s 0 hr (upTo_length m) s1 s2 (by omega) (by rw [s5]; rfl) (fun q => by rw [s3 q]; exact Nat.le_refl _)
    obtain ⟨q1, q2⟩ := runC_len w s (upTo m)
    refine Ev.bind (endC_ev (m + 1) (by omega) (m + 1) 0 (by omega) (runC w s (upTo m)) (by rw [q1]; exact s1) (by rw [q2]; exact s2) (fun q => by have := g1 q; omega)) (Ev.const ?_)
    unfold cellsP cellsS
    rw [show (m : Int).toNat = m by omega, ← hs]
theorem cellsP_rows (n : Int) (w : List Int) (h : isW n w = true) : (cellsP n w).length = n.toNat + 1 ∧ ∀ q, q ≤ n.toNat → ((cellsP n w).getD q []).map ft = cellsL q 0 (-1) w := by
  obtain ⟨h3, h6, hl⟩ := isW_bounds h
  obtain ⟨r, hr⟩ := runW_of n w h
  obtain ⟨s, hs, s1, s2, s3, s4, s5⟩ := start_facts n w h
  obtain ⟨g1, g2, g3⟩ := runC_rows w (upTo n.toNat) r n.toNat s 0 hr (upTo_length _) s1 s2 (by omega) (by rw [s5]; rfl) (fun q => by rw [s3 q]; exact Nat.le_refl _)
  obtain ⟨q1, q2⟩ := runC_len w s (upTo n.toNat)
  have E := endC_rows (n.toNat + 1) 0 (runC w s (upTo n.toNat)) (by rw [q1, s1]; omega) (by rw [q1, q2, s1, s2])
  have e1 : cellsP n w = (endC (n.toNat + 1) 0 (runC w s (upTo n.toNat))).out := by unfold cellsP cellsS; rw [← hs]
  rw [e1]
  refine ⟨(E 0).2.trans (q2.trans s2), fun q hq => ?_⟩
  have h1 := (E q).1
  rw [if_pos (by omega), g3 q, s3 q, s4 q hq, s5] at h1
  exact h1
end Go.Proofs.Ytoajlmlobaccdaa.Pure
