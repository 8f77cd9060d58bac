/- What the law FnExactMutationPath reaches, part 5: functions as plain Lean functions with the proofs that their calls come to them, and plain lemmas over these. Put together by a program (wip/pack.py). -/
import Derived.Test.YtoajlmlobaccdaaKFnExactMutationPathd
import Derived.Test.YtoajlmlobaccdaaKFnExactMutationPathc
namespace Go.Proofs.Ytoajlmlobaccdaa.P
open Go.RowKit Go.Proofs.YtoajlmlobaccdaaW.PrintWords Go.Proofs.YtoajlmlobaccdaaW.PrintLast Go.Proofs.YtoajlmlobaccdaaW.PrintMore
attribute [local go_sem] ptrOf_slice
attribute [local go_sem] min2_str max2_int min2_int max_two min_two max_three min_three max_four min_four
set_option linter.unusedVariables false
set_option linter.unusedSimpArgs false
mutual
def spec_AreSigns.j0 : Nat → Bool → Int → ByteArray → Option (Bool)
 | 0, _, _, _ => none
 | k + 1, x24, x159000, x159001 => if x24 = true then (some false) else (spec_AreSigns.l0 k 0 x159000 x159001)
def spec_AreSigns.l0 : Nat → Int → Int → ByteArray → Option (Bool)
 | 0, _, _, _ => none
 | k + 1, x3, x159000, x159001 => if x3 < (x159001.size : Int) then (if 0 ≤ x3 then (if (bt x159001 x3) = 43 then (spec_AreSigns.l0 k (wrap64 (x3 + 1)) x159000 x159001) else (if (bt x159001 x3) = 45 then (spec_AreSigns.l0 k (wrap64 (x3 + 1)) x159000 x159001) else (some false))) else (none)) else (some true)
end
def spec_AreSigns.f (k : Nat) (a0_0 : Int) (a0_1 : ByteArray) : Option (Bool) := (spec_l1In.f a0_0 3 7).bind fun t159 => (if t159 = true then (spec_AreSigns.j0 k ((a0_1.size : Int) != (wrap64 (Int.tdiv (wrap64 ((wrap64 (a0_0 * (wrap64 (a0_0 - 1)))) * (wrap64 (a0_0 - 2)))) 6))) a0_0 a0_1) else (spec_AreSigns.j0 k true a0_0 a0_1))
theorem spec_AreSigns.mono_l : ∀ k, (∀ y0 y1 y2, LeO (spec_AreSigns.j0 k y0 y1 y2) (spec_AreSigns.j0 (k + 1) y0 y1 y2)) ∧ (∀ y0 y1 y2, LeO (spec_AreSigns.l0 k y0 y1 y2) (spec_AreSigns.l0 (k + 1) y0 y1 y2))
 | 0 => ⟨fun _ _ _ r h => by simp [spec_AreSigns.j0] at h, fun _ _ _ r h => by simp [spec_AreSigns.l0] at h⟩
 | k + 1 => by
  obtain ⟨ih0, ih1⟩ := spec_AreSigns.mono_l k; refine ⟨?_, ?_⟩ <;> (intros; (first | unfold spec_AreSigns.j0 | unfold spec_AreSigns.l0); repeat' first | (with_reducible first | apply ih0 | apply ih1 | exact LeO.refl _ | exact LeO.none _ | refine LeO.ite ?_ ?_ | refine LeO.bind ?_ (fun _ => ?_)) | exact LeO.none _)
theorem spec_AreSigns.mono : ∀ a0 a1 k, LeO (spec_AreSigns.f k a0 a1) (spec_AreSigns.f (k + 1) a0 a1) := by
 intro a0 a1 k; obtain ⟨ih0, ih1⟩ := spec_AreSigns.mono_l k; unfold spec_AreSigns.f
 repeat' first | (with_reducible first | apply ih0 | apply ih1 | exact LeO.refl _ | exact LeO.none _ | refine LeO.ite ?_ ?_ | refine LeO.bind ?_ (fun _ => ?_)) | exact LeO.none _
set_option maxHeartbeats 8000000 in
set_option maxRecDepth 100000 in
theorem spec_AreSigns.calls (k : Nat) (a0_0 : Int) (a0_1 : ByteArray) (r : Bool) (w : World) (h : spec_AreSigns.f k a0_0 a0_1 = some r) :
  Calls Try.prog 137 #[.agg #[.int .i64 a0_0, .string a0_1]] w fun e w' => e = .returned (.bool r) ∧ Below w.heap.size w w' := by
 have hu31 := Try.underlying31; have HB := am_ (Below.refl w.heap.size w); have H : ((spec_l1In.f a0_0 3 7).bind fun t159 => (if t159 = true then (spec_AreSigns.j0 k ((a0_1.size : Int) != (wrap64 (Int.tdiv (wrap64 ((wrap64 (a0_0 * (wrap64 (a0_0 - 1)))) * (wrap64 (a0_0 - 2)))) 6))) a0_0 a0_1) else (spec_AreSigns.j0 k true a0_0 a0_1))) = some r := h; clear h; have HC2 := am_ H; clear H; go_enter Try.func137, Try.ntmps137
 go_upto_region 1 with (first | ((with_reducible refine gd_ 1 rfl ?_); (try (refine gate_guard (by rfl) ?_; dsimp only)); refine be_ 1 #[.int .i64 a0_0, .string a0_1] 31 ?_; intro gb158 hg w3 hbox hb; have BK158 := am_ hbox; have GW158 := gw0_ HB hg; have GE158 := GW158; replace HB := bs0_ HB hb; clear hb hbox hg))
 (try simp only [Act.put, sA_, sZ_, sS_])
 go_cut [24] (fun v24 wc => ∃ (kq : Nat) (x24_1 : Bool), v24 = .bool x24_1 ∧ Aside0 (spec_AreSigns.j0 kq x24_1 a0_0 a0_1 = some r) ∧ Aside0 (kq ≤ k) ∧ Aside0 (wc.heap[gb158]? = some (.cells #[.int .i64 a0_0, .string a0_1] 31 (0, 0))) ∧ Aside0 (Below w.heap.size w wc))
 case first =>
  have H := HC2.out; clear HC2; obtain ⟨t159, A4, H⟩ := bnd_ H; by_cases c5 : t159 = true
  ·subst c5; replace H := ifT_ H; have H' := am_ H; clear H; obtain ⟨hcz6_0, hfz6_0, hcz6_1, hfz6_1⟩ := bk2_ BK158; go_wp2_with (first | ((with_reducible refine gc_ 79 rfl ?_); refine gP_ (some 6) Try.func79 #[.int .i64 a0_0, .int .i64 3, .int .i64 7] (spec_l1In.calls a0_0 3 7 true _ A4.out) ?_; intro nd))
   go_meet
   case rel => exact ⟨_, (((a0_1.size : Int) != (wrap64 (Int.tdiv (wrap64 ((wrap64 (a0_0 * (wrap64 (a0_0 - 1)))) * (wrap64 (a0_0 - 2)))) 6)))), vt_, H', le_, kX_ BK158, bX1_ HB GE158⟩
  ·replace c5 := Bool.eq_false_iff.mpr c5; subst c5; replace H := ifF_ H; have H' := am_ H; clear H; obtain ⟨hcz7_0, hfz7_0, hcz7_1, hfz7_1⟩ := bk2_ BK158; go_wp2_with (first | ((with_reducible refine gc_ 79 rfl ?_); refine gP_ (some 6) Try.func79 #[.int .i64 a0_0, .int .i64 3, .int .i64 7] (spec_l1In.calls a0_0 3 7 false _ A4.out) ?_; intro nd))
   go_meet
   case rel => exact ⟨_, (true), vt_, H', le_, kX_ BK158, bX1_ HB GE158⟩
 case rest =>
  clear HC2; obtain ⟨kq, x24_1, rfl, HA, HJ1, BK158, HB⟩ := hcut; cases kq with
  | zero => exact absurd HA.out (by simp [spec_AreSigns.j0])
  | succ kj1 =>
   have H := HA.out; clear HA; simp only [spec_AreSigns.j0] at H
   by_cases c8 : x24_1 = true
   ·subst c8; replace H := ifT_ H; obtain rfl := Option.some.inj H; go_wp2; go_ret; exact ⟨er_, bx1 HB.out GE158.out⟩
   ·replace c8 := Bool.eq_false_iff.mpr c8; subst c8; replace H := ifF_ H; have H' := am_ H; clear H; go_wp2; go_loopg [3] kj1 (fun kq v3 w' => ∃ (x3_2 : Int), v3 = .int .i64 x3_2 ∧ Aside0 (spec_AreSigns.l0 kq x3_2 a0_0 a0_1 = some r) ∧ Aside0 (kq ≤ kj1) ∧ Aside0 (w'.heap[gb158]? = some (.cells #[.int .i64 a0_0, .string a0_1] 31 (0, 0))) ∧ Aside0 (Below w.heap.size w w'))
    case atStart => exact ⟨(0), vt_, H', ⟨Nat.le_refl _⟩, kX_ BK158, bX1_ HB GE158⟩
    case round =>
     clear H'; try clear c8
     obtain ⟨x3_2, rfl, HA, HK2, BK158, HB⟩ := hrel; cases gk with
     | zero => exact absurd HA.out (by simp [spec_AreSigns.l0])
     | succ k2 =>
      have H := HA.out; clear HA; simp only [spec_AreSigns.l0] at H
      by_cases c9 : x3_2 < (a0_1.size : Int)
      ·rw [if_pos c9] at H; have c9b0 := decide_eq_true c9; clear c9; by_cases c10 : 0 ≤ x3_2
       ·rw [if_pos c10] at H; have c10b0 := decide_eq_true c10; clear c10; by_cases c12 : (bt a0_1 x3_2) = 43
        ·rw [if_pos c12] at H; obtain ⟨c12b0, c12b1⟩ := eqT_ c12; clear c12; have H' := am_ H; clear H; obtain ⟨hcz13_0, hfz13_0, hcz13_1, hfz13_1⟩ := bk2_ BK158; have p11 : 0 ≤ (x3_2 : Int) := oda_; have q11 : x3_2 < (a0_1.size : Int) := oda_; have hx11 := bt_at a0_1 x3_2; replace p11 := eq_true p11; replace q11 := eq_true q11; go_wp2; go_roundg k2
         case measure => have := HJ1.out; have := HK2.out; omega
         case rel => exact ⟨(wrap64 (x3_2 + 1)), vt_, H', hl2_ HJ1 HK2, kX_ BK158, bX1_ HB GE158⟩
        ·rw [if_neg c12] at H; obtain ⟨c12b0, c12b1⟩ := eqF_ c12; by_cases c15 : (bt a0_1 x3_2) = 45
         ·rw [if_pos c15] at H; obtain ⟨c15b0, c15b1⟩ := eqT_ c15; clear c15; have H' := am_ H; clear H; obtain ⟨hcz16_0, hfz16_0, hcz16_1, hfz16_1⟩ := bk2_ BK158; have p11 : 0 ≤ (x3_2 : Int) := oda_; have q11 : x3_2 < (a0_1.size : Int) := oda_; have hx11 := bt_at a0_1 x3_2; replace p11 := eq_true p11; replace q11 := eq_true q11; have p14 : 0 ≤ (x3_2 : Int) := oda_; have q14 : x3_2 < (a0_1.size : Int) := oda_; have hx14 := bt_at a0_1 x3_2; replace p14 := eq_true p14; replace q14 := eq_true q14; go_wp2; go_roundg k2
          case measure => have := HJ1.out; have := HK2.out; omega
          case rel => exact ⟨(wrap64 (x3_2 + 1)), vt_, H', hl2_ HJ1 HK2, kX_ BK158, bX1_ HB GE158⟩
         ·rw [if_neg c15] at H; obtain ⟨c15b0, c15b1⟩ := eqF_ c15; obtain rfl := Option.some.inj H; obtain ⟨hcz17_0, hfz17_0, hcz17_1, hfz17_1⟩ := bk2_ BK158; have p11 : 0 ≤ (x3_2 : Int) := oda_; have q11 : x3_2 < (a0_1.size : Int) := oda_; have hx11 := bt_at a0_1 x3_2; replace p11 := eq_true p11; replace q11 := eq_true q11; have p14 : 0 ≤ (x3_2 : Int) := oda_; have q14 : x3_2 < (a0_1.size : Int) := oda_; have hx14 := bt_at a0_1 x3_2; replace p14 := eq_true p14; replace q14 := eq_true q14; go_wp2; go_ret; exact ⟨er_, bx1 HB.out GE158.out⟩
       ·rw [if_neg c10] at H; exact absurd H (by simp)
      ·rw [if_neg c9] at H; have c9b0 := decide_eq_false c9; clear c9; obtain rfl := Option.some.inj H; obtain ⟨hcz18_0, hfz18_0, hcz18_1, hfz18_1⟩ := bk2_ BK158; go_wp2; go_ret; exact ⟨er_, bx1 HB.out GE158.out⟩
def spec_l3Others.l0 : Nat → Int → Int → List Int → Int → Option (List Int)
 | 0, _, _, _, _ => none
 | k + 1, x0, x1, x5, x6 => if x6 < x0 then (if x6 = x1 then (spec_l3Others.l0 k x0 x1 x5 (wrap64 (x6 + 1))) else (if x5.length < 17592186044416 then (spec_l3Others.l0 k x0 x1 (x5 ++ [x6]) (wrap64 (x6 + 1))) else (none))) else (some x5)
def spec_l3Others.f (k : Nat) (a0 : Int) (a1 : Int) : Option (List Int) := spec_l3Others.l0 k a0 a1 (([] : List Int)) 0
theorem spec_l3Others.mono_l : ∀ k, (∀ y0 y1 y2 y3, LeO (spec_l3Others.l0 k y0 y1 y2 y3) (spec_l3Others.l0 (k + 1) y0 y1 y2 y3))
 | 0 => fun _ _ _ _ r h => by simp [spec_l3Others.l0] at h
 | k + 1 => by
  have ih0 := spec_l3Others.mono_l k
  ·intro y0 y1 y2 y3; unfold spec_l3Others.l0
   repeat' first | (with_reducible first | apply ih0 | exact LeO.refl _ | exact LeO.none _ | refine LeO.ite ?_ ?_ | refine LeO.bind ?_ (fun _ => ?_)) | exact LeO.none _
theorem spec_l3Others.mono : ∀ a0 a1 k, LeO (spec_l3Others.f k a0 a1) (spec_l3Others.f (k + 1) a0 a1) := by
 intro a0 a1 k; have ih0 := spec_l3Others.mono_l k; unfold spec_l3Others.f
 repeat' first | (with_reducible first | apply ih0 | exact LeO.refl _ | exact LeO.none _ | refine LeO.ite ?_ ?_ | refine LeO.bind ?_ (fun _ => ?_)) | exact LeO.none _
set_option maxHeartbeats 8000000 in
set_option maxRecDepth 100000 in
theorem spec_l3Others.calls (k : Nat) (a0 : Int) (a1 : Int) (r : List Int) (w : World) (h : spec_l3Others.f k a0 a1 = some r) :
  Calls Try.prog 189 #[.int .i64 a0, .int .i64 a1] w fun e w' => ∃ v0_ : Value, e = .returned (v0_) ∧ Kd.R (Kd.int .i64) 3 w' w.heap.size (fun _ => True) v0_ r ∧ Below w.heap.size w w' := by
 have HB := am_ (Below.refl w.heap.size w); have H : (spec_l3Others.l0 k a0 a1 (([] : List Int)) 0) = some r := h; clear h; obtain ⟨y663, hy663⟩ : ∃ y_ : List Int, y_ = (([] : List Int)) := ⟨_, rfl⟩; replace H : (spec_l3Others.l0 k a0 a1 y663 0) = some r := yH_ hy663 H; have Ny663 := am_ hy663; clear hy663; have H' := am_ H; clear H; go_enter Try.func189, Try.ntmps189
 go_wp2_with (first | ((with_reducible refine gd_ 7 rfl ?_); refine Kd.R_lit (Kd.int .i64) _ 3 ?hg (N := 7) ?hd (xs := ([] : List Int)) (inner := []) (ok := fun _ => True) (okp := fun _ => True) ?hr ?hp (fun _ hk => hk) trivial (Below.refl _ _) (Nat.le_refl _) (by simp) ?_; (case hd => rfl); (case hg => rfl); (case hr => first | (go_simp; done) | (go_simp; rfl)); (case hp => exact (Reps.none _ _)); intro v664 w3 ho4 hb hg_ hnew_; clear hg_ hnew_; (first | rw [← Ny663.out] at ho4 | (simp only [Int.reduceToNat] at ho4; rw [← Ny663.out] at ho4)); have HO665 := rl0_ ho4 HB; replace HB := bs0_ HB hb; clear hb ho4))
 go_loopg [5, 6] k (fun kq v5 v6 w' => ∃ (x5_1 : List Int) (x6_1 : Int), v6 = .int .i64 x6_1 ∧ Aside0 (spec_l3Others.l0 kq a0 a1 x5_1 x6_1 = some r) ∧ Aside0 (kq ≤ k) ∧ Aside0 (Kd.R (Kd.int .i64) 3 w' w.heap.size (fun _ => True) v5 x5_1) ∧ Aside0 (Below w.heap.size w w'))
 case atStart => exact ⟨(y663), (0), vt_, H', ⟨Nat.le_refl _⟩, rX_ HO665, bX0_ HB⟩
 case round =>
  clear H'; obtain ⟨x5_1, x6_1, rfl, HA, HK1, HO_5, HB⟩ := hrel; cases gk with
  | zero => exact absurd HA.out (by simp [spec_l3Others.l0])
  | succ k1 =>
   have H := HA.out; clear HA; simp only [spec_l3Others.l0] at H
   by_cases c5 : x6_1 < a0
   ·rw [if_pos c5] at H; have c5b0 := decide_eq_true c5; clear c5; by_cases c6 : x6_1 = a1
    ·rw [if_pos c6] at H; obtain ⟨c6b0, c6b1⟩ := eqT_ c6; clear c6; have H' := am_ H; clear H; go_wp2; go_roundg k1
     case measure => have := HK1.out; omega
     case rel => exact ⟨(x5_1), (wrap64 (x6_1 + 1)), vt_, H', hl_ HK1, rX_ HO_5, bX0_ HB⟩
    ·rw [if_neg c6] at H; obtain ⟨c6b0, c6b1⟩ := eqF_ c6; by_cases c7 : x5_1.length < 17592186044416
     ·rw [if_pos c7] at H; have LMc7 := am_ c7; clear c7; obtain ⟨y666, hy666⟩ : ∃ y_ : List Int, y_ = (x5_1 ++ [x6_1]) := ⟨_, rfl⟩; replace H : (spec_l3Others.l0 k1 a0 a1 y666 (wrap64 (x6_1 + 1))) = some r := yH_ hy666 H; have Ny666 := am_ hy666; clear hy666; have H' := am_ H; clear H; go_wp2_with (first | ((with_reducible refine gate_builtin (b := .append) (xs := #[.tmp 16, .tmp 18]) rfl ?_); at_builtin; refine Kd.R_append (Kd.int .i64) (w0 := w) w.heap.size rfl (.tmp 16) (.tmp 18) 34 3 (.int .i64 0) 8 rfl Try.underlying34 info3 rfl (by decide) (by omega) u5 x5_1 x6_1 [.int .i64 x6_1] (fun _ => True) (fun _ => False) rfl rfl ?aP (fun _ hk => hk.elim) ?aF ?aO ?aB ?aS ?aL ?_; (case aP => exact rfl); (case aB => exact (bx0 HB.out)); (case aF => exact (fun _ _ => trivial)); (case aO => exact (rx_ HO_5.out)); (case aS => exact (below_size (bx0 HB.out))); (case aL => have := LMc7.out; omega); intro v667 w8 ho hb hg hat; rw [← Ny666.out] at ho; replace HB := am_ hb; have HO668 := am_ ho; clear HO_5; clear ho hb hg hat))
      go_roundg k1
      case measure => have := HK1.out; omega
      case rel => exact ⟨(y666), (wrap64 (x6_1 + 1)), vt_, H', hl_ HK1, rX_ HO668, bX0_ HB⟩
     ·rw [if_neg c7] at H; exact absurd H (by simp)
   ·rw [if_neg c5] at H; have c5b0 := decide_eq_false c5; clear c5; obtain rfl := Option.some.inj H; go_wp2; go_ret; exact ⟨_, by first | rfl | (simp [errW_none, errW_some] <;> rfl) | (simp [*, errW_none, errW_some] <;> rfl), rx_ HO_5.out, bx0 HB.out⟩
mutual
def spec_l3At.j0 : Nat → Int → Int → Int → Int → Int → ByteArray → Option (Int)
 | 0, _, _, _, _, _, _ => none
 | k + 1, x1, x2, x3, x9, x161000, x161001 => if x2 > x3 then (spec_l3At.j1 k x1 x3 x2 (wrap64 (-x9)) x161000 x161001) else (spec_l3At.j1 k x1 x2 x3 x9 x161000 x161001)
def spec_l3At.j1 : Nat → Int → Int → Int → Int → Int → ByteArray → Option (Int)
 | 0, _, _, _, _, _, _ => none
 | k + 1, x1, x2, x3, x9, x161000, x161001 => if x1 > x2 then ((spec_l3Index.f k x161000 x2 x1 x3).bind fun t161 => (if 0 ≤ t161 then (if t161 < (x161001.size : Int) then (if (bt x161001 t161) = 45 then (some (wrap64 (-(wrap64 (-x9))))) else (some (wrap64 (-x9)))) else (none)) else (none))) else ((spec_l3Index.f k x161000 x1 x2 x3).bind fun t162 => (if 0 ≤ t162 then (if t162 < (x161001.size : Int) then (if (bt x161001 t162) = 45 then (some (wrap64 (-x9))) else (some x9)) else (none)) else (none)))
end
def spec_l3At.f (k : Nat) (a0_0 : Int) (a0_1 : ByteArray) (a1 : Int) (a2 : Int) (a3 : Int) : Option (Int) := if a1 > a2 then (spec_l3At.j0 k a2 a1 a3 (-1) a0_0 a0_1) else (spec_l3At.j0 k a1 a2 a3 1 a0_0 a0_1)
theorem spec_l3At.mono_l : ∀ k, (∀ y0 y1 y2 y3 y4 y5, LeO (spec_l3At.j0 k y0 y1 y2 y3 y4 y5) (spec_l3At.j0 (k + 1) y0 y1 y2 y3 y4 y5)) ∧ (∀ y0 y1 y2 y3 y4 y5, LeO (spec_l3At.j1 k y0 y1 y2 y3 y4 y5) (spec_l3At.j1 (k + 1) y0 y1 y2 y3 y4 y5))
 | 0 => ⟨fun _ _ _ _ _ _ r h => by simp [spec_l3At.j0] at h, fun _ _ _ _ _ _ r h => by simp [spec_l3At.j1] at h⟩
 | k + 1 => by
  obtain ⟨ih0, ih1⟩ := spec_l3At.mono_l k; refine ⟨?_, ?_⟩ <;> (intros; (first | unfold spec_l3At.j0 | unfold spec_l3At.j1); repeat' first | (with_reducible first | apply ih0 | apply ih1 | apply spec_l3Index.mono | exact LeO.refl _ | exact LeO.none _ | refine LeO.ite ?_ ?_ | refine LeO.bind ?_ (fun _ => ?_)) | exact LeO.none _)
theorem spec_l3At.mono : ∀ a0 a1 a2 a3 a4 k, LeO (spec_l3At.f k a0 a1 a2 a3 a4) (spec_l3At.f (k + 1) a0 a1 a2 a3 a4) := by
 intro a0 a1 a2 a3 a4 k; obtain ⟨ih0, ih1⟩ := spec_l3At.mono_l k; unfold spec_l3At.f
 repeat' first | (with_reducible first | apply ih0 | apply ih1 | apply spec_l3Index.mono | exact LeO.refl _ | exact LeO.none _ | refine LeO.ite ?_ ?_ | refine LeO.bind ?_ (fun _ => ?_)) | exact LeO.none _
set_option maxHeartbeats 8000000 in
set_option maxRecDepth 100000 in
theorem spec_l3At.calls (k : Nat) (a0_0 : Int) (a0_1 : ByteArray) (a1 : Int) (a2 : Int) (a3 : Int) (r : Int) (w : World) (h : spec_l3At.f k a0_0 a0_1 a1 a2 a3 = some r) :
  Calls Try.prog 186 #[.agg #[.int .i64 a0_0, .string a0_1], .int .i64 a1, .int .i64 a2, .int .i64 a3] w fun e w' => e = .returned (.int .i64 r) ∧ Below w.heap.size w w' := by
 have hu31 := Try.underlying31; have HB := am_ (Below.refl w.heap.size w); have H : (if a1 > a2 then (spec_l3At.j0 k a2 a1 a3 (-1) a0_0 a0_1) else (spec_l3At.j0 k a1 a2 a3 1 a0_0 a0_1)) = some r := h; clear h; have HC5 := am_ H; clear H; go_enter Try.func186, Try.ntmps186
 go_upto_if 15 with (first | ((with_reducible refine gd_ 4 rfl ?_); refine be_ 4 #[.int .i64 a0_0, .string a0_1] 31 ?_; intro gb160 hg w6 hbox hb; have BK160 := am_ hbox; have GW160 := gw0_ HB hg; have GE160 := GW160; replace HB := bs0_ HB hb; clear hb hbox hg))
 repeat (go_quiet (first | ((with_reducible refine gd_ 4 rfl ?_); refine be_ 4 #[.int .i64 a0_0, .string a0_1] 31 ?_; intro gb160 hg w6 hbox hb; have BK160 := am_ hbox; have GW160 := gw0_ HB hg; have GE160 := GW160; replace HB := bs0_ HB hb; clear hb hbox hg)); go_upto_if 15 with (first | ((with_reducible refine gd_ 4 rfl ?_); refine be_ 4 #[.int .i64 a0_0, .string a0_1] 31 ?_; intro gb160 hg w6 hbox hb; have BK160 := am_ hbox; have GW160 := gw0_ HB hg; have GE160 := GW160; replace HB := bs0_ HB hb; clear hb hbox hg)))
 (try simp only [Act.put, sA_, sZ_, sS_])
 go_cut [1, 2, 9] (fun v1 v2 v9 wc => ∃ (kq : Nat) (x1_4 : Int) (x2_4 : Int) (x9_4 : Int), v1 = .int .i64 x1_4 ∧ v2 = .int .i64 x2_4 ∧ v9 = .int .i64 x9_4 ∧ Aside0 (spec_l3At.j0 kq x1_4 x2_4 a3 x9_4 a0_0 a0_1 = some r) ∧ Aside0 (kq ≤ k) ∧ Aside0 (wc.heap[gb160]? = some (.cells #[.int .i64 a0_0, .string a0_1] 31 (0, 0))) ∧ Aside0 (Below w.heap.size w wc))
 case first =>
  have H := HC5.out; clear HC5; by_cases c7 : a1 > a2
  ·rw [if_pos c7] at H; have c7b0 := decide_eq_true c7; clear c7; (first | rw [c7b0] | (simp only [i64_w, i32_w]; rw [c7b0]) | skip)
   have H' := am_ H; clear H; go_wp2; repeat (go_quiet (fail); try go_wp2)
   go_meet
   case rel => exact ⟨_, (a2), (a1), (-1), vt_, vt_, vt_, H', le_, kX_ BK160, bX1_ HB GE160⟩
  ·rw [if_neg c7] at H; have c7b0 := decide_eq_false c7; clear c7; (first | rw [c7b0] | (simp only [i64_w, i32_w]; rw [c7b0]) | skip)
   have H' := am_ H; clear H; go_wp2; repeat (go_quiet (fail); try go_wp2)
   go_meet
   case rel => exact ⟨_, (a1), (a2), (1), vt_, vt_, vt_, H', le_, kX_ BK160, bX1_ HB GE160⟩
 case rest =>
  clear HC5; obtain ⟨kq, x1_4, x2_4, x9_4, rfl, rfl, rfl, HA, HJ4, BK160, HB⟩ := hcut; cases kq with
  | zero => exact absurd HA.out (by simp [spec_l3At.j0])
  | succ kj4 =>
   have H := HA.out; clear HA; simp only [spec_l3At.j0] at H
   have HC8 := am_ H; clear H; go_upto_if 23 with (fail)
   repeat (go_quiet (fail); go_upto_if 23 with (fail))
   go_cut [2, 3, 9] (fun v2 v3 v9 wc => ∃ (kq : Nat) (x2_7 : Int) (x3_7 : Int) (x9_7 : Int), v2 = .int .i64 x2_7 ∧ v3 = .int .i64 x3_7 ∧ v9 = .int .i64 x9_7 ∧ Aside0 (spec_l3At.j1 kq x1_4 x2_7 x3_7 x9_7 a0_0 a0_1 = some r) ∧ Aside0 (kq ≤ kj4) ∧ Aside0 (wc.heap[gb160]? = some (.cells #[.int .i64 a0_0, .string a0_1] 31 (0, 0))) ∧ Aside0 (Below w.heap.size w wc))
   case first =>
    have H := HC8.out; clear HC8; by_cases c9 : x2_4 > a3
    ·rw [if_pos c9] at H; have c9b0 := decide_eq_true c9; clear c9; (first | rw [c9b0] | (simp only [i64_w, i32_w]; rw [c9b0]) | skip)
     have H' := am_ H; clear H; go_wp2; repeat (go_quiet (fail); try go_wp2)
     go_meet
     case rel => exact ⟨_, (a3), (x2_4), (wrap64 (-x9_4)), vt_, vt_, vt_, H', ⟨by have := HJ4.out; first | omega | exact Nat.le_refl _⟩, kX_ BK160, bX1_ HB GE160⟩
    ·rw [if_neg c9] at H; have c9b0 := decide_eq_false c9; clear c9; (first | rw [c9b0] | (simp only [i64_w, i32_w]; rw [c9b0]) | skip)
     have H' := am_ H; clear H; go_wp2; repeat (go_quiet (fail); try go_wp2)
     go_meet
     case rel => exact ⟨_, (x2_4), (a3), (x9_4), vt_, vt_, vt_, H', ⟨by have := HJ4.out; first | omega | exact Nat.le_refl _⟩, kX_ BK160, bX1_ HB GE160⟩
   case rest =>
    clear HC8; obtain ⟨kq, x2_7, x3_7, x9_7, rfl, rfl, rfl, HA, HJ7, BK160, HB⟩ := hcut; cases kq with
    | zero => exact absurd HA.out (by simp [spec_l3At.j1])
    | succ kj7 =>
     have H := HA.out; clear HA; simp only [spec_l3At.j1] at H
     by_cases c10 : x1_4 > x2_7
     ·rw [if_pos c10] at H; have c10b0 := decide_eq_true c10; clear c10; obtain ⟨t161, A11, H⟩ := bnd_ H; by_cases c12 : 0 ≤ t161
      ·rw [if_pos c12] at H; have c12b0 := decide_eq_true c12; clear c12; by_cases c13 : t161 < (a0_1.size : Int)
       ·rw [if_pos c13] at H; have c13b0 := decide_eq_true c13; clear c13; by_cases c15 : (bt a0_1 t161) = 45
        ·rw [if_pos c15] at H; obtain ⟨c15b0, c15b1⟩ := eqT_ c15; clear c15; obtain rfl := Option.some.inj H; obtain ⟨hcz16_0, hfz16_0, hcz16_1, hfz16_1⟩ := bk2_ BK160; go_wp2_with (first | (go_at_call 106; (with_reducible refine (spec_l3Index.calls kj7 a0_0 x2_7 x1_4 x3_7 t161 _ A11.out).mono ?_); rintro e w' ⟨rfl, ⟨nd, rfl⟩⟩; (try first | exact ⟨rfl, _, World.drewN_drewN _ _ _⟩ | exact ⟨rfl, _, Eq.trans (World.drewN_drewN _ _ _) (congrArg (World.drewN _) (Nat.add_assoc _ _ _))⟩); have p14 : 0 ≤ (t161 : Int) := oda_; have q14 : t161 < (a0_1.size : Int) := oda_; have hx14 := bt_at a0_1 t161; replace p14 := eq_true p14; replace q14 := eq_true q14))
         repeat (go_quiet (first | (go_at_call 106; (with_reducible refine (spec_l3Index.calls kj7 a0_0 x2_7 x1_4 x3_7 t161 _ A11.out).mono ?_); rintro e w' ⟨rfl, ⟨nd, rfl⟩⟩; (try first | exact ⟨rfl, _, World.drewN_drewN _ _ _⟩ | exact ⟨rfl, _, Eq.trans (World.drewN_drewN _ _ _) (congrArg (World.drewN _) (Nat.add_assoc _ _ _))⟩); have p14 : 0 ≤ (t161 : Int) := oda_; have q14 : t161 < (a0_1.size : Int) := oda_; have hx14 := bt_at a0_1 t161; replace p14 := eq_true p14; replace q14 := eq_true q14)); try go_wp2_with (first | (go_at_call 106; (with_reducible refine (spec_l3Index.calls kj7 a0_0 x2_7 x1_4 x3_7 t161 _ A11.out).mono ?_); rintro e w' ⟨rfl, ⟨nd, rfl⟩⟩; (try first | exact ⟨rfl, _, World.drewN_drewN _ _ _⟩ | exact ⟨rfl, _, Eq.trans (World.drewN_drewN _ _ _) (congrArg (World.drewN _) (Nat.add_assoc _ _ _))⟩); have p14 : 0 ≤ (t161 : Int) := oda_; have q14 : t161 < (a0_1.size : Int) := oda_; have hx14 := bt_at a0_1 t161; replace p14 := eq_true p14; replace q14 := eq_true q14)))
         go_ret; exact ⟨er_, bx1 HB.out GE160.out⟩
        ·rw [if_neg c15] at H; obtain ⟨c15b0, c15b1⟩ := eqF_ c15; obtain rfl := Option.some.inj H; obtain ⟨hcz17_0, hfz17_0, hcz17_1, hfz17_1⟩ := bk2_ BK160; go_wp2_with (first | (go_at_call 106; (with_reducible refine (spec_l3Index.calls kj7 a0_0 x2_7 x1_4 x3_7 t161 _ A11.out).mono ?_); rintro e w' ⟨rfl, ⟨nd, rfl⟩⟩; (try first | exact ⟨rfl, _, World.drewN_drewN _ _ _⟩ | exact ⟨rfl, _, Eq.trans (World.drewN_drewN _ _ _) (congrArg (World.drewN _) (Nat.add_assoc _ _ _))⟩); have p14 : 0 ≤ (t161 : Int) := oda_; have q14 : t161 < (a0_1.size : Int) := oda_; have hx14 := bt_at a0_1 t161; replace p14 := eq_true p14; replace q14 := eq_true q14))
         repeat (go_quiet (first | (go_at_call 106; (with_reducible refine (spec_l3Index.calls kj7 a0_0 x2_7 x1_4 x3_7 t161 _ A11.out).mono ?_); rintro e w' ⟨rfl, ⟨nd, rfl⟩⟩; (try first | exact ⟨rfl, _, World.drewN_drewN _ _ _⟩ | exact ⟨rfl, _, Eq.trans (World.drewN_drewN _ _ _) (congrArg (World.drewN _) (Nat.add_assoc _ _ _))⟩); have p14 : 0 ≤ (t161 : Int) := oda_; have q14 : t161 < (a0_1.size : Int) := oda_; have hx14 := bt_at a0_1 t161; replace p14 := eq_true p14; replace q14 := eq_true q14)); try go_wp2_with (first | (go_at_call 106; (with_reducible refine (spec_l3Index.calls kj7 a0_0 x2_7 x1_4 x3_7 t161 _ A11.out).mono ?_); rintro e w' ⟨rfl, ⟨nd, rfl⟩⟩; (try first | exact ⟨rfl, _, World.drewN_drewN _ _ _⟩ | exact ⟨rfl, _, Eq.trans (World.drewN_drewN _ _ _) (congrArg (World.drewN _) (Nat.add_assoc _ _ _))⟩); have p14 : 0 ≤ (t161 : Int) := oda_; have q14 : t161 < (a0_1.size : Int) := oda_; have hx14 := bt_at a0_1 t161; replace p14 := eq_true p14; replace q14 := eq_true q14)))
         go_ret; exact ⟨er_, bx1 HB.out GE160.out⟩
       ·rw [if_neg c13] at H; exact absurd H (by simp)
      ·rw [if_neg c12] at H; exact absurd H (by simp)
     ·rw [if_neg c10] at H; have c10b0 := decide_eq_false c10; clear c10; obtain ⟨t162, A18, H⟩ := bnd_ H; by_cases c19 : 0 ≤ t162
      ·rw [if_pos c19] at H; have c19b0 := decide_eq_true c19; clear c19; by_cases c20 : t162 < (a0_1.size : Int)
       ·rw [if_pos c20] at H; have c20b0 := decide_eq_true c20; clear c20; by_cases c22 : (bt a0_1 t162) = 45
        ·rw [if_pos c22] at H; obtain ⟨c22b0, c22b1⟩ := eqT_ c22; clear c22; obtain rfl := Option.some.inj H; obtain ⟨hcz23_0, hfz23_0, hcz23_1, hfz23_1⟩ := bk2_ BK160; go_wp2_with (first | (go_at_call 106; (with_reducible refine (spec_l3Index.calls kj7 a0_0 x1_4 x2_7 x3_7 t162 _ A18.out).mono ?_); rintro e w' ⟨rfl, ⟨nd, rfl⟩⟩; (try first | exact ⟨rfl, _, World.drewN_drewN _ _ _⟩ | exact ⟨rfl, _, Eq.trans (World.drewN_drewN _ _ _) (congrArg (World.drewN _) (Nat.add_assoc _ _ _))⟩); have p21 : 0 ≤ (t162 : Int) := oda_; have q21 : t162 < (a0_1.size : Int) := oda_; have hx21 := bt_at a0_1 t162; replace p21 := eq_true p21; replace q21 := eq_true q21))
         repeat (go_quiet (first | (go_at_call 106; (with_reducible refine (spec_l3Index.calls kj7 a0_0 x1_4 x2_7 x3_7 t162 _ A18.out).mono ?_); rintro e w' ⟨rfl, ⟨nd, rfl⟩⟩; (try first | exact ⟨rfl, _, World.drewN_drewN _ _ _⟩ | exact ⟨rfl, _, Eq.trans (World.drewN_drewN _ _ _) (congrArg (World.drewN _) (Nat.add_assoc _ _ _))⟩); have p21 : 0 ≤ (t162 : Int) := oda_; have q21 : t162 < (a0_1.size : Int) := oda_; have hx21 := bt_at a0_1 t162; replace p21 := eq_true p21; replace q21 := eq_true q21)); try go_wp2_with (first | (go_at_call 106; (with_reducible refine (spec_l3Index.calls kj7 a0_0 x1_4 x2_7 x3_7 t162 _ A18.out).mono ?_); rintro e w' ⟨rfl, ⟨nd, rfl⟩⟩; (try first | exact ⟨rfl, _, World.drewN_drewN _ _ _⟩ | exact ⟨rfl, _, Eq.trans (World.drewN_drewN _ _ _) (congrArg (World.drewN _) (Nat.add_assoc _ _ _))⟩); have p21 : 0 ≤ (t162 : Int) := oda_; have q21 : t162 < (a0_1.size : Int) := oda_; have hx21 := bt_at a0_1 t162; replace p21 := eq_true p21; replace q21 := eq_true q21)))
         go_ret; exact ⟨er_, bx1 HB.out GE160.out⟩
        ·rw [if_neg c22] at H; obtain ⟨c22b0, c22b1⟩ := eqF_ c22; obtain rfl := Option.some.inj H; obtain ⟨hcz24_0, hfz24_0, hcz24_1, hfz24_1⟩ := bk2_ BK160; go_wp2_with (first | (go_at_call 106; (with_reducible refine (spec_l3Index.calls kj7 a0_0 x1_4 x2_7 x3_7 t162 _ A18.out).mono ?_); rintro e w' ⟨rfl, ⟨nd, rfl⟩⟩; (try first | exact ⟨rfl, _, World.drewN_drewN _ _ _⟩ | exact ⟨rfl, _, Eq.trans (World.drewN_drewN _ _ _) (congrArg (World.drewN _) (Nat.add_assoc _ _ _))⟩); have p21 : 0 ≤ (t162 : Int) := oda_; have q21 : t162 < (a0_1.size : Int) := oda_; have hx21 := bt_at a0_1 t162; replace p21 := eq_true p21; replace q21 := eq_true q21))
         repeat (go_quiet (first | (go_at_call 106; (with_reducible refine (spec_l3Index.calls kj7 a0_0 x1_4 x2_7 x3_7 t162 _ A18.out).mono ?_); rintro e w' ⟨rfl, ⟨nd, rfl⟩⟩; (try first | exact ⟨rfl, _, World.drewN_drewN _ _ _⟩ | exact ⟨rfl, _, Eq.trans (World.drewN_drewN _ _ _) (congrArg (World.drewN _) (Nat.add_assoc _ _ _))⟩); have p21 : 0 ≤ (t162 : Int) := oda_; have q21 : t162 < (a0_1.size : Int) := oda_; have hx21 := bt_at a0_1 t162; replace p21 := eq_true p21; replace q21 := eq_true q21)); try go_wp2_with (first | (go_at_call 106; (with_reducible refine (spec_l3Index.calls kj7 a0_0 x1_4 x2_7 x3_7 t162 _ A18.out).mono ?_); rintro e w' ⟨rfl, ⟨nd, rfl⟩⟩; (try first | exact ⟨rfl, _, World.drewN_drewN _ _ _⟩ | exact ⟨rfl, _, Eq.trans (World.drewN_drewN _ _ _) (congrArg (World.drewN _) (Nat.add_assoc _ _ _))⟩); have p21 : 0 ≤ (t162 : Int) := oda_; have q21 : t162 < (a0_1.size : Int) := oda_; have hx21 := bt_at a0_1 t162; replace p21 := eq_true p21; replace q21 := eq_true q21)))
         go_ret; exact ⟨er_, bx1 HB.out GE160.out⟩
       ·rw [if_neg c20] at H; exact absurd H (by simp)
      ·rw [if_neg c19] at H; exact absurd H (by simp)
def spec_l4Breaks.f (k : Nat) (a0_0 : Int) (a0_1 : ByteArray) (a1 : Int) (a2 : Int) (a3 : Int) (a4 : Int) (a5 : Int) : Option (Bool) := (spec_l3At.f k a0_0 a0_1 a1 a2 a3).bind fun t670 => ((spec_l3At.f k a0_0 a0_1 a1 a4 a5).bind fun t671 => ((spec_l3At.f k a0_0 a0_1 a1 a2 a5).bind fun t672 => ((spec_l3At.f k a0_0 a0_1 a1 a3 a4).bind fun t673 => ((spec_l3At.f k a0_0 a0_1 a1 a2 a4).bind fun t674 => ((spec_l3At.f k a0_0 a0_1 a1 a3 a5).bind fun t675 => (if (wrap64 (t670 * t671)) = (wrap64 (t672 * t673)) then (some ((wrap64 (t672 * t673)) == (wrap64 ((wrap64 (-t674)) * t675)))) else (some false)))))))
theorem spec_l4Breaks.mono : ∀ a0 a1 a2 a3 a4 a5 a6 k, LeO (spec_l4Breaks.f k a0 a1 a2 a3 a4 a5 a6) (spec_l4Breaks.f (k + 1) a0 a1 a2 a3 a4 a5 a6) := by
 intro a0 a1 a2 a3 a4 a5 a6 k; unfold spec_l4Breaks.f
 repeat' first | (with_reducible first | apply spec_l3At.mono | exact LeO.refl _ | exact LeO.none _ | refine LeO.ite ?_ ?_ | refine LeO.bind ?_ (fun _ => ?_)) | exact LeO.none _
def spec_l4Breaks.T1 : Bool × List (List Nat × List Nat) := (true, [([], []), ([], []), ([], []), ([], []), ([0, 1, 2, 3], [0, 1, 2, 3]), ([], []), ([], []), ([], []), ([], []), ([5, 6, 7, 8, 4], [5, 6, 7, 8]), ([4, 9], [4, 9]), ([10, 9, 0, 1, 2, 3, 4, 5, 6, 7, 8, 9, 10], [10])])
def spec_l4Breaks.B1 : List Nat := [0, 0, 0, 0, 15, 0, 0, 0, 0, 511, 1023, 2047]
theorem spec_l4Breaks.tab1 : rtab .any (opsOf Try.f190 1) = spec_l4Breaks.T1 := by kernel_rfl
theorem spec_l4Breaks.bits1 : waitsOk spec_l4Breaks.T1.2 spec_l4Breaks.B1 = true := by kernel_rfl
def spec_l4Breaks.T2 : Bool × List (List Nat × List Nat) := (true, [([], []), ([], []), ([], []), ([], []), ([0, 1, 2, 3], [0, 1, 2, 3]), ([], []), ([], []), ([], []), ([], []), ([5, 6, 7, 8, 4], [5, 6, 7, 8]), ([4, 9], [4, 9]), ([10, 9, 0, 1, 2, 3, 4, 5, 6, 7, 8, 9, 10], [10])])
def spec_l4Breaks.B2 : List Nat := [0, 0, 0, 0, 15, 0, 0, 0, 0, 511, 1023, 2047]
theorem spec_l4Breaks.tab2 : rtab .any (opsOf Try.f190 2) = spec_l4Breaks.T2 := by kernel_rfl
theorem spec_l4Breaks.bits2 : waitsOk spec_l4Breaks.T2.2 spec_l4Breaks.B2 = true := by kernel_rfl
def spec_l4Breaks.T3 : Bool × List (List Nat × List Nat) := (true, [([], []), ([], []), ([], []), ([], []), ([0, 1, 2, 3], [0, 1, 2, 3]), ([4], [4]), ([], []), ([], []), ([], []), ([], []), ([6, 7, 8, 9, 4], [6, 7, 8, 9]), ([5, 10], [5, 10]), ([11, 10, 0, 1, 2, 3, 4, 5, 6, 7, 8, 9, 10, 11], [11])])
def spec_l4Breaks.B3 : List Nat := [0, 0, 0, 0, 15, 31, 0, 0, 0, 0, 991, 2047, 4095]
theorem spec_l4Breaks.tab3 : rtab .any (opsOf Try.f190 3) = spec_l4Breaks.T3 := by kernel_rfl
theorem spec_l4Breaks.bits3 : waitsOk spec_l4Breaks.T3.2 spec_l4Breaks.B3 = true := by kernel_rfl
set_option maxHeartbeats 8000000 in
set_option maxRecDepth 100000 in
theorem spec_l4Breaks.calls (k : Nat) (a0_0 : Int) (a0_1 : ByteArray) (a1 : Int) (a2 : Int) (a3 : Int) (a4 : Int) (a5 : Int) (r : Bool) (w : World) (h : spec_l4Breaks.f k a0_0 a0_1 a1 a2 a3 a4 a5 = some r) :
  Calls Try.prog 190 #[.agg #[.int .i64 a0_0, .string a0_1], .int .i64 a1, .int .i64 a2, .int .i64 a3, .int .i64 a4, .int .i64 a5] w fun e w' => e = .returned (.bool r) ∧ Below w.heap.size w w' := by
 have hu31 := Try.underlying31; have HB := am_ (Below.refl w.heap.size w); have H : ((spec_l3At.f k a0_0 a0_1 a1 a2 a3).bind fun t670 => ((spec_l3At.f k a0_0 a0_1 a1 a4 a5).bind fun t671 => ((spec_l3At.f k a0_0 a0_1 a1 a2 a5).bind fun t672 => ((spec_l3At.f k a0_0 a0_1 a1 a3 a4).bind fun t673 => ((spec_l3At.f k a0_0 a0_1 a1 a2 a4).bind fun t674 => ((spec_l3At.f k a0_0 a0_1 a1 a3 a5).bind fun t675 => (if (wrap64 (t670 * t671)) = (wrap64 (t672 * t673)) then (some ((wrap64 (t672 * t673)) == (wrap64 ((wrap64 (-t674)) * t675)))) else (some false)))))))) = some r := h; clear h; obtain ⟨t670, A7, H⟩ := bnd_ H; obtain ⟨t671, A8, H⟩ := bnd_ H; obtain ⟨t672, A9, H⟩ := bnd_ H; obtain ⟨t673, A10, H⟩ := bnd_ H; obtain ⟨t674, A11, H⟩ := bnd_ H; obtain ⟨t675, A12, H⟩ := bnd_ H; by_cases c13 : (wrap64 (t670 * t671)) = (wrap64 (t672 * t673))
 ·rw [if_pos c13] at H; obtain ⟨c13b0, c13b1⟩ := eqT_ c13; clear c13; obtain rfl := Option.some.inj H; go_enter Try.func190, Try.ntmps190
  try go_wp2_with (first | ((with_reducible refine gd_ 6 rfl ?_); refine be_ 6 #[.int .i64 a0_0, .string a0_1] 31 ?_; intro gb669 hg w14 hbox hb; have BK669 := am_ hbox; have GW669 := gw0_ HB hg; have GE669 := GW669; replace HB := bs0_ HB hb; clear hb hbox hg))
  replace BK669 := am_ (blk_drew BK669.out); replace HB := bd_ HB; refine start_ (n := 12) (S := fun w' => w'.cell? ⟨gb669, 0, none⟩ = some (.int .i64 a0_0) ∧ w'.cell? ⟨gb669, 1, none⟩ = some (.string a0_1)) (ds := []) #[false, false, false, false, false, false, false, false, false, false, false, false] (by kernel_rfl) rfl rfl ⟨c0_ BK669, c1_ BK669⟩ (fun hHeld => ?_); refine with_tabW spec_l4Breaks.tab1 spec_l4Breaks.bits1 (fun HT_ HW_ => ?_); generalize w14.drew = w15 at BK669 HB hHeld ⊢
  refine pD_ 1 (some 17) HT_ (h := ?_); refine pD_ 2 (some 18) HT_ (h := ?_); refine pD_ 3 (some 19) HT_ (h := ?_); refine pD_ 6 (some 22) HT_ (h := ?_); refine pD_ 7 (some 23) HT_ (h := ?_); refine pD_ 8 (some 24) HT_ (h := ?_); refine tD2_ 0 (some 16) HT_ HW_ hHeld (h := ?_); refine tD2_ 5 (some 21) HT_ HW_ hHeld (h := ?_); refine oN_ 4 (some 20) HT_ (fun K hK => ?_); refine gO_ Try.func186 #[.agg #[.int .i64 a0_0, .string a0_1], .int .i64 a1, .int .i64 a2, .int .i64 a3] ?_; with_reducible refine (spec_l3At.calls k a0_0 a0_1 a1 a2 a3 t670 _ A7.out).mono ?_
  rintro e w16 ⟨rfl, hb⟩; refine ⟨_, rfl, ?_⟩; replace BK669 := bb_ BK669 hb; replace HB := bs1_ HB hb GE669; try clear hb
  refine hK.out _ _ ⟨c0_ BK669, c1_ BK669⟩ (fun hHeld => ?_); clear hK K; refine nm_ 20 (h := ?_); refine oN_ 9 (some 25) HT_ (fun K hK => ?_); refine gO_ Try.func186 #[.agg #[.int .i64 a0_0, .string a0_1], .int .i64 a1, .int .i64 a4, .int .i64 a5] ?_; with_reducible refine (spec_l3At.calls k a0_0 a0_1 a1 a4 a5 t671 _ A8.out).mono ?_
  rintro e w17 ⟨rfl, hb⟩; refine ⟨_, rfl, ?_⟩; replace BK669 := bb_ BK669 hb; replace HB := bs1_ HB hb GE669; try clear hb
  refine hK.out _ _ ⟨c0_ BK669, c1_ BK669⟩ (fun hHeld => ?_); clear hK K; refine nm_ 25 (h := ?_); refine pD_ 10 (some 26) HT_ (h := ?_); refine pD_ 11 (some 13) HT_ (h := ?_); refine done_ (done_of HT_.out (by kernel_rfl)) ?_; try go_wp2
  replace BK669 := am_ (blk_drew BK669.out); replace HB := bd_ HB; refine start_ (n := 12) (S := fun w' => w'.cell? ⟨gb669, 0, none⟩ = some (.int .i64 a0_0) ∧ w'.cell? ⟨gb669, 1, none⟩ = some (.string a0_1)) (ds := []) #[false, false, false, false, false, false, false, false, false, false, false, false] (by kernel_rfl) rfl rfl ⟨c0_ BK669, c1_ BK669⟩ (fun hHeld => ?_); refine with_tabW spec_l4Breaks.tab2 spec_l4Breaks.bits2 (fun HT_ HW_ => ?_); generalize w17.drew = w18 at BK669 HB hHeld ⊢
  refine pD_ 1 (some 28) HT_ (h := ?_); refine pD_ 2 (some 29) HT_ (h := ?_); refine pD_ 3 (some 30) HT_ (h := ?_); refine pD_ 6 (some 33) HT_ (h := ?_); refine pD_ 7 (some 34) HT_ (h := ?_); refine pD_ 8 (some 35) HT_ (h := ?_); refine tD2_ 0 (some 27) HT_ HW_ hHeld (h := ?_); refine tD2_ 5 (some 32) HT_ HW_ hHeld (h := ?_); refine oN_ 4 (some 31) HT_ (fun K hK => ?_); refine gO_ Try.func186 #[.agg #[.int .i64 a0_0, .string a0_1], .int .i64 a1, .int .i64 a2, .int .i64 a5] ?_; with_reducible refine (spec_l3At.calls k a0_0 a0_1 a1 a2 a5 t672 _ A9.out).mono ?_
  rintro e w19 ⟨rfl, hb⟩; refine ⟨_, rfl, ?_⟩; replace BK669 := bb_ BK669 hb; replace HB := bs1_ HB hb GE669; try clear hb
  refine hK.out _ _ ⟨c0_ BK669, c1_ BK669⟩ (fun hHeld => ?_); clear hK K; refine nm_ 31 (h := ?_); refine oN_ 9 (some 36) HT_ (fun K hK => ?_); refine gO_ Try.func186 #[.agg #[.int .i64 a0_0, .string a0_1], .int .i64 a1, .int .i64 a3, .int .i64 a4] ?_; with_reducible refine (spec_l3At.calls k a0_0 a0_1 a1 a3 a4 t673 _ A10.out).mono ?_
  rintro e w20 ⟨rfl, hb⟩; refine ⟨_, rfl, ?_⟩; replace BK669 := bb_ BK669 hb; replace HB := bs1_ HB hb GE669; try clear hb
  refine hK.out _ _ ⟨c0_ BK669, c1_ BK669⟩ (fun hHeld => ?_); clear hK K; refine nm_ 36 (h := ?_); refine pD_ 10 (some 37) HT_ (h := ?_); refine pD_ 11 (some 14) HT_ (h := ?_); refine done_ (done_of HT_.out (by kernel_rfl)) ?_; try go_wp2
  replace BK669 := am_ (blk_drew BK669.out); replace HB := bd_ HB; refine start_ (n := 13) (S := fun w' => w'.cell? ⟨gb669, 0, none⟩ = some (.int .i64 a0_0) ∧ w'.cell? ⟨gb669, 1, none⟩ = some (.string a0_1)) (ds := []) #[false, false, false, false, false, false, false, false, false, false, false, false, false] (by kernel_rfl) rfl rfl ⟨c0_ BK669, c1_ BK669⟩ (fun hHeld => ?_); refine with_tabW spec_l4Breaks.tab3 spec_l4Breaks.bits3 (fun HT_ HW_ => ?_); generalize w20.drew = w21 at BK669 HB hHeld ⊢
  refine pD_ 1 (some 39) HT_ (h := ?_); refine pD_ 2 (some 40) HT_ (h := ?_); refine pD_ 3 (some 41) HT_ (h := ?_); refine pD_ 7 (some 45) HT_ (h := ?_); refine pD_ 8 (some 46) HT_ (h := ?_); refine pD_ 9 (some 47) HT_ (h := ?_); refine tD2_ 0 (some 38) HT_ HW_ hHeld (h := ?_); refine tD2_ 6 (some 44) HT_ HW_ hHeld (h := ?_); refine oN_ 4 (some 42) HT_ (fun K hK => ?_); refine gO_ Try.func186 #[.agg #[.int .i64 a0_0, .string a0_1], .int .i64 a1, .int .i64 a2, .int .i64 a4] ?_; with_reducible refine (spec_l3At.calls k a0_0 a0_1 a1 a2 a4 t674 _ A11.out).mono ?_
  rintro e w22 ⟨rfl, hb⟩; refine ⟨_, rfl, ?_⟩; replace BK669 := bb_ BK669 hb; replace HB := bs1_ HB hb GE669; try clear hb
  refine hK.out _ _ ⟨c0_ BK669, c1_ BK669⟩ (fun hHeld => ?_); clear hK K; refine nm_ 42 (h := ?_); refine pD_ 5 (some 43) HT_ (h := ?_); refine oN_ 10 (some 48) HT_ (fun K hK => ?_); refine gO_ Try.func186 #[.agg #[.int .i64 a0_0, .string a0_1], .int .i64 a1, .int .i64 a3, .int .i64 a5] ?_; with_reducible refine (spec_l3At.calls k a0_0 a0_1 a1 a3 a5 t675 _ A12.out).mono ?_
  rintro e w23 ⟨rfl, hb⟩; refine ⟨_, rfl, ?_⟩; replace BK669 := bb_ BK669 hb; replace HB := bs1_ HB hb GE669; try clear hb
  refine hK.out _ _ ⟨c0_ BK669, c1_ BK669⟩ (fun hHeld => ?_); clear hK K; refine nm_ 48 (h := ?_); refine pD_ 11 (some 49) HT_ (h := ?_); refine pD_ 12 (some 15) HT_ (h := ?_); refine done_ (done_of HT_.out (by kernel_rfl)) ?_; try go_wp2
  go_ret; exact ⟨er_, bx1 HB.out GE669.out⟩
 ·rw [if_neg c13] at H; obtain ⟨c13b0, c13b1⟩ := eqF_ c13; obtain rfl := Option.some.inj H; go_enter Try.func190, Try.ntmps190
  try go_wp2_with (first | ((with_reducible refine gd_ 6 rfl ?_); refine be_ 6 #[.int .i64 a0_0, .string a0_1] 31 ?_; intro gb669 hg w24 hbox hb; have BK669 := am_ hbox; have GW669 := gw0_ HB hg; have GE669 := GW669; replace HB := bs0_ HB hb; clear hb hbox hg))
  replace BK669 := am_ (blk_drew BK669.out); replace HB := bd_ HB; refine start_ (n := 12) (S := fun w' => w'.cell? ⟨gb669, 0, none⟩ = some (.int .i64 a0_0) ∧ w'.cell? ⟨gb669, 1, none⟩ = some (.string a0_1)) (ds := []) #[false, false, false, false, false, false, false, false, false, false, false, false] (by kernel_rfl) rfl rfl ⟨c0_ BK669, c1_ BK669⟩ (fun hHeld => ?_); refine with_tabW spec_l4Breaks.tab1 spec_l4Breaks.bits1 (fun HT_ HW_ => ?_); generalize w24.drew = w25 at BK669 HB hHeld ⊢
  refine pD_ 1 (some 17) HT_ (h := ?_); refine pD_ 2 (some 18) HT_ (h := ?_); refine pD_ 3 (some 19) HT_ (h := ?_); refine pD_ 6 (some 22) HT_ (h := ?_); refine pD_ 7 (some 23) HT_ (h := ?_); refine pD_ 8 (some 24) HT_ (h := ?_); refine tD2_ 0 (some 16) HT_ HW_ hHeld (h := ?_); refine tD2_ 5 (some 21) HT_ HW_ hHeld (h := ?_); refine oN_ 4 (some 20) HT_ (fun K hK => ?_); refine gO_ Try.func186 #[.agg #[.int .i64 a0_0, .string a0_1], .int .i64 a1, .int .i64 a2, .int .i64 a3] ?_; with_reducible refine (spec_l3At.calls k a0_0 a0_1 a1 a2 a3 t670 _ A7.out).mono ?_
  rintro e w26 ⟨rfl, hb⟩; refine ⟨_, rfl, ?_⟩; replace BK669 := bb_ BK669 hb; replace HB := bs1_ HB hb GE669; try clear hb
  refine hK.out _ _ ⟨c0_ BK669, c1_ BK669⟩ (fun hHeld => ?_); clear hK K; refine nm_ 20 (h := ?_); refine oN_ 9 (some 25) HT_ (fun K hK => ?_); refine gO_ Try.func186 #[.agg #[.int .i64 a0_0, .string a0_1], .int .i64 a1, .int .i64 a4, .int .i64 a5] ?_; with_reducible refine (spec_l3At.calls k a0_0 a0_1 a1 a4 a5 t671 _ A8.out).mono ?_
  rintro e w27 ⟨rfl, hb⟩; refine ⟨_, rfl, ?_⟩; replace BK669 := bb_ BK669 hb; replace HB := bs1_ HB hb GE669; try clear hb
  refine hK.out _ _ ⟨c0_ BK669, c1_ BK669⟩ (fun hHeld => ?_); clear hK K; refine nm_ 25 (h := ?_); refine pD_ 10 (some 26) HT_ (h := ?_); refine pD_ 11 (some 13) HT_ (h := ?_); refine done_ (done_of HT_.out (by kernel_rfl)) ?_; try go_wp2
  replace BK669 := am_ (blk_drew BK669.out); replace HB := bd_ HB; refine start_ (n := 12) (S := fun w' => w'.cell? ⟨gb669, 0, none⟩ = some (.int .i64 a0_0) ∧ w'.cell? ⟨gb669, 1, none⟩ = some (.string a0_1)) (ds := []) #[false, false, false, false, false, false, false, false, false, false, false, false] (by kernel_rfl) rfl rfl ⟨c0_ BK669, c1_ BK669⟩ (fun hHeld => ?_); refine with_tabW spec_l4Breaks.tab2 spec_l4Breaks.bits2 (fun HT_ HW_ => ?_); generalize w27.drew = w28 at BK669 HB hHeld ⊢
  refine pD_ 1 (some 28) HT_ (h := ?_); refine pD_ 2 (some 29) HT_ (h := ?_); refine pD_ 3 (some 30) HT_ (h := ?_); refine pD_ 6 (some 33) HT_ (h := ?_); refine pD_ 7 (some 34) HT_ (h := ?_); refine pD_ 8 (some 35) HT_ (h := ?_); refine tD2_ 0 (some 27) HT_ HW_ hHeld (h := ?_); refine tD2_ 5 (some 32) HT_ HW_ hHeld (h := ?_); refine oN_ 4 (some 31) HT_ (fun K hK => ?_); refine gO_ Try.func186 #[.agg #[.int .i64 a0_0, .string a0_1], .int .i64 a1, .int .i64 a2, .int .i64 a5] ?_; with_reducible refine (spec_l3At.calls k a0_0 a0_1 a1 a2 a5 t672 _ A9.out).mono ?_
  rintro e w29 ⟨rfl, hb⟩; refine ⟨_, rfl, ?_⟩; replace BK669 := bb_ BK669 hb; replace HB := bs1_ HB hb GE669; try clear hb
  refine hK.out _ _ ⟨c0_ BK669, c1_ BK669⟩ (fun hHeld => ?_); clear hK K; refine nm_ 31 (h := ?_); refine oN_ 9 (some 36) HT_ (fun K hK => ?_); refine gO_ Try.func186 #[.agg #[.int .i64 a0_0, .string a0_1], .int .i64 a1, .int .i64 a3, .int .i64 a4] ?_; with_reducible refine (spec_l3At.calls k a0_0 a0_1 a1 a3 a4 t673 _ A10.out).mono ?_
  rintro e w30 ⟨rfl, hb⟩; refine ⟨_, rfl, ?_⟩; replace BK669 := bb_ BK669 hb; replace HB := bs1_ HB hb GE669; try clear hb
  refine hK.out _ _ ⟨c0_ BK669, c1_ BK669⟩ (fun hHeld => ?_); clear hK K; refine nm_ 36 (h := ?_); refine pD_ 10 (some 37) HT_ (h := ?_); refine pD_ 11 (some 14) HT_ (h := ?_); refine done_ (done_of HT_.out (by kernel_rfl)) ?_; try go_wp2
  replace BK669 := am_ (blk_drew BK669.out); replace HB := bd_ HB; refine start_ (n := 13) (S := fun w' => w'.cell? ⟨gb669, 0, none⟩ = some (.int .i64 a0_0) ∧ w'.cell? ⟨gb669, 1, none⟩ = some (.string a0_1)) (ds := []) #[false, false, false, false, false, false, false, false, false, false, false, false, false] (by kernel_rfl) rfl rfl ⟨c0_ BK669, c1_ BK669⟩ (fun hHeld => ?_); refine with_tabW spec_l4Breaks.tab3 spec_l4Breaks.bits3 (fun HT_ HW_ => ?_); generalize w30.drew = w31 at BK669 HB hHeld ⊢
  refine pD_ 1 (some 39) HT_ (h := ?_); refine pD_ 2 (some 40) HT_ (h := ?_); refine pD_ 3 (some 41) HT_ (h := ?_); refine pD_ 7 (some 45) HT_ (h := ?_); refine pD_ 8 (some 46) HT_ (h := ?_); refine pD_ 9 (some 47) HT_ (h := ?_); refine tD2_ 0 (some 38) HT_ HW_ hHeld (h := ?_); refine tD2_ 6 (some 44) HT_ HW_ hHeld (h := ?_); refine oN_ 4 (some 42) HT_ (fun K hK => ?_); refine gO_ Try.func186 #[.agg #[.int .i64 a0_0, .string a0_1], .int .i64 a1, .int .i64 a2, .int .i64 a4] ?_; with_reducible refine (spec_l3At.calls k a0_0 a0_1 a1 a2 a4 t674 _ A11.out).mono ?_
  rintro e w32 ⟨rfl, hb⟩; refine ⟨_, rfl, ?_⟩; replace BK669 := bb_ BK669 hb; replace HB := bs1_ HB hb GE669; try clear hb
  refine hK.out _ _ ⟨c0_ BK669, c1_ BK669⟩ (fun hHeld => ?_); clear hK K; refine nm_ 42 (h := ?_); refine pD_ 5 (some 43) HT_ (h := ?_); refine oN_ 10 (some 48) HT_ (fun K hK => ?_); refine gO_ Try.func186 #[.agg #[.int .i64 a0_0, .string a0_1], .int .i64 a1, .int .i64 a3, .int .i64 a5] ?_; with_reducible refine (spec_l3At.calls k a0_0 a0_1 a1 a3 a5 t675 _ A12.out).mono ?_
  rintro e w33 ⟨rfl, hb⟩; refine ⟨_, rfl, ?_⟩; replace BK669 := bb_ BK669 hb; replace HB := bs1_ HB hb GE669; try clear hb
  refine hK.out _ _ ⟨c0_ BK669, c1_ BK669⟩ (fun hHeld => ?_); clear hK K; refine nm_ 48 (h := ?_); refine pD_ 11 (some 49) HT_ (h := ?_); refine pD_ 12 (some 15) HT_ (h := ?_); refine done_ (done_of HT_.out (by kernel_rfl)) ?_; try go_wp2
  go_ret; exact ⟨er_, bx1 HB.out GE669.out⟩
mutual
def spec_FirstBreak.l0 : Nat → Int → Int → ByteArray → Option (List Int)
 | 0, _, _, _ => none
 | k + 1, x3, x677000, x677001 => if x3 < x677000 then ((spec_AreSigns.f k x677000 x677001).bind fun t677 => (spec_FirstBreak.j1 k x3 t677 x677000 x677001)) else (spec_FirstBreak.j1 k x3 false x677000 x677001)
def spec_FirstBreak.j1 : Nat → Int → Bool → Int → ByteArray → Option (List Int)
 | 0, _, _, _, _ => none
 | k + 1, x3, x16, x677000, x677001 => if x16 = true then ((spec_l3Others.f k x677000 x3).bind fun t681 => (spec_FirstBreak.l1 k x3 t681 0 x677000 x677001)) else (some (([] : List Int)))
def spec_FirstBreak.l1 : Nat → Int → List Int → Int → Int → ByteArray → Option (List Int)
 | 0, _, _, _, _, _ => none
 | k + 1, x3, x4, x5, x677000, x677001 => if x5 < (x4.length : Int) then (spec_FirstBreak.l2 k x3 x4 x5 (wrap64 (x5 + 1)) x677000 x677001) else (spec_FirstBreak.l0 k (wrap64 (x3 + 1)) x677000 x677001)
def spec_FirstBreak.l2 : Nat → Int → List Int → Int → Int → Int → ByteArray → Option (List Int)
 | 0, _, _, _, _, _, _ => none
 | k + 1, x3, x4, x5, x6, x677000, x677001 => if x6 < (x4.length : Int) then (spec_FirstBreak.l3 k x3 x4 x5 x6 (wrap64 (x6 + 1)) x677000 x677001) else (spec_FirstBreak.l1 k x3 x4 (wrap64 (x5 + 1)) x677000 x677001)
def spec_FirstBreak.l3 : Nat → Int → List Int → Int → Int → Int → Int → ByteArray → Option (List Int)
 | 0, _, _, _, _, _, _, _ => none
 | k + 1, x3, x4, x5, x6, x7, x677000, x677001 => if x7 < (x4.length : Int) then (spec_FirstBreak.l4 k x3 x4 x5 x6 x7 (wrap64 (x7 + 1)) x677000 x677001) else (spec_FirstBreak.l2 k x3 x4 x5 (wrap64 (x6 + 1)) x677000 x677001)
def spec_FirstBreak.l4 : Nat → Int → List Int → Int → Int → Int → Int → Int → ByteArray → Option (List Int)
 | 0, _, _, _, _, _, _, _, _ => none
 | k + 1, x3, x4, x5, x6, x7, x8, x677000, x677001 => if x8 < (x4.length : Int) then (if 0 ≤ x5 then (if x5 < (x4.length : Int) then (if 0 ≤ x6 then (if x6 < (x4.length : Int) then (if 0 ≤ x7 then (if x7 < (x4.length : Int) then (if 0 ≤ x8 then ((spec_l4Breaks.f k x677000 x677001 x3 (rd x4 x5) (rd x4 x6) (rd x4 x7) (rd x4 x8)).bind fun t688 => (if t688 = true then (some (([x3, rd x4 x5, rd x4 x6, rd x4 x7, rd x4 x8] : List Int))) else (spec_FirstBreak.l4 k x3 x4 x5 x6 x7 (wrap64 (x8 + 1)) x677000 x677001))) else (none)) else (none)) else (none)) else (none)) else (none)) else (none)) else (none)) else (spec_FirstBreak.l3 k x3 x4 x5 x6 (wrap64 (x7 + 1)) x677000 x677001)
end
def spec_FirstBreak.f (k : Nat) (a0_0 : Int) (a0_1 : ByteArray) : Option (List Int) := spec_FirstBreak.l0 k 0 a0_0 a0_1
theorem spec_FirstBreak.mono_l : ∀ k, (∀ y0 y1 y2, LeO (spec_FirstBreak.l0 k y0 y1 y2) (spec_FirstBreak.l0 (k + 1) y0 y1 y2)) ∧ (∀ y0 y1 y2 y3, LeO (spec_FirstBreak.j1 k y0 y1 y2 y3) (spec_FirstBreak.j1 (k + 1) y0 y1 y2 y3)) ∧ (∀ y0 y1 y2 y3 y4, LeO (spec_FirstBreak.l1 k y0 y1 y2 y3 y4) (spec_FirstBreak.l1 (k + 1) y0 y1 y2 y3 y4)) ∧ (∀ y0 y1 y2 y3 y4 y5, LeO (spec_FirstBreak.l2 k y0 y1 y2 y3 y4 y5) (spec_FirstBreak.l2 (k + 1) y0 y1 y2 y3 y4 y5)) ∧ (∀ y0 y1 y2 y3 y4 y5 y6, LeO (spec_FirstBreak.l3 k y0 y1 y2 y3 y4 y5 y6) (spec_FirstBreak.l3 (k + 1) y0 y1 y2 y3 y4 y5 y6)) ∧ (∀ y0 y1 y2 y3 y4 y5 y6 y7, LeO (spec_FirstBreak.l4 k y0 y1 y2 y3 y4 y5 y6 y7) (spec_FirstBreak.l4 (k + 1) y0 y1 y2 y3 y4 y5 y6 y7))
 | 0 => ⟨fun _ _ _ r h => by simp [spec_FirstBreak.l0] at h, fun _ _ _ _ r h => by simp [spec_FirstBreak.j1] at h, fun _ _ _ _ _ r h => by simp [spec_FirstBreak.l1] at h, fun _ _ _ _ _ _ r h => by simp [spec_FirstBreak.l2] at h, fun _ _ _ _ _ _ _ r h => by simp [spec_FirstBreak.l3] at h, fun _ _ _ _ _ _ _ _ r h => by simp [spec_FirstBreak.l4] at h⟩
 | k + 1 => by
  obtain ⟨ih0, ih1, ih2, ih3, ih4, ih5⟩ := spec_FirstBreak.mono_l k; refine ⟨?_, ?_, ?_, ?_, ?_, ?_⟩ <;> (intros; (first | unfold spec_FirstBreak.l0 | unfold spec_FirstBreak.j1 | unfold spec_FirstBreak.l1 | unfold spec_FirstBreak.l2 | unfold spec_FirstBreak.l3 | unfold spec_FirstBreak.l4); repeat' first | (with_reducible first | apply ih0 | apply ih1 | apply ih2 | apply ih3 | apply ih4 | apply ih5 | apply spec_AreSigns.mono | apply spec_l3Others.mono | apply spec_l4Breaks.mono | exact LeO.refl _ | exact LeO.none _ | refine LeO.ite ?_ ?_ | refine LeO.bind ?_ (fun _ => ?_)) | exact LeO.none _)
theorem spec_FirstBreak.mono : ∀ a0 a1 k, LeO (spec_FirstBreak.f k a0 a1) (spec_FirstBreak.f (k + 1) a0 a1) := by
 intro a0 a1 k; obtain ⟨ih0, ih1, ih2, ih3, ih4, ih5⟩ := spec_FirstBreak.mono_l k; unfold spec_FirstBreak.f
 repeat' first | (with_reducible first | apply ih0 | apply ih1 | apply ih2 | apply ih3 | apply ih4 | apply ih5 | apply spec_AreSigns.mono | apply spec_l3Others.mono | apply spec_l4Breaks.mono | exact LeO.refl _ | exact LeO.none _ | refine LeO.ite ?_ ?_ | refine LeO.bind ?_ (fun _ => ?_)) | exact LeO.none _
def spec_FirstBreak.T17 : Bool × List (List Nat × List Nat) := (true, [([], []), ([], []), ([], []), ([], []), ([2, 3], [2, 3]), ([4], [4]), ([], []), ([], []), ([6, 7], [6, 7]), ([8], [8]), ([], []), ([], []), ([10, 11], [10, 11]), ([12], [12]), ([], []), ([], []), ([14, 15], [14, 15]), ([16], [16]), ([0, 1, 5, 9, 13, 17], [0, 1, 5, 9, 13, 17])])
def spec_FirstBreak.B17 : List Nat := [0, 0, 0, 0, 12, 28, 0, 0, 192, 448, 0, 0, 3072, 7168, 0, 0, 49152, 114688, 262143]
theorem spec_FirstBreak.tab17 : rtab .any (opsOf Try.f138 17) = spec_FirstBreak.T17 := by kernel_rfl
theorem spec_FirstBreak.bits17 : waitsOk spec_FirstBreak.T17.2 spec_FirstBreak.B17 = true := by kernel_rfl
def spec_FirstBreak.T18 : Bool × List (List Nat × List Nat) := (true, [([], []), ([], []), ([], []), ([1, 2], [1, 2]), ([3], [3]), ([], []), ([], []), ([5, 6], [5, 6]), ([7], [7]), ([], []), ([], []), ([9, 10], [9, 10]), ([11], [11]), ([], []), ([], []), ([13, 14], [13, 14]), ([15], [15]), ([0, 4, 8, 12, 16], [0, 4, 8, 12, 16]), ([17, 0, 1, 2, 3, 4, 5, 6, 7, 8, 9, 10, 11, 12, 13, 14, 15, 16, 17], [17])])
def spec_FirstBreak.B18 : List Nat := [0, 0, 0, 6, 14, 0, 0, 96, 224, 0, 0, 1536, 3584, 0, 0, 24576, 57344, 131071, 262143]
theorem spec_FirstBreak.tab18 : rtab .any (opsOf Try.f138 18) = spec_FirstBreak.T18 := by kernel_rfl
theorem spec_FirstBreak.bits18 : waitsOk spec_FirstBreak.T18.2 spec_FirstBreak.B18 = true := by kernel_rfl
set_option maxHeartbeats 8000000 in
set_option maxRecDepth 100000 in
theorem spec_FirstBreak.calls (k : Nat) (a0_0 : Int) (a0_1 : ByteArray) (r : List Int) (w : World) (h : spec_FirstBreak.f k a0_0 a0_1 = some r) :
  Calls Try.prog 138 #[.agg #[.int .i64 a0_0, .string a0_1]] w fun e w' => ∃ v0_ : Value, e = .returned (v0_) ∧ Kd.R (Kd.int .i64) 3 w' w.heap.size (fun _ => True) v0_ r ∧ Below w.heap.size w w' := by
 have hu31 := Try.underlying31; have HB := am_ (Below.refl w.heap.size w); have H : (spec_FirstBreak.l0 k 0 a0_0 a0_1) = some r := h; clear h; have H' := am_ H; clear H; go_enter Try.func138, Try.ntmps138
 go_wp2_with (first | ((with_reducible refine gd_ 1 rfl ?_); refine be_ 1 #[.int .i64 a0_0, .string a0_1] 31 ?_; intro gb676 hg w2 hbox hb; have BK676 := am_ hbox; have GW676 := gw0_ HB hg; have GE676 := GW676; replace HB := bs0_ HB hb; clear hb hbox hg))
 go_loopg [3] k (fun kq v3 w' => ∃ (x3_1 : Int), v3 = .int .i64 x3_1 ∧ Aside0 (spec_FirstBreak.l0 kq x3_1 a0_0 a0_1 = some r) ∧ Aside0 (kq ≤ k) ∧ Aside0 (w'.heap[gb676]? = some (.cells #[.int .i64 a0_0, .string a0_1] 31 (0, 0))) ∧ Aside0 (Below w.heap.size w w'))
 case atStart => exact ⟨(0), vt_, H', ⟨Nat.le_refl _⟩, kX_ BK676, bX1_ HB GE676⟩
 case round =>
  clear H'; obtain ⟨x3_1, rfl, HA, HK1, BK676, HB⟩ := hrel; cases gk with
  | zero => exact absurd HA.out (by simp [spec_FirstBreak.l0])
  | succ k1 =>
   have H := HA.out; clear HA; simp only [spec_FirstBreak.l0] at H
   have HC3 := am_ H; clear H; go_upto_region 2 with (fail)
   go_cut [16] (fun v16 wc => ∃ (kq : Nat) (x16_2 : Bool), v16 = .bool x16_2 ∧ Aside0 (spec_FirstBreak.j1 kq x3_1 x16_2 a0_0 a0_1 = some r) ∧ Aside0 (kq ≤ k1) ∧ Aside0 (wc.heap[gb676]? = some (.cells #[.int .i64 a0_0, .string a0_1] 31 (0, 0))) ∧ Aside0 (Below w.heap.size w wc))
   case first =>
    have H := HC3.out; clear HC3; by_cases c4 : x3_1 < a0_0
    ·rw [if_pos c4] at H; have c4b0 := decide_eq_true c4; clear c4; (first | rw [c4b0] | (simp only [i64_w, i32_w]; rw [c4b0]) | skip)
     obtain ⟨t677, A5, H⟩ := bnd_ H; have H' := am_ H; clear H; obtain ⟨hcz6_0, hfz6_0, hcz6_1, hfz6_1⟩ := bk2_ BK676; go_wp2_with (first | (go_at_call 137; (with_reducible refine (spec_AreSigns.calls k1 a0_0 a0_1 t677 _ A5.out).mono ?_); rintro e w7 ⟨rfl, hb⟩; replace BK676 := bb_ BK676 hb; replace HB := bs1_ HB hb GE676; try clear hb))
     go_meet
     case rel => exact ⟨_, (t677), vt_, H', ⟨by have := HK1.out; first | omega | exact Nat.le_refl _⟩, kX_ BK676, bX1_ HB GE676⟩
    ·rw [if_neg c4] at H; have c4b0 := decide_eq_false c4; clear c4; (first | rw [c4b0] | (simp only [i64_w, i32_w]; rw [c4b0]) | skip)
     have H' := am_ H; clear H; obtain ⟨hcz8_0, hfz8_0, hcz8_1, hfz8_1⟩ := bk2_ BK676; go_wp2; go_meet
     case rel => exact ⟨_, (false), vt_, H', ⟨by have := HK1.out; first | omega | exact Nat.le_refl _⟩, kX_ BK676, bX1_ HB GE676⟩
   case rest =>
    clear HC3; obtain ⟨kq, x16_2, rfl, HA, HJ2, BK676, HB⟩ := hcut; cases kq with
    | zero => exact absurd HA.out (by simp [spec_FirstBreak.j1])
    | succ kj2 =>
     have H := HA.out; clear HA; simp only [spec_FirstBreak.j1] at H
     by_cases c9 : x16_2 = true
     ·subst c9; replace H := ifT_ H; obtain ⟨t681, A10, H⟩ := bnd_ H; have H' := am_ H; clear H; obtain ⟨hcz11_0, hfz11_0, hcz11_1, hfz11_1⟩ := bk2_ BK676; go_wp2_with (first | ((with_reducible refine gc_ 189 rfl ?_); refine gR_ (some 22) Try.func189 #[.int .i64 a0_0, .int .i64 x3_1] (spec_l3Others.calls kj2 a0_0 x3_1 t681 _ A10.out) ?_; intro w12 v682 ho0 hb; have HO683 := rl1_ ho0 HB GE676; replace BK676 := bb_ BK676 hb; replace HB := bs1_ HB hb GE676; try clear hb; (try clear ho0)))
      go_loopg [5] kj2 (fun kq v5 w' => ∃ (x5_3 : Int), v5 = .int .i64 x5_3 ∧ Aside0 (spec_FirstBreak.l1 kq x3_1 t681 x5_3 a0_0 a0_1 = some r) ∧ Aside0 (kq ≤ kj2) ∧ Aside0 (Kd.R (Kd.int .i64) 3 w' w.heap.size (fun _ => True) v682 t681) ∧ Aside0 (w'.heap[gb676]? = some (.cells #[.int .i64 a0_0, .string a0_1] 31 (0, 0))) ∧ Aside0 (Below w.heap.size w w'))
      case atStart => exact ⟨(0), vt_, H', ⟨Nat.le_refl _⟩, rX_ HO683, kX_ BK676, bX1_ HB GE676⟩
      case round =>
       clear H'; try clear c9 hcz11_0 hcz11_1 hfz11_0 hfz11_1
       obtain ⟨x5_3, rfl, HA, HK3, HO_4, BK676, HB⟩ := hrel; cases gk with
       | zero => exact absurd HA.out (by simp [spec_FirstBreak.l1])
       | succ k3 =>
        have H := HA.out; clear HA; simp only [spec_FirstBreak.l1] at H
        by_cases c13 : x5_3 < (t681.length : Int)
        ·rw [if_pos c13] at H; have c13b0 := decide_eq_true c13; clear c13; have H' := am_ H; clear H; obtain ⟨Ao14, co14, eo14⟩ := Kd.R_slice HO_4.out; subst eo14; go_wp2; go_loopg [6] k3 (fun kq v6 w' => ∃ (x6_4 : Int), v6 = .int .i64 x6_4 ∧ Aside0 (spec_FirstBreak.l2 kq x3_1 t681 x5_3 x6_4 a0_0 a0_1 = some r) ∧ Aside0 (kq ≤ k3) ∧ Aside0 (Kd.R (Kd.int .i64) 3 w' w.heap.size (fun _ => True) (.slice Ao14 t681.length co14) t681) ∧ Aside0 (w'.heap[gb676]? = some (.cells #[.int .i64 a0_0, .string a0_1] 31 (0, 0))) ∧ Aside0 (Below w.heap.size w w'))
         case atStart => exact ⟨(wrap64 (x5_3 + 1)), vt_, H', ⟨Nat.le_refl _⟩, rX_ HO_4, kX_ BK676, bX1_ HB GE676⟩
         case round =>
          clear H'; try clear c9 c13b0 hcz11_0 hcz11_1 hfz11_0 hfz11_1
          obtain ⟨x6_4, rfl, HA, HK4, HO_4, BK676, HB⟩ := hrel; cases gk with
          | zero => exact absurd HA.out (by simp [spec_FirstBreak.l2])
          | succ k4 =>
           have H := HA.out; clear HA; simp only [spec_FirstBreak.l2] at H
           by_cases c15 : x6_4 < (t681.length : Int)
           ·rw [if_pos c15] at H; have c15b0 := decide_eq_true c15; clear c15; have H' := am_ H; clear H; go_wp2; go_loopg [7] k4 (fun kq v7 w' => ∃ (x7_5 : Int), v7 = .int .i64 x7_5 ∧ Aside0 (spec_FirstBreak.l3 kq x3_1 t681 x5_3 x6_4 x7_5 a0_0 a0_1 = some r) ∧ Aside0 (kq ≤ k4) ∧ Aside0 (Kd.R (Kd.int .i64) 3 w' w.heap.size (fun _ => True) (.slice Ao14 t681.length co14) t681) ∧ Aside0 (w'.heap[gb676]? = some (.cells #[.int .i64 a0_0, .string a0_1] 31 (0, 0))) ∧ Aside0 (Below w.heap.size w w'))
            case atStart => exact ⟨(wrap64 (x6_4 + 1)), vt_, H', ⟨Nat.le_refl _⟩, rX_ HO_4, kX_ BK676, bX1_ HB GE676⟩
            case round =>
             clear H'; try clear c9 c13b0 c15b0 hcz11_0 hcz11_1 hfz11_0 hfz11_1
             obtain ⟨x7_5, rfl, HA, HK5, HO_4, BK676, HB⟩ := hrel; cases gk with
             | zero => exact absurd HA.out (by simp [spec_FirstBreak.l3])
             | succ k5 =>
              have H := HA.out; clear HA; simp only [spec_FirstBreak.l3] at H
              by_cases c16 : x7_5 < (t681.length : Int)
              ·rw [if_pos c16] at H; have c16b0 := decide_eq_true c16; clear c16; have H' := am_ H; clear H; go_wp2; go_loopg [8] k5 (fun kq v8 w' => ∃ (x8_6 : Int), v8 = .int .i64 x8_6 ∧ Aside0 (spec_FirstBreak.l4 kq x3_1 t681 x5_3 x6_4 x7_5 x8_6 a0_0 a0_1 = some r) ∧ Aside0 (kq ≤ k5) ∧ Aside0 (Kd.R (Kd.int .i64) 3 w' w.heap.size (fun _ => True) (.slice Ao14 t681.length co14) t681) ∧ Aside0 (w'.heap[gb676]? = some (.cells #[.int .i64 a0_0, .string a0_1] 31 (0, 0))) ∧ Aside0 (Below w.heap.size w w'))
               case atStart => exact ⟨(wrap64 (x7_5 + 1)), vt_, H', ⟨Nat.le_refl _⟩, rX_ HO_4, kX_ BK676, bX1_ HB GE676⟩
               case round =>
                clear H'; try clear c9 c13b0 c15b0 c16b0 hcz11_0 hcz11_1 hfz11_0 hfz11_1
                obtain ⟨x8_6, rfl, HA, HK6, HO_4, BK676, HB⟩ := hrel; cases gk with
                | zero => exact absurd HA.out (by simp [spec_FirstBreak.l4])
                | succ k6 =>
                 have H := HA.out; clear HA; simp only [spec_FirstBreak.l4] at H
                 by_cases c17 : x8_6 < (t681.length : Int)
                 ·rw [if_pos c17] at H; have c17b0 := decide_eq_true c17; clear c17; by_cases c18 : 0 ≤ x5_3
                  ·rw [if_pos c18] at H; have c18b0 := decide_eq_true c18; clear c18; by_cases c19 : x5_3 < (t681.length : Int)
                   ·rw [if_pos c19] at H; have c19b0 := decide_eq_true c19; clear c19; by_cases c20 : 0 ≤ x6_4
                    ·rw [if_pos c20] at H; have c20b0 := decide_eq_true c20; clear c20; by_cases c21 : x6_4 < (t681.length : Int)
                     ·rw [if_pos c21] at H; have c21b0 := decide_eq_true c21; clear c21; by_cases c22 : 0 ≤ x7_5
                      ·rw [if_pos c22] at H; have c22b0 := decide_eq_true c22; clear c22; by_cases c23 : x7_5 < (t681.length : Int)
                       ·rw [if_pos c23] at H; have c23b0 := decide_eq_true c23; clear c23; by_cases c24 : 0 ≤ x8_6
                        ·rw [if_pos c24] at H; have c24b0 := decide_eq_true c24; clear c24; obtain ⟨t688, A25, H⟩ := bnd_ H; by_cases c26 : t688 = true
                         ·subst c26; replace H := ifT_ H; obtain ⟨y693, hy693⟩ : ∃ y_ : List Int, y_ = (([x3_1, rd t681 x5_3, rd t681 x6_4, rd t681 x7_5, rd t681 x8_6] : List Int)) := ⟨_, rfl⟩; replace H : (some y693) = some r := yH_ hy693 H; have Ny693 := am_ hy693; clear hy693; obtain rfl := Option.some.inj H; try go_wp2
                          replace HO_4 := am_ (Kd.R_drew HO_4.out); replace BK676 := am_ (blk_drew BK676.out); replace HB := bd_ HB; have p684 : 0 ≤ (x5_3 : Int) := oda_; have q684 : x5_3 < (t681.length : Int) := oda_; obtain ⟨ad684, e684, hx684_0⟩ := Kd.at_int (Kd.R_reads' HO_4.out).2.2 x5_3 p684 q684; cases e684; replace p684 := eq_true p684; replace q684 := eq_true q684; have p685 : 0 ≤ (x6_4 : Int) := oda_; have q685 : x6_4 < (t681.length : Int) := oda_; obtain ⟨ad685, e685, hx685_0⟩ := Kd.at_int (Kd.R_reads' HO_4.out).2.2 x6_4 p685 q685; obtain rfl : ad684 = ad685 := (by injection e685); replace p685 := eq_true p685; replace q685 := eq_true q685; have p686 : 0 ≤ (x7_5 : Int) := oda_; have q686 : x7_5 < (t681.length : Int) := oda_; obtain ⟨ad686, e686, hx686_0⟩ := Kd.at_int (Kd.R_reads' HO_4.out).2.2 x7_5 p686 q686; obtain rfl : ad684 = ad686 := (by injection e686); replace p686 := eq_true p686; replace q686 := eq_true q686; have p687 : 0 ≤ (x8_6 : Int) := oda_; have q687 : x8_6 < (t681.length : Int) := oda_; obtain ⟨ad687, e687, hx687_0⟩ := Kd.at_int (Kd.R_reads' HO_4.out).2.2 x8_6 p687 q687; obtain rfl : ad684 = ad687 := (by injection e687); replace p687 := eq_true p687; replace q687 := eq_true q687; refine start_ (n := 19) (S := fun w' => w'.cell? ⟨gb676, 0, none⟩ = some (.int .i64 a0_0) ∧ w'.cell? ⟨gb676, 1, none⟩ = some (.string a0_1) ∧ w'.cell? (ad684.add (x5_3).toNat) = some (.int .i64 (rd t681 x5_3)) ∧ w'.cell? (ad684.add (x6_4).toNat) = some (.int .i64 (rd t681 x6_4)) ∧ w'.cell? (ad684.add (x7_5).toNat) = some (.int .i64 (rd t681 x7_5)) ∧ w'.cell? (ad684.add (x8_6).toNat) = some (.int .i64 (rd t681 x8_6))) (ds := []) #[false, false, false, false, false, false, false, false, false, false, false, false, false, false, false, false, false, false, false] (by kernel_rfl) rfl rfl ⟨c0_ BK676, c1_ BK676, hx684_0, hx685_0, hx686_0, hx687_0⟩ (fun hHeld => ?_); refine with_tabW spec_FirstBreak.tab17 spec_FirstBreak.bits17 (fun HT_ HW_ => ?_)
                          generalize wr.drew = w27 at HO_4 BK676 HB hx684_0 hx685_0 hx686_0 hx687_0 hHeld ⊢
                          refine pD_ 1 (some 54) HT_ (h := ?_); refine pD_ 2 (some 55) HT_ (h := ?_); refine pD_ 3 (some 56) HT_ (h := ?_); refine pD_ 4 (some 57) HT_ (h := ?_); refine pD_ 6 (some 59) HT_ (h := ?_); refine pD_ 7 (some 60) HT_ (h := ?_); refine pD_ 8 (some 61) HT_ (h := ?_); refine pD_ 10 (some 63) HT_ (h := ?_); refine pD_ 11 (some 64) HT_ (h := ?_); refine pD_ 12 (some 65) HT_ (h := ?_); refine pD_ 14 (some 67) HT_ (h := ?_); refine pD_ 15 (some 68) HT_ (h := ?_); refine pD_ 16 (some 69) HT_ (h := ?_); refine tD6_ 0 (some 53) HT_ HW_ hHeld (h := ?_); refine tD6_ 5 (some 58) HT_ HW_ hHeld (h := ?_); refine tD6_ 9 (some 62) HT_ HW_ hHeld (h := ?_); refine tD6_ 13 (some 66) HT_ HW_ hHeld (h := ?_); refine tD6_ 17 (some 70) HT_ HW_ hHeld (h := ?_); refine oN_ 18 (some 71) HT_ (fun K hK => ?_); refine gO_ Try.func190 #[.agg #[.int .i64 a0_0, .string a0_1], .int .i64 x3_1, .int .i64 (rd t681 x5_3), .int .i64 (rd t681 x6_4), .int .i64 (rd t681 x7_5), .int .i64 (rd t681 x8_6)] ?_; with_reducible refine (spec_l4Breaks.calls k6 a0_0 a0_1 x3_1 (rd t681 x5_3) (rd t681 x6_4) (rd t681 x7_5) (rd t681 x8_6) true _ A25.out).mono ?_
                          rintro e w28 ⟨rfl, hb⟩; have HS2_ := (hb.cell (World.block_lt_of_cell? _ _ (hHeld.2.2.1))).trans (hHeld.2.2.1); have HS3_ := (hb.cell (World.block_lt_of_cell? _ _ (hHeld.2.2.2.1))).trans (hHeld.2.2.2.1); have HS4_ := (hb.cell (World.block_lt_of_cell? _ _ (hHeld.2.2.2.2.1))).trans (hHeld.2.2.2.2.1); have HS5_ := (hb.cell (World.block_lt_of_cell? _ _ (hHeld.2.2.2.2.2))).trans (hHeld.2.2.2.2.2); refine ⟨_, rfl, ?_⟩; replace HO_4 := rb_ HO_4 hb; replace BK676 := bb_ BK676 hb; replace HB := bs1_ HB hb GE676; try clear hb
                          refine hK.out _ _ ⟨c0_ BK676, c1_ BK676, HS2_, HS3_, HS4_, HS5_⟩ (fun hHeld => ?_); clear hK K; refine nm_ 71 (h := ?_); refine done_ (done_of HT_.out (by kernel_rfl)) ?_; try go_wp2
                          replace HO_4 := am_ (Kd.R_drew HO_4.out); replace BK676 := am_ (blk_drew BK676.out); replace HB := bd_ HB; have p689 : 0 ≤ (x5_3 : Int) := oda_; have q689 : x5_3 < (t681.length : Int) := oda_; obtain ⟨ad689, e689, hx689_0⟩ := Kd.at_int (Kd.R_reads' HO_4.out).2.2 x5_3 p689 q689; obtain rfl : ad684 = ad689 := (by injection e689); replace p689 := eq_true p689; replace q689 := eq_true q689; have p690 : 0 ≤ (x6_4 : Int) := oda_; have q690 : x6_4 < (t681.length : Int) := oda_; obtain ⟨ad690, e690, hx690_0⟩ := Kd.at_int (Kd.R_reads' HO_4.out).2.2 x6_4 p690 q690; obtain rfl : ad684 = ad690 := (by injection e690); replace p690 := eq_true p690; replace q690 := eq_true q690; have p691 : 0 ≤ (x7_5 : Int) := oda_; have q691 : x7_5 < (t681.length : Int) := oda_; obtain ⟨ad691, e691, hx691_0⟩ := Kd.at_int (Kd.R_reads' HO_4.out).2.2 x7_5 p691 q691; obtain rfl : ad684 = ad691 := (by injection e691); replace p691 := eq_true p691; replace q691 := eq_true q691; have p692 : 0 ≤ (x8_6 : Int) := oda_; have q692 : x8_6 < (t681.length : Int) := oda_; obtain ⟨ad692, e692, hx692_0⟩ := Kd.at_int (Kd.R_reads' HO_4.out).2.2 x8_6 p692 q692; obtain rfl : ad684 = ad692 := (by injection e692); replace p692 := eq_true p692; replace q692 := eq_true q692; refine start_ (n := 19) (S := fun w' => w'.cell? (ad684.add (x5_3).toNat) = some (.int .i64 (rd t681 x5_3)) ∧ w'.cell? (ad684.add (x6_4).toNat) = some (.int .i64 (rd t681 x6_4)) ∧ w'.cell? (ad684.add (x7_5).toNat) = some (.int .i64 (rd t681 x7_5)) ∧ w'.cell? (ad684.add (x8_6).toNat) = some (.int .i64 (rd t681 x8_6))) (ds := []) #[false, false, false, false, false, false, false, false, false, false, false, false, false, false, false, false, false, false, false] (by kernel_rfl) rfl rfl ⟨hx689_0, hx690_0, hx691_0, hx692_0⟩ (fun hHeld => ?_); refine with_tabW spec_FirstBreak.tab18 spec_FirstBreak.bits18 (fun HT_ HW_ => ?_); generalize w28.drew = w29 at HO_4 BK676 HB hx689_0 hx690_0 hx691_0 hx692_0 hHeld ⊢
                          refine pD_ 0 (some 72) HT_ (h := ?_); refine pD_ 1 (some 73) HT_ (h := ?_); refine pD_ 2 (some 74) HT_ (h := ?_); refine pD_ 3 (some 75) HT_ (h := ?_); refine pD_ 5 (some 77) HT_ (h := ?_); refine pD_ 6 (some 78) HT_ (h := ?_); refine pD_ 7 (some 79) HT_ (h := ?_); refine pD_ 9 (some 81) HT_ (h := ?_); refine pD_ 10 (some 82) HT_ (h := ?_); refine pD_ 11 (some 83) HT_ (h := ?_); refine pD_ 13 (some 85) HT_ (h := ?_); refine pD_ 14 (some 86) HT_ (h := ?_); refine pD_ 15 (some 87) HT_ (h := ?_); refine tD4_ 4 (some 76) HT_ HW_ hHeld (h := ?_); refine tD4_ 8 (some 80) HT_ HW_ hHeld (h := ?_); refine tD4_ 12 (some 84) HT_ HW_ hHeld (h := ?_); refine tD4_ 16 (some 88) HT_ HW_ hHeld (h := ?_); refine oN_ 17 (some 89) HT_ (fun K hK => ?_); refine Kd.R_lit_step (Kd.int .i64) _ 3 ?hg (N := 89) ?hd (xs := ([x3_1, rd t681 x5_3, rd t681 x6_4, rd t681 x7_5, rd t681 x8_6] : List Int)) (inner := [.int .i64 x3_1, .int .i64 (rd t681 x5_3), .int .i64 (rd t681 x6_4), .int .i64 (rd t681 x7_5), .int .i64 (rd t681 x8_6)]) (ok := fun _ => True) (okp := fun _ => True) ?hr ?hp (fun _ hk => hk) trivial (Below.refl _ _) (Nat.le_refl _) (by simp) ?_; (case hd => rfl); (case hg => rfl); (case hr => first | (go_simp; done) | (go_simp; rfl)); (case hp => exact (Reps.one (show Kd.M (Kd.int .i64) _ _ _ x3_1 [.int .i64 x3_1] from rfl) (Reps.one (show Kd.M (Kd.int .i64) _ _ _ (rd t681 x5_3) [.int .i64 (rd t681 x5_3)] from rfl) (Reps.one (show Kd.M (Kd.int .i64) _ _ _ (rd t681 x6_4) [.int .i64 (rd t681 x6_4)] from rfl) (Reps.one (show Kd.M (Kd.int .i64) _ _ _ (rd t681 x7_5) [.int .i64 (rd t681 x7_5)] from rfl) (Reps.one (show Kd.M (Kd.int .i64) _ _ _ (rd t681 x8_6) [.int .i64 (rd t681 x8_6)] from rfl) (Reps.none _ _))))))); intro v694 w30 ho31 hb hg_ hnew_; have HS0_ := (hb.cell (World.block_lt_of_cell? _ _ (hHeld.1))).trans (hHeld.1); have HS1_ := (hb.cell (World.block_lt_of_cell? _ _ (hHeld.2.1))).trans (hHeld.2.1); have HS2_ := (hb.cell (World.block_lt_of_cell? _ _ (hHeld.2.2.1))).trans (hHeld.2.2.1)
                          have HS3_ := (hb.cell (World.block_lt_of_cell? _ _ (hHeld.2.2.2))).trans (hHeld.2.2.2); clear hg_ hnew_; (first | rw [← Ny693.out] at ho31 | (simp only [Int.reduceToNat] at ho31; rw [← Ny693.out] at ho31))
                          have HO695 := am_ (Kd.R_lower (Kd.R_new' ho31 (Kd.R_lt (rx_ HO_4.out))) (below_size (bx1 HB.out GE676.out))); replace HO_4 := re_ HO_4 ho31 hb; replace BK676 := bb_ BK676 hb; replace HB := bs1_ HB hb GE676; clear hb ho31; refine hK.out _ _ ⟨HS0_, HS1_, HS2_, HS3_⟩ (fun hHeld => ?_); clear hK K; refine nm_ 89 (h := ?_); refine pD_ 18 (some 2) HT_ (h := ?_); refine done_ (done_of HT_.out (by kernel_rfl)) ?_; try go_wp2
                          go_ret; exact ⟨_, by first | rfl | (simp [errW_none, errW_some] <;> rfl) | (simp [*, errW_none, errW_some] <;> rfl), by refine rx_ ?_; exact Kd.R_mono HO695.out (fun _ hk => trivial), bx1 HB.out GE676.out⟩
                         ·replace c26 := Bool.eq_false_iff.mpr c26; subst c26; replace H := ifF_ H; have H' := am_ H; clear H; try go_wp2
                          replace HO_4 := am_ (Kd.R_drew HO_4.out); replace BK676 := am_ (blk_drew BK676.out); replace HB := bd_ HB; have p684 : 0 ≤ (x5_3 : Int) := oda_; have q684 : x5_3 < (t681.length : Int) := oda_; obtain ⟨ad684, e684, hx684_0⟩ := Kd.at_int (Kd.R_reads' HO_4.out).2.2 x5_3 p684 q684; cases e684; replace p684 := eq_true p684; replace q684 := eq_true q684; have p685 : 0 ≤ (x6_4 : Int) := oda_; have q685 : x6_4 < (t681.length : Int) := oda_; obtain ⟨ad685, e685, hx685_0⟩ := Kd.at_int (Kd.R_reads' HO_4.out).2.2 x6_4 p685 q685; obtain rfl : ad684 = ad685 := (by injection e685); replace p685 := eq_true p685; replace q685 := eq_true q685; have p686 : 0 ≤ (x7_5 : Int) := oda_; have q686 : x7_5 < (t681.length : Int) := oda_; obtain ⟨ad686, e686, hx686_0⟩ := Kd.at_int (Kd.R_reads' HO_4.out).2.2 x7_5 p686 q686; obtain rfl : ad684 = ad686 := (by injection e686); replace p686 := eq_true p686; replace q686 := eq_true q686; have p687 : 0 ≤ (x8_6 : Int) := oda_; have q687 : x8_6 < (t681.length : Int) := oda_; obtain ⟨ad687, e687, hx687_0⟩ := Kd.at_int (Kd.R_reads' HO_4.out).2.2 x8_6 p687 q687; obtain rfl : ad684 = ad687 := (by injection e687); replace p687 := eq_true p687; replace q687 := eq_true q687; refine start_ (n := 19) (S := fun w' => w'.cell? ⟨gb676, 0, none⟩ = some (.int .i64 a0_0) ∧ w'.cell? ⟨gb676, 1, none⟩ = some (.string a0_1) ∧ w'.cell? (ad684.add (x5_3).toNat) = some (.int .i64 (rd t681 x5_3)) ∧ w'.cell? (ad684.add (x6_4).toNat) = some (.int .i64 (rd t681 x6_4)) ∧ w'.cell? (ad684.add (x7_5).toNat) = some (.int .i64 (rd t681 x7_5)) ∧ w'.cell? (ad684.add (x8_6).toNat) = some (.int .i64 (rd t681 x8_6))) (ds := []) #[false, false, false, false, false, false, false, false, false, false, false, false, false, false, false, false, false, false, false] (by kernel_rfl) rfl rfl ⟨c0_ BK676, c1_ BK676, hx684_0, hx685_0, hx686_0, hx687_0⟩ (fun hHeld => ?_); refine with_tabW spec_FirstBreak.tab17 spec_FirstBreak.bits17 (fun HT_ HW_ => ?_)
                          generalize wr.drew = w32 at HO_4 BK676 HB hx684_0 hx685_0 hx686_0 hx687_0 hHeld ⊢
                          refine pD_ 1 (some 54) HT_ (h := ?_); refine pD_ 2 (some 55) HT_ (h := ?_); refine pD_ 3 (some 56) HT_ (h := ?_); refine pD_ 4 (some 57) HT_ (h := ?_); refine pD_ 6 (some 59) HT_ (h := ?_); refine pD_ 7 (some 60) HT_ (h := ?_); refine pD_ 8 (some 61) HT_ (h := ?_); refine pD_ 10 (some 63) HT_ (h := ?_); refine pD_ 11 (some 64) HT_ (h := ?_); refine pD_ 12 (some 65) HT_ (h := ?_); refine pD_ 14 (some 67) HT_ (h := ?_); refine pD_ 15 (some 68) HT_ (h := ?_); refine pD_ 16 (some 69) HT_ (h := ?_); refine tD6_ 0 (some 53) HT_ HW_ hHeld (h := ?_); refine tD6_ 5 (some 58) HT_ HW_ hHeld (h := ?_); refine tD6_ 9 (some 62) HT_ HW_ hHeld (h := ?_); refine tD6_ 13 (some 66) HT_ HW_ hHeld (h := ?_); refine tD6_ 17 (some 70) HT_ HW_ hHeld (h := ?_); refine oN_ 18 (some 71) HT_ (fun K hK => ?_); refine gO_ Try.func190 #[.agg #[.int .i64 a0_0, .string a0_1], .int .i64 x3_1, .int .i64 (rd t681 x5_3), .int .i64 (rd t681 x6_4), .int .i64 (rd t681 x7_5), .int .i64 (rd t681 x8_6)] ?_; with_reducible refine (spec_l4Breaks.calls k6 a0_0 a0_1 x3_1 (rd t681 x5_3) (rd t681 x6_4) (rd t681 x7_5) (rd t681 x8_6) false _ A25.out).mono ?_
                          rintro e w33 ⟨rfl, hb⟩; have HS2_ := (hb.cell (World.block_lt_of_cell? _ _ (hHeld.2.2.1))).trans (hHeld.2.2.1); have HS3_ := (hb.cell (World.block_lt_of_cell? _ _ (hHeld.2.2.2.1))).trans (hHeld.2.2.2.1); have HS4_ := (hb.cell (World.block_lt_of_cell? _ _ (hHeld.2.2.2.2.1))).trans (hHeld.2.2.2.2.1); have HS5_ := (hb.cell (World.block_lt_of_cell? _ _ (hHeld.2.2.2.2.2))).trans (hHeld.2.2.2.2.2); refine ⟨_, rfl, ?_⟩; replace HO_4 := rb_ HO_4 hb; replace BK676 := bb_ BK676 hb; replace HB := bs1_ HB hb GE676; try clear hb
                          refine hK.out _ _ ⟨c0_ BK676, c1_ BK676, HS2_, HS3_, HS4_, HS5_⟩ (fun hHeld => ?_); clear hK K; refine nm_ 71 (h := ?_); refine done_ (done_of HT_.out (by kernel_rfl)) ?_; try go_wp2
                          go_roundg k6
                          case measure => have := HK1.out; have := HJ2.out; have := HK3.out; have := HK4.out; have := HK5.out; have := HK6.out; omega
                          case rel => exact ⟨(wrap64 (x8_6 + 1)), vt_, H', ⟨by have := HK1.out; have := HJ2.out; have := HK3.out; have := HK4.out; have := HK5.out; have := HK6.out; omega⟩, rX_ HO_4, kX_ BK676, bX1_ HB GE676⟩
                        ·rw [if_neg c24] at H; exact absurd H (by simp)
                       ·rw [if_neg c23] at H; exact absurd H (by simp)
                      ·rw [if_neg c22] at H; exact absurd H (by simp)
                     ·rw [if_neg c21] at H; exact absurd H (by simp)
                    ·rw [if_neg c20] at H; exact absurd H (by simp)
                   ·rw [if_neg c19] at H; exact absurd H (by simp)
                  ·rw [if_neg c18] at H; exact absurd H (by simp)
                 ·rw [if_neg c17] at H; have c17b0 := decide_eq_false c17; clear c17; have H' := am_ H; clear H; go_wp2; go_roundg k6
                  case measure => have := HK1.out; have := HJ2.out; have := HK3.out; have := HK4.out; have := HK5.out; have := HK6.out; omega
                  case rel => exact ⟨(wrap64 (x7_5 + 1)), vt_, H', ⟨by have := HK1.out; have := HJ2.out; have := HK3.out; have := HK4.out; have := HK5.out; have := HK6.out; omega⟩, rX_ HO_4, kX_ BK676, bX1_ HB GE676⟩
              ·rw [if_neg c16] at H; have c16b0 := decide_eq_false c16; clear c16; have H' := am_ H; clear H; go_wp2; go_roundg k5
               case measure => have := HK1.out; have := HJ2.out; have := HK3.out; have := HK4.out; have := HK5.out; omega
               case rel => exact ⟨(wrap64 (x6_4 + 1)), vt_, H', ⟨by have := HK1.out; have := HJ2.out; have := HK3.out; have := HK4.out; have := HK5.out; omega⟩, rX_ HO_4, kX_ BK676, bX1_ HB GE676⟩
           ·rw [if_neg c15] at H; have c15b0 := decide_eq_false c15; clear c15; have H' := am_ H; clear H; go_wp2; go_roundg k4
            case measure => have := HK1.out; have := HJ2.out; have := HK3.out; have := HK4.out; omega
            case rel => exact ⟨(wrap64 (x5_3 + 1)), vt_, H', hl4_ HK1 HJ2 HK3 HK4, rX_ HO_4, kX_ BK676, bX1_ HB GE676⟩
        ·rw [if_neg c13] at H; have c13b0 := decide_eq_false c13; clear c13; have H' := am_ H; clear H; obtain ⟨Ao34, co34, eo34⟩ := Kd.R_slice HO_4.out; subst eo34; go_wp2; go_roundg k3
         case measure => have := HK1.out; have := HJ2.out; have := HK3.out; omega
         case rel => exact ⟨(wrap64 (x3_1 + 1)), vt_, H', hl3_ HK1 HJ2 HK3, kX_ BK676, bX1_ HB GE676⟩
     ·replace c9 := Bool.eq_false_iff.mpr c9; subst c9; replace H := ifF_ H; obtain ⟨y678, hy678⟩ : ∃ y_ : List Int, y_ = (([] : List Int)) := ⟨_, rfl⟩; replace H : (some y678) = some r := yH_ hy678 H; have Ny678 := am_ hy678; clear hy678; obtain rfl := Option.some.inj H; go_wp2_with (first | ((with_reducible refine gd_ 90 rfl ?_); refine Kd.R_lit (Kd.int .i64) _ 3 ?hg (N := 90) ?hd (xs := ([] : List Int)) (inner := []) (ok := fun _ => True) (okp := fun _ => True) ?hr ?hp (fun _ hk => hk) trivial (Below.refl _ _) (Nat.le_refl _) (by simp) ?_; (case hd => rfl); (case hg => rfl); (case hr => first | (go_simp; done) | (go_simp; rfl)); (case hp => exact (Reps.none _ _)); intro v679 w35 ho36 hb hg_ hnew_; clear hg_ hnew_; (first | rw [← Ny678.out] at ho36 | (simp only [Int.reduceToNat] at ho36; rw [← Ny678.out] at ho36)); have HO680 := rl1_ ho36 HB GE676; replace BK676 := bb_ BK676 hb; replace HB := bs1_ HB hb GE676; clear hb ho36))
      go_ret; exact ⟨_, by first | rfl | (simp [errW_none, errW_some] <;> rfl) | (simp [*, errW_none, errW_some] <;> rfl), rx_ HO680.out, bx1 HB.out GE676.out⟩
def spec_IsMatroid.f (k : Nat) (a0_0 : Int) (a0_1 : ByteArray) : Option (Bool) := (spec_AreSigns.f k a0_0 a0_1).bind fun t697 => (if t697 = true then ((spec_FirstBreak.f k a0_0 a0_1).bind fun t698 => (some ((t698.length : Int) == 0))) else (some false))
theorem spec_IsMatroid.mono : ∀ a0 a1 k, LeO (spec_IsMatroid.f k a0 a1) (spec_IsMatroid.f (k + 1) a0 a1) := by
 intro a0 a1 k; unfold spec_IsMatroid.f
 repeat' first | (with_reducible first | apply spec_AreSigns.mono | apply spec_FirstBreak.mono | exact LeO.refl _ | exact LeO.none _ | refine LeO.ite ?_ ?_ | refine LeO.bind ?_ (fun _ => ?_)) | exact LeO.none _
set_option maxHeartbeats 8000000 in
set_option maxRecDepth 100000 in
theorem spec_IsMatroid.calls (k : Nat) (a0_0 : Int) (a0_1 : ByteArray) (r : Bool) (w : World) (h : spec_IsMatroid.f k a0_0 a0_1 = some r) :
  Calls Try.prog 61 #[.agg #[.int .i64 a0_0, .string a0_1]] w fun e w' => e = .returned (.bool r) ∧ Below w.heap.size w w' := by
 have hu31 := Try.underlying31; have HB := am_ (Below.refl w.heap.size w); have H : ((spec_AreSigns.f k a0_0 a0_1).bind fun t697 => (if t697 = true then ((spec_FirstBreak.f k a0_0 a0_1).bind fun t698 => (some ((t698.length : Int) == 0))) else (some false))) = some r := h; clear h; obtain ⟨t697, A2, H⟩ := bnd_ H; by_cases c3 : t697 = true
 ·subst c3; replace H := ifT_ H; obtain ⟨t698, A4, H⟩ := bnd_ H; obtain rfl := Option.some.inj H; go_enter Try.func61, Try.ntmps61
  go_wp2_with (first | ((with_reducible refine gd_ 1 rfl ?_); (try (refine gate_guard (by rfl) ?_; dsimp only)); refine be_ 1 #[.int .i64 a0_0, .string a0_1] 31 ?_; intro gb696 hg w5 hbox hb; have BK696 := am_ hbox; have GW696 := gw0_ HB hg; have GE696 := GW696; replace HB := bs0_ HB hb; clear hb hbox hg; obtain ⟨hcz6_0, hfz6_0, hcz6_1, hfz6_1⟩ := bk2_ BK696) | ((with_reducible refine gc_ 137 rfl ?_); refine gB_ (some 4) Try.func137 #[.agg #[.int .i64 a0_0, .string a0_1]] (spec_AreSigns.calls k a0_0 a0_1 true _ A2.out) ?_; intro w7 hb; replace BK696 := bb_ BK696 hb; replace HB := bs1_ HB hb GE696; try clear hb; obtain ⟨hcz8_0, hfz8_0, hcz8_1, hfz8_1⟩ := bk2_ BK696) | (go_at_call 138; (with_reducible refine (spec_FirstBreak.calls k a0_0 a0_1 t698 _ A4.out).mono ?_); rintro e w9 ⟨v699, rfl, ho0, hb⟩; have HO700 := rl1_ ho0 HB GE696; replace BK696 := bb_ BK696 hb; replace HB := bs1_ HB hb GE696; try clear hb; (try clear ho0); obtain ⟨Ao10, co10, eo10⟩ := Kd.R_slice HO700.out; subst eo10))
  go_ret; exact ⟨er_, bx1 HB.out GE696.out⟩
 ·replace c3 := Bool.eq_false_iff.mpr c3; subst c3; replace H := ifF_ H; obtain rfl := Option.some.inj H; go_enter Try.func61, Try.ntmps61
  go_wp2_with (first | ((with_reducible refine gd_ 1 rfl ?_); (try (refine gate_guard (by rfl) ?_; dsimp only)); refine be_ 1 #[.int .i64 a0_0, .string a0_1] 31 ?_; intro gb696 hg w11 hbox hb; have BK696 := am_ hbox; have GW696 := gw0_ HB hg; have GE696 := GW696; replace HB := bs0_ HB hb; clear hb hbox hg; obtain ⟨hcz12_0, hfz12_0, hcz12_1, hfz12_1⟩ := bk2_ BK696) | ((with_reducible refine gc_ 137 rfl ?_); refine gB_ (some 4) Try.func137 #[.agg #[.int .i64 a0_0, .string a0_1]] (spec_AreSigns.calls k a0_0 a0_1 false _ A2.out) ?_; intro w13 hb; replace BK696 := bb_ BK696 hb; replace HB := bs1_ HB hb GE696; try clear hb))
  go_ret; exact ⟨er_, bx1 HB.out GE696.out⟩
def spec_l3Byte.f (a0 : Int) : Option (ByteArray) := if a0 > 0 then (some (⟨#[43]⟩ : ByteArray)) else (some (⟨#[45]⟩ : ByteArray))
set_option maxHeartbeats 8000000 in
set_option maxRecDepth 100000 in
theorem spec_l3Byte.calls (a0 : Int) (r : ByteArray) (w : World) (h : spec_l3Byte.f a0 = some r) :
  Calls Try.prog 152 #[.int .i64 a0] w fun e w' => e = .returned (.string r) ∧ Drawn0 w w' := by
 have H : (if a0 > 0 then (some (⟨#[43]⟩ : ByteArray)) else (some (⟨#[45]⟩ : ByteArray))) = some r := h; clear h; by_cases c2 : a0 > 0
 ·rw [if_pos c2] at H; have c2b0 := decide_eq_true c2; clear c2; obtain rfl := Option.some.inj H; go_enter Try.func152, Try.ntmps152
  go_wp2; go_ret; exact ⟨by first | rfl | (simp; done) | (simp [*]; done), dr_⟩
 ·rw [if_neg c2] at H; have c2b0 := decide_eq_false c2; clear c2; obtain rfl := Option.some.inj H; go_enter Try.func152, Try.ntmps152
  go_wp2; go_ret; exact ⟨by first | rfl | (simp; done) | (simp [*]; done), dr_⟩
def spec_l4Circuit.f (k : Nat) (a0_0 : Int) (a0_1 : ByteArray) (a1 : Int) (a2 : Int) (a3 : Int) (a4 : Int) : Option (ByteArray) := (spec_l3At.f k a0_0 a0_1 a2 a3 a4).bind fun t702 => ((spec_l3At.f k a0_0 a0_1 a1 a3 a4).bind fun t703 => ((spec_l3Byte.f (wrap64 ((wrap64 (-t702)) * t703))).bind fun t704 => (if 1 + t704.size ≤ 9223372036854775807 then ((spec_l3At.f k a0_0 a0_1 a1 a2 a4).bind fun t705 => ((spec_l3Byte.f (wrap64 (t702 * t705))).bind fun t706 => (if ((⟨#[43]⟩ : ByteArray) ++ t704).size + t706.size ≤ 9223372036854775807 then ((spec_l3At.f k a0_0 a0_1 a1 a2 a3).bind fun t707 => ((spec_l3Byte.f (wrap64 ((wrap64 (-t702)) * t707))).bind fun t708 => (if (((⟨#[43]⟩ : ByteArray) ++ t704) ++ t706).size + t708.size ≤ 9223372036854775807 then (some ((((⟨#[43]⟩ : ByteArray) ++ t704) ++ t706) ++ t708)) else (none)))) else (none)))) else (none))))
theorem spec_l4Circuit.mono : ∀ a0 a1 a2 a3 a4 a5 k, LeO (spec_l4Circuit.f k a0 a1 a2 a3 a4 a5) (spec_l4Circuit.f (k + 1) a0 a1 a2 a3 a4 a5) := by
 intro a0 a1 a2 a3 a4 a5 k; unfold spec_l4Circuit.f
 repeat' first | (with_reducible first | apply spec_l3At.mono | exact LeO.refl _ | exact LeO.none _ | refine LeO.ite ?_ ?_ | refine LeO.bind ?_ (fun _ => ?_)) | exact LeO.none _
def spec_l4Circuit.T2 : Bool × List (List Nat × List Nat) := (true, [([], []), ([0], [0]), ([], []), ([], []), ([], []), ([], []), ([2, 3, 4, 5], [2, 3, 4, 5]), ([1, 6], [1, 6]), ([7, 6], [7]), ([8], [8]), ([], []), ([], []), ([], []), ([], []), ([], []), ([11, 12, 13, 14, 8], [11, 12, 13, 14]), ([10, 15], [10, 15]), ([16, 15], [16]), ([9, 17], [9, 17]), ([18, 17, 0, 1, 2, 3, 4, 5, 6, 7, 8, 9, 10, 11, 12, 13, 14, 15, 16, 17, 18], [18])])
def spec_l4Circuit.B2 : List Nat := [0, 1, 0, 0, 0, 0, 60, 127, 255, 511, 0, 0, 0, 0, 0, 31231, 65023, 130559, 262143, 524287]
theorem spec_l4Circuit.tab2 : rtab .any (opsOf Try.f191 2) = spec_l4Circuit.T2 := by kernel_rfl
theorem spec_l4Circuit.bits2 : waitsOk spec_l4Circuit.T2.2 spec_l4Circuit.B2 = true := by kernel_rfl
set_option maxHeartbeats 8000000 in
set_option maxRecDepth 100000 in
theorem spec_l4Circuit.calls (k : Nat) (a0_0 : Int) (a0_1 : ByteArray) (a1 : Int) (a2 : Int) (a3 : Int) (a4 : Int) (r : ByteArray) (w : World) (h : spec_l4Circuit.f k a0_0 a0_1 a1 a2 a3 a4 = some r) :
  Calls Try.prog 191 #[.agg #[.int .i64 a0_0, .string a0_1], .int .i64 a1, .int .i64 a2, .int .i64 a3, .int .i64 a4] w fun e w' => e = .returned (.string r) ∧ Below w.heap.size w w' := by
 have hu31 := Try.underlying31; have HB := am_ (Below.refl w.heap.size w); have H : ((spec_l3At.f k a0_0 a0_1 a2 a3 a4).bind fun t702 => ((spec_l3At.f k a0_0 a0_1 a1 a3 a4).bind fun t703 => ((spec_l3Byte.f (wrap64 ((wrap64 (-t702)) * t703))).bind fun t704 => (if 1 + t704.size ≤ 9223372036854775807 then ((spec_l3At.f k a0_0 a0_1 a1 a2 a4).bind fun t705 => ((spec_l3Byte.f (wrap64 (t702 * t705))).bind fun t706 => (if ((⟨#[43]⟩ : ByteArray) ++ t704).size + t706.size ≤ 9223372036854775807 then ((spec_l3At.f k a0_0 a0_1 a1 a2 a3).bind fun t707 => ((spec_l3Byte.f (wrap64 ((wrap64 (-t702)) * t707))).bind fun t708 => (if (((⟨#[43]⟩ : ByteArray) ++ t704) ++ t706).size + t708.size ≤ 9223372036854775807 then (some ((((⟨#[43]⟩ : ByteArray) ++ t704) ++ t706) ++ t708)) else (none)))) else (none)))) else (none))))) = some r := h; clear h; obtain ⟨t702, A6, H⟩ := bnd_ H; obtain ⟨t703, A7, H⟩ := bnd_ H; obtain ⟨t704, A8, H⟩ := bnd_ H; by_cases c9 : 1 + t704.size ≤ 9223372036854775807
 ·rw [if_pos c9] at H; have c9b0 := eq_true c9; have c9b1 := decide_eq_true c9; try have c9b2 : (9223372036854775807 < 1 + t704.size) = False := eq_false (Nat.not_lt.2 c9)
  obtain ⟨t705, A10, H⟩ := bnd_ H; obtain ⟨t706, A11, H⟩ := bnd_ H; by_cases c12 : ((⟨#[43]⟩ : ByteArray) ++ t704).size + t706.size ≤ 9223372036854775807
  ·rw [if_pos c12] at H; have c12b0 := eq_true c12; have c12b1 := decide_eq_true c12; try have c12b2 : (9223372036854775807 < ((⟨#[43]⟩ : ByteArray) ++ t704).size + t706.size) = False := eq_false (Nat.not_lt.2 c12)
   (try have c12b3 : (9223372036854775807 < 1 + t704.size + t706.size) = False := eq_false (by clear H; have h_ := c12; simp only [ByteArray.size_append, ByteArray.size_extract, show (⟨#[43]⟩ : ByteArray).size = 1 from rfl, eq_iff_iff, iff_true, decide_eq_true_eq] at *; (try simp at h_); omega))
   obtain ⟨t707, A13, H⟩ := bnd_ H; obtain ⟨t708, A14, H⟩ := bnd_ H; by_cases c15 : (((⟨#[43]⟩ : ByteArray) ++ t704) ++ t706).size + t708.size ≤ 9223372036854775807
   ·rw [if_pos c15] at H; have c15b0 := eq_true c15; have c15b1 := decide_eq_true c15; try have c15b2 : (9223372036854775807 < (((⟨#[43]⟩ : ByteArray) ++ t704) ++ t706).size + t708.size) = False := eq_false (Nat.not_lt.2 c15)
    (try have c15b3 : (9223372036854775807 < 1 + t704.size + t706.size + t708.size) = False := eq_false (by clear H; have h_ := c15; simp only [ByteArray.size_append, ByteArray.size_extract, show (⟨#[43]⟩ : ByteArray).size = 1 from rfl, eq_iff_iff, iff_true, decide_eq_true_eq] at *; (try simp at h_); omega))
    obtain rfl := Option.some.inj H; go_enter Try.func191, Try.ntmps191
    try go_wp2_with (first | ((with_reducible refine gd_ 5 rfl ?_); refine be_ 5 #[.int .i64 a0_0, .string a0_1] 31 ?_; intro gb701 hg w16 hbox hb; have BK701 := am_ hbox; have GW701 := gw0_ HB hg; have GE701 := GW701; replace HB := bs0_ HB hb; clear hb hbox hg; obtain ⟨hcz17_0, hfz17_0, hcz17_1, hfz17_1⟩ := bk2_ BK701) | ((with_reducible refine gc_ 186 rfl ?_); refine gB_ (some 17) Try.func186 #[.agg #[.int .i64 a0_0, .string a0_1], .int .i64 a2, .int .i64 a3, .int .i64 a4] (spec_l3At.calls k a0_0 a0_1 a2 a3 a4 t702 _ A6.out) ?_; intro w18 hb; replace BK701 := bb_ BK701 hb; replace HB := bs1_ HB hb GE701; try clear hb))
    replace BK701 := am_ (blk_drew BK701.out); replace HB := bd_ HB; refine start_ (n := 20) (S := fun w' => w'.cell? ⟨gb701, 0, none⟩ = some (.int .i64 a0_0) ∧ w'.cell? ⟨gb701, 1, none⟩ = some (.string a0_1)) (ds := []) #[false, false, false, false, false, false, false, false, false, false, false, false, false, false, false, false, false, false, false, false] (by kernel_rfl) rfl rfl ⟨c0_ BK701, c1_ BK701⟩ (fun hHeld => ?_); refine with_tabW spec_l4Circuit.tab2 spec_l4Circuit.bits2 (fun HT_ HW_ => ?_); generalize w18.drew = w19 at BK701 HB hHeld ⊢
    refine pD_ 0 (some 18) HT_ (h := ?_); refine pD_ 1 (some 19) HT_ (h := ?_); refine pD_ 3 (some 21) HT_ (h := ?_); refine pD_ 4 (some 22) HT_ (h := ?_); refine pD_ 5 (some 23) HT_ (h := ?_); refine pD_ 10 (some 28) HT_ (h := ?_); refine pD_ 12 (some 30) HT_ (h := ?_); refine pD_ 13 (some 31) HT_ (h := ?_); refine pD_ 14 (some 32) HT_ (h := ?_); refine tD2_ 2 (some 20) HT_ HW_ hHeld (h := ?_); refine tD2_ 11 (some 29) HT_ HW_ hHeld (h := ?_); refine oN_ 6 (some 24) HT_ (fun K hK => ?_); refine gO_ Try.func186 #[.agg #[.int .i64 a0_0, .string a0_1], .int .i64 a1, .int .i64 a3, .int .i64 a4] ?_; with_reducible refine (spec_l3At.calls k a0_0 a0_1 a1 a3 a4 t703 _ A7.out).mono ?_
    rintro e w20 ⟨rfl, hb⟩; refine ⟨_, rfl, ?_⟩; replace BK701 := bb_ BK701 hb; replace HB := bs1_ HB hb GE701; try clear hb
    refine hK.out _ _ ⟨c0_ BK701, c1_ BK701⟩ (fun hHeld => ?_); clear hK K; refine nm_ 24 (h := ?_); refine pD_ 7 (some 25) HT_ (h := ?_); refine oN_ 8 (some 26) HT_ (fun K hK => ?_); refine gO_ Try.func152 #[.int .i64 (wrap64 ((wrap64 (-t702)) * t703))] ?_; with_reducible refine (spec_l3Byte.calls (wrap64 ((wrap64 (-t702)) * t703)) t704 _ A8.out).mono ?_
    rintro e w' ⟨rfl, ⟨nd, rfl⟩⟩; refine ⟨_, rfl, ?_⟩; refine hK.out _ _ ⟨c0_ BK701, c1_ BK701⟩ (fun hHeld => ?_); clear hK K; refine nm_ 26 (h := ?_); refine pD_ 9 (some 27) HT_ (h := ?_); refine oN_ 15 (some 33) HT_ (fun K hK => ?_); refine gO_ Try.func186 #[.agg #[.int .i64 a0_0, .string a0_1], .int .i64 a1, .int .i64 a2, .int .i64 a4] ?_; with_reducible refine (spec_l3At.calls k a0_0 a0_1 a1 a2 a4 t705 _ A10.out).mono ?_
    rintro e w21 ⟨rfl, hb⟩; refine ⟨_, rfl, ?_⟩; replace BK701 := bb_ BK701 hb; replace HB := bs1_ HB hb GE701; try clear hb
    refine hK.out _ _ ⟨c0_ BK701, c1_ BK701⟩ (fun hHeld => ?_); clear hK K; refine nm_ 33 (h := ?_); refine pD_ 16 (some 34) HT_ (h := ?_); refine oN_ 17 (some 35) HT_ (fun K hK => ?_); refine gO_ Try.func152 #[.int .i64 (wrap64 (t702 * t705))] ?_; with_reducible refine (spec_l3Byte.calls (wrap64 (t702 * t705)) t706 _ A11.out).mono ?_
    rintro e w' ⟨rfl, ⟨nd, rfl⟩⟩; refine ⟨_, rfl, ?_⟩; refine hK.out _ _ ⟨c0_ BK701, c1_ BK701⟩ (fun hHeld => ?_); clear hK K; refine nm_ 35 (h := ?_); refine pD_ 18 (some 36) HT_ (h := ?_); refine pD_ 19 (some 12) HT_ (h := ?_); refine done_ (done_of HT_.out (by kernel_rfl)) ?_; obtain ⟨hcz22_0, hfz22_0, hcz22_1, hfz22_1⟩ := bk2_ BK701; try go_wp2_with (first | ((with_reducible refine gc_ 186 rfl ?_); refine gB_ (some 44) Try.func186 #[.agg #[.int .i64 a0_0, .string a0_1], .int .i64 a1, .int .i64 a2, .int .i64 a3] (spec_l3At.calls k a0_0 a0_1 a1 a2 a3 t707 _ A13.out) ?_; intro w23 hb; replace BK701 := bb_ BK701 hb; replace HB := bs1_ HB hb GE701; try clear hb) | ((with_reducible refine gc_ 152 rfl ?_); refine gP_ (some 46) Try.func152 #[.int .i64 (wrap64 ((wrap64 (-t702)) * t707))] (spec_l3Byte.calls (wrap64 ((wrap64 (-t702)) * t707)) t708 _ A14.out) ?_; intro nd))
    go_ret; exact ⟨er_, bx1 HB.out GE701.out⟩
   ·rw [if_neg c15] at H; exact absurd H (by simp)
  ·rw [if_neg c12] at H; exact absurd H (by simp)
 ·rw [if_neg c9] at H; exact absurd H (by simp)
mutual
def spec_l4Acyclic.l0 : Nat → Int → Int → ByteArray → Option (Bool)
 | 0, _, _, _ => none
 | k + 1, x3, x710000, x710001 => if x3 < x710000 then (spec_l4Acyclic.l1 k x3 (wrap64 (x3 + 1)) x710000 x710001) else (some true)
def spec_l4Acyclic.l1 : Nat → Int → Int → Int → ByteArray → Option (Bool)
 | 0, _, _, _, _ => none
 | k + 1, x3, x4, x710000, x710001 => if x4 < x710000 then (spec_l4Acyclic.l2 k x3 x4 (wrap64 (x4 + 1)) x710000 x710001) else (spec_l4Acyclic.l0 k (wrap64 (x3 + 1)) x710000 x710001)
def spec_l4Acyclic.l2 : Nat → Int → Int → Int → Int → ByteArray → Option (Bool)
 | 0, _, _, _, _, _ => none
 | k + 1, x3, x4, x5, x710000, x710001 => if x5 < x710000 then (spec_l4Acyclic.l3 k x3 x4 x5 (wrap64 (x5 + 1)) x710000 x710001) else (spec_l4Acyclic.l1 k x3 (wrap64 (x4 + 1)) x710000 x710001)
def spec_l4Acyclic.l3 : Nat → Int → Int → Int → Int → Int → ByteArray → Option (Bool)
 | 0, _, _, _, _, _, _ => none
 | k + 1, x3, x4, x5, x6, x710000, x710001 => if x6 < x710000 then ((spec_l4Circuit.f k x710000 x710001 x3 x4 x5 x6).bind fun t710 => (if t710.toList = ([43, 43, 43, 43] : List UInt8) then (some false) else (spec_l4Acyclic.l3 k x3 x4 x5 (wrap64 (x6 + 1)) x710000 x710001))) else (spec_l4Acyclic.l2 k x3 x4 (wrap64 (x5 + 1)) x710000 x710001)
end
def spec_l4Acyclic.f (k : Nat) (a0_0 : Int) (a0_1 : ByteArray) : Option (Bool) := spec_l4Acyclic.l0 k 0 a0_0 a0_1
theorem spec_l4Acyclic.mono_l : ∀ k, (∀ y0 y1 y2, LeO (spec_l4Acyclic.l0 k y0 y1 y2) (spec_l4Acyclic.l0 (k + 1) y0 y1 y2)) ∧ (∀ y0 y1 y2 y3, LeO (spec_l4Acyclic.l1 k y0 y1 y2 y3) (spec_l4Acyclic.l1 (k + 1) y0 y1 y2 y3)) ∧ (∀ y0 y1 y2 y3 y4, LeO (spec_l4Acyclic.l2 k y0 y1 y2 y3 y4) (spec_l4Acyclic.l2 (k + 1) y0 y1 y2 y3 y4)) ∧ (∀ y0 y1 y2 y3 y4 y5, LeO (spec_l4Acyclic.l3 k y0 y1 y2 y3 y4 y5) (spec_l4Acyclic.l3 (k + 1) y0 y1 y2 y3 y4 y5))
 | 0 => ⟨fun _ _ _ r h => by simp [spec_l4Acyclic.l0] at h, fun _ _ _ _ r h => by simp [spec_l4Acyclic.l1] at h, fun _ _ _ _ _ r h => by simp [spec_l4Acyclic.l2] at h, fun _ _ _ _ _ _ r h => by simp [spec_l4Acyclic.l3] at h⟩
 | k + 1 => by
  obtain ⟨ih0, ih1, ih2, ih3⟩ := spec_l4Acyclic.mono_l k; refine ⟨?_, ?_, ?_, ?_⟩ <;> (intros; (first | unfold spec_l4Acyclic.l0 | unfold spec_l4Acyclic.l1 | unfold spec_l4Acyclic.l2 | unfold spec_l4Acyclic.l3); repeat' first | (with_reducible first | apply ih0 | apply ih1 | apply ih2 | apply ih3 | apply spec_l4Circuit.mono | exact LeO.refl _ | exact LeO.none _ | refine LeO.ite ?_ ?_ | refine LeO.bind ?_ (fun _ => ?_)) | exact LeO.none _)
theorem spec_l4Acyclic.mono : ∀ a0 a1 k, LeO (spec_l4Acyclic.f k a0 a1) (spec_l4Acyclic.f (k + 1) a0 a1) := by
 intro a0 a1 k; obtain ⟨ih0, ih1, ih2, ih3⟩ := spec_l4Acyclic.mono_l k; unfold spec_l4Acyclic.f
 repeat' first | (with_reducible first | apply ih0 | apply ih1 | apply ih2 | apply ih3 | apply spec_l4Circuit.mono | exact LeO.refl _ | exact LeO.none _ | refine LeO.ite ?_ ?_ | refine LeO.bind ?_ (fun _ => ?_)) | exact LeO.none _
set_option maxHeartbeats 8000000 in
set_option maxRecDepth 100000 in
theorem spec_l4Acyclic.calls (k : Nat) (a0_0 : Int) (a0_1 : ByteArray) (r : Bool) (w : World) (h : spec_l4Acyclic.f k a0_0 a0_1 = some r) :
  Calls Try.prog 139 #[.agg #[.int .i64 a0_0, .string a0_1]] w fun e w' => e = .returned (.bool r) ∧ Below w.heap.size w w' := by
 have hu31 := Try.underlying31; have HB := am_ (Below.refl w.heap.size w); have H : (spec_l4Acyclic.l0 k 0 a0_0 a0_1) = some r := h; clear h; have H' := am_ H; clear H; go_enter Try.func139, Try.ntmps139
 go_wp2_with (first | ((with_reducible refine gd_ 1 rfl ?_); refine be_ 1 #[.int .i64 a0_0, .string a0_1] 31 ?_; intro gb709 hg w2 hbox hb; have BK709 := am_ hbox; have GW709 := gw0_ HB hg; have GE709 := GW709; replace HB := bs0_ HB hb; clear hb hbox hg))
 go_loopg [3] k (fun kq v3 w' => ∃ (x3_1 : Int), v3 = .int .i64 x3_1 ∧ Aside0 (spec_l4Acyclic.l0 kq x3_1 a0_0 a0_1 = some r) ∧ Aside0 (kq ≤ k) ∧ Aside0 (w'.heap[gb709]? = some (.cells #[.int .i64 a0_0, .string a0_1] 31 (0, 0))) ∧ Aside0 (Below w.heap.size w w'))
 case atStart => exact ⟨(0), vt_, H', ⟨Nat.le_refl _⟩, kX_ BK709, bX1_ HB GE709⟩
 case round =>
  clear H'; obtain ⟨x3_1, rfl, HA, HK1, BK709, HB⟩ := hrel; cases gk with
  | zero => exact absurd HA.out (by simp [spec_l4Acyclic.l0])
  | succ k1 =>
   have H := HA.out; clear HA; simp only [spec_l4Acyclic.l0] at H
   by_cases c3 : x3_1 < a0_0
   ·rw [if_pos c3] at H; have c3b0 := decide_eq_true c3; clear c3; have H' := am_ H; clear H; obtain ⟨hcz4_0, hfz4_0, hcz4_1, hfz4_1⟩ := bk2_ BK709; go_wp2; go_loopg [4] k1 (fun kq v4 w' => ∃ (x4_2 : Int), v4 = .int .i64 x4_2 ∧ Aside0 (spec_l4Acyclic.l1 kq x3_1 x4_2 a0_0 a0_1 = some r) ∧ Aside0 (kq ≤ k1) ∧ Aside0 (w'.heap[gb709]? = some (.cells #[.int .i64 a0_0, .string a0_1] 31 (0, 0))) ∧ Aside0 (Below w.heap.size w w'))
    case atStart => exact ⟨(wrap64 (x3_1 + 1)), vt_, H', ⟨Nat.le_refl _⟩, kX_ BK709, bX1_ HB GE709⟩
    case round =>
     clear H'; try clear c3b0 hcz4_0 hcz4_1 hfz4_0 hfz4_1
     obtain ⟨x4_2, rfl, HA, HK2, BK709, HB⟩ := hrel; cases gk with
     | zero => exact absurd HA.out (by simp [spec_l4Acyclic.l1])
     | succ k2 =>
      have H := HA.out; clear HA; simp only [spec_l4Acyclic.l1] at H
      by_cases c5 : x4_2 < a0_0
      ·rw [if_pos c5] at H; have c5b0 := decide_eq_true c5; clear c5; have H' := am_ H; clear H; obtain ⟨hcz6_0, hfz6_0, hcz6_1, hfz6_1⟩ := bk2_ BK709; go_wp2; go_loopg [5] k2 (fun kq v5 w' => ∃ (x5_3 : Int), v5 = .int .i64 x5_3 ∧ Aside0 (spec_l4Acyclic.l2 kq x3_1 x4_2 x5_3 a0_0 a0_1 = some r) ∧ Aside0 (kq ≤ k2) ∧ Aside0 (w'.heap[gb709]? = some (.cells #[.int .i64 a0_0, .string a0_1] 31 (0, 0))) ∧ Aside0 (Below w.heap.size w w'))
       case atStart => exact ⟨(wrap64 (x4_2 + 1)), vt_, H', ⟨Nat.le_refl _⟩, kX_ BK709, bX1_ HB GE709⟩
       case round =>
        clear H'; try clear c3b0 c5b0 hcz4_0 hcz4_1 hcz6_0 hcz6_1 hfz4_0 hfz4_1 hfz6_0 hfz6_1
        obtain ⟨x5_3, rfl, HA, HK3, BK709, HB⟩ := hrel; cases gk with
        | zero => exact absurd HA.out (by simp [spec_l4Acyclic.l2])
        | succ k3 =>
         have H := HA.out; clear HA; simp only [spec_l4Acyclic.l2] at H
         by_cases c7 : x5_3 < a0_0
         ·rw [if_pos c7] at H; have c7b0 := decide_eq_true c7; clear c7; have H' := am_ H; clear H; obtain ⟨hcz8_0, hfz8_0, hcz8_1, hfz8_1⟩ := bk2_ BK709; go_wp2; go_loopg [6] k3 (fun kq v6 w' => ∃ (x6_4 : Int), v6 = .int .i64 x6_4 ∧ Aside0 (spec_l4Acyclic.l3 kq x3_1 x4_2 x5_3 x6_4 a0_0 a0_1 = some r) ∧ Aside0 (kq ≤ k3) ∧ Aside0 (w'.heap[gb709]? = some (.cells #[.int .i64 a0_0, .string a0_1] 31 (0, 0))) ∧ Aside0 (Below w.heap.size w w'))
          case atStart => exact ⟨(wrap64 (x5_3 + 1)), vt_, H', ⟨Nat.le_refl _⟩, kX_ BK709, bX1_ HB GE709⟩
          case round =>
           clear H'; try clear c3b0 c5b0 c7b0 hcz4_0 hcz4_1 hcz6_0 hcz6_1 hcz8_0 hcz8_1 hfz4_0 hfz4_1 hfz6_0 hfz6_1 hfz8_0 hfz8_1
           obtain ⟨x6_4, rfl, HA, HK4, BK709, HB⟩ := hrel; cases gk with
           | zero => exact absurd HA.out (by simp [spec_l4Acyclic.l3])
           | succ k4 =>
            have H := HA.out; clear HA; simp only [spec_l4Acyclic.l3] at H
            by_cases c9 : x6_4 < a0_0
            ·rw [if_pos c9] at H; have c9b0 := decide_eq_true c9; clear c9; obtain ⟨t710, A10, H⟩ := bnd_ H; by_cases c11 : t710.toList = ([43, 43, 43, 43] : List UInt8)
             ·rw [if_pos c11] at H; obtain ⟨c11b0, c11b1⟩ := eqT_ c11; clear c11; obtain rfl := Option.some.inj H; obtain ⟨hcz12_0, hfz12_0, hcz12_1, hfz12_1⟩ := bk2_ BK709; go_wp2_with (first | ((with_reducible refine gc_ 191 rfl ?_); refine gB_ (some 42) Try.func191 #[.agg #[.int .i64 a0_0, .string a0_1], .int .i64 x3_1, .int .i64 x4_2, .int .i64 x5_3, .int .i64 x6_4] (spec_l4Circuit.calls k4 a0_0 a0_1 x3_1 x4_2 x5_3 x6_4 t710 _ A10.out) ?_; intro w13 hb; replace BK709 := bb_ BK709 hb; replace HB := bs1_ HB hb GE709; try clear hb))
              go_ret; exact ⟨er_, bx1 HB.out GE709.out⟩
             ·rw [if_neg c11] at H; obtain ⟨c11b0, c11b1⟩ := eqF_ c11; have H' := am_ H; clear H; obtain ⟨hcz14_0, hfz14_0, hcz14_1, hfz14_1⟩ := bk2_ BK709; go_wp2_with (first | ((with_reducible refine gc_ 191 rfl ?_); refine gB_ (some 42) Try.func191 #[.agg #[.int .i64 a0_0, .string a0_1], .int .i64 x3_1, .int .i64 x4_2, .int .i64 x5_3, .int .i64 x6_4] (spec_l4Circuit.calls k4 a0_0 a0_1 x3_1 x4_2 x5_3 x6_4 t710 _ A10.out) ?_; intro w15 hb; replace BK709 := bb_ BK709 hb; replace HB := bs1_ HB hb GE709; try clear hb))
              go_roundg k4
              case measure => have := HK1.out; have := HK2.out; have := HK3.out; have := HK4.out; omega
              case rel => exact ⟨(wrap64 (x6_4 + 1)), vt_, H', hl4_ HK1 HK2 HK3 HK4, kX_ BK709, bX1_ HB GE709⟩
            ·rw [if_neg c9] at H; have c9b0 := decide_eq_false c9; clear c9; have H' := am_ H; clear H; obtain ⟨hcz16_0, hfz16_0, hcz16_1, hfz16_1⟩ := bk2_ BK709; go_wp2; go_roundg k4
             case measure => have := HK1.out; have := HK2.out; have := HK3.out; have := HK4.out; omega
             case rel => exact ⟨(wrap64 (x5_3 + 1)), vt_, H', hl4_ HK1 HK2 HK3 HK4, kX_ BK709, bX1_ HB GE709⟩
         ·rw [if_neg c7] at H; have c7b0 := decide_eq_false c7; clear c7; have H' := am_ H; clear H; obtain ⟨hcz17_0, hfz17_0, hcz17_1, hfz17_1⟩ := bk2_ BK709; go_wp2; go_roundg k3
          case measure => have := HK1.out; have := HK2.out; have := HK3.out; omega
          case rel => exact ⟨(wrap64 (x4_2 + 1)), vt_, H', hl3_ HK1 HK2 HK3, kX_ BK709, bX1_ HB GE709⟩
      ·rw [if_neg c5] at H; have c5b0 := decide_eq_false c5; clear c5; have H' := am_ H; clear H; obtain ⟨hcz18_0, hfz18_0, hcz18_1, hfz18_1⟩ := bk2_ BK709; go_wp2; go_roundg k2
       case measure => have := HK1.out; have := HK2.out; omega
       case rel => exact ⟨(wrap64 (x3_1 + 1)), vt_, H', hl2_ HK1 HK2, kX_ BK709, bX1_ HB GE709⟩
   ·rw [if_neg c3] at H; have c3b0 := decide_eq_false c3; clear c3; obtain rfl := Option.some.inj H; obtain ⟨hcz19_0, hfz19_0, hcz19_1, hfz19_1⟩ := bk2_ BK709; go_wp2; go_ret; exact ⟨er_, bx1 HB.out GE709.out⟩
end Go.Proofs.Ytoajlmlobaccdaa.P
