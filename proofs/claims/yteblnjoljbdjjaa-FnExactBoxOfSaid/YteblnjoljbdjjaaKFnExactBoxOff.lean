/- What the law FnExactBoxOf reaches, part 6: functions as plain Lean functions with the proofs that their calls come to them, and plain lemmas over these. Put together by a program (wip/pack.py). -/
import Derived.Test.YteblnjoljbdjjaaKFnExactBoxOfc
import Derived.Test.YteblnjoljbdjjaaKFnExactBoxOfe
namespace Go.Proofs.Yteblnjoljbdjjaa.P
open Go.RowKit Go.Proofs.YteblnjoljbdjjaaW.PrintWords Go.Proofs.YteblnjoljbdjjaaW.PrintLast Go.Proofs.YteblnjoljbdjjaaW.PrintMore
attribute [local go_sem] ptrOf_slice
attribute [local go_sem] min2_str max2_int min2_int max_two min_two max_three min_three max_four min_four
set_option linter.unusedVariables false
set_option linter.unusedSimpArgs false
def impl_BoxOf.l0 : Nat → List Int → List (S72) → Int → Int → Option (List Int)
  | 0, _, _, _, _ => none
  | k + 1, x3, x26, x27, x28 => if x28 < x27 then (if 0 ≤ x28 then (if x28 < (x26.length : Int) then (if 0 < (x3.length : Int) then (if 1 < (x3.length : Int) then (if 2 < (x3.length : Int) then (if 3 < (x3.length : Int) then (impl_BoxOf.l0 k ((((x3.set (0 : Int).toNat (mn (rd x3 0) ((rd_T72 x26 x28).f0))).set (1 : Int).toNat (mn (rd x3 1) ((rd_T72 x26 x28).f1))).set (2 : Int).toNat (mx (rd x3 2) ((rd_T72 x26 x28).f0))).set (3 : Int).toNat (mx (rd x3 3) ((rd_T72 x26 x28).f1))) x26 x27 (wrap64 (x28 + 1))) else (none)) else (none)) else (none)) else (none)) else (none)) else (none)) else (some x3)
def impl_BoxOf.f (k : Nat) (l0 : List (S72)) : Option (List Int) := (impl_ArePoints.f k l0).bind fun t614 => (if t614 = true then (if 0 < (l0.length : Int) then (impl_BoxOf.l0 k (([(rd_T72 l0 0).f0, (rd_T72 l0 0).f1, (rd_T72 l0 0).f0, (rd_T72 l0 0).f1] : List Int)) l0 (l0.length : Int) 0) else (none)) else (some ([] : List Int)))
theorem impl_BoxOf.mono_l : ∀ k, (∀ y0 y1 y2 y3, LeO (impl_BoxOf.l0 k y0 y1 y2 y3) (impl_BoxOf.l0 (k + 1) y0 y1 y2 y3))
  | 0 => fun _ _ _ _ r h => by simp [impl_BoxOf.l0] at h
  | k + 1 => by
    have ih0 := impl_BoxOf.mono_l k
    · intro y0 y1 y2 y3
      unfold impl_BoxOf.l0
      repeat' first
      | (with_reducible exact ih0 _ _ _ _)
      | (with_reducible exact impl_ArePoints.mono _ _)
      | (with_reducible exact LeO.refl _)
      | (with_reducible exact LeO.none _)
      | (with_reducible refine LeO.ite ?_ ?_)
      | (with_reducible refine LeO.bind ?_ (fun _ => ?_))
      | exact ih0 _ _ _ _
      | exact impl_ArePoints.mono _ _
      | exact LeO.none _
      | refine LeO.ite ?_ ?_
      | refine LeO.bind ?_ (fun _ => ?_)
theorem impl_BoxOf.mono : ∀ a0 k, LeO (impl_BoxOf.f k a0) (impl_BoxOf.f (k + 1) a0) := by
  intro a0 k
  have ih0 := impl_BoxOf.mono_l k
  unfold impl_BoxOf.f
  repeat' first
      | (with_reducible exact ih0 _ _ _ _)
      | (with_reducible exact impl_ArePoints.mono _ _)
      | (with_reducible exact LeO.refl _)
      | (with_reducible exact LeO.none _)
      | (with_reducible refine LeO.ite ?_ ?_)
      | (with_reducible refine LeO.bind ?_ (fun _ => ?_))
      | exact ih0 _ _ _ _
      | exact impl_ArePoints.mono _ _
      | exact LeO.none _
      | refine LeO.ite ?_ ?_
      | refine LeO.bind ?_ (fun _ => ?_)
def impl_BoxOf.T3 : Bool × List (List Nat × List Nat) := (true, [([], []), ([0], [0]), ([1], [1]), ([2], [2]), ([], []), ([4], [4]), ([5], [5]), ([6], [6]), ([], []), ([8], [8]), ([9], [9]), ([10], [10]), ([], []), ([12], [12]), ([13], [13]), ([14], [14]), ([3, 7, 11, 15], [3, 7, 11, 15]), ([16, 0, 1, 2, 3, 4, 5, 6, 7, 8, 9, 10, 11, 12, 13, 14, 15, 16], [16])])
def impl_BoxOf.B3 : List Nat := [0, 1, 3, 7, 0, 16, 48, 112, 0, 256, 768, 1792, 0, 4096, 12288, 28672, 65535, 131071]
theorem impl_BoxOf.tab3 : rtab .any (opsOf Try.f27 3) = impl_BoxOf.T3 := by kernel_rfl
theorem impl_BoxOf.bits3 : waitsOk impl_BoxOf.T3.2 impl_BoxOf.B3 = true := by kernel_rfl
def impl_BoxOf.T7 : Bool × List (List Nat × List Nat) := (true, [([], []), ([], []), ([], []), ([], []), ([], []), ([4], [4]), ([5], [5]), ([], []), ([7], [7]), ([6, 8], [6, 8]), ([], []), ([10], [10]), ([11], [11]), ([], []), ([13], [13]), ([12, 14], [12, 14]), ([], []), ([16], [16]), ([17], [17]), ([], []), ([19], [19]), ([18, 20], [18, 20]), ([], []), ([22], [22]), ([23], [23]), ([], []), ([25], [25]), ([24, 26], [24, 26]), ([0, 0, 4, 5, 6, 7, 8, 9, 12, 18, 24], [0]), ([28, 9, 0, 4, 5, 6, 7, 8, 9, 12, 18, 24], [9, 28]), ([1, 0, 1, 4, 5, 6, 7, 8, 9, 10, 11, 12, 13, 14, 15, 18, 24, 28, 29], [1]), ([30, 15, 29, 0, 1, 4, 5, 6, 7, 8, 9, 10, 11, 12, 13, 14, 15, 18, 24, 28, 29], [15, 30]), ([2, 0, 1, 2, 4, 5, 6, 7, 8, 9, 10, 11, 12, 13, 14, 15, 16, 17, 18, 19, 20, 21, 24, 28, 29, 30, 31], [2]), ([32, 21, 31, 0, 1, 2, 4, 5, 6, 7, 8, 9, 10, 11, 12, 13, 14, 15, 16, 17, 18, 19, 20, 21, 24, 28, 29, 30, 31], [21, 32]), ([3, 0, 1, 2, 3, 4, 5, 6, 7, 8, 9, 10, 11, 12, 13, 14, 15, 16, 17, 18, 19, 20, 21, 22, 23, 24, 25, 26, 27, 28, 29, 30, 31, 32, 33], [3]), ([34, 27, 33, 0, 1, 2, 3, 4, 5, 6, 7, 8, 9, 10, 11, 12, 13, 14, 15, 16, 17, 18, 19, 20, 21, 22, 23, 24, 25, 26, 27, 28, 29, 30, 31, 32, 33], [27, 34])])
def impl_BoxOf.B7 : List Nat := [0, 0, 0, 0, 0, 16, 48, 0, 128, 496, 0, 1024, 3072, 0, 8192, 31744, 0, 65536, 196608, 0, 524288, 2031616, 0, 4194304, 12582912, 0, 33554432, 130023424, 29827057, 298262513, 835190771, 1908932595, 4060086263, 8355053559, 17179869183, 34359738367]
theorem impl_BoxOf.tab7 : rtab .any (opsOf Try.f27 7) = impl_BoxOf.T7 := by kernel_rfl
theorem impl_BoxOf.bits7 : waitsOk impl_BoxOf.T7.2 impl_BoxOf.B7 = true := by kernel_rfl
set_option maxHeartbeats 8000000 in
set_option maxRecDepth 100000 in
theorem impl_BoxOf.calls (k : Nat) (A0 : Option Addr) (c0 : Nat) (l0 : List (S72)) (r : List Int) (w : World) (hr0 : Kd.C k72 w A0 l0.length l0) (hc0 : l0.length ≤ c0) (h : impl_BoxOf.f k l0 = some r) :
    Calls Try.prog 27 #[.slice A0 l0.length c0] w fun e w' => ∃ v0_ : Value, e = .returned (v0_) ∧ Kd.R (Kd.int .i64) 3 w' w.heap.size (fun _ => True) v0_ r ∧ Below w.heap.size w w' := by
  have hu72 := Try.underlying72
  have HR0 := Aside0.mk hr0
  have HC0 := Aside0.mk hc0
  clear hr0 hc0
  have HB := Aside0.mk (Below.refl w.heap.size w)
  have H : ((impl_ArePoints.f k l0).bind fun t614 => (if t614 = true then (if 0 < (l0.length : Int) then (impl_BoxOf.l0 k (([(rd_T72 l0 0).f0, (rd_T72 l0 0).f1, (rd_T72 l0 0).f0, (rd_T72 l0 0).f1] : List Int)) l0 (l0.length : Int) 0) else (none)) else (some ([] : List Int)))) = some r := h
  clear h
  replace H := Option.bind_eq_some_iff.mp H
  obtain ⟨t614, A20, H⟩ := H
  replace H : (if t614 = true then (if 0 < (l0.length : Int) then (impl_BoxOf.l0 k (([(rd_T72 l0 0).f0, (rd_T72 l0 0).f1, (rd_T72 l0 0).f0, (rd_T72 l0 0).f1] : List Int)) l0 (l0.length : Int) 0) else (none)) else (some ([] : List Int))) = some r := H
  have A2 := Aside0.mk A20
  clear A20
  by_cases c3 : t614 = true
  · subst c3
    have H1 : (if 0 < (l0.length : Int) then (impl_BoxOf.l0 k (([(rd_T72 l0 0).f0, (rd_T72 l0 0).f1, (rd_T72 l0 0).f0, (rd_T72 l0 0).f1] : List Int)) l0 (l0.length : Int) 0) else (none)) = some r := by rw [if_pos rfl] at H; exact H
    clear H
    have H := H1
    clear H1
    by_cases c4 : 0 < (l0.length : Int)
    · rw [if_pos c4] at H
      have c4b0 : decide (0 < (l0.length : Int)) = true := decide_eq_true c4
      have c4b1 : decide (0 < l0.length) = true := decide_eq_true (by omega)
      clear c4
      obtain ⟨y619, hy619⟩ : ∃ y_ : List Int, y_ = (([(rd_T72 l0 0).f0, (rd_T72 l0 0).f1, (rd_T72 l0 0).f0, (rd_T72 l0 0).f1] : List Int)) := ⟨_, rfl⟩
      replace H : (impl_BoxOf.l0 k y619 l0 (l0.length : Int) 0) = some r := by first | (rw [hy619]; with_reducible exact H) | (have H2_ := (Option.bind_some _ _).symm.trans H; rw [hy619]; with_reducible exact H2_) | (have H2_ := (Option.bind_some _ _).symm.trans H; with_reducible exact H2_) | with_reducible exact H | (rw [hy619]; exact H) | exact H
      have Ny619 := Aside0.mk hy619
      clear hy619
      have H' := Aside0.mk H
      clear H
      go_enter Try.func27, Try.ntmps27
      try go_wp2_with (first | ((with_reducible refine gate_callee (f := 68) rfl ?_); refine goesL_ (some 7) rfl rfl Try.func68 (by kernel_rfl) rfl #[.slice A0 l0.length c0] rfl (by (try simp only [List.map_toArray, List.map_cons, List.map_nil]); first | done | rfl | (simp only [List.length_drop, List.length_take]; rfl)) ?_; (with_reducible refine (impl_ArePoints.calls k _ _ l0 true _ ?side1 ?side2 A2.out).mono ?_); (case side1 => repeat (first | exact HR0.out | (with_reducible refine Kd.C_alloc ?_ _) | (with_reducible refine Kd.C_drewN ?_ _) | (with_reducible refine Kd.C_drew ?_))); (case side2 => exact HC0.out); rintro e w5 ⟨rfl, hb⟩; refine ⟨_, rfl, ?_⟩; have n0_ := Aside0.mk (below_step (by repeat (first | (with_reducible first | exact HB.out | apply below_alloc | apply pw_below_drewN | apply below_drew1) | exact HB.out)) hb); clear HB; have HB := n0_; clear n0_; (try clear hb); (try clear hb2); (try clear hk); (try clear hi)))
      have n0_ := Aside0.mk (below_drew1 HB.out)
      clear HB
      have HB := n0_
      clear n0_
      have p615 : 0 ≤ (0 : Int) := (by omega)
      have q615 : 0 < (l0.length : Int) := of_decide_eq_true (by first | (with_reducible assumption) | assumption)
      obtain ⟨ad615, e615, hx615_0, hx615_1⟩ := at_T72 HR0.out 0 p615 q615
      have hw615_1 := hx615_1
      (try rw [show ((0 : Int)).toNat = 0 from rfl] at hw615_1)
      (try rw [show 0 * 2 = 0 from rfl] at hw615_1)
      (try rw [Addr.add_zero'] at hw615_1)
      have hw615_0 := hx615_0
      (try rw [show ((0 : Int)).toNat = 0 from rfl] at hw615_0)
      (try rw [show 0 * 2 = 0 from rfl] at hw615_0)
      (try rw [Addr.add_zero'] at hw615_0)
      cases e615
      have qi615 : (0 < l0.length) = True := eq_true (by omega)
      (try rw [show ((0 : Int)).toNat = 0 from rfl] at hx615_0)
      (try rw [show 0 * 2 = 0 from rfl] at hx615_0)
      (try rw [Addr.add_zero'] at hx615_0)
      (try rw [show ((0 : Int)).toNat = 0 from rfl] at hx615_1)
      (try rw [show 0 * 2 = 0 from rfl] at hx615_1)
      (try rw [Addr.add_zero'] at hx615_1)
      replace hx615_0 := (HB.out.cell (World.block_lt_of_cell? w _ hx615_0)).trans hx615_0
      replace hx615_1 := (HB.out.cell (World.block_lt_of_cell? w _ hx615_1)).trans hx615_1
      replace p615 := eq_true p615
      replace q615 := eq_true q615
      have p616 : 0 ≤ (0 : Int) := (by omega)
      have q616 : 0 < (l0.length : Int) := of_decide_eq_true (by first | (with_reducible assumption) | assumption)
      obtain ⟨ad616, e616, hx616_0, hx616_1⟩ := at_T72 HR0.out 0 p616 q616
      have hw616_1 := hx616_1
      (try rw [show ((0 : Int)).toNat = 0 from rfl] at hw616_1)
      (try rw [show 0 * 2 = 0 from rfl] at hw616_1)
      (try rw [Addr.add_zero'] at hw616_1)
      have hw616_0 := hx616_0
      (try rw [show ((0 : Int)).toNat = 0 from rfl] at hw616_0)
      (try rw [show 0 * 2 = 0 from rfl] at hw616_0)
      (try rw [Addr.add_zero'] at hw616_0)
      obtain rfl : ad615 = ad616 := (by injection e616)
      have qi616 : (0 < l0.length) = True := eq_true (by omega)
      (try rw [show ((0 : Int)).toNat = 0 from rfl] at hx616_0)
      (try rw [show 0 * 2 = 0 from rfl] at hx616_0)
      (try rw [Addr.add_zero'] at hx616_0)
      (try rw [show ((0 : Int)).toNat = 0 from rfl] at hx616_1)
      (try rw [show 0 * 2 = 0 from rfl] at hx616_1)
      (try rw [Addr.add_zero'] at hx616_1)
      replace hx616_0 := (HB.out.cell (World.block_lt_of_cell? w _ hx616_0)).trans hx616_0
      replace hx616_1 := (HB.out.cell (World.block_lt_of_cell? w _ hx616_1)).trans hx616_1
      replace p616 := eq_true p616
      replace q616 := eq_true q616
      have p617 : 0 ≤ (0 : Int) := (by omega)
      have q617 : 0 < (l0.length : Int) := of_decide_eq_true (by first | (with_reducible assumption) | assumption)
      obtain ⟨ad617, e617, hx617_0, hx617_1⟩ := at_T72 HR0.out 0 p617 q617
      have hw617_1 := hx617_1
      (try rw [show ((0 : Int)).toNat = 0 from rfl] at hw617_1)
      (try rw [show 0 * 2 = 0 from rfl] at hw617_1)
      (try rw [Addr.add_zero'] at hw617_1)
      have hw617_0 := hx617_0
      (try rw [show ((0 : Int)).toNat = 0 from rfl] at hw617_0)
      (try rw [show 0 * 2 = 0 from rfl] at hw617_0)
      (try rw [Addr.add_zero'] at hw617_0)
      obtain rfl : ad615 = ad617 := (by injection e617)
      have qi617 : (0 < l0.length) = True := eq_true (by omega)
      (try rw [show ((0 : Int)).toNat = 0 from rfl] at hx617_0)
      (try rw [show 0 * 2 = 0 from rfl] at hx617_0)
      (try rw [Addr.add_zero'] at hx617_0)
      (try rw [show ((0 : Int)).toNat = 0 from rfl] at hx617_1)
      (try rw [show 0 * 2 = 0 from rfl] at hx617_1)
      (try rw [Addr.add_zero'] at hx617_1)
      replace hx617_0 := (HB.out.cell (World.block_lt_of_cell? w _ hx617_0)).trans hx617_0
      replace hx617_1 := (HB.out.cell (World.block_lt_of_cell? w _ hx617_1)).trans hx617_1
      replace p617 := eq_true p617
      replace q617 := eq_true q617
      have p618 : 0 ≤ (0 : Int) := (by omega)
      have q618 : 0 < (l0.length : Int) := of_decide_eq_true (by first | (with_reducible assumption) | assumption)
      obtain ⟨ad618, e618, hx618_0, hx618_1⟩ := at_T72 HR0.out 0 p618 q618
      have hw618_1 := hx618_1
      (try rw [show ((0 : Int)).toNat = 0 from rfl] at hw618_1)
      (try rw [show 0 * 2 = 0 from rfl] at hw618_1)
      (try rw [Addr.add_zero'] at hw618_1)
      have hw618_0 := hx618_0
      (try rw [show ((0 : Int)).toNat = 0 from rfl] at hw618_0)
      (try rw [show 0 * 2 = 0 from rfl] at hw618_0)
      (try rw [Addr.add_zero'] at hw618_0)
      obtain rfl : ad615 = ad618 := (by injection e618)
      have qi618 : (0 < l0.length) = True := eq_true (by omega)
      (try rw [show ((0 : Int)).toNat = 0 from rfl] at hx618_0)
      (try rw [show 0 * 2 = 0 from rfl] at hx618_0)
      (try rw [Addr.add_zero'] at hx618_0)
      (try rw [show ((0 : Int)).toNat = 0 from rfl] at hx618_1)
      (try rw [show 0 * 2 = 0 from rfl] at hx618_1)
      (try rw [Addr.add_zero'] at hx618_1)
      replace hx618_0 := (HB.out.cell (World.block_lt_of_cell? w _ hx618_0)).trans hx618_0
      replace hx618_1 := (HB.out.cell (World.block_lt_of_cell? w _ hx618_1)).trans hx618_1
      replace p618 := eq_true p618
      replace q618 := eq_true q618
      refine start_ (n := 18) (S := fun w' => w'.cell? ad615 = some (.int .i64 ((rd_T72 l0 0).f0)) ∧ w'.cell? ⟨ad615.block, ad615.off + 1, none⟩ = some (.int .i64 ((rd_T72 l0 0).f1)) ∧ w'.cell? ad615 = some (.int .i64 ((rd_T72 l0 0).f0)) ∧ w'.cell? ⟨ad615.block, ad615.off + 1, none⟩ = some (.int .i64 ((rd_T72 l0 0).f1)) ∧ w'.cell? ad615 = some (.int .i64 ((rd_T72 l0 0).f0)) ∧ w'.cell? ⟨ad615.block, ad615.off + 1, none⟩ = some (.int .i64 ((rd_T72 l0 0).f1)) ∧ w'.cell? ad615 = some (.int .i64 ((rd_T72 l0 0).f0)) ∧ w'.cell? ⟨ad615.block, ad615.off + 1, none⟩ = some (.int .i64 ((rd_T72 l0 0).f1))) (ds := []) #[false, false, false, false, false, false, false, false, false, false, false, false, false, false, false, false, false, false] (by kernel_rfl) rfl rfl ⟨((HB.out.cell (World.block_lt_of_cell? w _ hw615_0)).trans hw615_0), ((HB.out.cell (World.block_lt_of_cell? w _ hw615_1)).trans hw615_1), ((HB.out.cell (World.block_lt_of_cell? w _ hw616_0)).trans hw616_0), ((HB.out.cell (World.block_lt_of_cell? w _ hw616_1)).trans hw616_1), ((HB.out.cell (World.block_lt_of_cell? w _ hw617_0)).trans hw617_0), ((HB.out.cell (World.block_lt_of_cell? w _ hw617_1)).trans hw617_1), ((HB.out.cell (World.block_lt_of_cell? w _ hw618_0)).trans hw618_0), ((HB.out.cell (World.block_lt_of_cell? w _ hw618_1)).trans hw618_1)⟩ (fun hHeld => ?_); refine with_tabW impl_BoxOf.tab3 impl_BoxOf.bits3 (fun HT_ HW_ => ?_)
      generalize w5.drew = w6 at HB hx615_0 hx615_1 hx616_0 hx616_1 hx617_0 hx617_1 hx618_0 hx618_1 hHeld ⊢
      refine pure_ (i := 0) (N := some 9) (v := ?_) (a' := ?_) #[true, false, false, false, false, false, false, false, false, false, false, false, false, false, false, false, false, false] rfl rfl (any_of HT_.out (by kernel_rfl)) (fun _ _ _ h => h) (Or.inl ⟨by rfl, ?_⟩) ?_ ?_
      rotate_left
      · intro w'
        go_simp
        with_reducible rfl
      rotate_left
      · simp only [Act.put, List.setIfInBounds_toArray, List.set_cons_zero, List.set_cons_succ, i64_w, i32_w]
        rfl
      refine pure_ (i := 1) (N := some 10) (v := ?_) (a' := ?_) #[true, true, false, false, false, false, false, false, false, false, false, false, false, false, false, false, false, false] rfl rfl (any_of HT_.out (by kernel_rfl)) (fun _ _ _ h => h) (Or.inl ⟨by rfl, ?_⟩) ?_ ?_
      rotate_left
      · intro w'
        go_simp
        with_reducible rfl
      rotate_left
      · simp only [Act.put, List.setIfInBounds_toArray, List.set_cons_zero, List.set_cons_succ, i64_w, i32_w]
        rfl
      refine pure_ (i := 2) (N := some 11) (v := ?_) (a' := ?_) #[true, true, true, false, false, false, false, false, false, false, false, false, false, false, false, false, false, false] rfl rfl (any_of HT_.out (by kernel_rfl)) (fun _ _ _ h => h) (Or.inl ⟨by rfl, ?_⟩) ?_ ?_
      rotate_left
      · intro w'
        go_simp
        with_reducible rfl
      rotate_left
      · simp only [Act.put, List.setIfInBounds_toArray, List.set_cons_zero, List.set_cons_succ, i64_w, i32_w]
        rfl
      refine pure_ (i := 4) (N := some 13) (v := ?_) (a' := ?_) #[true, true, true, false, true, false, false, false, false, false, false, false, false, false, false, false, false, false] rfl rfl (any_of HT_.out (by kernel_rfl)) (fun _ _ _ h => h) (Or.inl ⟨by rfl, ?_⟩) ?_ ?_
      rotate_left
      · intro w'
        go_simp
        with_reducible rfl
      rotate_left
      · simp only [Act.put, List.setIfInBounds_toArray, List.set_cons_zero, List.set_cons_succ, i64_w, i32_w]
        rfl
      refine pure_ (i := 5) (N := some 14) (v := ?_) (a' := ?_) #[true, true, true, false, true, true, false, false, false, false, false, false, false, false, false, false, false, false] rfl rfl (any_of HT_.out (by kernel_rfl)) (fun _ _ _ h => h) (Or.inl ⟨by rfl, ?_⟩) ?_ ?_
      rotate_left
      · intro w'
        go_simp
        with_reducible rfl
      rotate_left
      · simp only [Act.put, List.setIfInBounds_toArray, List.set_cons_zero, List.set_cons_succ, i64_w, i32_w]
        rfl
      refine pure_ (i := 6) (N := some 15) (v := ?_) (a' := ?_) #[true, true, true, false, true, true, true, false, false, false, false, false, false, false, false, false, false, false] rfl rfl (any_of HT_.out (by kernel_rfl)) (fun _ _ _ h => h) (Or.inl ⟨by rfl, ?_⟩) ?_ ?_
      rotate_left
      · intro w'
        go_simp
        with_reducible rfl
      rotate_left
      · simp only [Act.put, List.setIfInBounds_toArray, List.set_cons_zero, List.set_cons_succ, i64_w, i32_w]
        rfl
      refine pure_ (i := 8) (N := some 17) (v := ?_) (a' := ?_) #[true, true, true, false, true, true, true, false, true, false, false, false, false, false, false, false, false, false] rfl rfl (any_of HT_.out (by kernel_rfl)) (fun _ _ _ h => h) (Or.inl ⟨by rfl, ?_⟩) ?_ ?_
      rotate_left
      · intro w'
        go_simp
        with_reducible rfl
      rotate_left
      · simp only [Act.put, List.setIfInBounds_toArray, List.set_cons_zero, List.set_cons_succ, i64_w, i32_w]
        rfl
      refine pure_ (i := 9) (N := some 18) (v := ?_) (a' := ?_) #[true, true, true, false, true, true, true, false, true, true, false, false, false, false, false, false, false, false] rfl rfl (any_of HT_.out (by kernel_rfl)) (fun _ _ _ h => h) (Or.inl ⟨by rfl, ?_⟩) ?_ ?_
      rotate_left
      · intro w'
        go_simp
        with_reducible rfl
      rotate_left
      · simp only [Act.put, List.setIfInBounds_toArray, List.set_cons_zero, List.set_cons_succ, i64_w, i32_w]
        rfl
      refine pure_ (i := 10) (N := some 19) (v := ?_) (a' := ?_) #[true, true, true, false, true, true, true, false, true, true, true, false, false, false, false, false, false, false] rfl rfl (any_of HT_.out (by kernel_rfl)) (fun _ _ _ h => h) (Or.inl ⟨by rfl, ?_⟩) ?_ ?_
      rotate_left
      · intro w'
        go_simp
        with_reducible rfl
      rotate_left
      · simp only [Act.put, List.setIfInBounds_toArray, List.set_cons_zero, List.set_cons_succ, i64_w, i32_w]
        rfl
      refine pure_ (i := 12) (N := some 21) (v := ?_) (a' := ?_) #[true, true, true, false, true, true, true, false, true, true, true, false, true, false, false, false, false, false] rfl rfl (any_of HT_.out (by kernel_rfl)) (fun _ _ _ h => h) (Or.inl ⟨by rfl, ?_⟩) ?_ ?_
      rotate_left
      · intro w'
        go_simp
        with_reducible rfl
      rotate_left
      · simp only [Act.put, List.setIfInBounds_toArray, List.set_cons_zero, List.set_cons_succ, i64_w, i32_w]
        rfl
      refine pure_ (i := 13) (N := some 22) (v := ?_) (a' := ?_) #[true, true, true, false, true, true, true, false, true, true, true, false, true, true, false, false, false, false] rfl rfl (any_of HT_.out (by kernel_rfl)) (fun _ _ _ h => h) (Or.inl ⟨by rfl, ?_⟩) ?_ ?_
      rotate_left
      · intro w'
        go_simp
        with_reducible rfl
      rotate_left
      · simp only [Act.put, List.setIfInBounds_toArray, List.set_cons_zero, List.set_cons_succ, i64_w, i32_w]
        rfl
      refine pure_ (i := 14) (N := some 23) (v := ?_) (a' := ?_) #[true, true, true, false, true, true, true, false, true, true, true, false, true, true, true, false, false, false] rfl rfl (any_of HT_.out (by kernel_rfl)) (fun _ _ _ h => h) (Or.inl ⟨by rfl, ?_⟩) ?_ ?_
      rotate_left
      · intro w'
        go_simp
        with_reducible rfl
      rotate_left
      · simp only [Act.put, List.setIfInBounds_toArray, List.set_cons_zero, List.set_cons_succ, i64_w, i32_w]
        rfl
      refine take_ (i := 3) (N := some 12) (v := ?_) (a' := ?_) #[true, true, true, true, true, true, true, false, true, true, true, false, true, true, true, false, false, false] rfl rfl (take_ofW HT_.out HW_.out (by kernel_rfl)) (fun _ _ _ h => h) (Or.inl ⟨by rfl, ?_⟩) hHeld ?_ ?_
      rotate_left
      · rintro w' ⟨s0, s1, s2, s3, s4, s5, s6, s7⟩
        go_simp
        with_reducible rfl
      rotate_left
      · simp only [Act.put, List.setIfInBounds_toArray, List.set_cons_zero, List.set_cons_succ, i64_w, i32_w]
        rfl
      refine take_ (i := 7) (N := some 16) (v := ?_) (a' := ?_) #[true, true, true, true, true, true, true, true, true, true, true, false, true, true, true, false, false, false] rfl rfl (take_ofW HT_.out HW_.out (by kernel_rfl)) (fun _ _ _ h => h) (Or.inl ⟨by rfl, ?_⟩) hHeld ?_ ?_
      rotate_left
      · rintro w' ⟨s0, s1, s2, s3, s4, s5, s6, s7⟩
        go_simp
        with_reducible rfl
      rotate_left
      · simp only [Act.put, List.setIfInBounds_toArray, List.set_cons_zero, List.set_cons_succ, i64_w, i32_w]
        rfl
      refine take_ (i := 11) (N := some 20) (v := ?_) (a' := ?_) #[true, true, true, true, true, true, true, true, true, true, true, true, true, true, true, false, false, false] rfl rfl (take_ofW HT_.out HW_.out (by kernel_rfl)) (fun _ _ _ h => h) (Or.inl ⟨by rfl, ?_⟩) hHeld ?_ ?_
      rotate_left
      · rintro w' ⟨s0, s1, s2, s3, s4, s5, s6, s7⟩
        go_simp
        with_reducible rfl
      rotate_left
      · simp only [Act.put, List.setIfInBounds_toArray, List.set_cons_zero, List.set_cons_succ, i64_w, i32_w]
        rfl
      refine take_ (i := 15) (N := some 24) (v := ?_) (a' := ?_) #[true, true, true, true, true, true, true, true, true, true, true, true, true, true, true, true, false, false] rfl rfl (take_ofW HT_.out HW_.out (by kernel_rfl)) (fun _ _ _ h => h) (Or.inl ⟨by rfl, ?_⟩) hHeld ?_ ?_
      rotate_left
      · rintro w' ⟨s0, s1, s2, s3, s4, s5, s6, s7⟩
        go_simp
        with_reducible rfl
      rotate_left
      · simp only [Act.put, List.setIfInBounds_toArray, List.set_cons_zero, List.set_cons_succ, i64_w, i32_w]
        rfl
      refine one_ (i := 16) (N := some 25) #[true, true, true, true, true, true, true, true, true, true, true, true, true, true, true, true, true, false] rfl rfl (one_of HT_.out (by kernel_rfl)) (by decide) (fun K hK => ?_)
      refine Kd.R_lit_step (Kd.int .i64) _ 3 ?hg (N := 25) ?hd (xs := ([(rd_T72 l0 0).f0, (rd_T72 l0 0).f1, (rd_T72 l0 0).f0, (rd_T72 l0 0).f1] : List Int)) (inner := [.int .i64 ((rd_T72 l0 0).f0), .int .i64 ((rd_T72 l0 0).f1), .int .i64 ((rd_T72 l0 0).f0), .int .i64 ((rd_T72 l0 0).f1)]) (ok := fun _ => True) (okp := fun _ => True) ?hr ?hp (fun _ hk => hk) trivial (Below.refl _ _) (Nat.le_refl _) (by simp) ?_; (case hd => rfl); (case hg => rfl); (case hr => first | (go_simp; done) | (go_simp; rfl)); (case hp => exact (Reps.one (show Kd.M (Kd.int .i64) _ _ _ ((rd_T72 l0 0).f0) [.int .i64 ((rd_T72 l0 0).f0)] from rfl) (Reps.one (show Kd.M (Kd.int .i64) _ _ _ ((rd_T72 l0 0).f1) [.int .i64 ((rd_T72 l0 0).f1)] from rfl) (Reps.one (show Kd.M (Kd.int .i64) _ _ _ ((rd_T72 l0 0).f0) [.int .i64 ((rd_T72 l0 0).f0)] from rfl) (Reps.one (show Kd.M (Kd.int .i64) _ _ _ ((rd_T72 l0 0).f1) [.int .i64 ((rd_T72 l0 0).f1)] from rfl) (Reps.none _ _))))))
      intro v620 w7 ho8 hb hg_ hnew_
      clear hg_ hnew_
      (first | rw [← Ny619.out] at ho8 | (simp only [Int.reduceToNat] at ho8; rw [← Ny619.out] at ho8))
      have n0_ := Aside0.mk (Kd.R_lower ho8 (below_size (by repeat (first | (with_reducible first | exact HB.out | apply below_alloc | apply pw_below_drewN | apply below_drew1) | exact HB.out))))
      have n1_ := Aside0.mk (below_step (by repeat (first | (with_reducible first | exact HB.out | apply below_alloc | apply pw_below_drewN | apply below_drew1) | exact HB.out)) hb)
      clear HB
      have HO621 := n0_
      have HB := n1_
      clear n0_ n1_
      clear hb ho8
      refine hK.out _ _ ⟨((HB.out.cell (World.block_lt_of_cell? w _ hw615_0)).trans hw615_0), ((HB.out.cell (World.block_lt_of_cell? w _ hw615_1)).trans hw615_1), ((HB.out.cell (World.block_lt_of_cell? w _ hw616_0)).trans hw616_0), ((HB.out.cell (World.block_lt_of_cell? w _ hw616_1)).trans hw616_1), ((HB.out.cell (World.block_lt_of_cell? w _ hw617_0)).trans hw617_0), ((HB.out.cell (World.block_lt_of_cell? w _ hw617_1)).trans hw617_1), ((HB.out.cell (World.block_lt_of_cell? w _ hw618_0)).trans hw618_0), ((HB.out.cell (World.block_lt_of_cell? w _ hw618_1)).trans hw618_1)⟩ (fun hHeld => ?_)
      clear hK K
      refine norm_ (a' := ?_) ?_ ?_
      rotate_left
      · show Act.put _ (some 25) _ = _
        simp only [Act.put, List.setIfInBounds_toArray, List.set_cons_zero, List.set_cons_succ, i64_w, i32_w]
        rfl
      refine pure_ (i := 17) (N := some 3) (v := ?_) (a' := ?_) #[true, true, true, true, true, true, true, true, true, true, true, true, true, true, true, true, true, true] rfl rfl (any_of HT_.out (by kernel_rfl)) (fun _ _ _ h => h) (Or.inl ⟨by rfl, ?_⟩) ?_ ?_
      rotate_left
      · intro w'
        go_simp
        with_reducible rfl
      rotate_left
      · simp only [Act.put, List.setIfInBounds_toArray, List.set_cons_zero, List.set_cons_succ, i64_w, i32_w]
        rfl
      refine done_ (done_of HT_.out (by kernel_rfl)) ?_
      try go_wp2
      go_loopg [28] k (fun kq v28 w' => ∃ (x3_1 : List Int) (x28_1 : Int), v28 = .int .i64 x28_1 ∧ Aside0 (impl_BoxOf.l0 kq x3_1 l0 (l0.length : Int) x28_1 = some r) ∧ Aside0 (kq ≤ k) ∧ Aside0 (Kd.R (Kd.int .i64) 3 w' w.heap.size (fun _ => True) v620 x3_1) ∧ Aside0 (Below w.heap.size w w'))
      case atStart => exact ⟨(y619), (0), (by first | rfl | (simp; done) | (simp [*]; done)), H', ⟨Nat.le_refl _⟩, ⟨by (with_reducible repeat (first | apply Kd.R_alloc | apply Kd.R_drewN | apply Kd.R_drew)); exact HO621.out⟩, ⟨by repeat (first | (with_reducible first | exact HB.out | apply below_alloc | apply pw_below_drewN | apply below_drew1) | exact HB.out)⟩⟩
      case round =>
        clear H'
        try clear c2
        try clear p2
        try clear c3
        try clear c4
        try clear c4b0
        try clear c4b1
        try clear c6
        try clear p6
        try clear q6
        try clear hx6
        try clear qi6
        try clear hx615_0
        try clear hx615_1
        try clear hx616_0
        try clear hx616_1
        try clear hx617_0
        try clear hx617_1
        try clear hx618_0
        try clear hx618_1
        try clear p615
        try clear p616
        try clear p617
        try clear p618
        try clear q615
        try clear q616
        try clear q617
        try clear q618
        obtain ⟨x3_1, x28_1, rfl, HA, HK1, HO_3, HB⟩ := hrel
        cases gk with
        | zero => exact absurd HA.out (by simp [impl_BoxOf.l0])
        | succ k1 =>
          have H := HA.out
          clear HA
          simp only [impl_BoxOf.l0] at H
          by_cases c9 : x28_1 < (l0.length : Int)
          · rw [if_pos c9] at H
            have c9b0 : decide (x28_1 < (l0.length : Int)) = true := decide_eq_true c9
            clear c9
            by_cases c10 : 0 ≤ x28_1
            · rw [if_pos c10] at H
              have c10b0 : decide (0 ≤ x28_1) = true := decide_eq_true c10
              clear c10
              by_cases c11 : x28_1 < (l0.length : Int)
              · rw [if_pos c11] at H
                have c11b0 : decide (x28_1 < (l0.length : Int)) = true := decide_eq_true c11
                clear c11
                by_cases c12 : 0 < (x3_1.length : Int)
                · rw [if_pos c12] at H
                  have c12b0 : decide (0 < (x3_1.length : Int)) = true := decide_eq_true c12
                  have c12b1 : decide (0 < x3_1.length) = true := decide_eq_true (by omega)
                  clear c12
                  obtain ⟨ji13, hji13⟩ : ∃ j_ : Int, (mn (rd x3_1 0) ((rd_T72 l0 x28_1).f0)) = j_ := ⟨_, rfl⟩
                  replace H : (if 1 < (x3_1.length : Int) then (if 2 < (x3_1.length : Int) then (if 3 < (x3_1.length : Int) then (impl_BoxOf.l0 k1 ((((x3_1.set (0 : Int).toNat (ji13)).set (1 : Int).toNat (mn (rd x3_1 1) ((rd_T72 l0 x28_1).f1))).set (2 : Int).toNat (mx (rd x3_1 2) ((rd_T72 l0 x28_1).f0))).set (3 : Int).toNat (mx (rd x3_1 3) ((rd_T72 l0 x28_1).f1))) l0 (l0.length : Int) (wrap64 (x28_1 + 1))) else (none)) else (none)) else (none)) = some r := by first | (rw [hji13] at H; exact H) | (simp only [hji13] at H ⊢; exact H)
                  have hji13_ : (if ((rd_T72 l0 x28_1).f0) < (rd x3_1 0) then ((rd_T72 l0 x28_1).f0) else (rd x3_1 0)) = ji13 := hji13
                  by_cases c14 : 1 < (x3_1.length : Int)
                  · rw [if_pos c14] at H
                    have c14b0 : decide (1 < (x3_1.length : Int)) = true := decide_eq_true c14
                    have c14b1 : decide (1 < x3_1.length) = true := decide_eq_true (by omega)
                    clear c14
                    obtain ⟨ji15, hji15⟩ : ∃ j_ : Int, (mn (rd x3_1 1) ((rd_T72 l0 x28_1).f1)) = j_ := ⟨_, rfl⟩
                    replace H : (if 2 < (x3_1.length : Int) then (if 3 < (x3_1.length : Int) then (impl_BoxOf.l0 k1 ((((x3_1.set (0 : Int).toNat (ji13)).set (1 : Int).toNat (ji15)).set (2 : Int).toNat (mx (rd x3_1 2) ((rd_T72 l0 x28_1).f0))).set (3 : Int).toNat (mx (rd x3_1 3) ((rd_T72 l0 x28_1).f1))) l0 (l0.length : Int) (wrap64 (x28_1 + 1))) else (none)) else (none)) = some r := by first | (rw [hji15] at H; exact H) | (simp only [hji15] at H ⊢; exact H)
                    have hji15_ : (if ((rd_T72 l0 x28_1).f1) < (rd x3_1 1) then ((rd_T72 l0 x28_1).f1) else (rd x3_1 1)) = ji15 := hji15
                    by_cases c16 : 2 < (x3_1.length : Int)
                    · rw [if_pos c16] at H
                      have c16b0 : decide (2 < (x3_1.length : Int)) = true := decide_eq_true c16
                      have c16b1 : decide (2 < x3_1.length) = true := decide_eq_true (by omega)
                      clear c16
                      obtain ⟨ji17, hji17⟩ : ∃ j_ : Int, (mx (rd x3_1 2) ((rd_T72 l0 x28_1).f0)) = j_ := ⟨_, rfl⟩
                      replace H : (if 3 < (x3_1.length : Int) then (impl_BoxOf.l0 k1 ((((x3_1.set (0 : Int).toNat (ji13)).set (1 : Int).toNat (ji15)).set (2 : Int).toNat (ji17)).set (3 : Int).toNat (mx (rd x3_1 3) ((rd_T72 l0 x28_1).f1))) l0 (l0.length : Int) (wrap64 (x28_1 + 1))) else (none)) = some r := by first | (rw [hji17] at H; exact H) | (simp only [hji17] at H ⊢; exact H)
                      have hji17_ : (if (rd x3_1 2) < ((rd_T72 l0 x28_1).f0) then ((rd_T72 l0 x28_1).f0) else (rd x3_1 2)) = ji17 := hji17
                      by_cases c18 : 3 < (x3_1.length : Int)
                      · rw [if_pos c18] at H
                        have c18b0 : decide (3 < (x3_1.length : Int)) = true := decide_eq_true c18
                        have c18b1 : decide (3 < x3_1.length) = true := decide_eq_true (by omega)
                        clear c18
                        obtain ⟨ji19, hji19⟩ : ∃ j_ : Int, (mx (rd x3_1 3) ((rd_T72 l0 x28_1).f1)) = j_ := ⟨_, rfl⟩
                        replace H : (impl_BoxOf.l0 k1 ((((x3_1.set (0 : Int).toNat (ji13)).set (1 : Int).toNat (ji15)).set (2 : Int).toNat (ji17)).set (3 : Int).toNat (ji19)) l0 (l0.length : Int) (wrap64 (x28_1 + 1))) = some r := by first | (rw [hji19] at H; exact H) | (simp only [hji19] at H ⊢; exact H)
                        have hji19_ : (if (rd x3_1 3) < ((rd_T72 l0 x28_1).f1) then ((rd_T72 l0 x28_1).f1) else (rd x3_1 3)) = ji19 := hji19
                        obtain ⟨y628, hy628⟩ : ∃ y_ : List Int, y_ = (x3_1.set (0 : Int).toNat (ji13)) := ⟨_, rfl⟩
                        replace H : (impl_BoxOf.l0 k1 (((y628.set (1 : Int).toNat (ji15)).set (2 : Int).toNat (ji17)).set (3 : Int).toNat (ji19)) l0 (l0.length : Int) (wrap64 (x28_1 + 1))) = some r := by first | (rw [hy628]; with_reducible exact H) | (have H2_ := (Option.bind_some _ _).symm.trans H; rw [hy628]; with_reducible exact H2_) | (have H2_ := (Option.bind_some _ _).symm.trans H; with_reducible exact H2_) | with_reducible exact H | (rw [hy628]; exact H) | exact H
                        have Ny628 := Aside0.mk hy628
                        clear hy628
                        obtain ⟨y629, hy629⟩ : ∃ y_ : List Int, y_ = (y628.set (1 : Int).toNat (ji15)) := ⟨_, rfl⟩
                        replace H : (impl_BoxOf.l0 k1 ((y629.set (2 : Int).toNat (ji17)).set (3 : Int).toNat (ji19)) l0 (l0.length : Int) (wrap64 (x28_1 + 1))) = some r := by first | (rw [hy629]; with_reducible exact H) | (have H2_ := (Option.bind_some _ _).symm.trans H; rw [hy629]; with_reducible exact H2_) | (have H2_ := (Option.bind_some _ _).symm.trans H; with_reducible exact H2_) | with_reducible exact H | (rw [hy629]; exact H) | exact H
                        have Ny629 := Aside0.mk hy629
                        clear hy629
                        obtain ⟨y630, hy630⟩ : ∃ y_ : List Int, y_ = (y629.set (2 : Int).toNat (ji17)) := ⟨_, rfl⟩
                        replace H : (impl_BoxOf.l0 k1 (y630.set (3 : Int).toNat (ji19)) l0 (l0.length : Int) (wrap64 (x28_1 + 1))) = some r := by first | (rw [hy630]; with_reducible exact H) | (have H2_ := (Option.bind_some _ _).symm.trans H; rw [hy630]; with_reducible exact H2_) | (have H2_ := (Option.bind_some _ _).symm.trans H; with_reducible exact H2_) | with_reducible exact H | (rw [hy630]; exact H) | exact H
                        have Ny630 := Aside0.mk hy630
                        clear hy630
                        obtain ⟨y631, hy631⟩ : ∃ y_ : List Int, y_ = (y630.set (3 : Int).toNat (ji19)) := ⟨_, rfl⟩
                        replace H : (impl_BoxOf.l0 k1 y631 l0 (l0.length : Int) (wrap64 (x28_1 + 1))) = some r := by first | (rw [hy631]; with_reducible exact H) | (have H2_ := (Option.bind_some _ _).symm.trans H; rw [hy631]; with_reducible exact H2_) | (have H2_ := (Option.bind_some _ _).symm.trans H; with_reducible exact H2_) | with_reducible exact H | (rw [hy631]; exact H) | exact H
                        have Ny631 := Aside0.mk hy631
                        clear hy631
                        have H' := Aside0.mk H
                        clear H
                        have p622 : 0 ≤ (x28_1 : Int) := of_decide_eq_true (by first | (with_reducible assumption) | assumption)
                        have q622 : x28_1 < (l0.length : Int) := of_decide_eq_true (by first | (with_reducible assumption) | assumption)
                        obtain ⟨ad622, e622, hx622_0, hx622_1⟩ := at_T72 HR0.out x28_1 p622 q622
                        obtain rfl : ad615 = ad622 := (by injection e622)
                        replace hx622_0 := (HB.out.cell (World.block_lt_of_cell? w _ hx622_0)).trans hx622_0
                        replace hx622_1 := (HB.out.cell (World.block_lt_of_cell? w _ hx622_1)).trans hx622_1
                        replace p622 := eq_true p622
                        replace q622 := eq_true q622
                        try go_wp2_with (first | ((with_reducible refine gate_dst (N := 5) rfl ?_); refine box_event ?hg (N := 5) ?hd (cs := #[.int .i64 0, .int .i64 0]) (t := 72) ?hr ?_; (case hd => rfl); (case hg => rfl); (case hr => first | (go_simp; done) | (go_simp; rfl)); intro gb623 hg w24 hbox hb; have n0_ := Aside0.mk (Kd.R_below (by (with_reducible repeat (first | apply Kd.R_alloc | apply Kd.R_drewN | apply Kd.R_drew)); exact HO_3.out) hb); have n1_ := Aside0.mk (below_step (by repeat (first | (with_reducible first | exact HB.out | apply below_alloc | apply pw_below_drewN | apply below_drew1) | exact HB.out)) hb); have n2_ := Aside0.mk (hbox); have n3_ := Aside0.mk ((by rw [hg]; exact (below_size (by repeat (first | (with_reducible first | exact HB.out | apply below_alloc | apply pw_below_drewN | apply below_drew1) | exact HB.out))) : w.heap.size ≤ gb623)); have n4_ := Aside0.mk ((by rw [hg]; exact (below_size (by repeat (first | (with_reducible first | exact HB.out | apply below_alloc | apply pw_below_drewN | apply below_drew1) | exact HB.out))) : w.heap.size ≤ gb623)); clear HO_3; clear HB; have HO_3 := n0_; have HB := n1_; have BK623 := n2_; have GW623 := n3_; have GE623 := n4_; clear n0_ n1_ n2_ n3_ n4_; clear hb hbox hg; have hcz25_0 : w24.cell? ⟨gb623, 0, none⟩ = some (.int .i64 0) := (blk_cell BK623.out 0).trans rfl; have hcz25_1 : w24.cell? ⟨gb623, 1, none⟩ = some (.int .i64 0) := (blk_cell BK623.out 1).trans rfl; have hfz25_0 := blk_frozen BK623.out 0; have hfz25_1 := blk_frozen BK623.out 1))
                        have n0_ : Aside0 (Kd.R (Kd.int .i64) 3 ((w24.setCell ⟨gb623, 0, none⟩ (.int .i64 ((rd_T72 l0 x28_1).f0))).setCell ⟨gb623, 1, none⟩ (.int .i64 ((rd_T72 l0 x28_1).f1))) w.heap.size (fun _ => True) v620 x3_1) := ⟨by (with_reducible repeat (first | apply Kd.R_alloc | apply Kd.R_drewN | apply Kd.R_drew)); exact Kd.R_mono (Kd.R_far (p := ⟨gb623, 1, none⟩) (Kd.R_far (p := ⟨gb623, 0, none⟩) (Kd.R_types HO_3.out BK623.out (by decide)) (fun _ hk => hk.2) (.int .i64 ((rd_T72 l0 x28_1).f0))) (fun _ hk => hk.2) (.int .i64 ((rd_T72 l0 x28_1).f1))) (fun _ hk => trivial)⟩
                        have n1_ : Aside0 (((w24.setCell ⟨gb623, 0, none⟩ (.int .i64 ((rd_T72 l0 x28_1).f0))).setCell ⟨gb623, 1, none⟩ (.int .i64 ((rd_T72 l0 x28_1).f1))).heap[gb623]? = some (.cells #[.int .i64 ((rd_T72 l0 x28_1).f0), .int .i64 ((rd_T72 l0 x28_1).f1)] 72 (0, 0))) := ⟨by (with_reducible repeat (first | refine blk_drewN ?_ _ | refine blk_drew ?_ | refine blk_alloc ?_ _)); refine blk_put (cs := #[.int .i64 ((rd_T72 l0 x28_1).f0), .int .i64 0]) ?_ 1 _ rfl; (with_reducible repeat (first | refine blk_drewN ?_ _ | refine blk_drew ?_ | refine blk_alloc ?_ _)); refine blk_put (cs := #[.int .i64 0, .int .i64 0]) ?_ 0 _ rfl; (with_reducible repeat (first | refine blk_drewN ?_ _ | refine blk_drew ?_ | refine blk_alloc ?_ _)); exact BK623.out⟩
                        have n2_ : Aside0 (Below w.heap.size w ((w24.setCell ⟨gb623, 0, none⟩ (.int .i64 ((rd_T72 l0 x28_1).f0))).setCell ⟨gb623, 1, none⟩ (.int .i64 ((rd_T72 l0 x28_1).f1)))) := ⟨by repeat (first | (with_reducible first | exact HB.out | apply below_alloc | apply pw_below_drewN | apply below_drew1 | refine below_set ?_ GE623.out) | exact HB.out)⟩
                        (try clear HO_3)
                        (try clear BK623)
                        (try clear HB)
                        generalize ((w24.setCell ⟨gb623, 0, none⟩ (.int .i64 ((rd_T72 l0 x28_1).f0))).setCell ⟨gb623, 1, none⟩ (.int .i64 ((rd_T72 l0 x28_1).f1))) = w26 at n0_ n1_ n2_ ⊢
                        have HO_3 := n0_
                        have BK623 := n1_
                        have HB := n2_
                        clear n0_ n1_ n2_
                        have n0_ := Aside0.mk (Kd.R_drew HO_3.out)
                        have n1_ := Aside0.mk (blk_drew BK623.out)
                        have n2_ := Aside0.mk (below_drew1 HB.out)
                        clear HO_3
                        clear BK623
                        clear HB
                        have HO_3 := n0_
                        have BK623 := n1_
                        have HB := n2_
                        clear n0_ n1_ n2_
                        obtain ⟨Ao28, co28, eo28⟩ := Kd.R_slice HO_3.out
                        (first | subst eo28 | (injection eo28 with f1_ f2_ f3_; have f4_ := f1_.symm; have f5_ := f3_.symm; clear f1_ f2_ f3_; subst f4_; subst f5_))
                        have p624 : 0 ≤ (0 : Int) := (by omega)
                        have q624 : 0 < (x3_1.length : Int) := of_decide_eq_true (by first | (with_reducible assumption) | assumption)
                        obtain ⟨ad624, e624, hx624_0⟩ := Kd.at_int (Kd.R_reads' HO_3.out).2.2 0 p624 q624
                        cases e624
                        have qi624 : (0 < x3_1.length) = True := eq_true (by omega)
                        (try rw [show ((0 : Int)).toNat = 0 from rfl] at hx624_0)
                        (try rw [Addr.add_zero'] at hx624_0)
                        replace p624 := eq_true p624
                        replace q624 := eq_true q624
                        have p625 : 0 ≤ (1 : Int) := (by omega)
                        have q625 : 1 < (x3_1.length : Int) := of_decide_eq_true (by first | (with_reducible assumption) | assumption)
                        obtain ⟨ad625, e625, hx625_0⟩ := Kd.at_int (Kd.R_reads' HO_3.out).2.2 1 p625 q625
                        obtain rfl : ad624 = ad625 := (by injection e625)
                        (try simp only [show (1 : Int).toNat = 1 from rfl, Nat.reduceMul, Nat.reduceEqDiff, Go.Addr.add, ↓reduceIte] at hx625_0)
                        have qi625 : (1 < x3_1.length) = True := eq_true (by omega)
                        (try rw [show ((1 : Int)).toNat = 1 from rfl] at hx625_0)
                        replace p625 := eq_true p625
                        replace q625 := eq_true q625
                        have p626 : 0 ≤ (2 : Int) := (by omega)
                        have q626 : 2 < (x3_1.length : Int) := of_decide_eq_true (by first | (with_reducible assumption) | assumption)
                        obtain ⟨ad626, e626, hx626_0⟩ := Kd.at_int (Kd.R_reads' HO_3.out).2.2 2 p626 q626
                        obtain rfl : ad624 = ad626 := (by injection e626)
                        (try simp only [show (2 : Int).toNat = 2 from rfl, Nat.reduceMul, Nat.reduceEqDiff, Go.Addr.add, ↓reduceIte] at hx626_0)
                        have qi626 : (2 < x3_1.length) = True := eq_true (by omega)
                        (try rw [show ((2 : Int)).toNat = 2 from rfl] at hx626_0)
                        replace p626 := eq_true p626
                        replace q626 := eq_true q626
                        have p627 : 0 ≤ (3 : Int) := (by omega)
                        have q627 : 3 < (x3_1.length : Int) := of_decide_eq_true (by first | (with_reducible assumption) | assumption)
                        obtain ⟨ad627, e627, hx627_0⟩ := Kd.at_int (Kd.R_reads' HO_3.out).2.2 3 p627 q627
                        obtain rfl : ad624 = ad627 := (by injection e627)
                        (try simp only [show (3 : Int).toNat = 3 from rfl, Nat.reduceMul, Nat.reduceEqDiff, Go.Addr.add, ↓reduceIte] at hx627_0)
                        have qi627 : (3 < x3_1.length) = True := eq_true (by omega)
                        (try rw [show ((3 : Int)).toNat = 3 from rfl] at hx627_0)
                        replace p627 := eq_true p627
                        replace q627 := eq_true q627
                        have p20 : 0 ≤ (0 : Int) := (by omega)
                        have q20 : (0 : Int) < ((x3_1.length : Int) : Int) := of_decide_eq_true (by first | (with_reducible assumption) | assumption)
                        have qi20 : (0 < x3_1.length) = True := eq_true (by omega)
                        obtain ⟨go20, co20, eo20, gb20, gl20, cl20, HG20⟩ := Kd.R_form HO_3.out (by omega)
                        (first | cases eo20 | (injection eo20 with ea_ en_ ec_; (first | subst ea_ | (injection ea_ with ea_; subst ea_)); subst ec_; clear en_))
                        have GB20 := Aside0.mk gb20
                        have GG20 := Aside0.mk HG20
                        clear gb20 gl20 HG20
                        (first | simp only [add_plain] at hx624_0 | skip)
                        (first | simp only [add_plain] at hx625_0 | skip)
                        (first | simp only [add_plain] at hx626_0 | skip)
                        (first | simp only [add_plain] at hx627_0 | skip)
                        obtain ⟨hx20_0, hf20_0⟩ := Kd.R_celln 0 HO_3.out (0 : Int) p20 q20
                        (try rw [show ((0 : Int)).toNat = 0 from rfl] at hx20_0)
                        (try simp only [Nat.reduceMul, Nat.zero_mul, Nat.zero_add, Nat.reduceAdd] at hx20_0)
                        (try rw [show ((0 : Int)).toNat = 0 from rfl] at hf20_0)
                        (try simp only [Nat.reduceMul, Nat.zero_mul, Nat.zero_add, Nat.reduceAdd] at hf20_0)
                        replace p20 := eq_true p20
                        replace q20 := eq_true q20
                        have HP29 := Kd.R_putn HO_3.out (0 : Int) ji13
                        rw [← Ny628.out] at HP29
                        have HQ29 := Aside0.mk HP29
                        clear HP29
                        have p21 : 0 ≤ (1 : Int) := (by omega)
                        have q21 : (1 : Int) < ((x3_1.length : Int) : Int) := of_decide_eq_true (by first | (with_reducible assumption) | assumption)
                        have qi21 : (1 < x3_1.length) = True := eq_true (by omega)
                        obtain ⟨hx21_0, hf21_0⟩ := Kd.R_celln 0 HQ29.out (1 : Int) p21 q21
                        have hfw21_0 := (Kd.R_celln 0 HO_3.out (1 : Int) p21 q21).2
                        (try rw [show ((1 : Int)).toNat = 1 from rfl] at hfw21_0)
                        (try simp only [Nat.reduceMul, Nat.zero_mul, Nat.zero_add, Nat.reduceAdd] at hfw21_0)
                        (try rw [show ((1 : Int)).toNat = 1 from rfl] at hx21_0)
                        (try simp only [Nat.reduceMul, Nat.zero_mul, Nat.zero_add, Nat.reduceAdd] at hx21_0)
                        (try rw [show ((1 : Int)).toNat = 1 from rfl] at hf21_0)
                        (try simp only [Nat.reduceMul, Nat.zero_mul, Nat.zero_add, Nat.reduceAdd] at hf21_0)
                        replace p21 := eq_true p21
                        replace q21 := eq_true q21
                        have HP30 := Kd.R_putn HQ29.out (1 : Int) ji15
                        rw [← Ny629.out] at HP30
                        have HQ30 := Aside0.mk HP30
                        clear HP30
                        have p22 : 0 ≤ (2 : Int) := (by omega)
                        have q22 : (2 : Int) < ((x3_1.length : Int) : Int) := of_decide_eq_true (by first | (with_reducible assumption) | assumption)
                        have qi22 : (2 < x3_1.length) = True := eq_true (by omega)
                        obtain ⟨hx22_0, hf22_0⟩ := Kd.R_celln 0 HQ30.out (2 : Int) p22 q22
                        have hfw22_0 := (Kd.R_celln 0 HO_3.out (2 : Int) p22 q22).2
                        (try rw [show ((2 : Int)).toNat = 2 from rfl] at hfw22_0)
                        (try simp only [Nat.reduceMul, Nat.zero_mul, Nat.zero_add, Nat.reduceAdd] at hfw22_0)
                        (try rw [show ((2 : Int)).toNat = 2 from rfl] at hx22_0)
                        (try simp only [Nat.reduceMul, Nat.zero_mul, Nat.zero_add, Nat.reduceAdd] at hx22_0)
                        (try rw [show ((2 : Int)).toNat = 2 from rfl] at hf22_0)
                        (try simp only [Nat.reduceMul, Nat.zero_mul, Nat.zero_add, Nat.reduceAdd] at hf22_0)
                        replace p22 := eq_true p22
                        replace q22 := eq_true q22
                        have HP31 := Kd.R_putn HQ30.out (2 : Int) ji17
                        rw [← Ny630.out] at HP31
                        have HQ31 := Aside0.mk HP31
                        clear HP31
                        have p23 : 0 ≤ (3 : Int) := (by omega)
                        have q23 : (3 : Int) < ((x3_1.length : Int) : Int) := of_decide_eq_true (by first | (with_reducible assumption) | assumption)
                        have qi23 : (3 < x3_1.length) = True := eq_true (by omega)
                        obtain ⟨hx23_0, hf23_0⟩ := Kd.R_celln 0 HQ31.out (3 : Int) p23 q23
                        have hfw23_0 := (Kd.R_celln 0 HO_3.out (3 : Int) p23 q23).2
                        (try rw [show ((3 : Int)).toNat = 3 from rfl] at hfw23_0)
                        (try simp only [Nat.reduceMul, Nat.zero_mul, Nat.zero_add, Nat.reduceAdd] at hfw23_0)
                        (try rw [show ((3 : Int)).toNat = 3 from rfl] at hx23_0)
                        (try simp only [Nat.reduceMul, Nat.zero_mul, Nat.zero_add, Nat.reduceAdd] at hx23_0)
                        (try rw [show ((3 : Int)).toNat = 3 from rfl] at hf23_0)
                        (try simp only [Nat.reduceMul, Nat.zero_mul, Nat.zero_add, Nat.reduceAdd] at hf23_0)
                        replace p23 := eq_true p23
                        replace q23 := eq_true q23
                        have HP32 := Kd.R_putn HQ31.out (3 : Int) ji19
                        rw [← Ny631.out] at HP32
                        have HQ32 := Aside0.mk HP32
                        clear HP32
                        have NE_ := Aside0.mk (((Kd.R_types HO_3.out BK623.out (by decide)).1 go20 rfl).2 : go20 ≠ gb623)
                        refine start2_ (n := 36) (S0 := fun w' => w'.heap[gb623]? = some (.cells #[(.int .i64 ((rd_T72 l0 x28_1).f0)), (.int .i64 ((rd_T72 l0 x28_1).f1))] 72 (0, 0))) (S := fun w' => w'.cell? ⟨go20, 0, none⟩ = some (.int .i64 (rd x3_1 0)) ∧ w'.cell? ⟨go20, 1, none⟩ = some (.int .i64 (rd x3_1 1)) ∧ w'.cell? ⟨go20, 2, none⟩ = some (.int .i64 (rd x3_1 2)) ∧ w'.cell? ⟨go20, 3, none⟩ = some (.int .i64 (rd x3_1 3))) (ds := [29, 31, 33, 35]) #[false, false, false, false, false, false, false, false, false, false, false, false, false, false, false, false, false, false, false, false, false, false, false, false, false, false, false, false, false, false, false, false, false, false, false, false] (by kernel_rfl) rfl rfl BK623.out ⟨hx624_0, hx625_0, hx626_0, hx627_0⟩ (fun hHeld0 hHeld => ?_); refine with_tab2 impl_BoxOf.tab7 impl_BoxOf.bits7 (fun HT_ HW_ => ?_)
                        generalize w26.drew = w27 at hHeld0 hfw21_0 hfw22_0 hfw23_0 HO_3 BK623 HB GG20 HQ29 HQ30 HQ31 HQ32 hf20_0 hf21_0 hf22_0 hf23_0 hx20_0 hx21_0 hx22_0 hx23_0 hx624_0 hx625_0 hx626_0 hx627_0 hHeld ⊢
                        refine pure2_ (i := 0) (N := some 32) (v := ?_) (a' := ?_) #[true, false, false, false, false, false, false, false, false, false, false, false, false, false, false, false, false, false, false, false, false, false, false, false, false, false, false, false, false, false, false, false, false, false, false, false] rfl rfl (take_ofW HT_.out HW_.out (by kernel_rfl)) (fun _ _ _ h => h) (Or.inl ⟨by rfl, ?_⟩) ?_ ?_
                        rotate_left
                        · intro w'
                          go_simp
                          with_reducible rfl
                        rotate_left
                        · simp only [Act.put, List.setIfInBounds_toArray, List.set_cons_zero, List.set_cons_succ, i64_w, i32_w]
                          rfl
                        refine pure2_ (i := 1) (N := some 33) (v := ?_) (a' := ?_) #[true, true, false, false, false, false, false, false, false, false, false, false, false, false, false, false, false, false, false, false, false, false, false, false, false, false, false, false, false, false, false, false, false, false, false, false] rfl rfl (take_ofW HT_.out HW_.out (by kernel_rfl)) (fun _ _ _ h => h) (Or.inl ⟨by rfl, ?_⟩) ?_ ?_
                        rotate_left
                        · intro w'
                          go_simp
                          with_reducible rfl
                        rotate_left
                        · simp only [Act.put, List.setIfInBounds_toArray, List.set_cons_zero, List.set_cons_succ, i64_w, i32_w]
                          rfl
                        refine pure2_ (i := 2) (N := some 34) (v := ?_) (a' := ?_) #[true, true, true, false, false, false, false, false, false, false, false, false, false, false, false, false, false, false, false, false, false, false, false, false, false, false, false, false, false, false, false, false, false, false, false, false] rfl rfl (take_ofW HT_.out HW_.out (by kernel_rfl)) (fun _ _ _ h => h) (Or.inl ⟨by rfl, ?_⟩) ?_ ?_
                        rotate_left
                        · intro w'
                          go_simp
                          with_reducible rfl
                        rotate_left
                        · simp only [Act.put, List.setIfInBounds_toArray, List.set_cons_zero, List.set_cons_succ, i64_w, i32_w]
                          rfl
                        refine pure2_ (i := 3) (N := some 35) (v := ?_) (a' := ?_) #[true, true, true, true, false, false, false, false, false, false, false, false, false, false, false, false, false, false, false, false, false, false, false, false, false, false, false, false, false, false, false, false, false, false, false, false] rfl rfl (take_ofW HT_.out HW_.out (by kernel_rfl)) (fun _ _ _ h => h) (Or.inl ⟨by rfl, ?_⟩) ?_ ?_
                        rotate_left
                        · intro w'
                          go_simp
                          with_reducible rfl
                        rotate_left
                        · simp only [Act.put, List.setIfInBounds_toArray, List.set_cons_zero, List.set_cons_succ, i64_w, i32_w]
                          rfl
                        refine pure2_ (i := 4) (N := some 36) (v := ?_) (a' := ?_) #[true, true, true, true, true, false, false, false, false, false, false, false, false, false, false, false, false, false, false, false, false, false, false, false, false, false, false, false, false, false, false, false, false, false, false, false] rfl rfl (take_ofW HT_.out HW_.out (by kernel_rfl)) (fun _ _ _ h => h) (Or.inl ⟨by rfl, ?_⟩) ?_ ?_
                        rotate_left
                        · intro w'
                          go_simp
                          with_reducible rfl
                        rotate_left
                        · simp only [Act.put, List.setIfInBounds_toArray, List.set_cons_zero, List.set_cons_succ, i64_w, i32_w]
                          rfl
                        refine pure2_ (i := 5) (N := some 37) (v := ?_) (a' := ?_) #[true, true, true, true, true, true, false, false, false, false, false, false, false, false, false, false, false, false, false, false, false, false, false, false, false, false, false, false, false, false, false, false, false, false, false, false] rfl rfl (take_ofW HT_.out HW_.out (by kernel_rfl)) (fun _ _ _ h => h) (Or.inl ⟨by rfl, ?_⟩) ?_ ?_
                        rotate_left
                        · intro w'
                          go_simp
                          with_reducible rfl
                        rotate_left
                        · simp only [Act.put, List.setIfInBounds_toArray, List.set_cons_zero, List.set_cons_succ, i64_w, i32_w]
                          rfl
                        refine pure2_ (i := 7) (N := some 39) (v := ?_) (a' := ?_) #[true, true, true, true, true, true, false, true, false, false, false, false, false, false, false, false, false, false, false, false, false, false, false, false, false, false, false, false, false, false, false, false, false, false, false, false] rfl rfl (take_ofW HT_.out HW_.out (by kernel_rfl)) (fun _ _ _ h => h) (Or.inl ⟨by rfl, ?_⟩) ?_ ?_
                        rotate_left
                        · intro w'
                          go_simp
                          with_reducible rfl
                        rotate_left
                        · simp only [Act.put, List.setIfInBounds_toArray, List.set_cons_zero, List.set_cons_succ, i64_w, i32_w]
                          rfl
                        refine pure2_ (i := 10) (N := some 42) (v := ?_) (a' := ?_) #[true, true, true, true, true, true, false, true, false, false, true, false, false, false, false, false, false, false, false, false, false, false, false, false, false, false, false, false, false, false, false, false, false, false, false, false] rfl rfl (take_ofW HT_.out HW_.out (by kernel_rfl)) (fun _ _ _ h => h) (Or.inl ⟨by rfl, ?_⟩) ?_ ?_
                        rotate_left
                        · intro w'
                          go_simp
                          with_reducible rfl
                        rotate_left
                        · simp only [Act.put, List.setIfInBounds_toArray, List.set_cons_zero, List.set_cons_succ, i64_w, i32_w]
                          rfl
                        refine pure2_ (i := 11) (N := some 43) (v := ?_) (a' := ?_) #[true, true, true, true, true, true, false, true, false, false, true, true, false, false, false, false, false, false, false, false, false, false, false, false, false, false, false, false, false, false, false, false, false, false, false, false] rfl rfl (take_ofW HT_.out HW_.out (by kernel_rfl)) (fun _ _ _ h => h) (Or.inl ⟨by rfl, ?_⟩) ?_ ?_
                        rotate_left
                        · intro w'
                          go_simp
                          with_reducible rfl
                        rotate_left
                        · simp only [Act.put, List.setIfInBounds_toArray, List.set_cons_zero, List.set_cons_succ, i64_w, i32_w]
                          rfl
                        refine pure2_ (i := 13) (N := some 45) (v := ?_) (a' := ?_) #[true, true, true, true, true, true, false, true, false, false, true, true, false, true, false, false, false, false, false, false, false, false, false, false, false, false, false, false, false, false, false, false, false, false, false, false] rfl rfl (take_ofW HT_.out HW_.out (by kernel_rfl)) (fun _ _ _ h => h) (Or.inl ⟨by rfl, ?_⟩) ?_ ?_
                        rotate_left
                        · intro w'
                          go_simp
                          with_reducible rfl
                        rotate_left
                        · simp only [Act.put, List.setIfInBounds_toArray, List.set_cons_zero, List.set_cons_succ, i64_w, i32_w]
                          rfl
                        refine pure2_ (i := 16) (N := some 48) (v := ?_) (a' := ?_) #[true, true, true, true, true, true, false, true, false, false, true, true, false, true, false, false, true, false, false, false, false, false, false, false, false, false, false, false, false, false, false, false, false, false, false, false] rfl rfl (take_ofW HT_.out HW_.out (by kernel_rfl)) (fun _ _ _ h => h) (Or.inl ⟨by rfl, ?_⟩) ?_ ?_
                        rotate_left
                        · intro w'
                          go_simp
                          with_reducible rfl
                        rotate_left
                        · simp only [Act.put, List.setIfInBounds_toArray, List.set_cons_zero, List.set_cons_succ, i64_w, i32_w]
                          rfl
                        refine pure2_ (i := 17) (N := some 49) (v := ?_) (a' := ?_) #[true, true, true, true, true, true, false, true, false, false, true, true, false, true, false, false, true, true, false, false, false, false, false, false, false, false, false, false, false, false, false, false, false, false, false, false] rfl rfl (take_ofW HT_.out HW_.out (by kernel_rfl)) (fun _ _ _ h => h) (Or.inl ⟨by rfl, ?_⟩) ?_ ?_
                        rotate_left
                        · intro w'
                          go_simp
                          with_reducible rfl
                        rotate_left
                        · simp only [Act.put, List.setIfInBounds_toArray, List.set_cons_zero, List.set_cons_succ, i64_w, i32_w]
                          rfl
                        refine pure2_ (i := 19) (N := some 51) (v := ?_) (a' := ?_) #[true, true, true, true, true, true, false, true, false, false, true, true, false, true, false, false, true, true, false, true, false, false, false, false, false, false, false, false, false, false, false, false, false, false, false, false] rfl rfl (take_ofW HT_.out HW_.out (by kernel_rfl)) (fun _ _ _ h => h) (Or.inl ⟨by rfl, ?_⟩) ?_ ?_
                        rotate_left
                        · intro w'
                          go_simp
                          with_reducible rfl
                        rotate_left
                        · simp only [Act.put, List.setIfInBounds_toArray, List.set_cons_zero, List.set_cons_succ, i64_w, i32_w]
                          rfl
                        refine pure2_ (i := 22) (N := some 54) (v := ?_) (a' := ?_) #[true, true, true, true, true, true, false, true, false, false, true, true, false, true, false, false, true, true, false, true, false, false, true, false, false, false, false, false, false, false, false, false, false, false, false, false] rfl rfl (take_ofW HT_.out HW_.out (by kernel_rfl)) (fun _ _ _ h => h) (Or.inl ⟨by rfl, ?_⟩) ?_ ?_
                        rotate_left
                        · intro w'
                          go_simp
                          with_reducible rfl
                        rotate_left
                        · simp only [Act.put, List.setIfInBounds_toArray, List.set_cons_zero, List.set_cons_succ, i64_w, i32_w]
                          rfl
                        refine pure2_ (i := 23) (N := some 55) (v := ?_) (a' := ?_) #[true, true, true, true, true, true, false, true, false, false, true, true, false, true, false, false, true, true, false, true, false, false, true, true, false, false, false, false, false, false, false, false, false, false, false, false] rfl rfl (take_ofW HT_.out HW_.out (by kernel_rfl)) (fun _ _ _ h => h) (Or.inl ⟨by rfl, ?_⟩) ?_ ?_
                        rotate_left
                        · intro w'
                          go_simp
                          with_reducible rfl
                        rotate_left
                        · simp only [Act.put, List.setIfInBounds_toArray, List.set_cons_zero, List.set_cons_succ, i64_w, i32_w]
                          rfl
                        refine pure2_ (i := 25) (N := some 57) (v := ?_) (a' := ?_) #[true, true, true, true, true, true, false, true, false, false, true, true, false, true, false, false, true, true, false, true, false, false, true, true, false, true, false, false, false, false, false, false, false, false, false, false] rfl rfl (take_ofW HT_.out HW_.out (by kernel_rfl)) (fun _ _ _ h => h) (Or.inl ⟨by rfl, ?_⟩) ?_ ?_
                        rotate_left
                        · intro w'
                          go_simp
                          with_reducible rfl
                        rotate_left
                        · simp only [Act.put, List.setIfInBounds_toArray, List.set_cons_zero, List.set_cons_succ, i64_w, i32_w]
                          rfl
                        refine takeE_ (i := 6) (N := some 38) (v := ?_) (a' := ?_) #[true, true, true, true, true, true, true, true, false, false, true, true, false, true, false, false, true, true, false, true, false, false, true, true, false, true, false, false, false, false, false, false, false, false, false, false] rfl rfl (take_ofW HT_.out HW_.out (by kernel_rfl)) (fun _ _ _ h => h) (Or.inl ⟨by rfl, ?_⟩) hHeld ?_ ?_
                        rotate_left
                        · rintro w' ⟨s2, s3, s4, s5⟩
                          go_simp
                          with_reducible rfl
                        rotate_left
                        · simp only [Act.put, List.setIfInBounds_toArray, List.set_cons_zero, List.set_cons_succ, i64_w, i32_w]
                          rfl
                        refine takeA_ (i := 8) (N := some 40) (v := ?_) (a' := ?_) #[true, true, true, true, true, true, true, true, true, false, true, true, false, true, false, false, true, true, false, true, false, false, true, true, false, true, false, false, false, false, false, false, false, false, false, false] rfl rfl (take_ofW HT_.out HW_.out (by kernel_rfl)) (fun _ _ _ h => h) (Or.inl ⟨by rfl, ?_⟩) hHeld0 ?_ ?_
                        rotate_left
                        · intro w' hb_
                          have s0 := (blk_cell hb_ 0).trans rfl; have s1 := (blk_cell hb_ 1).trans rfl
                          go_simp
                          with_reducible rfl
                        rotate_left
                        · simp only [Act.put, List.setIfInBounds_toArray, List.set_cons_zero, List.set_cons_succ, i64_w, i32_w]
                          rfl
                        refine pure2_ (i := 9) (N := some 41) (v := ?_) (a' := ?_) #[true, true, true, true, true, true, true, true, true, true, true, true, false, true, false, false, true, true, false, true, false, false, true, true, false, true, false, false, false, false, false, false, false, false, false, false] rfl rfl (take_ofW HT_.out HW_.out (by kernel_rfl)) (fun _ _ _ h => h) (Or.inl ⟨by rfl, ?_⟩) ?_ ?_
                        rotate_left
                        · intro w'
                          go_simp
                          with_reducible rfl
                        rotate_left
                        · simp only [Act.put, List.setIfInBounds_toArray, List.set_cons_zero, List.set_cons_succ, i64_w, i32_w]
                          rfl
                        refine takeE_ (i := 12) (N := some 44) (v := ?_) (a' := ?_) #[true, true, true, true, true, true, true, true, true, true, true, true, true, true, false, false, true, true, false, true, false, false, true, true, false, true, false, false, false, false, false, false, false, false, false, false] rfl rfl (take_ofW HT_.out HW_.out (by kernel_rfl)) (fun _ _ _ h => h) (Or.inl ⟨by rfl, ?_⟩) hHeld ?_ ?_
                        rotate_left
                        · rintro w' ⟨s2, s3, s4, s5⟩
                          go_simp
                          with_reducible rfl
                        rotate_left
                        · simp only [Act.put, List.setIfInBounds_toArray, List.set_cons_zero, List.set_cons_succ, i64_w, i32_w]
                          rfl
                        refine takeA_ (i := 14) (N := some 46) (v := ?_) (a' := ?_) #[true, true, true, true, true, true, true, true, true, true, true, true, true, true, true, false, true, true, false, true, false, false, true, true, false, true, false, false, false, false, false, false, false, false, false, false] rfl rfl (take_ofW HT_.out HW_.out (by kernel_rfl)) (fun _ _ _ h => h) (Or.inl ⟨by rfl, ?_⟩) hHeld0 ?_ ?_
                        rotate_left
                        · intro w' hb_
                          have s0 := (blk_cell hb_ 0).trans rfl; have s1 := (blk_cell hb_ 1).trans rfl
                          go_simp
                          with_reducible rfl
                        rotate_left
                        · simp only [Act.put, List.setIfInBounds_toArray, List.set_cons_zero, List.set_cons_succ, i64_w, i32_w]
                          rfl
                        refine pure2_ (i := 15) (N := some 47) (v := ?_) (a' := ?_) #[true, true, true, true, true, true, true, true, true, true, true, true, true, true, true, true, true, true, false, true, false, false, true, true, false, true, false, false, false, false, false, false, false, false, false, false] rfl rfl (take_ofW HT_.out HW_.out (by kernel_rfl)) (fun _ _ _ h => h) (Or.inl ⟨by rfl, ?_⟩) ?_ ?_
                        rotate_left
                        · intro w'
                          go_simp
                          with_reducible rfl
                        rotate_left
                        · simp only [Act.put, List.setIfInBounds_toArray, List.set_cons_zero, List.set_cons_succ, i64_w, i32_w]
                          rfl
                        refine takeE_ (i := 18) (N := some 50) (v := ?_) (a' := ?_) #[true, true, true, true, true, true, true, true, true, true, true, true, true, true, true, true, true, true, true, true, false, false, true, true, false, true, false, false, false, false, false, false, false, false, false, false] rfl rfl (take_ofW HT_.out HW_.out (by kernel_rfl)) (fun _ _ _ h => h) (Or.inl ⟨by rfl, ?_⟩) hHeld ?_ ?_
                        rotate_left
                        · rintro w' ⟨s2, s3, s4, s5⟩
                          go_simp
                          with_reducible rfl
                        rotate_left
                        · simp only [Act.put, List.setIfInBounds_toArray, List.set_cons_zero, List.set_cons_succ, i64_w, i32_w]
                          rfl
                        refine takeA_ (i := 20) (N := some 52) (v := ?_) (a' := ?_) #[true, true, true, true, true, true, true, true, true, true, true, true, true, true, true, true, true, true, true, true, true, false, true, true, false, true, false, false, false, false, false, false, false, false, false, false] rfl rfl (take_ofW HT_.out HW_.out (by kernel_rfl)) (fun _ _ _ h => h) (Or.inl ⟨by rfl, ?_⟩) hHeld0 ?_ ?_
                        rotate_left
                        · intro w' hb_
                          have s0 := (blk_cell hb_ 0).trans rfl; have s1 := (blk_cell hb_ 1).trans rfl
                          go_simp
                          with_reducible rfl
                        rotate_left
                        · simp only [Act.put, List.setIfInBounds_toArray, List.set_cons_zero, List.set_cons_succ, i64_w, i32_w]
                          rfl
                        refine pure2_ (i := 21) (N := some 53) (v := ?_) (a' := ?_) #[true, true, true, true, true, true, true, true, true, true, true, true, true, true, true, true, true, true, true, true, true, true, true, true, false, true, false, false, false, false, false, false, false, false, false, false] rfl rfl (take_ofW HT_.out HW_.out (by kernel_rfl)) (fun _ _ _ h => h) (Or.inl ⟨by rfl, ?_⟩) ?_ ?_
                        rotate_left
                        · intro w'
                          go_simp
                          with_reducible rfl
                        rotate_left
                        · simp only [Act.put, List.setIfInBounds_toArray, List.set_cons_zero, List.set_cons_succ, i64_w, i32_w]
                          rfl
                        refine takeE_ (i := 24) (N := some 56) (v := ?_) (a' := ?_) #[true, true, true, true, true, true, true, true, true, true, true, true, true, true, true, true, true, true, true, true, true, true, true, true, true, true, false, false, false, false, false, false, false, false, false, false] rfl rfl (take_ofW HT_.out HW_.out (by kernel_rfl)) (fun _ _ _ h => h) (Or.inl ⟨by rfl, ?_⟩) hHeld ?_ ?_
                        rotate_left
                        · rintro w' ⟨s2, s3, s4, s5⟩
                          go_simp
                          with_reducible rfl
                        rotate_left
                        · simp only [Act.put, List.setIfInBounds_toArray, List.set_cons_zero, List.set_cons_succ, i64_w, i32_w]
                          rfl
                        refine takeA_ (i := 26) (N := some 58) (v := ?_) (a' := ?_) #[true, true, true, true, true, true, true, true, true, true, true, true, true, true, true, true, true, true, true, true, true, true, true, true, true, true, true, false, false, false, false, false, false, false, false, false] rfl rfl (take_ofW HT_.out HW_.out (by kernel_rfl)) (fun _ _ _ h => h) (Or.inl ⟨by rfl, ?_⟩) hHeld0 ?_ ?_
                        rotate_left
                        · intro w' hb_
                          have s0 := (blk_cell hb_ 0).trans rfl; have s1 := (blk_cell hb_ 1).trans rfl
                          go_simp
                          with_reducible rfl
                        rotate_left
                        · simp only [Act.put, List.setIfInBounds_toArray, List.set_cons_zero, List.set_cons_succ, i64_w, i32_w]
                          rfl
                        refine pure2_ (i := 27) (N := some 59) (v := ?_) (a' := ?_) #[true, true, true, true, true, true, true, true, true, true, true, true, true, true, true, true, true, true, true, true, true, true, true, true, true, true, true, true, false, false, false, false, false, false, false, false] rfl rfl (take_ofW HT_.out HW_.out (by kernel_rfl)) (fun _ _ _ h => h) (Or.inl ⟨by rfl, ?_⟩) ?_ ?_
                        rotate_left
                        · intro w'
                          go_simp
                          with_reducible rfl
                        rotate_left
                        · simp only [Act.put, List.setIfInBounds_toArray, List.set_cons_zero, List.set_cons_succ, i64_w, i32_w]
                          rfl
                        refine pure2_ (i := 28) (N := some 60) (v := ?_) (a' := ?_) #[true, true, true, true, true, true, true, true, true, true, true, true, true, true, true, true, true, true, true, true, true, true, true, true, true, true, true, true, true, false, false, false, false, false, false, false] rfl rfl (take_ofW HT_.out HW_.out (by kernel_rfl)) (fun _ _ _ h => h) (Or.inl ⟨by rfl, ?_⟩) ?_ ?_
                        rotate_left
                        · intro w'
                          go_simp
                          with_reducible rfl
                        rotate_left
                        · simp only [Act.put, List.setIfInBounds_toArray, List.set_cons_zero, List.set_cons_succ, i64_w, i32_w]
                          rfl
                        refine last2_ (i := 29) (N := none) #[true, true, true, true, true, true, true, true, true, true, true, true, true, true, true, true, true, true, true, true, true, true, true, true, true, true, true, true, true, true, false, false, false, false, false, false] rfl rfl (one_of HT_.out (by kernel_rfl)) (by decide) (fun K hK => ?_)
                        refine skip_ (w1 := ?_) (by rfl) rfl ?_ ?_
                        rotate_left
                        · go_simp
                          rfl
                        refine hK.out _ _ (by (repeat (refine blk_far ?_ (fun e_ => NE_.out e_.symm) _)); exact hHeld0) ?_
                        clear hK K
                        refine pure2_ (i := 30) (N := some 61) (v := ?_) (a' := ?_) #[true, true, true, true, true, true, true, true, true, true, true, true, true, true, true, true, true, true, true, true, true, true, true, true, true, true, true, true, true, true, true, false, false, false, false, false] rfl rfl (take_ofW HT_.out HW_.out (by kernel_rfl)) (fun _ _ _ h => h) (Or.inl ⟨by rfl, ?_⟩) ?_ ?_
                        rotate_left
                        · intro w'
                          go_simp
                          with_reducible rfl
                        rotate_left
                        · simp only [Act.put, List.setIfInBounds_toArray, List.set_cons_zero, List.set_cons_succ, i64_w, i32_w]
                          rfl
                        refine last2_ (i := 31) (N := none) #[true, true, true, true, true, true, true, true, true, true, true, true, true, true, true, true, true, true, true, true, true, true, true, true, true, true, true, true, true, true, true, true, false, false, false, false] rfl rfl (one_of HT_.out (by kernel_rfl)) (by decide) (fun K hK => ?_)
                        refine skip_ (w1 := ?_) (by rfl) rfl ?_ ?_
                        rotate_left
                        · go_simp
                          rfl
                        refine hK.out _ _ (by (repeat (refine blk_far ?_ (fun e_ => NE_.out e_.symm) _)); exact hHeld0) ?_
                        clear hK K
                        refine pure2_ (i := 32) (N := some 62) (v := ?_) (a' := ?_) #[true, true, true, true, true, true, true, true, true, true, true, true, true, true, true, true, true, true, true, true, true, true, true, true, true, true, true, true, true, true, true, true, true, false, false, false] rfl rfl (take_ofW HT_.out HW_.out (by kernel_rfl)) (fun _ _ _ h => h) (Or.inl ⟨by rfl, ?_⟩) ?_ ?_
                        rotate_left
                        · intro w'
                          go_simp
                          with_reducible rfl
                        rotate_left
                        · simp only [Act.put, List.setIfInBounds_toArray, List.set_cons_zero, List.set_cons_succ, i64_w, i32_w]
                          rfl
                        refine last2_ (i := 33) (N := none) #[true, true, true, true, true, true, true, true, true, true, true, true, true, true, true, true, true, true, true, true, true, true, true, true, true, true, true, true, true, true, true, true, true, true, false, false] rfl rfl (one_of HT_.out (by kernel_rfl)) (by decide) (fun K hK => ?_)
                        refine skip_ (w1 := ?_) (by rfl) rfl ?_ ?_
                        rotate_left
                        · go_simp
                          rfl
                        refine hK.out _ _ (by (repeat (refine blk_far ?_ (fun e_ => NE_.out e_.symm) _)); exact hHeld0) ?_
                        clear hK K
                        refine pure2_ (i := 34) (N := some 63) (v := ?_) (a' := ?_) #[true, true, true, true, true, true, true, true, true, true, true, true, true, true, true, true, true, true, true, true, true, true, true, true, true, true, true, true, true, true, true, true, true, true, true, false] rfl rfl (take_ofW HT_.out HW_.out (by kernel_rfl)) (fun _ _ _ h => h) (Or.inl ⟨by rfl, ?_⟩) ?_ ?_
                        rotate_left
                        · intro w'
                          go_simp
                          with_reducible rfl
                        rotate_left
                        · simp only [Act.put, List.setIfInBounds_toArray, List.set_cons_zero, List.set_cons_succ, i64_w, i32_w]
                          rfl
                        refine last2_ (i := 35) (N := none) #[true, true, true, true, true, true, true, true, true, true, true, true, true, true, true, true, true, true, true, true, true, true, true, true, true, true, true, true, true, true, true, true, true, true, true, true] rfl rfl (one_of HT_.out (by kernel_rfl)) (by decide) (fun K hK => ?_)
                        refine skip_ (w1 := ?_) (by rfl) rfl ?_ ?_
                        rotate_left
                        · go_simp
                          rfl
                        refine hK.out _ _ (by (repeat (refine blk_far ?_ (fun e_ => NE_.out e_.symm) _)); exact hHeld0) ?_
                        clear hK K
                        refine done2_ (done_of HT_.out (by kernel_rfl)) ?_
                        try go_wp2
                        go_roundg k1
                        case measure => have := HK1.out; omega
                        case rel => exact ⟨(y631), (wrap64 (x28_1 + 1)), (by first | rfl | (simp; done) | (simp [*]; done)), H', ⟨by have := HK1.out; omega⟩, ⟨by (with_reducible repeat (first | apply Kd.R_alloc | apply Kd.R_drewN | apply Kd.R_drew)); exact HQ32.out⟩, ⟨by repeat (first | (with_reducible first | exact HB.out | apply below_alloc | apply pw_below_drewN | apply below_drew1 | refine below_set ?_ GB20.out | refine below_set ?_ GB20.out | refine below_set ?_ GB20.out | refine below_set ?_ GB20.out | refine below_set ?_ GE623.out) | exact HB.out)⟩⟩
                      · rw [if_neg c18] at H
                        exact absurd H (by simp)
                    · rw [if_neg c16] at H
                      exact absurd H (by simp)
                  · rw [if_neg c14] at H
                    exact absurd H (by simp)
                · rw [if_neg c12] at H
                  exact absurd H (by simp)
              · rw [if_neg c11] at H
                exact absurd H (by simp)
            · rw [if_neg c10] at H
              exact absurd H (by simp)
          · rw [if_neg c9] at H
            have c9b0 : decide (x28_1 < (l0.length : Int)) = false := decide_eq_false c9
            clear c9
            obtain rfl := Option.some.inj H
            go_wp2
            go_ret
            exact ⟨_, by first | rfl | (simp [errW_none, errW_some] <;> rfl) | (simp [*, errW_none, errW_some] <;> rfl), by (with_reducible repeat (first | apply Kd.R_alloc | apply Kd.R_drewN | apply Kd.R_drew)); exact HO_3.out, by repeat (first | (with_reducible first | exact HB.out | apply below_alloc | apply pw_below_drewN | apply below_drew1) | exact HB.out)⟩
    · rw [if_neg c4] at H
      exact absurd H (by simp)
  · replace c3 := Bool.eq_false_iff.mpr c3
    subst c3
    have H1 : (some ([] : List Int)) = some r := by rw [if_neg (show ¬ (false = true) by decide)] at H; exact H
    clear H
    have H := H1
    clear H1
    obtain rfl := Option.some.inj H
    go_enter Try.func27, Try.ntmps27
    go_wp2_with (first | ((with_reducible refine gate_callee (f := 68) rfl ?_); refine goesL_ (some 7) rfl rfl Try.func68 (by kernel_rfl) rfl #[.slice A0 l0.length c0] rfl (by (try simp only [List.map_toArray, List.map_cons, List.map_nil]); first | done | rfl | (simp only [List.length_drop, List.length_take]; rfl)) ?_; (with_reducible refine (impl_ArePoints.calls k _ _ l0 false _ ?side1 ?side2 A2.out).mono ?_); (case side1 => repeat (first | exact HR0.out | (with_reducible refine Kd.C_alloc ?_ _) | (with_reducible refine Kd.C_drewN ?_ _) | (with_reducible refine Kd.C_drew ?_))); (case side2 => exact HC0.out); rintro e w33 ⟨rfl, hb⟩; refine ⟨_, rfl, ?_⟩; have n0_ := Aside0.mk (below_step (by repeat (first | (with_reducible first | exact HB.out | apply below_alloc | apply pw_below_drewN | apply below_drew1) | exact HB.out)) hb); clear HB; have HB := n0_; clear n0_; (try clear hb); (try clear hb2); (try clear hk); (try clear hi)))
    go_ret
    exact ⟨_, by first | rfl | (simp [errW_none, errW_some] <;> rfl) | (simp [*, errW_none, errW_some] <;> rfl), by first | exact Kd.R_nil _ _ _ _ _ | exact Kd.N_nil _ _ _ _ _ | exact Kd.V_nil _ _ _ _ _ | exact Kd.Q_nil _ _ _ _ _ | exact Kd.S_nil _ _ _ _ _, by repeat (first | (with_reducible first | exact HB.out | apply below_alloc | apply pw_below_drewN | apply below_drew1) | exact HB.out)⟩
end Go.Proofs.Yteblnjoljbdjjaa.P
