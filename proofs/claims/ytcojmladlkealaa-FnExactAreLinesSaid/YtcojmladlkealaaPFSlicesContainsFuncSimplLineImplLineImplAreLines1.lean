/- Printed by a program of this session (wip/gen.py, over the print of the kit): Go functions as plain Lean functions, each with the proof that its call comes to what that function says. No condition. -/
import Derived.Test.YtcojmladlkealaaP0
import Derived.Test.YtcojmladlkealaaPFSlicesIndexFuncSimplLineImplLineImplAreLines1
namespace Go.Proofs.Ytcojmladlkealaa.P
open Go.RowKit Go.Proofs.YtcojmladlkealaaW.PrintWords Go.Proofs.YtcojmladlkealaaW.PrintLast Go.Proofs.YtcojmladlkealaaW.PrintMore
attribute [local go_sem] ptrOf_slice
attribute [local go_sem] max2_int min2_int max_two min_two max_three min_three max_four min_four   -- for this text's walks alone
set_option linter.unusedVariables false
set_option linter.unusedSimpArgs false

/-! ### slices_ContainsFunc_Simpl_Line_impl_Line_impl_AreLines_1: function 61 -/
def slices_ContainsFunc_Simpl_Line_impl_Line_impl_AreLines_1.f (k : Nat) (l0 : List (S41)) (s1_0 : Int) (s1_1 : Int) (s1_2 : Int) : Option (Bool) := (slices_IndexFunc_Simpl_Line_impl_Line_impl_AreLines_1.f k l0 s1_0 s1_1 s1_2).bind fun t162 => (some (decide (t162 ≥ 0)))
theorem slices_ContainsFunc_Simpl_Line_impl_Line_impl_AreLines_1.mono : ∀ a0 a1 a2 a3 k, LeO (slices_ContainsFunc_Simpl_Line_impl_Line_impl_AreLines_1.f k a0 a1 a2 a3) (slices_ContainsFunc_Simpl_Line_impl_Line_impl_AreLines_1.f (k + 1) a0 a1 a2 a3) := by
  intro a0 a1 a2 a3 k
  unfold slices_ContainsFunc_Simpl_Line_impl_Line_impl_AreLines_1.f
  repeat' first
      | (with_reducible exact slices_IndexFunc_Simpl_Line_impl_Line_impl_AreLines_1.mono _ _ _ _ _)
      | (with_reducible exact LeO.refl _)
      | (with_reducible exact LeO.none _)
      | (with_reducible refine LeO.ite ?_ ?_)
      | (with_reducible refine LeO.bind ?_ (fun _ => ?_))
      | exact slices_IndexFunc_Simpl_Line_impl_Line_impl_AreLines_1.mono _ _ _ _ _
      | exact LeO.none _
      | refine LeO.ite ?_ ?_
      | refine LeO.bind ?_ (fun _ => ?_)
set_option maxHeartbeats 8000000 in
set_option maxRecDepth 100000 in
theorem slices_ContainsFunc_Simpl_Line_impl_Line_impl_AreLines_1.calls (k : Nat) (A0 : Option Addr) (c0 : Nat) (l0 : List (S41)) (gb1 : Nat) (s1_0 : Int) (s1_1 : Int) (s1_2 : Int) (r : Bool) (w : World) (hr0 : Kd.C k41 w A0 l0.length l0) (hc0 : l0.length ≤ c0) (hb1_ : w.heap[gb1]? = some (.cells #[.int .i64 s1_0, .int .i64 s1_1, .int .i64 s1_2] 41 (0, 0))) (h : slices_ContainsFunc_Simpl_Line_impl_Line_impl_AreLines_1.f k l0 s1_0 s1_1 s1_2 = some r) :
    Calls Try.prog 61 #[.slice A0 l0.length c0, .func (.func 62) #[] #[.pointer (some ⟨gb1, 0, none⟩)]] w fun e w' => e = .returned (.bool r) ∧ Below w.heap.size w w' := by
  have HR0 := Aside0.mk hr0
  have HC0 := Aside0.mk hc0
  clear hr0 hc0
  have BK1 := Aside0.mk hb1_
  clear hb1_
  have HB := Aside0.mk (Below.refl w.heap.size w)
  have H : ((slices_IndexFunc_Simpl_Line_impl_Line_impl_AreLines_1.f k l0 s1_0 s1_1 s1_2).bind fun t162 => (some (decide (t162 ≥ 0)))) = some r := h
  clear h
  replace H := Option.bind_eq_some_iff.mp H
  obtain ⟨t162, A30, H⟩ := H
  replace H : (some (decide (t162 ≥ 0))) = some r := H
  have A3 := Aside0.mk A30
  clear A30
  obtain rfl := Option.some.inj H
  go_enter Try.func61, Try.ntmps61
  go_wp2_with (first | ((with_reducible refine gate_callee (f := 102) rfl ?_); refine goesL_ (some 7) rfl rfl Try.func102 (by kernel_rfl) rfl #[.slice A0 l0.length c0, .func (.func 62) #[] #[.pointer (some ⟨gb1, 0, none⟩)]] rfl (by (try simp only [List.map_toArray, List.map_cons, List.map_nil]); first | done | rfl | (simp only [List.length_drop, List.length_take]; rfl)) ?_; (with_reducible refine (slices_IndexFunc_Simpl_Line_impl_Line_impl_AreLines_1.calls k _ _ l0 gb1 s1_0 s1_1 s1_2 t162 _ ?side1 ?side2 ?side3 A3.out).mono ?_); (case side1 => repeat (first | exact HR0.out | (with_reducible refine Kd.C_alloc ?_ _) | (with_reducible refine Kd.C_drewN ?_ _) | (with_reducible refine Kd.C_drew ?_))); (case side2 => exact HC0.out); (case side3 => exact (by (with_reducible repeat (first | refine blk_drewN ?_ _ | refine blk_drew ?_ | refine blk_alloc ?_ _)); exact BK1.out)); rintro e w4 ⟨rfl, hb⟩; refine ⟨_, rfl, ?_⟩; have n0_ := Aside0.mk (blk_below (g := gb1) (o := .cells #[.int .i64 s1_0, .int .i64 s1_1, .int .i64 s1_2] 41 (0, 0)) (by (with_reducible repeat (first | refine blk_drewN ?_ _ | refine blk_drew ?_ | refine blk_alloc ?_ _)); exact BK1.out) hb); have n1_ := Aside0.mk (below_step (by repeat (first | (with_reducible first | exact HB.out | apply below_alloc | apply pw_below_drewN | apply below_drew1 | refine below_set ?_ GE1.out) | exact HB.out)) hb); clear BK1; clear HB; have BK1 := n0_; have HB := n1_; clear n0_ n1_; (try clear hb); (try clear hb2); (try clear hk); (try clear hi)))
  go_ret
  exact ⟨by first | rfl | (simp [errW_none, errW_some] <;> rfl) | (simp [*, errW_none, errW_some] <;> rfl), by repeat (first | (with_reducible first | exact HB.out | apply below_alloc | apply pw_below_drewN | apply below_drew1 | refine below_set ?_ GE1.out) | exact HB.out)⟩

end Go.Proofs.Ytcojmladlkealaa.P
