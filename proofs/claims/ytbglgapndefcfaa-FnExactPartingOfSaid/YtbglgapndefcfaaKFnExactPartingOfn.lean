/- What the law FnExactPartingOf reaches, part 14: functions as plain Lean functions with the proofs that their calls come to them, and plain lemmas over these. Put together by a program (wip/pack.py). -/
import Derived.Test.YtbglgapndefcfaaKFnExactPartingOfc
import Derived.Test.YtbglgapndefcfaaKFnExactPartingOfj
import Derived.Test.YtbglgapndefcfaaKFnExactPartingOfl
import Derived.Test.YtbglgapndefcfaaKFnExactPartingOfm
namespace Go.Proofs.Ytbglgapndefcfaa.P
open Go.RowKit Go.Proofs.YtbglgapndefcfaaW.PrintWords Go.Proofs.YtbglgapndefcfaaW.PrintLast Go.Proofs.YtbglgapndefcfaaW.PrintMore
attribute [local go_sem] ptrOf_slice
attribute [local go_sem] max2_int min2_int max_two min_two max_three min_three max_four min_four
set_option linter.unusedVariables false
set_option linter.unusedSimpArgs false
mutual
def impl_chi_haveCommon.l0 : Nat → List Int → Int → Int → List Int → Int → Int → Option (Bool)
 | 0, _, _, _, _, _, _ => none
 | k + 1, x0, x1, x2, x16, x17, x18 => if x18 < x17 then (if 0 ≤ x18 then (if x18 < (x16.length : Int) then ((impl_chi_inHull.f k x0 x2 (rd x16 x18)).bind fun t887 => (if t887 = true then (some true) else (impl_chi_haveCommon.l0 k x0 x1 x2 x16 x17 (wrap64 (x18 + 1))))) else (none)) else (none)) else ((impl_elementsOf.f k x2).bind fun t888 => (impl_chi_haveCommon.l1 k x0 x1 x2 t888 (t888.length : Int) 0))
def impl_chi_haveCommon.l1 : Nat → List Int → Int → Int → List Int → Int → Int → Option (Bool)
 | 0, _, _, _, _, _, _ => none
 | k + 1, x0, x1, x2, x28, x29, x30 => if x30 < x29 then (if 0 ≤ x30 then (if x30 < (x28.length : Int) then ((impl_chi_inHull.f k x0 x1 (rd x28 x30)).bind fun t892 => (if t892 = true then (some true) else (impl_chi_haveCommon.l1 k x0 x1 x2 x28 x29 (wrap64 (x30 + 1))))) else (none)) else (none)) else (if 344 ≤ (x0.length : Int) then ((impl_quadsOf.f k (chiN x0)).bind fun t894 => (impl_chi_haveCommon.l2 k x0 x1 x2 t894 (t894.length : Int) 0)) else (none))
def impl_chi_haveCommon.l2 : Nat → List Int → Int → Int → List (S97) → Int → Int → Option (Bool)
 | 0, _, _, _, _, _, _ => none
 | k + 1, x0, x1, x2, x43, x44, x45 => if x45 < x44 then (if 0 ≤ x45 then (if x45 < (x43.length : Int) then ((impl_chi_split.f k x0 ((rd_T97 x43 x45).f0) ((rd_T97 x43 x45).f1) ((rd_T97 x43 x45).f2) ((rd_T97 x43 x45).f3)).bind fun bt899 => ((bits_OnesCount.f (IntKind.u64.wrap (bt899.1))).bind fun t901 => (if t901 = 2 then (if (Go.bits .and .i64 bt899.1 x1) = bt899.1 then (if (Go.bits .and .i64 bt899.2 x2) = bt899.2 then (some true) else (if (Go.bits .and .i64 bt899.1 x2) = bt899.1 then (if (Go.bits .and .i64 bt899.2 x1) = bt899.2 then (some true) else (impl_chi_haveCommon.l2 k x0 x1 x2 x43 x44 (wrap64 (x45 + 1)))) else (impl_chi_haveCommon.l2 k x0 x1 x2 x43 x44 (wrap64 (x45 + 1))))) else (if (Go.bits .and .i64 bt899.1 x2) = bt899.1 then (if (Go.bits .and .i64 bt899.2 x1) = bt899.2 then (some true) else (impl_chi_haveCommon.l2 k x0 x1 x2 x43 x44 (wrap64 (x45 + 1)))) else (impl_chi_haveCommon.l2 k x0 x1 x2 x43 x44 (wrap64 (x45 + 1))))) else (impl_chi_haveCommon.l2 k x0 x1 x2 x43 x44 (wrap64 (x45 + 1)))))) else (none)) else (none)) else (some false)
end
def impl_chi_haveCommon.f (k : Nat) (l0 : List Int) (a1 : Int) (a2 : Int) : Option (Bool) := (impl_elementsOf.f k a1).bind fun t883 => (impl_chi_haveCommon.l0 k l0 a1 a2 t883 (t883.length : Int) 0)
theorem impl_chi_haveCommon.mono_l : ∀ k, (∀ y0 y1 y2 y3 y4 y5, LeO (impl_chi_haveCommon.l0 k y0 y1 y2 y3 y4 y5) (impl_chi_haveCommon.l0 (k + 1) y0 y1 y2 y3 y4 y5)) ∧ (∀ y0 y1 y2 y3 y4 y5, LeO (impl_chi_haveCommon.l1 k y0 y1 y2 y3 y4 y5) (impl_chi_haveCommon.l1 (k + 1) y0 y1 y2 y3 y4 y5)) ∧ (∀ y0 y1 y2 y3 y4 y5, LeO (impl_chi_haveCommon.l2 k y0 y1 y2 y3 y4 y5) (impl_chi_haveCommon.l2 (k + 1) y0 y1 y2 y3 y4 y5))
 | 0 => ⟨fun _ _ _ _ _ _ r h => by simp [impl_chi_haveCommon.l0] at h, fun _ _ _ _ _ _ r h => by simp [impl_chi_haveCommon.l1] at h, fun _ _ _ _ _ _ r h => by simp [impl_chi_haveCommon.l2] at h⟩
 | k + 1 => by
  obtain ⟨ih0, ih1, ih2⟩ := impl_chi_haveCommon.mono_l k
  refine ⟨?_, ?_, ?_⟩
  ·intro y0 y1 y2 y3 y4 y5
   unfold impl_chi_haveCommon.l0
   repeat' first
   | (with_reducible exact ih0 _ _ _ _ _ _)
   | (with_reducible exact ih1 _ _ _ _ _ _)
   | (with_reducible exact ih2 _ _ _ _ _ _)
   | (with_reducible exact impl_chi_inHull.mono _ _ _ _)
   | (with_reducible exact impl_chi_split.mono _ _ _ _ _ _)
   | (with_reducible exact impl_elementsOf.mono _ _)
   | (with_reducible exact impl_quadsOf.mono _ _)
   | (with_reducible exact LeO.refl _)
   | (with_reducible exact LeO.none _)
   | (with_reducible refine LeO.ite ?_ ?_)
   | (with_reducible refine LeO.bind ?_ (fun _ => ?_))
   | exact ih0 _ _ _ _ _ _
   | exact ih1 _ _ _ _ _ _
   | exact ih2 _ _ _ _ _ _
   | exact impl_chi_inHull.mono _ _ _ _
   | exact impl_chi_split.mono _ _ _ _ _ _
   | exact impl_elementsOf.mono _ _
   | exact impl_quadsOf.mono _ _
   | exact LeO.none _
   | refine LeO.ite ?_ ?_
   | refine LeO.bind ?_ (fun _ => ?_)
  ·intro y0 y1 y2 y3 y4 y5
   unfold impl_chi_haveCommon.l1
   repeat' first
   | (with_reducible exact ih0 _ _ _ _ _ _)
   | (with_reducible exact ih1 _ _ _ _ _ _)
   | (with_reducible exact ih2 _ _ _ _ _ _)
   | (with_reducible exact impl_chi_inHull.mono _ _ _ _)
   | (with_reducible exact impl_chi_split.mono _ _ _ _ _ _)
   | (with_reducible exact impl_elementsOf.mono _ _)
   | (with_reducible exact impl_quadsOf.mono _ _)
   | (with_reducible exact LeO.refl _)
   | (with_reducible exact LeO.none _)
   | (with_reducible refine LeO.ite ?_ ?_)
   | (with_reducible refine LeO.bind ?_ (fun _ => ?_))
   | exact ih0 _ _ _ _ _ _
   | exact ih1 _ _ _ _ _ _
   | exact ih2 _ _ _ _ _ _
   | exact impl_chi_inHull.mono _ _ _ _
   | exact impl_chi_split.mono _ _ _ _ _ _
   | exact impl_elementsOf.mono _ _
   | exact impl_quadsOf.mono _ _
   | exact LeO.none _
   | refine LeO.ite ?_ ?_
   | refine LeO.bind ?_ (fun _ => ?_)
  ·intro y0 y1 y2 y3 y4 y5
   unfold impl_chi_haveCommon.l2
   repeat' first
   | (with_reducible exact ih0 _ _ _ _ _ _)
   | (with_reducible exact ih1 _ _ _ _ _ _)
   | (with_reducible exact ih2 _ _ _ _ _ _)
   | (with_reducible exact impl_chi_inHull.mono _ _ _ _)
   | (with_reducible exact impl_chi_split.mono _ _ _ _ _ _)
   | (with_reducible exact impl_elementsOf.mono _ _)
   | (with_reducible exact impl_quadsOf.mono _ _)
   | (with_reducible exact LeO.refl _)
   | (with_reducible exact LeO.none _)
   | (with_reducible refine LeO.ite ?_ ?_)
   | (with_reducible refine LeO.bind ?_ (fun _ => ?_))
   | exact ih0 _ _ _ _ _ _
   | exact ih1 _ _ _ _ _ _
   | exact ih2 _ _ _ _ _ _
   | exact impl_chi_inHull.mono _ _ _ _
   | exact impl_chi_split.mono _ _ _ _ _ _
   | exact impl_elementsOf.mono _ _
   | exact impl_quadsOf.mono _ _
   | exact LeO.none _
   | refine LeO.ite ?_ ?_
   | refine LeO.bind ?_ (fun _ => ?_)
theorem impl_chi_haveCommon.mono : ∀ a0 a1 a2 k, LeO (impl_chi_haveCommon.f k a0 a1 a2) (impl_chi_haveCommon.f (k + 1) a0 a1 a2) := by
 intro a0 a1 a2 k
 obtain ⟨ih0, ih1, ih2⟩ := impl_chi_haveCommon.mono_l k
 unfold impl_chi_haveCommon.f
 repeat' first
   | (with_reducible exact ih0 _ _ _ _ _ _)
   | (with_reducible exact ih1 _ _ _ _ _ _)
   | (with_reducible exact ih2 _ _ _ _ _ _)
   | (with_reducible exact impl_chi_inHull.mono _ _ _ _)
   | (with_reducible exact impl_chi_split.mono _ _ _ _ _ _)
   | (with_reducible exact impl_elementsOf.mono _ _)
   | (with_reducible exact impl_quadsOf.mono _ _)
   | (with_reducible exact LeO.refl _)
   | (with_reducible exact LeO.none _)
   | (with_reducible refine LeO.ite ?_ ?_)
   | (with_reducible refine LeO.bind ?_ (fun _ => ?_))
   | exact ih0 _ _ _ _ _ _
   | exact ih1 _ _ _ _ _ _
   | exact ih2 _ _ _ _ _ _
   | exact impl_chi_inHull.mono _ _ _ _
   | exact impl_chi_split.mono _ _ _ _ _ _
   | exact impl_elementsOf.mono _ _
   | exact impl_quadsOf.mono _ _
   | exact LeO.none _
   | refine LeO.ite ?_ ?_
   | refine LeO.bind ?_ (fun _ => ?_)
set_option maxHeartbeats 8000000 in
set_option maxRecDepth 100000 in
theorem impl_chi_haveCommon.calls (k : Nat) (A0 : Option Addr) (c0 : Nat) (l0 : List Int) (a1 : Int) (a2 : Int) (r : Bool) (w : World) (hr0 : Kd.C (Kd.int .i64) w A0 l0.length l0) (hc0 : l0.length ≤ c0) (h : impl_chi_haveCommon.f k l0 a1 a2 = some r) :
  Calls Try.prog 86 #[.pointer A0, .int .i64 a1, .int .i64 a2] w fun e w' => e = .returned (.bool r) ∧ Below w.heap.size w w' := by
 have hu97 := Try.underlying97
 have HR0 := Aside0.mk hr0
 have HC0 := Aside0.mk hc0
 clear hr0 hc0
 have HB := Aside0.mk (Below.refl w.heap.size w)
 have H : ((impl_elementsOf.f k a1).bind fun t883 => (impl_chi_haveCommon.l0 k l0 a1 a2 t883 (t883.length : Int) 0)) = some r := h
 clear h
 replace H := Option.bind_eq_some_iff.mp H
 obtain ⟨t883, A40, H⟩ := H
 replace H : (impl_chi_haveCommon.l0 k l0 a1 a2 t883 (t883.length : Int) 0) = some r := H
 have A4 := Aside0.mk A40
 clear A40
 have H' := Aside0.mk H
 clear H
 go_enter Try.func86, Try.ntmps86
 go_wp2_with (first | ((with_reducible refine gate_callee (f := 109) rfl ?_); refine goesL_ (some 16) rfl rfl Try.func109 (by kernel_rfl) rfl #[.int .i64 a1] rfl (by (try simp only [List.map_toArray, List.map_cons, List.map_nil]); first | done | rfl | (simp only [List.length_drop, List.length_take]; rfl)) ?_; (with_reducible refine (impl_elementsOf.calls k a1 t883 _ A4.out).mono ?_); rintro e w5 ⟨v884, rfl, ho0, hb⟩; refine ⟨_, rfl, ?_⟩; have n0_ := Aside0.mk (Kd.R_lower ho0 (below_size (by repeat (first | (with_reducible first | exact HB.out | apply below_alloc | apply pw_below_drewN | apply below_drew1) | exact HB.out)))); have n1_ := Aside0.mk (below_step (by repeat (first | (with_reducible first | exact HB.out | apply below_alloc | apply pw_below_drewN | apply below_drew1) | exact HB.out)) hb); clear HB; have HO885 := n0_; have HB := n1_; clear n0_ n1_; (try clear hb); (try clear hb2); (try clear hk); (try clear hi); (try clear ho0); obtain ⟨Ao6, co6, eo6⟩ := Kd.R_slice HO885.out; subst eo6))
 go_loopg [18] k (fun kq v18 w' => ∃ (x18_1 : Int), v18 = .int .i64 x18_1 ∧ Aside0 (impl_chi_haveCommon.l0 kq l0 a1 a2 t883 (t883.length : Int) x18_1 = some r) ∧ Aside0 (kq ≤ k) ∧ Aside0 (Kd.R (Kd.int .i64) 3 w' w.heap.size (fun _ => True) (.slice Ao6 t883.length co6) t883) ∧ Aside0 (Below w.heap.size w w'))
 case atStart => exact ⟨(0), (by first | rfl | (simp; done) | (simp [*]; done)), H', ⟨Nat.le_refl _⟩, ⟨by (with_reducible repeat (first | apply Kd.R_alloc | apply Kd.R_drewN | apply Kd.R_drew)); exact HO885.out⟩, ⟨by repeat (first | (with_reducible first | exact HB.out | apply below_alloc | apply pw_below_drewN | apply below_drew1) | exact HB.out)⟩⟩
 case round =>
  clear H'
  try clear c1
  try clear p2
  obtain ⟨x18_1, rfl, HA, HK1, HO_16, HB⟩ := hrel
  cases gk with
  | zero => exact absurd HA.out (by simp [impl_chi_haveCommon.l0])
  | succ k1 =>
   have H := HA.out
   clear HA
   simp only [impl_chi_haveCommon.l0] at H
   by_cases c7 : x18_1 < (t883.length : Int)
   ·rw [if_pos c7] at H
    have c7b0 : decide (x18_1 < (t883.length : Int)) = true := decide_eq_true c7
    clear c7
    by_cases c8 : 0 ≤ x18_1
    ·rw [if_pos c8] at H
     have c8b0 : decide (0 ≤ x18_1) = true := decide_eq_true c8
     clear c8
     by_cases c9 : x18_1 < (t883.length : Int)
     ·rw [if_pos c9] at H
      have c9b0 : decide (x18_1 < (t883.length : Int)) = true := decide_eq_true c9
      clear c9
      replace H := Option.bind_eq_some_iff.mp H
      obtain ⟨t887, A100, H⟩ := H
      replace H : (if t887 = true then (some true) else (impl_chi_haveCommon.l0 k1 l0 a1 a2 t883 (t883.length : Int) (wrap64 (x18_1 + 1)))) = some r := H
      have A10 := Aside0.mk A100
      clear A100
      by_cases c11 : t887 = true
      ·subst c11
       have H1 : (some true) = some r := by rw [if_pos rfl] at H; exact H
       clear H
       have H := H1
       clear H1
       obtain rfl := Option.some.inj H
       have p886 : 0 ≤ (x18_1 : Int) := of_decide_eq_true (by first | (with_reducible assumption) | assumption)
       have q886 : x18_1 < (t883.length : Int) := of_decide_eq_true (by first | (with_reducible assumption) | assumption)
       obtain ⟨ad886, e886, hx886_0⟩ := Kd.at_int (Kd.R_reads' HO_16.out).2.2 x18_1 p886 q886
       cases e886
       replace p886 := eq_true p886
       replace q886 := eq_true q886
       go_wp2_with (first | ((with_reducible refine gate_callee (f := 116) rfl ?_); refine goesL_ (some 25) rfl rfl Try.func116 (by kernel_rfl) rfl #[.pointer A0, .int .i64 a2, .int .i64 (rd t883 x18_1)] rfl (by (try simp only [List.map_toArray, List.map_cons, List.map_nil]); first | done | rfl | (simp only [List.length_drop, List.length_take]; rfl)) ?_; (refine (impl_chi_inHull.calls k1 _ c0 l0 a2 (rd t883 x18_1) true _ ?side1 ?side2 A10.out).mono ?_); (case side1 => repeat (first | exact (Kd.C_below HR0.out HB.out) | (with_reducible refine Kd.C_alloc ?_ _) | (with_reducible refine Kd.C_drewN ?_ _) | (with_reducible refine Kd.C_drew ?_))); (case side2 => exact HC0.out); rintro e w12 ⟨rfl, hb⟩; refine ⟨_, rfl, ?_⟩; have n0_ := Aside0.mk (Kd.R_below (by (with_reducible repeat (first | apply Kd.R_alloc | apply Kd.R_drewN | apply Kd.R_drew)); exact HO_16.out) hb); have n1_ := Aside0.mk (below_step (by repeat (first | (with_reducible first | exact HB.out | apply below_alloc | apply pw_below_drewN | apply below_drew1) | exact HB.out)) hb); clear HO_16; clear HB; have HO_16 := n0_; have HB := n1_; clear n0_ n1_; (try clear hb); (try clear hb2); (try clear hk); (try clear hi)))
       go_ret
       exact ⟨by first | rfl | (simp [errW_none, errW_some] <;> rfl) | (simp [*, errW_none, errW_some] <;> rfl), by repeat (first | (with_reducible first | exact HB.out | apply below_alloc | apply pw_below_drewN | apply below_drew1) | exact HB.out)⟩
      ·replace c11 := Bool.eq_false_iff.mpr c11
       subst c11
       have H1 : (impl_chi_haveCommon.l0 k1 l0 a1 a2 t883 (t883.length : Int) (wrap64 (x18_1 + 1))) = some r := by rw [if_neg (show ¬ (false = true) by decide)] at H; exact H
       clear H
       have H := H1
       clear H1
       have H' := Aside0.mk H
       clear H
       have p886 : 0 ≤ (x18_1 : Int) := of_decide_eq_true (by first | (with_reducible assumption) | assumption)
       have q886 : x18_1 < (t883.length : Int) := of_decide_eq_true (by first | (with_reducible assumption) | assumption)
       obtain ⟨ad886, e886, hx886_0⟩ := Kd.at_int (Kd.R_reads' HO_16.out).2.2 x18_1 p886 q886
       cases e886
       replace p886 := eq_true p886
       replace q886 := eq_true q886
       go_wp2_with (first | ((with_reducible refine gate_callee (f := 116) rfl ?_); refine goesL_ (some 25) rfl rfl Try.func116 (by kernel_rfl) rfl #[.pointer A0, .int .i64 a2, .int .i64 (rd t883 x18_1)] rfl (by (try simp only [List.map_toArray, List.map_cons, List.map_nil]); first | done | rfl | (simp only [List.length_drop, List.length_take]; rfl)) ?_; (refine (impl_chi_inHull.calls k1 _ c0 l0 a2 (rd t883 x18_1) false _ ?side1 ?side2 A10.out).mono ?_); (case side1 => repeat (first | exact (Kd.C_below HR0.out HB.out) | (with_reducible refine Kd.C_alloc ?_ _) | (with_reducible refine Kd.C_drewN ?_ _) | (with_reducible refine Kd.C_drew ?_))); (case side2 => exact HC0.out); rintro e w13 ⟨rfl, hb⟩; refine ⟨_, rfl, ?_⟩; have n0_ := Aside0.mk (Kd.R_below (by (with_reducible repeat (first | apply Kd.R_alloc | apply Kd.R_drewN | apply Kd.R_drew)); exact HO_16.out) hb); have n1_ := Aside0.mk (below_step (by repeat (first | (with_reducible first | exact HB.out | apply below_alloc | apply pw_below_drewN | apply below_drew1) | exact HB.out)) hb); clear HO_16; clear HB; have HO_16 := n0_; have HB := n1_; clear n0_ n1_; (try clear hb); (try clear hb2); (try clear hk); (try clear hi)))
       go_roundg k1
       case measure => have := HK1.out; omega
       case rel => exact ⟨(wrap64 (x18_1 + 1)), (by first | rfl | (simp; done) | (simp [*]; done)), H', ⟨by have := HK1.out; omega⟩, ⟨by (with_reducible repeat (first | apply Kd.R_alloc | apply Kd.R_drewN | apply Kd.R_drew)); exact HO_16.out⟩, ⟨by repeat (first | (with_reducible first | exact HB.out | apply below_alloc | apply pw_below_drewN | apply below_drew1) | exact HB.out)⟩⟩
     ·rw [if_neg c9] at H
      exact absurd H (by simp)
    ·rw [if_neg c8] at H
     exact absurd H (by simp)
   ·rw [if_neg c7] at H
    have c7b0 : decide (x18_1 < (t883.length : Int)) = false := decide_eq_false c7
    clear c7
    replace H := Option.bind_eq_some_iff.mp H
    obtain ⟨t888, A140, H⟩ := H
    replace H : (impl_chi_haveCommon.l1 k1 l0 a1 a2 t888 (t888.length : Int) 0) = some r := H
    have A14 := Aside0.mk A140
    clear A140
    have H' := Aside0.mk H
    clear H
    go_wp2_with (first | ((with_reducible refine gate_callee (f := 109) rfl ?_); refine goesL_ (some 28) rfl rfl Try.func109 (by kernel_rfl) rfl #[.int .i64 a2] rfl (by (try simp only [List.map_toArray, List.map_cons, List.map_nil]); first | done | rfl | (simp only [List.length_drop, List.length_take]; rfl)) ?_; (with_reducible refine (impl_elementsOf.calls k1 a2 t888 _ A14.out).mono ?_); rintro e w15 ⟨v889, rfl, ho0, hb⟩; refine ⟨_, rfl, ?_⟩; have n0_ := Aside0.mk (Kd.R_elder' (by (with_reducible repeat (first | apply Kd.R_alloc | apply Kd.R_drewN | apply Kd.R_drew)); exact HO_16.out) (Kd.R_base ho0) hb); have n1_ := Aside0.mk (Kd.R_lower (Kd.R_new' ho0 (Kd.R_lt (by (with_reducible repeat (first | apply Kd.R_alloc | apply Kd.R_drewN | apply Kd.R_drew)); exact HO_16.out))) (below_size (by repeat (first | (with_reducible first | exact HB.out | apply below_alloc | apply pw_below_drewN | apply below_drew1) | exact HB.out)))); have n2_ := Aside0.mk (below_step (by repeat (first | (with_reducible first | exact HB.out | apply below_alloc | apply pw_below_drewN | apply below_drew1) | exact HB.out)) hb); clear HO_16; clear HB; have HO_16 := n0_; have HO890 := n1_; have HB := n2_; clear n0_ n1_ n2_; (try clear hb); (try clear hb2); (try clear hk); (try clear hi); (try clear ho0); obtain ⟨Ao16, co16, eo16⟩ := Kd.R_slice HO890.out; subst eo16))
    go_loopg [30] k1 (fun kq v30 w' => ∃ (x30_2 : Int), v30 = .int .i64 x30_2 ∧ Aside0 (impl_chi_haveCommon.l1 kq l0 a1 a2 t888 (t888.length : Int) x30_2 = some r) ∧ Aside0 (kq ≤ k1) ∧ Aside0 (Kd.R (Kd.int .i64) 3 w' w.heap.size (fun _ => True) (.slice Ao16 t888.length co16) t888) ∧ Aside0 (Below w.heap.size w w'))
    case atStart => exact ⟨(0), (by first | rfl | (simp; done) | (simp [*]; done)), H', ⟨Nat.le_refl _⟩, ⟨by (with_reducible repeat (first | apply Kd.R_alloc | apply Kd.R_drewN | apply Kd.R_drew)); exact Kd.R_mono HO890.out (fun _ hk => trivial)⟩, ⟨by repeat (first | (with_reducible first | exact HB.out | apply below_alloc | apply pw_below_drewN | apply below_drew1) | exact HB.out)⟩⟩
    case round =>
     clear H'
     try clear c1
     try clear p2
     try clear p6
     try clear c7
     try clear c7b0
     try clear c8
     try clear c8b0
     try clear p8
     try clear q8
     try clear hx8
     try clear c9
     try clear c9b0
     try clear c10
     try clear c11
     try clear hx886_0
     try clear p2
     try clear p886
     try clear q886
     obtain ⟨x30_2, rfl, HA, HK2, HO_28, HB⟩ := hrel
     cases gk with
     | zero => exact absurd HA.out (by simp [impl_chi_haveCommon.l1])
     | succ k2 =>
      have H := HA.out
      clear HA
      simp only [impl_chi_haveCommon.l1] at H
      by_cases c17 : x30_2 < (t888.length : Int)
      ·rw [if_pos c17] at H
       have c17b0 : decide (x30_2 < (t888.length : Int)) = true := decide_eq_true c17
       clear c17
       by_cases c18 : 0 ≤ x30_2
       ·rw [if_pos c18] at H
        have c18b0 : decide (0 ≤ x30_2) = true := decide_eq_true c18
        clear c18
        by_cases c19 : x30_2 < (t888.length : Int)
        ·rw [if_pos c19] at H
         have c19b0 : decide (x30_2 < (t888.length : Int)) = true := decide_eq_true c19
         clear c19
         replace H := Option.bind_eq_some_iff.mp H
         obtain ⟨t892, A200, H⟩ := H
         replace H : (if t892 = true then (some true) else (impl_chi_haveCommon.l1 k2 l0 a1 a2 t888 (t888.length : Int) (wrap64 (x30_2 + 1)))) = some r := H
         have A20 := Aside0.mk A200
         clear A200
         by_cases c21 : t892 = true
         ·subst c21
          have H1 : (some true) = some r := by rw [if_pos rfl] at H; exact H
          clear H
          have H := H1
          clear H1
          obtain rfl := Option.some.inj H
          have p891 : 0 ≤ (x30_2 : Int) := of_decide_eq_true (by first | (with_reducible assumption) | assumption)
          have q891 : x30_2 < (t888.length : Int) := of_decide_eq_true (by first | (with_reducible assumption) | assumption)
          obtain ⟨ad891, e891, hx891_0⟩ := Kd.at_int (Kd.R_reads' HO_28.out).2.2 x30_2 p891 q891
          cases e891
          replace p891 := eq_true p891
          replace q891 := eq_true q891
          go_wp2_with (first | ((with_reducible refine gate_callee (f := 116) rfl ?_); refine goesL_ (some 37) rfl rfl Try.func116 (by kernel_rfl) rfl #[.pointer A0, .int .i64 a1, .int .i64 (rd t888 x30_2)] rfl (by (try simp only [List.map_toArray, List.map_cons, List.map_nil]); first | done | rfl | (simp only [List.length_drop, List.length_take]; rfl)) ?_; (refine (impl_chi_inHull.calls k2 _ c0 l0 a1 (rd t888 x30_2) true _ ?side1 ?side2 A20.out).mono ?_); (case side1 => repeat (first | exact (Kd.C_below HR0.out HB.out) | (with_reducible refine Kd.C_alloc ?_ _) | (with_reducible refine Kd.C_drewN ?_ _) | (with_reducible refine Kd.C_drew ?_))); (case side2 => exact HC0.out); rintro e w22 ⟨rfl, hb⟩; refine ⟨_, rfl, ?_⟩; have n0_ := Aside0.mk (Kd.R_below (by (with_reducible repeat (first | apply Kd.R_alloc | apply Kd.R_drewN | apply Kd.R_drew)); exact HO_28.out) hb); have n1_ := Aside0.mk (below_step (by repeat (first | (with_reducible first | exact HB.out | apply below_alloc | apply pw_below_drewN | apply below_drew1) | exact HB.out)) hb); clear HO_28; clear HB; have HO_28 := n0_; have HB := n1_; clear n0_ n1_; (try clear hb); (try clear hb2); (try clear hk); (try clear hi)))
          go_ret
          exact ⟨by first | rfl | (simp [errW_none, errW_some] <;> rfl) | (simp [*, errW_none, errW_some] <;> rfl), by repeat (first | (with_reducible first | exact HB.out | apply below_alloc | apply pw_below_drewN | apply below_drew1) | exact HB.out)⟩
         ·replace c21 := Bool.eq_false_iff.mpr c21
          subst c21
          have H1 : (impl_chi_haveCommon.l1 k2 l0 a1 a2 t888 (t888.length : Int) (wrap64 (x30_2 + 1))) = some r := by rw [if_neg (show ¬ (false = true) by decide)] at H; exact H
          clear H
          have H := H1
          clear H1
          have H' := Aside0.mk H
          clear H
          have p891 : 0 ≤ (x30_2 : Int) := of_decide_eq_true (by first | (with_reducible assumption) | assumption)
          have q891 : x30_2 < (t888.length : Int) := of_decide_eq_true (by first | (with_reducible assumption) | assumption)
          obtain ⟨ad891, e891, hx891_0⟩ := Kd.at_int (Kd.R_reads' HO_28.out).2.2 x30_2 p891 q891
          cases e891
          replace p891 := eq_true p891
          replace q891 := eq_true q891
          go_wp2_with (first | ((with_reducible refine gate_callee (f := 116) rfl ?_); refine goesL_ (some 37) rfl rfl Try.func116 (by kernel_rfl) rfl #[.pointer A0, .int .i64 a1, .int .i64 (rd t888 x30_2)] rfl (by (try simp only [List.map_toArray, List.map_cons, List.map_nil]); first | done | rfl | (simp only [List.length_drop, List.length_take]; rfl)) ?_; (refine (impl_chi_inHull.calls k2 _ c0 l0 a1 (rd t888 x30_2) false _ ?side1 ?side2 A20.out).mono ?_); (case side1 => repeat (first | exact (Kd.C_below HR0.out HB.out) | (with_reducible refine Kd.C_alloc ?_ _) | (with_reducible refine Kd.C_drewN ?_ _) | (with_reducible refine Kd.C_drew ?_))); (case side2 => exact HC0.out); rintro e w23 ⟨rfl, hb⟩; refine ⟨_, rfl, ?_⟩; have n0_ := Aside0.mk (Kd.R_below (by (with_reducible repeat (first | apply Kd.R_alloc | apply Kd.R_drewN | apply Kd.R_drew)); exact HO_28.out) hb); have n1_ := Aside0.mk (below_step (by repeat (first | (with_reducible first | exact HB.out | apply below_alloc | apply pw_below_drewN | apply below_drew1) | exact HB.out)) hb); clear HO_28; clear HB; have HO_28 := n0_; have HB := n1_; clear n0_ n1_; (try clear hb); (try clear hb2); (try clear hk); (try clear hi)))
          go_roundg k2
          case measure => have := HK1.out; have := HK2.out; omega
          case rel => exact ⟨(wrap64 (x30_2 + 1)), (by first | rfl | (simp; done) | (simp [*]; done)), H', ⟨by have := HK1.out; have := HK2.out; omega⟩, ⟨by (with_reducible repeat (first | apply Kd.R_alloc | apply Kd.R_drewN | apply Kd.R_drew)); exact HO_28.out⟩, ⟨by repeat (first | (with_reducible first | exact HB.out | apply below_alloc | apply pw_below_drewN | apply below_drew1) | exact HB.out)⟩⟩
        ·rw [if_neg c19] at H
         exact absurd H (by simp)
       ·rw [if_neg c18] at H
        exact absurd H (by simp)
      ·rw [if_neg c17] at H
       have c17b0 : decide (x30_2 < (t888.length : Int)) = false := decide_eq_false c17
       clear c17
       by_cases c24 : 344 ≤ (l0.length : Int)
       ·rw [if_pos c24] at H
        have c24b0 := eq_true c24
        have c24b1 : decide (344 ≤ (l0.length : Int)) = true := decide_eq_true c24
        clear c24
        replace H := Option.bind_eq_some_iff.mp H
        obtain ⟨t894, A250, H⟩ := H
        replace H : (impl_chi_haveCommon.l2 k2 l0 a1 a2 t894 (t894.length : Int) 0) = some r := H
        have A25 := Aside0.mk A250
        clear A250
        have H' := Aside0.mk H
        clear H
        have q893 : 344 ≤ (l0.length : Int) := of_decide_eq_true (by first | (with_reducible assumption) | assumption)
        obtain ⟨ad893, e893, hx893_0⟩ := chi_n HR0.out q893
        cases e893
        replace hx893_0 := (HB.out.cell (World.block_lt_of_cell? w _ hx893_0)).trans hx893_0
        go_wp2_with (first | ((with_reducible refine gate_callee (f := 117) rfl ?_); refine goesL_ (some 43) rfl rfl Try.func117 (by kernel_rfl) rfl #[.int .i64 (chiN l0)] rfl (by (try simp only [List.map_toArray, List.map_cons, List.map_nil]); first | done | rfl | (simp only [List.length_drop, List.length_take]; rfl)) ?_; (with_reducible refine (impl_quadsOf.calls k2 (chiN l0) t894 _ A25.out).mono ?_); rintro e w26 ⟨v895, rfl, ho0, hb⟩; refine ⟨_, rfl, ?_⟩; have n0_ := Aside0.mk (Kd.R_below (by (with_reducible repeat (first | apply Kd.R_alloc | apply Kd.R_drewN | apply Kd.R_drew)); exact HO_28.out) hb); have n1_ := Aside0.mk (Kd.R_lower ho0 (below_size (by repeat (first | (with_reducible first | exact HB.out | apply below_alloc | apply pw_below_drewN | apply below_drew1) | exact HB.out)))); have n2_ := Aside0.mk (below_step (by repeat (first | (with_reducible first | exact HB.out | apply below_alloc | apply pw_below_drewN | apply below_drew1) | exact HB.out)) hb); clear HO_28; clear HB; have HO_28 := n0_; have HO896 := n1_; have HB := n2_; clear n0_ n1_ n2_; (try clear hb); (try clear hb2); (try clear hk); (try clear hi); (try clear ho0); obtain ⟨Ao27, co27, eo27⟩ := Kd.R_slice HO896.out; subst eo27))
        go_loopg [45] k2 (fun kq v45 w' => ∃ (x45_3 : Int), v45 = .int .i64 x45_3 ∧ Aside0 (impl_chi_haveCommon.l2 kq l0 a1 a2 t894 (t894.length : Int) x45_3 = some r) ∧ Aside0 (kq ≤ k2) ∧ Aside0 (Kd.R k97 97 w' w.heap.size (fun _ => True) (.slice Ao27 t894.length co27) t894) ∧ Aside0 (Below w.heap.size w w'))
        case atStart => exact ⟨(0), (by first | rfl | (simp; done) | (simp [*]; done)), H', ⟨Nat.le_refl _⟩, ⟨by (with_reducible repeat (first | apply Kd.R_alloc | apply Kd.R_drewN | apply Kd.R_drew)); exact HO896.out⟩, ⟨by repeat (first | (with_reducible first | exact HB.out | apply below_alloc | apply pw_below_drewN | apply below_drew1) | exact HB.out)⟩⟩
        case round =>
         clear H'
         try clear c1
         try clear c2
         try clear p2
         try clear p6
         try clear c7
         try clear c7b0
         try clear c8
         try clear c8b0
         try clear p8
         try clear q8
         try clear hx8
         try clear c9
         try clear c9b0
         try clear c10
         try clear c11
         try clear c17
         try clear c17b0
         try clear c18
         try clear c18b0
         try clear c19
         try clear c19b0
         try clear c21
         try clear c24
         try clear c24b0
         try clear c24b1
         try clear hx886_0
         try clear hx891_0
         try clear hx893_0
         try clear p2
         try clear p6
         try clear p8
         try clear p886
         try clear p891
         try clear q8
         try clear q886
         try clear q891
         try clear q893
         obtain ⟨x45_3, rfl, HA, HK3, HO_43, HB⟩ := hrel
         cases gk with
         | zero => exact absurd HA.out (by simp [impl_chi_haveCommon.l2])
         | succ k3 =>
          have H := HA.out
          clear HA
          simp only [impl_chi_haveCommon.l2] at H
          by_cases c28 : x45_3 < (t894.length : Int)
          ·rw [if_pos c28] at H
           have c28b0 : decide (x45_3 < (t894.length : Int)) = true := decide_eq_true c28
           clear c28
           by_cases c29 : 0 ≤ x45_3
           ·rw [if_pos c29] at H
            have c29b0 : decide (0 ≤ x45_3) = true := decide_eq_true c29
            clear c29
            by_cases c30 : x45_3 < (t894.length : Int)
            ·rw [if_pos c30] at H
             have c30b0 : decide (x45_3 < (t894.length : Int)) = true := decide_eq_true c30
             clear c30
             replace H := Option.bind_eq_some_iff.mp H
             obtain ⟨⟨t899, t900⟩, A310, H⟩ := H
             replace H : ((bits_OnesCount.f (IntKind.u64.wrap (t899))).bind fun t901 => (if t901 = 2 then (if (Go.bits .and .i64 t899 a1) = t899 then (if (Go.bits .and .i64 t900 a2) = t900 then (some true) else (if (Go.bits .and .i64 t899 a2) = t899 then (if (Go.bits .and .i64 t900 a1) = t900 then (some true) else (impl_chi_haveCommon.l2 k3 l0 a1 a2 t894 (t894.length : Int) (wrap64 (x45_3 + 1)))) else (impl_chi_haveCommon.l2 k3 l0 a1 a2 t894 (t894.length : Int) (wrap64 (x45_3 + 1))))) else (if (Go.bits .and .i64 t899 a2) = t899 then (if (Go.bits .and .i64 t900 a1) = t900 then (some true) else (impl_chi_haveCommon.l2 k3 l0 a1 a2 t894 (t894.length : Int) (wrap64 (x45_3 + 1)))) else (impl_chi_haveCommon.l2 k3 l0 a1 a2 t894 (t894.length : Int) (wrap64 (x45_3 + 1))))) else (impl_chi_haveCommon.l2 k3 l0 a1 a2 t894 (t894.length : Int) (wrap64 (x45_3 + 1))))) = some r := H
             have A31 := Aside0.mk A310
             clear A310
             replace H := Option.bind_eq_some_iff.mp H
             obtain ⟨t901, A320, H⟩ := H
             replace H : (if t901 = 2 then (if (Go.bits .and .i64 t899 a1) = t899 then (if (Go.bits .and .i64 t900 a2) = t900 then (some true) else (if (Go.bits .and .i64 t899 a2) = t899 then (if (Go.bits .and .i64 t900 a1) = t900 then (some true) else (impl_chi_haveCommon.l2 k3 l0 a1 a2 t894 (t894.length : Int) (wrap64 (x45_3 + 1)))) else (impl_chi_haveCommon.l2 k3 l0 a1 a2 t894 (t894.length : Int) (wrap64 (x45_3 + 1))))) else (if (Go.bits .and .i64 t899 a2) = t899 then (if (Go.bits .and .i64 t900 a1) = t900 then (some true) else (impl_chi_haveCommon.l2 k3 l0 a1 a2 t894 (t894.length : Int) (wrap64 (x45_3 + 1)))) else (impl_chi_haveCommon.l2 k3 l0 a1 a2 t894 (t894.length : Int) (wrap64 (x45_3 + 1))))) else (impl_chi_haveCommon.l2 k3 l0 a1 a2 t894 (t894.length : Int) (wrap64 (x45_3 + 1)))) = some r := H
             have A32 := Aside0.mk A320
             clear A320
             by_cases c33 : t901 = 2
             ·rw [if_pos c33] at H
              have c33b0 : (t901 == 2) = true := beq_iff_eq.mpr c33
              have c33b1 : (t901 != 2) = false := bne_eq_false_iff_eq.mpr c33
              clear c33
              by_cases c34 : (Go.bits .and .i64 t899 a1) = t899
              ·rw [if_pos c34] at H
               have c34b0 : ((Go.bits .and .i64 t899 a1) == t899) = true := beq_iff_eq.mpr c34
               have c34b1 : ((Go.bits .and .i64 t899 a1) != t899) = false := bne_eq_false_iff_eq.mpr c34
               clear c34
               by_cases c35 : (Go.bits .and .i64 t900 a2) = t900
               ·rw [if_pos c35] at H
                have c35b0 : ((Go.bits .and .i64 t900 a2) == t900) = true := beq_iff_eq.mpr c35
                have c35b1 : ((Go.bits .and .i64 t900 a2) != t900) = false := bne_eq_false_iff_eq.mpr c35
                clear c35
                obtain rfl := Option.some.inj H
                have p897 : 0 ≤ (x45_3 : Int) := of_decide_eq_true (by first | (with_reducible assumption) | assumption)
                have q897 : x45_3 < (t894.length : Int) := of_decide_eq_true (by first | (with_reducible assumption) | assumption)
                obtain ⟨ad897, e897, hx897_0, hx897_1, hx897_2, hx897_3⟩ := at_T97 (Kd.R_reads' HO_43.out).2.2 x45_3 p897 q897
                cases e897
                replace p897 := eq_true p897
                replace q897 := eq_true q897
                go_wp2_with (first | ((with_reducible refine gate_dst (N := 12) rfl ?_); refine box_event ?hg (N := 12) ?hd (cs := #[.int .i64 0, .int .i64 0, .int .i64 0, .int .i64 0]) (t := 97) ?hr ?_; (case hd => rfl); (case hg => rfl); (case hr => first | (go_simp; done) | (go_simp; rfl)); intro gb898 hg w36 hbox hb; have n0_ := Aside0.mk (Kd.R_below (Kd.R_elderB (by (with_reducible repeat (first | apply Kd.R_alloc | apply Kd.R_drewN | apply Kd.R_drew)); exact HO_43.out) gb898 (Nat.le_of_eq hg.symm)) hb); have n1_ := Aside0.mk (below_step (by repeat (first | (with_reducible first | exact HB.out | apply below_alloc | apply pw_below_drewN | apply below_drew1) | exact HB.out)) hb); have n2_ := Aside0.mk (hbox); have n3_ := Aside0.mk ((by rw [hg]; exact (below_size (by repeat (first | (with_reducible first | exact HB.out | apply below_alloc | apply pw_below_drewN | apply below_drew1) | exact HB.out))) : w.heap.size ≤ gb898)); have n4_ := Aside0.mk ((by rw [hg]; exact (below_size (by repeat (first | (with_reducible first | exact HB.out | apply below_alloc | apply pw_below_drewN | apply below_drew1) | exact HB.out))) : w.heap.size ≤ gb898)); clear HO_43; clear HB; have HO_43 := n0_; have HB := n1_; have BK898 := n2_; have GW898 := n3_; have GE898 := n4_; clear n0_ n1_ n2_ n3_ n4_; clear hb hbox hg; have hcz37_0 : w36.cell? ⟨gb898, 0, none⟩ = some (.int .i64 0) := (blk_cell BK898.out 0).trans rfl; have hcz37_1 : w36.cell? ⟨gb898, 1, none⟩ = some (.int .i64 0) := (blk_cell BK898.out 1).trans rfl; have hcz37_2 : w36.cell? ⟨gb898, 2, none⟩ = some (.int .i64 0) := (blk_cell BK898.out 2).trans rfl; have hcz37_3 : w36.cell? ⟨gb898, 3, none⟩ = some (.int .i64 0) := (blk_cell BK898.out 3).trans rfl; have hfz37_0 := blk_frozen BK898.out 0; have hfz37_1 := blk_frozen BK898.out 1; have hfz37_2 := blk_frozen BK898.out 2; have hfz37_3 := blk_frozen BK898.out 3) | ((with_reducible refine gate_callee (f := 118) rfl ?_); refine goesL_ (some 59) rfl rfl Try.func118 (by kernel_rfl) rfl #[.pointer (some ad893), .int .i64 ((rd_T97 t894 x45_3).f0), .int .i64 ((rd_T97 t894 x45_3).f1), .int .i64 ((rd_T97 t894 x45_3).f2), .int .i64 ((rd_T97 t894 x45_3).f3)] rfl (by (try simp only [List.map_toArray, List.map_cons, List.map_nil]); first | done | rfl | (simp only [List.length_drop, List.length_take]; rfl)) ?_; (refine (impl_chi_split.calls k3 _ c0 l0 ((rd_T97 t894 x45_3).f0) ((rd_T97 t894 x45_3).f1) ((rd_T97 t894 x45_3).f2) ((rd_T97 t894 x45_3).f3) t899 t900 _ ?side1 ?side2 A31.out).mono ?_); (case side1 => exact Kd.C_below HR0.out (by repeat (first | (with_reducible first | exact HB.out | apply below_alloc | apply pw_below_drewN | apply below_drew1 | refine below_set ?_ GE898.out) | exact HB.out))); (case side2 => exact HC0.out); rintro e w38 ⟨rfl, hb⟩; refine ⟨_, rfl, ?_⟩; have n0_ := Aside0.mk (Kd.R_below (by (with_reducible repeat (first | apply Kd.R_alloc | apply Kd.R_drewN | apply Kd.R_drew)); exact (Kd.R_mono (Kd.R_far (p := ⟨gb898, 3, none⟩) (Kd.R_far (p := ⟨gb898, 2, none⟩) (Kd.R_far (p := ⟨gb898, 1, none⟩) (Kd.R_far (p := ⟨gb898, 0, none⟩) (Kd.R_mono HO_43.out (fun k_ hk => (⟨hk, hk.2⟩ : _ ∧ k_ ≠ gb898))) (fun _ hk => hk.2) (.int .i64 ((rd_T97 t894 x45_3).f0))) (fun _ hk => hk.2) (.int .i64 ((rd_T97 t894 x45_3).f1))) (fun _ hk => hk.2) (.int .i64 ((rd_T97 t894 x45_3).f2))) (fun _ hk => hk.2) (.int .i64 ((rd_T97 t894 x45_3).f3))) (fun _ h_ => h_.1))) hb); have n1_ := Aside0.mk (blk_below (g := gb898) (o := .cells #[.int .i64 ((rd_T97 t894 x45_3).f0), .int .i64 ((rd_T97 t894 x45_3).f1), .int .i64 ((rd_T97 t894 x45_3).f2), .int .i64 ((rd_T97 t894 x45_3).f3)] 97 (0, 0)) (by (with_reducible repeat (first | refine blk_drewN ?_ _ | refine blk_drew ?_ | refine blk_alloc ?_ _)); refine blk_put (cs := #[.int .i64 ((rd_T97 t894 x45_3).f0), .int .i64 ((rd_T97 t894 x45_3).f1), .int .i64 ((rd_T97 t894 x45_3).f2), .int .i64 0]) ?_ 3 _ rfl; (with_reducible repeat (first | refine blk_drewN ?_ _ | refine blk_drew ?_ | refine blk_alloc ?_ _)); refine blk_put (cs := #[.int .i64 ((rd_T97 t894 x45_3).f0), .int .i64 ((rd_T97 t894 x45_3).f1), .int .i64 0, .int .i64 0]) ?_ 2 _ rfl; (with_reducible repeat (first | refine blk_drewN ?_ _ | refine blk_drew ?_ | refine blk_alloc ?_ _)); refine blk_put (cs := #[.int .i64 ((rd_T97 t894 x45_3).f0), .int .i64 0, .int .i64 0, .int .i64 0]) ?_ 1 _ rfl; (with_reducible repeat (first | refine blk_drewN ?_ _ | refine blk_drew ?_ | refine blk_alloc ?_ _)); refine blk_put (cs := #[.int .i64 0, .int .i64 0, .int .i64 0, .int .i64 0]) ?_ 0 _ rfl; (with_reducible repeat (first | refine blk_drewN ?_ _ | refine blk_drew ?_ | refine blk_alloc ?_ _)); exact BK898.out) hb); have n2_ := Aside0.mk (below_step (by repeat (first | (with_reducible first | exact HB.out | apply below_alloc | apply pw_below_drewN | apply below_drew1 | refine below_set ?_ GE898.out) | exact HB.out)) hb); clear HO_43; clear BK898; clear HB; have HO_43 := n0_; have BK898 := n1_; have HB := n2_; clear n0_ n1_ n2_; (try clear hb); (try clear hb2); (try clear hk); (try clear hi)) | ((with_reducible refine gate_callee (f := 108) rfl ?_); refine goesL_ (some 64) rfl rfl Try.func108 (by kernel_rfl) rfl #[.int .u64 (IntKind.u64.wrap (t899))] rfl (by (try simp only [List.map_toArray, List.map_cons, List.map_nil]); first | done | rfl | (simp only [List.length_drop, List.length_take]; rfl)) ?_; (with_reducible refine (bits_OnesCount.calls (IntKind.u64.wrap (t899)) t901 _ A32.out).mono ?_); rintro e w' ⟨rfl, ⟨nd, rfl⟩⟩; refine ⟨_, rfl, ?_⟩))
                go_ret
                exact ⟨by first | rfl | (simp [errW_none, errW_some] <;> rfl) | (simp [*, errW_none, errW_some] <;> rfl), by repeat (first | (with_reducible first | exact HB.out | apply below_alloc | apply pw_below_drewN | apply below_drew1 | refine below_set ?_ GE898.out) | exact HB.out)⟩
               ·rw [if_neg c35] at H
                have c35b0 : ((Go.bits .and .i64 t900 a2) == t900) = false := beq_eq_false_iff_ne.mpr c35
                have c35b1 : ((Go.bits .and .i64 t900 a2) != t900) = true := bne_iff_ne.mpr c35
                by_cases c39 : (Go.bits .and .i64 t899 a2) = t899
                ·rw [if_pos c39] at H
                 have c39b0 : ((Go.bits .and .i64 t899 a2) == t899) = true := beq_iff_eq.mpr c39
                 have c39b1 : ((Go.bits .and .i64 t899 a2) != t899) = false := bne_eq_false_iff_eq.mpr c39
                 clear c39
                 by_cases c40 : (Go.bits .and .i64 t900 a1) = t900
                 ·rw [if_pos c40] at H
                  have c40b0 : ((Go.bits .and .i64 t900 a1) == t900) = true := beq_iff_eq.mpr c40
                  have c40b1 : ((Go.bits .and .i64 t900 a1) != t900) = false := bne_eq_false_iff_eq.mpr c40
                  clear c40
                  obtain rfl := Option.some.inj H
                  have p897 : 0 ≤ (x45_3 : Int) := of_decide_eq_true (by first | (with_reducible assumption) | assumption)
                  have q897 : x45_3 < (t894.length : Int) := of_decide_eq_true (by first | (with_reducible assumption) | assumption)
                  obtain ⟨ad897, e897, hx897_0, hx897_1, hx897_2, hx897_3⟩ := at_T97 (Kd.R_reads' HO_43.out).2.2 x45_3 p897 q897
                  cases e897
                  replace p897 := eq_true p897
                  replace q897 := eq_true q897
                  go_wp2_with (first | ((with_reducible refine gate_dst (N := 12) rfl ?_); refine box_event ?hg (N := 12) ?hd (cs := #[.int .i64 0, .int .i64 0, .int .i64 0, .int .i64 0]) (t := 97) ?hr ?_; (case hd => rfl); (case hg => rfl); (case hr => first | (go_simp; done) | (go_simp; rfl)); intro gb898 hg w41 hbox hb; have n0_ := Aside0.mk (Kd.R_below (Kd.R_elderB (by (with_reducible repeat (first | apply Kd.R_alloc | apply Kd.R_drewN | apply Kd.R_drew)); exact HO_43.out) gb898 (Nat.le_of_eq hg.symm)) hb); have n1_ := Aside0.mk (below_step (by repeat (first | (with_reducible first | exact HB.out | apply below_alloc | apply pw_below_drewN | apply below_drew1) | exact HB.out)) hb); have n2_ := Aside0.mk (hbox); have n3_ := Aside0.mk ((by rw [hg]; exact (below_size (by repeat (first | (with_reducible first | exact HB.out | apply below_alloc | apply pw_below_drewN | apply below_drew1) | exact HB.out))) : w.heap.size ≤ gb898)); have n4_ := Aside0.mk ((by rw [hg]; exact (below_size (by repeat (first | (with_reducible first | exact HB.out | apply below_alloc | apply pw_below_drewN | apply below_drew1) | exact HB.out))) : w.heap.size ≤ gb898)); clear HO_43; clear HB; have HO_43 := n0_; have HB := n1_; have BK898 := n2_; have GW898 := n3_; have GE898 := n4_; clear n0_ n1_ n2_ n3_ n4_; clear hb hbox hg; have hcz42_0 : w41.cell? ⟨gb898, 0, none⟩ = some (.int .i64 0) := (blk_cell BK898.out 0).trans rfl; have hcz42_1 : w41.cell? ⟨gb898, 1, none⟩ = some (.int .i64 0) := (blk_cell BK898.out 1).trans rfl; have hcz42_2 : w41.cell? ⟨gb898, 2, none⟩ = some (.int .i64 0) := (blk_cell BK898.out 2).trans rfl; have hcz42_3 : w41.cell? ⟨gb898, 3, none⟩ = some (.int .i64 0) := (blk_cell BK898.out 3).trans rfl; have hfz42_0 := blk_frozen BK898.out 0; have hfz42_1 := blk_frozen BK898.out 1; have hfz42_2 := blk_frozen BK898.out 2; have hfz42_3 := blk_frozen BK898.out 3) | ((with_reducible refine gate_callee (f := 118) rfl ?_); refine goesL_ (some 59) rfl rfl Try.func118 (by kernel_rfl) rfl #[.pointer (some ad893), .int .i64 ((rd_T97 t894 x45_3).f0), .int .i64 ((rd_T97 t894 x45_3).f1), .int .i64 ((rd_T97 t894 x45_3).f2), .int .i64 ((rd_T97 t894 x45_3).f3)] rfl (by (try simp only [List.map_toArray, List.map_cons, List.map_nil]); first | done | rfl | (simp only [List.length_drop, List.length_take]; rfl)) ?_; (refine (impl_chi_split.calls k3 _ c0 l0 ((rd_T97 t894 x45_3).f0) ((rd_T97 t894 x45_3).f1) ((rd_T97 t894 x45_3).f2) ((rd_T97 t894 x45_3).f3) t899 t900 _ ?side1 ?side2 A31.out).mono ?_); (case side1 => exact Kd.C_below HR0.out (by repeat (first | (with_reducible first | exact HB.out | apply below_alloc | apply pw_below_drewN | apply below_drew1 | refine below_set ?_ GE898.out) | exact HB.out))); (case side2 => exact HC0.out); rintro e w43 ⟨rfl, hb⟩; refine ⟨_, rfl, ?_⟩; have n0_ := Aside0.mk (Kd.R_below (by (with_reducible repeat (first | apply Kd.R_alloc | apply Kd.R_drewN | apply Kd.R_drew)); exact (Kd.R_mono (Kd.R_far (p := ⟨gb898, 3, none⟩) (Kd.R_far (p := ⟨gb898, 2, none⟩) (Kd.R_far (p := ⟨gb898, 1, none⟩) (Kd.R_far (p := ⟨gb898, 0, none⟩) (Kd.R_mono HO_43.out (fun k_ hk => (⟨hk, hk.2⟩ : _ ∧ k_ ≠ gb898))) (fun _ hk => hk.2) (.int .i64 ((rd_T97 t894 x45_3).f0))) (fun _ hk => hk.2) (.int .i64 ((rd_T97 t894 x45_3).f1))) (fun _ hk => hk.2) (.int .i64 ((rd_T97 t894 x45_3).f2))) (fun _ hk => hk.2) (.int .i64 ((rd_T97 t894 x45_3).f3))) (fun _ h_ => h_.1))) hb); have n1_ := Aside0.mk (blk_below (g := gb898) (o := .cells #[.int .i64 ((rd_T97 t894 x45_3).f0), .int .i64 ((rd_T97 t894 x45_3).f1), .int .i64 ((rd_T97 t894 x45_3).f2), .int .i64 ((rd_T97 t894 x45_3).f3)] 97 (0, 0)) (by (with_reducible repeat (first | refine blk_drewN ?_ _ | refine blk_drew ?_ | refine blk_alloc ?_ _)); refine blk_put (cs := #[.int .i64 ((rd_T97 t894 x45_3).f0), .int .i64 ((rd_T97 t894 x45_3).f1), .int .i64 ((rd_T97 t894 x45_3).f2), .int .i64 0]) ?_ 3 _ rfl; (with_reducible repeat (first | refine blk_drewN ?_ _ | refine blk_drew ?_ | refine blk_alloc ?_ _)); refine blk_put (cs := #[.int .i64 ((rd_T97 t894 x45_3).f0), .int .i64 ((rd_T97 t894 x45_3).f1), .int .i64 0, .int .i64 0]) ?_ 2 _ rfl; (with_reducible repeat (first | refine blk_drewN ?_ _ | refine blk_drew ?_ | refine blk_alloc ?_ _)); refine blk_put (cs := #[.int .i64 ((rd_T97 t894 x45_3).f0), .int .i64 0, .int .i64 0, .int .i64 0]) ?_ 1 _ rfl; (with_reducible repeat (first | refine blk_drewN ?_ _ | refine blk_drew ?_ | refine blk_alloc ?_ _)); refine blk_put (cs := #[.int .i64 0, .int .i64 0, .int .i64 0, .int .i64 0]) ?_ 0 _ rfl; (with_reducible repeat (first | refine blk_drewN ?_ _ | refine blk_drew ?_ | refine blk_alloc ?_ _)); exact BK898.out) hb); have n2_ := Aside0.mk (below_step (by repeat (first | (with_reducible first | exact HB.out | apply below_alloc | apply pw_below_drewN | apply below_drew1 | refine below_set ?_ GE898.out) | exact HB.out)) hb); clear HO_43; clear BK898; clear HB; have HO_43 := n0_; have BK898 := n1_; have HB := n2_; clear n0_ n1_ n2_; (try clear hb); (try clear hb2); (try clear hk); (try clear hi)) | ((with_reducible refine gate_callee (f := 108) rfl ?_); refine goesL_ (some 64) rfl rfl Try.func108 (by kernel_rfl) rfl #[.int .u64 (IntKind.u64.wrap (t899))] rfl (by (try simp only [List.map_toArray, List.map_cons, List.map_nil]); first | done | rfl | (simp only [List.length_drop, List.length_take]; rfl)) ?_; (with_reducible refine (bits_OnesCount.calls (IntKind.u64.wrap (t899)) t901 _ A32.out).mono ?_); rintro e w' ⟨rfl, ⟨nd, rfl⟩⟩; refine ⟨_, rfl, ?_⟩))
                  go_ret
                  exact ⟨by first | rfl | (simp [errW_none, errW_some] <;> rfl) | (simp [*, errW_none, errW_some] <;> rfl), by repeat (first | (with_reducible first | exact HB.out | apply below_alloc | apply pw_below_drewN | apply below_drew1 | refine below_set ?_ GE898.out) | exact HB.out)⟩
                 ·rw [if_neg c40] at H
                  have c40b0 : ((Go.bits .and .i64 t900 a1) == t900) = false := beq_eq_false_iff_ne.mpr c40
                  have c40b1 : ((Go.bits .and .i64 t900 a1) != t900) = true := bne_iff_ne.mpr c40
                  have H' := Aside0.mk H
                  clear H
                  have p897 : 0 ≤ (x45_3 : Int) := of_decide_eq_true (by first | (with_reducible assumption) | assumption)
                  have q897 : x45_3 < (t894.length : Int) := of_decide_eq_true (by first | (with_reducible assumption) | assumption)
                  obtain ⟨ad897, e897, hx897_0, hx897_1, hx897_2, hx897_3⟩ := at_T97 (Kd.R_reads' HO_43.out).2.2 x45_3 p897 q897
                  cases e897
                  replace p897 := eq_true p897
                  replace q897 := eq_true q897
                  go_wp2_with (first | ((with_reducible refine gate_dst (N := 12) rfl ?_); refine box_event ?hg (N := 12) ?hd (cs := #[.int .i64 0, .int .i64 0, .int .i64 0, .int .i64 0]) (t := 97) ?hr ?_; (case hd => rfl); (case hg => rfl); (case hr => first | (go_simp; done) | (go_simp; rfl)); intro gb898 hg w44 hbox hb; have n0_ := Aside0.mk (Kd.R_below (Kd.R_elderB (by (with_reducible repeat (first | apply Kd.R_alloc | apply Kd.R_drewN | apply Kd.R_drew)); exact HO_43.out) gb898 (Nat.le_of_eq hg.symm)) hb); have n1_ := Aside0.mk (below_step (by repeat (first | (with_reducible first | exact HB.out | apply below_alloc | apply pw_below_drewN | apply below_drew1) | exact HB.out)) hb); have n2_ := Aside0.mk (hbox); have n3_ := Aside0.mk ((by rw [hg]; exact (below_size (by repeat (first | (with_reducible first | exact HB.out | apply below_alloc | apply pw_below_drewN | apply below_drew1) | exact HB.out))) : w.heap.size ≤ gb898)); have n4_ := Aside0.mk ((by rw [hg]; exact (below_size (by repeat (first | (with_reducible first | exact HB.out | apply below_alloc | apply pw_below_drewN | apply below_drew1) | exact HB.out))) : w.heap.size ≤ gb898)); clear HO_43; clear HB; have HO_43 := n0_; have HB := n1_; have BK898 := n2_; have GW898 := n3_; have GE898 := n4_; clear n0_ n1_ n2_ n3_ n4_; clear hb hbox hg; have hcz45_0 : w44.cell? ⟨gb898, 0, none⟩ = some (.int .i64 0) := (blk_cell BK898.out 0).trans rfl; have hcz45_1 : w44.cell? ⟨gb898, 1, none⟩ = some (.int .i64 0) := (blk_cell BK898.out 1).trans rfl; have hcz45_2 : w44.cell? ⟨gb898, 2, none⟩ = some (.int .i64 0) := (blk_cell BK898.out 2).trans rfl; have hcz45_3 : w44.cell? ⟨gb898, 3, none⟩ = some (.int .i64 0) := (blk_cell BK898.out 3).trans rfl; have hfz45_0 := blk_frozen BK898.out 0; have hfz45_1 := blk_frozen BK898.out 1; have hfz45_2 := blk_frozen BK898.out 2; have hfz45_3 := blk_frozen BK898.out 3) | ((with_reducible refine gate_callee (f := 118) rfl ?_); refine goesL_ (some 59) rfl rfl Try.func118 (by kernel_rfl) rfl #[.pointer (some ad893), .int .i64 ((rd_T97 t894 x45_3).f0), .int .i64 ((rd_T97 t894 x45_3).f1), .int .i64 ((rd_T97 t894 x45_3).f2), .int .i64 ((rd_T97 t894 x45_3).f3)] rfl (by (try simp only [List.map_toArray, List.map_cons, List.map_nil]); first | done | rfl | (simp only [List.length_drop, List.length_take]; rfl)) ?_; (refine (impl_chi_split.calls k3 _ c0 l0 ((rd_T97 t894 x45_3).f0) ((rd_T97 t894 x45_3).f1) ((rd_T97 t894 x45_3).f2) ((rd_T97 t894 x45_3).f3) t899 t900 _ ?side1 ?side2 A31.out).mono ?_); (case side1 => exact Kd.C_below HR0.out (by repeat (first | (with_reducible first | exact HB.out | apply below_alloc | apply pw_below_drewN | apply below_drew1 | refine below_set ?_ GE898.out) | exact HB.out))); (case side2 => exact HC0.out); rintro e w46 ⟨rfl, hb⟩; refine ⟨_, rfl, ?_⟩; have n0_ := Aside0.mk (Kd.R_below (by (with_reducible repeat (first | apply Kd.R_alloc | apply Kd.R_drewN | apply Kd.R_drew)); exact (Kd.R_mono (Kd.R_far (p := ⟨gb898, 3, none⟩) (Kd.R_far (p := ⟨gb898, 2, none⟩) (Kd.R_far (p := ⟨gb898, 1, none⟩) (Kd.R_far (p := ⟨gb898, 0, none⟩) (Kd.R_mono HO_43.out (fun k_ hk => (⟨hk, hk.2⟩ : _ ∧ k_ ≠ gb898))) (fun _ hk => hk.2) (.int .i64 ((rd_T97 t894 x45_3).f0))) (fun _ hk => hk.2) (.int .i64 ((rd_T97 t894 x45_3).f1))) (fun _ hk => hk.2) (.int .i64 ((rd_T97 t894 x45_3).f2))) (fun _ hk => hk.2) (.int .i64 ((rd_T97 t894 x45_3).f3))) (fun _ h_ => h_.1))) hb); have n1_ := Aside0.mk (blk_below (g := gb898) (o := .cells #[.int .i64 ((rd_T97 t894 x45_3).f0), .int .i64 ((rd_T97 t894 x45_3).f1), .int .i64 ((rd_T97 t894 x45_3).f2), .int .i64 ((rd_T97 t894 x45_3).f3)] 97 (0, 0)) (by (with_reducible repeat (first | refine blk_drewN ?_ _ | refine blk_drew ?_ | refine blk_alloc ?_ _)); refine blk_put (cs := #[.int .i64 ((rd_T97 t894 x45_3).f0), .int .i64 ((rd_T97 t894 x45_3).f1), .int .i64 ((rd_T97 t894 x45_3).f2), .int .i64 0]) ?_ 3 _ rfl; (with_reducible repeat (first | refine blk_drewN ?_ _ | refine blk_drew ?_ | refine blk_alloc ?_ _)); refine blk_put (cs := #[.int .i64 ((rd_T97 t894 x45_3).f0), .int .i64 ((rd_T97 t894 x45_3).f1), .int .i64 0, .int .i64 0]) ?_ 2 _ rfl; (with_reducible repeat (first | refine blk_drewN ?_ _ | refine blk_drew ?_ | refine blk_alloc ?_ _)); refine blk_put (cs := #[.int .i64 ((rd_T97 t894 x45_3).f0), .int .i64 0, .int .i64 0, .int .i64 0]) ?_ 1 _ rfl; (with_reducible repeat (first | refine blk_drewN ?_ _ | refine blk_drew ?_ | refine blk_alloc ?_ _)); refine blk_put (cs := #[.int .i64 0, .int .i64 0, .int .i64 0, .int .i64 0]) ?_ 0 _ rfl; (with_reducible repeat (first | refine blk_drewN ?_ _ | refine blk_drew ?_ | refine blk_alloc ?_ _)); exact BK898.out) hb); have n2_ := Aside0.mk (below_step (by repeat (first | (with_reducible first | exact HB.out | apply below_alloc | apply pw_below_drewN | apply below_drew1 | refine below_set ?_ GE898.out) | exact HB.out)) hb); clear HO_43; clear BK898; clear HB; have HO_43 := n0_; have BK898 := n1_; have HB := n2_; clear n0_ n1_ n2_; (try clear hb); (try clear hb2); (try clear hk); (try clear hi)) | ((with_reducible refine gate_callee (f := 108) rfl ?_); refine goesL_ (some 64) rfl rfl Try.func108 (by kernel_rfl) rfl #[.int .u64 (IntKind.u64.wrap (t899))] rfl (by (try simp only [List.map_toArray, List.map_cons, List.map_nil]); first | done | rfl | (simp only [List.length_drop, List.length_take]; rfl)) ?_; (with_reducible refine (bits_OnesCount.calls (IntKind.u64.wrap (t899)) t901 _ A32.out).mono ?_); rintro e w' ⟨rfl, ⟨nd, rfl⟩⟩; refine ⟨_, rfl, ?_⟩))
                  go_roundg k3
                  case measure => have := HK1.out; have := HK2.out; have := HK3.out; omega
                  case rel => exact ⟨(wrap64 (x45_3 + 1)), (by first | rfl | (simp; done) | (simp [*]; done)), H', ⟨by have := HK1.out; have := HK2.out; have := HK3.out; omega⟩, ⟨by (with_reducible repeat (first | apply Kd.R_alloc | apply Kd.R_drewN | apply Kd.R_drew)); exact Kd.R_mono HO_43.out (fun _ hk => trivial)⟩, ⟨by repeat (first | (with_reducible first | exact HB.out | apply below_alloc | apply pw_below_drewN | apply below_drew1 | refine below_set ?_ GE898.out) | exact HB.out)⟩⟩
                ·rw [if_neg c39] at H
                 have c39b0 : ((Go.bits .and .i64 t899 a2) == t899) = false := beq_eq_false_iff_ne.mpr c39
                 have c39b1 : ((Go.bits .and .i64 t899 a2) != t899) = true := bne_iff_ne.mpr c39
                 have H' := Aside0.mk H
                 clear H
                 have p897 : 0 ≤ (x45_3 : Int) := of_decide_eq_true (by first | (with_reducible assumption) | assumption)
                 have q897 : x45_3 < (t894.length : Int) := of_decide_eq_true (by first | (with_reducible assumption) | assumption)
                 obtain ⟨ad897, e897, hx897_0, hx897_1, hx897_2, hx897_3⟩ := at_T97 (Kd.R_reads' HO_43.out).2.2 x45_3 p897 q897
                 cases e897
                 replace p897 := eq_true p897
                 replace q897 := eq_true q897
                 go_wp2_with (first | ((with_reducible refine gate_dst (N := 12) rfl ?_); refine box_event ?hg (N := 12) ?hd (cs := #[.int .i64 0, .int .i64 0, .int .i64 0, .int .i64 0]) (t := 97) ?hr ?_; (case hd => rfl); (case hg => rfl); (case hr => first | (go_simp; done) | (go_simp; rfl)); intro gb898 hg w47 hbox hb; have n0_ := Aside0.mk (Kd.R_below (Kd.R_elderB (by (with_reducible repeat (first | apply Kd.R_alloc | apply Kd.R_drewN | apply Kd.R_drew)); exact HO_43.out) gb898 (Nat.le_of_eq hg.symm)) hb); have n1_ := Aside0.mk (below_step (by repeat (first | (with_reducible first | exact HB.out | apply below_alloc | apply pw_below_drewN | apply below_drew1) | exact HB.out)) hb); have n2_ := Aside0.mk (hbox); have n3_ := Aside0.mk ((by rw [hg]; exact (below_size (by repeat (first | (with_reducible first | exact HB.out | apply below_alloc | apply pw_below_drewN | apply below_drew1) | exact HB.out))) : w.heap.size ≤ gb898)); have n4_ := Aside0.mk ((by rw [hg]; exact (below_size (by repeat (first | (with_reducible first | exact HB.out | apply below_alloc | apply pw_below_drewN | apply below_drew1) | exact HB.out))) : w.heap.size ≤ gb898)); clear HO_43; clear HB; have HO_43 := n0_; have HB := n1_; have BK898 := n2_; have GW898 := n3_; have GE898 := n4_; clear n0_ n1_ n2_ n3_ n4_; clear hb hbox hg; have hcz48_0 : w47.cell? ⟨gb898, 0, none⟩ = some (.int .i64 0) := (blk_cell BK898.out 0).trans rfl; have hcz48_1 : w47.cell? ⟨gb898, 1, none⟩ = some (.int .i64 0) := (blk_cell BK898.out 1).trans rfl; have hcz48_2 : w47.cell? ⟨gb898, 2, none⟩ = some (.int .i64 0) := (blk_cell BK898.out 2).trans rfl; have hcz48_3 : w47.cell? ⟨gb898, 3, none⟩ = some (.int .i64 0) := (blk_cell BK898.out 3).trans rfl; have hfz48_0 := blk_frozen BK898.out 0; have hfz48_1 := blk_frozen BK898.out 1; have hfz48_2 := blk_frozen BK898.out 2; have hfz48_3 := blk_frozen BK898.out 3) | ((with_reducible refine gate_callee (f := 118) rfl ?_); refine goesL_ (some 59) rfl rfl Try.func118 (by kernel_rfl) rfl #[.pointer (some ad893), .int .i64 ((rd_T97 t894 x45_3).f0), .int .i64 ((rd_T97 t894 x45_3).f1), .int .i64 ((rd_T97 t894 x45_3).f2), .int .i64 ((rd_T97 t894 x45_3).f3)] rfl (by (try simp only [List.map_toArray, List.map_cons, List.map_nil]); first | done | rfl | (simp only [List.length_drop, List.length_take]; rfl)) ?_; (refine (impl_chi_split.calls k3 _ c0 l0 ((rd_T97 t894 x45_3).f0) ((rd_T97 t894 x45_3).f1) ((rd_T97 t894 x45_3).f2) ((rd_T97 t894 x45_3).f3) t899 t900 _ ?side1 ?side2 A31.out).mono ?_); (case side1 => exact Kd.C_below HR0.out (by repeat (first | (with_reducible first | exact HB.out | apply below_alloc | apply pw_below_drewN | apply below_drew1 | refine below_set ?_ GE898.out) | exact HB.out))); (case side2 => exact HC0.out); rintro e w49 ⟨rfl, hb⟩; refine ⟨_, rfl, ?_⟩; have n0_ := Aside0.mk (Kd.R_below (by (with_reducible repeat (first | apply Kd.R_alloc | apply Kd.R_drewN | apply Kd.R_drew)); exact (Kd.R_mono (Kd.R_far (p := ⟨gb898, 3, none⟩) (Kd.R_far (p := ⟨gb898, 2, none⟩) (Kd.R_far (p := ⟨gb898, 1, none⟩) (Kd.R_far (p := ⟨gb898, 0, none⟩) (Kd.R_mono HO_43.out (fun k_ hk => (⟨hk, hk.2⟩ : _ ∧ k_ ≠ gb898))) (fun _ hk => hk.2) (.int .i64 ((rd_T97 t894 x45_3).f0))) (fun _ hk => hk.2) (.int .i64 ((rd_T97 t894 x45_3).f1))) (fun _ hk => hk.2) (.int .i64 ((rd_T97 t894 x45_3).f2))) (fun _ hk => hk.2) (.int .i64 ((rd_T97 t894 x45_3).f3))) (fun _ h_ => h_.1))) hb); have n1_ := Aside0.mk (blk_below (g := gb898) (o := .cells #[.int .i64 ((rd_T97 t894 x45_3).f0), .int .i64 ((rd_T97 t894 x45_3).f1), .int .i64 ((rd_T97 t894 x45_3).f2), .int .i64 ((rd_T97 t894 x45_3).f3)] 97 (0, 0)) (by (with_reducible repeat (first | refine blk_drewN ?_ _ | refine blk_drew ?_ | refine blk_alloc ?_ _)); refine blk_put (cs := #[.int .i64 ((rd_T97 t894 x45_3).f0), .int .i64 ((rd_T97 t894 x45_3).f1), .int .i64 ((rd_T97 t894 x45_3).f2), .int .i64 0]) ?_ 3 _ rfl; (with_reducible repeat (first | refine blk_drewN ?_ _ | refine blk_drew ?_ | refine blk_alloc ?_ _)); refine blk_put (cs := #[.int .i64 ((rd_T97 t894 x45_3).f0), .int .i64 ((rd_T97 t894 x45_3).f1), .int .i64 0, .int .i64 0]) ?_ 2 _ rfl; (with_reducible repeat (first | refine blk_drewN ?_ _ | refine blk_drew ?_ | refine blk_alloc ?_ _)); refine blk_put (cs := #[.int .i64 ((rd_T97 t894 x45_3).f0), .int .i64 0, .int .i64 0, .int .i64 0]) ?_ 1 _ rfl; (with_reducible repeat (first | refine blk_drewN ?_ _ | refine blk_drew ?_ | refine blk_alloc ?_ _)); refine blk_put (cs := #[.int .i64 0, .int .i64 0, .int .i64 0, .int .i64 0]) ?_ 0 _ rfl; (with_reducible repeat (first | refine blk_drewN ?_ _ | refine blk_drew ?_ | refine blk_alloc ?_ _)); exact BK898.out) hb); have n2_ := Aside0.mk (below_step (by repeat (first | (with_reducible first | exact HB.out | apply below_alloc | apply pw_below_drewN | apply below_drew1 | refine below_set ?_ GE898.out) | exact HB.out)) hb); clear HO_43; clear BK898; clear HB; have HO_43 := n0_; have BK898 := n1_; have HB := n2_; clear n0_ n1_ n2_; (try clear hb); (try clear hb2); (try clear hk); (try clear hi)) | ((with_reducible refine gate_callee (f := 108) rfl ?_); refine goesL_ (some 64) rfl rfl Try.func108 (by kernel_rfl) rfl #[.int .u64 (IntKind.u64.wrap (t899))] rfl (by (try simp only [List.map_toArray, List.map_cons, List.map_nil]); first | done | rfl | (simp only [List.length_drop, List.length_take]; rfl)) ?_; (with_reducible refine (bits_OnesCount.calls (IntKind.u64.wrap (t899)) t901 _ A32.out).mono ?_); rintro e w' ⟨rfl, ⟨nd, rfl⟩⟩; refine ⟨_, rfl, ?_⟩))
                 go_roundg k3
                 case measure => have := HK1.out; have := HK2.out; have := HK3.out; omega
                 case rel => exact ⟨(wrap64 (x45_3 + 1)), (by first | rfl | (simp; done) | (simp [*]; done)), H', ⟨by have := HK1.out; have := HK2.out; have := HK3.out; omega⟩, ⟨by (with_reducible repeat (first | apply Kd.R_alloc | apply Kd.R_drewN | apply Kd.R_drew)); exact Kd.R_mono HO_43.out (fun _ hk => trivial)⟩, ⟨by repeat (first | (with_reducible first | exact HB.out | apply below_alloc | apply pw_below_drewN | apply below_drew1 | refine below_set ?_ GE898.out) | exact HB.out)⟩⟩
              ·rw [if_neg c34] at H
               have c34b0 : ((Go.bits .and .i64 t899 a1) == t899) = false := beq_eq_false_iff_ne.mpr c34
               have c34b1 : ((Go.bits .and .i64 t899 a1) != t899) = true := bne_iff_ne.mpr c34
               by_cases c50 : (Go.bits .and .i64 t899 a2) = t899
               ·rw [if_pos c50] at H
                have c50b0 : ((Go.bits .and .i64 t899 a2) == t899) = true := beq_iff_eq.mpr c50
                have c50b1 : ((Go.bits .and .i64 t899 a2) != t899) = false := bne_eq_false_iff_eq.mpr c50
                clear c50
                by_cases c51 : (Go.bits .and .i64 t900 a1) = t900
                ·rw [if_pos c51] at H
                 have c51b0 : ((Go.bits .and .i64 t900 a1) == t900) = true := beq_iff_eq.mpr c51
                 have c51b1 : ((Go.bits .and .i64 t900 a1) != t900) = false := bne_eq_false_iff_eq.mpr c51
                 clear c51
                 obtain rfl := Option.some.inj H
                 have p897 : 0 ≤ (x45_3 : Int) := of_decide_eq_true (by first | (with_reducible assumption) | assumption)
                 have q897 : x45_3 < (t894.length : Int) := of_decide_eq_true (by first | (with_reducible assumption) | assumption)
                 obtain ⟨ad897, e897, hx897_0, hx897_1, hx897_2, hx897_3⟩ := at_T97 (Kd.R_reads' HO_43.out).2.2 x45_3 p897 q897
                 cases e897
                 replace p897 := eq_true p897
                 replace q897 := eq_true q897
                 go_wp2_with (first | ((with_reducible refine gate_dst (N := 12) rfl ?_); refine box_event ?hg (N := 12) ?hd (cs := #[.int .i64 0, .int .i64 0, .int .i64 0, .int .i64 0]) (t := 97) ?hr ?_; (case hd => rfl); (case hg => rfl); (case hr => first | (go_simp; done) | (go_simp; rfl)); intro gb898 hg w52 hbox hb; have n0_ := Aside0.mk (Kd.R_below (Kd.R_elderB (by (with_reducible repeat (first | apply Kd.R_alloc | apply Kd.R_drewN | apply Kd.R_drew)); exact HO_43.out) gb898 (Nat.le_of_eq hg.symm)) hb); have n1_ := Aside0.mk (below_step (by repeat (first | (with_reducible first | exact HB.out | apply below_alloc | apply pw_below_drewN | apply below_drew1) | exact HB.out)) hb); have n2_ := Aside0.mk (hbox); have n3_ := Aside0.mk ((by rw [hg]; exact (below_size (by repeat (first | (with_reducible first | exact HB.out | apply below_alloc | apply pw_below_drewN | apply below_drew1) | exact HB.out))) : w.heap.size ≤ gb898)); have n4_ := Aside0.mk ((by rw [hg]; exact (below_size (by repeat (first | (with_reducible first | exact HB.out | apply below_alloc | apply pw_below_drewN | apply below_drew1) | exact HB.out))) : w.heap.size ≤ gb898)); clear HO_43; clear HB; have HO_43 := n0_; have HB := n1_; have BK898 := n2_; have GW898 := n3_; have GE898 := n4_; clear n0_ n1_ n2_ n3_ n4_; clear hb hbox hg; have hcz53_0 : w52.cell? ⟨gb898, 0, none⟩ = some (.int .i64 0) := (blk_cell BK898.out 0).trans rfl; have hcz53_1 : w52.cell? ⟨gb898, 1, none⟩ = some (.int .i64 0) := (blk_cell BK898.out 1).trans rfl; have hcz53_2 : w52.cell? ⟨gb898, 2, none⟩ = some (.int .i64 0) := (blk_cell BK898.out 2).trans rfl; have hcz53_3 : w52.cell? ⟨gb898, 3, none⟩ = some (.int .i64 0) := (blk_cell BK898.out 3).trans rfl; have hfz53_0 := blk_frozen BK898.out 0; have hfz53_1 := blk_frozen BK898.out 1; have hfz53_2 := blk_frozen BK898.out 2; have hfz53_3 := blk_frozen BK898.out 3) | ((with_reducible refine gate_callee (f := 118) rfl ?_); refine goesL_ (some 59) rfl rfl Try.func118 (by kernel_rfl) rfl #[.pointer (some ad893), .int .i64 ((rd_T97 t894 x45_3).f0), .int .i64 ((rd_T97 t894 x45_3).f1), .int .i64 ((rd_T97 t894 x45_3).f2), .int .i64 ((rd_T97 t894 x45_3).f3)] rfl (by (try simp only [List.map_toArray, List.map_cons, List.map_nil]); first | done | rfl | (simp only [List.length_drop, List.length_take]; rfl)) ?_; (refine (impl_chi_split.calls k3 _ c0 l0 ((rd_T97 t894 x45_3).f0) ((rd_T97 t894 x45_3).f1) ((rd_T97 t894 x45_3).f2) ((rd_T97 t894 x45_3).f3) t899 t900 _ ?side1 ?side2 A31.out).mono ?_); (case side1 => exact Kd.C_below HR0.out (by repeat (first | (with_reducible first | exact HB.out | apply below_alloc | apply pw_below_drewN | apply below_drew1 | refine below_set ?_ GE898.out) | exact HB.out))); (case side2 => exact HC0.out); rintro e w54 ⟨rfl, hb⟩; refine ⟨_, rfl, ?_⟩; have n0_ := Aside0.mk (Kd.R_below (by (with_reducible repeat (first | apply Kd.R_alloc | apply Kd.R_drewN | apply Kd.R_drew)); exact (Kd.R_mono (Kd.R_far (p := ⟨gb898, 3, none⟩) (Kd.R_far (p := ⟨gb898, 2, none⟩) (Kd.R_far (p := ⟨gb898, 1, none⟩) (Kd.R_far (p := ⟨gb898, 0, none⟩) (Kd.R_mono HO_43.out (fun k_ hk => (⟨hk, hk.2⟩ : _ ∧ k_ ≠ gb898))) (fun _ hk => hk.2) (.int .i64 ((rd_T97 t894 x45_3).f0))) (fun _ hk => hk.2) (.int .i64 ((rd_T97 t894 x45_3).f1))) (fun _ hk => hk.2) (.int .i64 ((rd_T97 t894 x45_3).f2))) (fun _ hk => hk.2) (.int .i64 ((rd_T97 t894 x45_3).f3))) (fun _ h_ => h_.1))) hb); have n1_ := Aside0.mk (blk_below (g := gb898) (o := .cells #[.int .i64 ((rd_T97 t894 x45_3).f0), .int .i64 ((rd_T97 t894 x45_3).f1), .int .i64 ((rd_T97 t894 x45_3).f2), .int .i64 ((rd_T97 t894 x45_3).f3)] 97 (0, 0)) (by (with_reducible repeat (first | refine blk_drewN ?_ _ | refine blk_drew ?_ | refine blk_alloc ?_ _)); refine blk_put (cs := #[.int .i64 ((rd_T97 t894 x45_3).f0), .int .i64 ((rd_T97 t894 x45_3).f1), .int .i64 ((rd_T97 t894 x45_3).f2), .int .i64 0]) ?_ 3 _ rfl; (with_reducible repeat (first | refine blk_drewN ?_ _ | refine blk_drew ?_ | refine blk_alloc ?_ _)); refine blk_put (cs := #[.int .i64 ((rd_T97 t894 x45_3).f0), .int .i64 ((rd_T97 t894 x45_3).f1), .int .i64 0, .int .i64 0]) ?_ 2 _ rfl; (with_reducible repeat (first | refine blk_drewN ?_ _ | refine blk_drew ?_ | refine blk_alloc ?_ _)); refine blk_put (cs := #[.int .i64 ((rd_T97 t894 x45_3).f0), .int .i64 0, .int .i64 0, .int .i64 0]) ?_ 1 _ rfl; (with_reducible repeat (first | refine blk_drewN ?_ _ | refine blk_drew ?_ | refine blk_alloc ?_ _)); refine blk_put (cs := #[.int .i64 0, .int .i64 0, .int .i64 0, .int .i64 0]) ?_ 0 _ rfl; (with_reducible repeat (first | refine blk_drewN ?_ _ | refine blk_drew ?_ | refine blk_alloc ?_ _)); exact BK898.out) hb); have n2_ := Aside0.mk (below_step (by repeat (first | (with_reducible first | exact HB.out | apply below_alloc | apply pw_below_drewN | apply below_drew1 | refine below_set ?_ GE898.out) | exact HB.out)) hb); clear HO_43; clear BK898; clear HB; have HO_43 := n0_; have BK898 := n1_; have HB := n2_; clear n0_ n1_ n2_; (try clear hb); (try clear hb2); (try clear hk); (try clear hi)) | ((with_reducible refine gate_callee (f := 108) rfl ?_); refine goesL_ (some 64) rfl rfl Try.func108 (by kernel_rfl) rfl #[.int .u64 (IntKind.u64.wrap (t899))] rfl (by (try simp only [List.map_toArray, List.map_cons, List.map_nil]); first | done | rfl | (simp only [List.length_drop, List.length_take]; rfl)) ?_; (with_reducible refine (bits_OnesCount.calls (IntKind.u64.wrap (t899)) t901 _ A32.out).mono ?_); rintro e w' ⟨rfl, ⟨nd, rfl⟩⟩; refine ⟨_, rfl, ?_⟩))
                 go_ret
                 exact ⟨by first | rfl | (simp [errW_none, errW_some] <;> rfl) | (simp [*, errW_none, errW_some] <;> rfl), by repeat (first | (with_reducible first | exact HB.out | apply below_alloc | apply pw_below_drewN | apply below_drew1 | refine below_set ?_ GE898.out) | exact HB.out)⟩
                ·rw [if_neg c51] at H
                 have c51b0 : ((Go.bits .and .i64 t900 a1) == t900) = false := beq_eq_false_iff_ne.mpr c51
                 have c51b1 : ((Go.bits .and .i64 t900 a1) != t900) = true := bne_iff_ne.mpr c51
                 have H' := Aside0.mk H
                 clear H
                 have p897 : 0 ≤ (x45_3 : Int) := of_decide_eq_true (by first | (with_reducible assumption) | assumption)
                 have q897 : x45_3 < (t894.length : Int) := of_decide_eq_true (by first | (with_reducible assumption) | assumption)
                 obtain ⟨ad897, e897, hx897_0, hx897_1, hx897_2, hx897_3⟩ := at_T97 (Kd.R_reads' HO_43.out).2.2 x45_3 p897 q897
                 cases e897
                 replace p897 := eq_true p897
                 replace q897 := eq_true q897
                 go_wp2_with (first | ((with_reducible refine gate_dst (N := 12) rfl ?_); refine box_event ?hg (N := 12) ?hd (cs := #[.int .i64 0, .int .i64 0, .int .i64 0, .int .i64 0]) (t := 97) ?hr ?_; (case hd => rfl); (case hg => rfl); (case hr => first | (go_simp; done) | (go_simp; rfl)); intro gb898 hg w55 hbox hb; have n0_ := Aside0.mk (Kd.R_below (Kd.R_elderB (by (with_reducible repeat (first | apply Kd.R_alloc | apply Kd.R_drewN | apply Kd.R_drew)); exact HO_43.out) gb898 (Nat.le_of_eq hg.symm)) hb); have n1_ := Aside0.mk (below_step (by repeat (first | (with_reducible first | exact HB.out | apply below_alloc | apply pw_below_drewN | apply below_drew1) | exact HB.out)) hb); have n2_ := Aside0.mk (hbox); have n3_ := Aside0.mk ((by rw [hg]; exact (below_size (by repeat (first | (with_reducible first | exact HB.out | apply below_alloc | apply pw_below_drewN | apply below_drew1) | exact HB.out))) : w.heap.size ≤ gb898)); have n4_ := Aside0.mk ((by rw [hg]; exact (below_size (by repeat (first | (with_reducible first | exact HB.out | apply below_alloc | apply pw_below_drewN | apply below_drew1) | exact HB.out))) : w.heap.size ≤ gb898)); clear HO_43; clear HB; have HO_43 := n0_; have HB := n1_; have BK898 := n2_; have GW898 := n3_; have GE898 := n4_; clear n0_ n1_ n2_ n3_ n4_; clear hb hbox hg; have hcz56_0 : w55.cell? ⟨gb898, 0, none⟩ = some (.int .i64 0) := (blk_cell BK898.out 0).trans rfl; have hcz56_1 : w55.cell? ⟨gb898, 1, none⟩ = some (.int .i64 0) := (blk_cell BK898.out 1).trans rfl; have hcz56_2 : w55.cell? ⟨gb898, 2, none⟩ = some (.int .i64 0) := (blk_cell BK898.out 2).trans rfl; have hcz56_3 : w55.cell? ⟨gb898, 3, none⟩ = some (.int .i64 0) := (blk_cell BK898.out 3).trans rfl; have hfz56_0 := blk_frozen BK898.out 0; have hfz56_1 := blk_frozen BK898.out 1; have hfz56_2 := blk_frozen BK898.out 2; have hfz56_3 := blk_frozen BK898.out 3) | ((with_reducible refine gate_callee (f := 118) rfl ?_); refine goesL_ (some 59) rfl rfl Try.func118 (by kernel_rfl) rfl #[.pointer (some ad893), .int .i64 ((rd_T97 t894 x45_3).f0), .int .i64 ((rd_T97 t894 x45_3).f1), .int .i64 ((rd_T97 t894 x45_3).f2), .int .i64 ((rd_T97 t894 x45_3).f3)] rfl (by (try simp only [List.map_toArray, List.map_cons, List.map_nil]); first | done | rfl | (simp only [List.length_drop, List.length_take]; rfl)) ?_; (refine (impl_chi_split.calls k3 _ c0 l0 ((rd_T97 t894 x45_3).f0) ((rd_T97 t894 x45_3).f1) ((rd_T97 t894 x45_3).f2) ((rd_T97 t894 x45_3).f3) t899 t900 _ ?side1 ?side2 A31.out).mono ?_); (case side1 => exact Kd.C_below HR0.out (by repeat (first | (with_reducible first | exact HB.out | apply below_alloc | apply pw_below_drewN | apply below_drew1 | refine below_set ?_ GE898.out) | exact HB.out))); (case side2 => exact HC0.out); rintro e w57 ⟨rfl, hb⟩; refine ⟨_, rfl, ?_⟩; have n0_ := Aside0.mk (Kd.R_below (by (with_reducible repeat (first | apply Kd.R_alloc | apply Kd.R_drewN | apply Kd.R_drew)); exact (Kd.R_mono (Kd.R_far (p := ⟨gb898, 3, none⟩) (Kd.R_far (p := ⟨gb898, 2, none⟩) (Kd.R_far (p := ⟨gb898, 1, none⟩) (Kd.R_far (p := ⟨gb898, 0, none⟩) (Kd.R_mono HO_43.out (fun k_ hk => (⟨hk, hk.2⟩ : _ ∧ k_ ≠ gb898))) (fun _ hk => hk.2) (.int .i64 ((rd_T97 t894 x45_3).f0))) (fun _ hk => hk.2) (.int .i64 ((rd_T97 t894 x45_3).f1))) (fun _ hk => hk.2) (.int .i64 ((rd_T97 t894 x45_3).f2))) (fun _ hk => hk.2) (.int .i64 ((rd_T97 t894 x45_3).f3))) (fun _ h_ => h_.1))) hb); have n1_ := Aside0.mk (blk_below (g := gb898) (o := .cells #[.int .i64 ((rd_T97 t894 x45_3).f0), .int .i64 ((rd_T97 t894 x45_3).f1), .int .i64 ((rd_T97 t894 x45_3).f2), .int .i64 ((rd_T97 t894 x45_3).f3)] 97 (0, 0)) (by (with_reducible repeat (first | refine blk_drewN ?_ _ | refine blk_drew ?_ | refine blk_alloc ?_ _)); refine blk_put (cs := #[.int .i64 ((rd_T97 t894 x45_3).f0), .int .i64 ((rd_T97 t894 x45_3).f1), .int .i64 ((rd_T97 t894 x45_3).f2), .int .i64 0]) ?_ 3 _ rfl; (with_reducible repeat (first | refine blk_drewN ?_ _ | refine blk_drew ?_ | refine blk_alloc ?_ _)); refine blk_put (cs := #[.int .i64 ((rd_T97 t894 x45_3).f0), .int .i64 ((rd_T97 t894 x45_3).f1), .int .i64 0, .int .i64 0]) ?_ 2 _ rfl; (with_reducible repeat (first | refine blk_drewN ?_ _ | refine blk_drew ?_ | refine blk_alloc ?_ _)); refine blk_put (cs := #[.int .i64 ((rd_T97 t894 x45_3).f0), .int .i64 0, .int .i64 0, .int .i64 0]) ?_ 1 _ rfl; (with_reducible repeat (first | refine blk_drewN ?_ _ | refine blk_drew ?_ | refine blk_alloc ?_ _)); refine blk_put (cs := #[.int .i64 0, .int .i64 0, .int .i64 0, .int .i64 0]) ?_ 0 _ rfl; (with_reducible repeat (first | refine blk_drewN ?_ _ | refine blk_drew ?_ | refine blk_alloc ?_ _)); exact BK898.out) hb); have n2_ := Aside0.mk (below_step (by repeat (first | (with_reducible first | exact HB.out | apply below_alloc | apply pw_below_drewN | apply below_drew1 | refine below_set ?_ GE898.out) | exact HB.out)) hb); clear HO_43; clear BK898; clear HB; have HO_43 := n0_; have BK898 := n1_; have HB := n2_; clear n0_ n1_ n2_; (try clear hb); (try clear hb2); (try clear hk); (try clear hi)) | ((with_reducible refine gate_callee (f := 108) rfl ?_); refine goesL_ (some 64) rfl rfl Try.func108 (by kernel_rfl) rfl #[.int .u64 (IntKind.u64.wrap (t899))] rfl (by (try simp only [List.map_toArray, List.map_cons, List.map_nil]); first | done | rfl | (simp only [List.length_drop, List.length_take]; rfl)) ?_; (with_reducible refine (bits_OnesCount.calls (IntKind.u64.wrap (t899)) t901 _ A32.out).mono ?_); rintro e w' ⟨rfl, ⟨nd, rfl⟩⟩; refine ⟨_, rfl, ?_⟩))
                 go_roundg k3
                 case measure => have := HK1.out; have := HK2.out; have := HK3.out; omega
                 case rel => exact ⟨(wrap64 (x45_3 + 1)), (by first | rfl | (simp; done) | (simp [*]; done)), H', ⟨by have := HK1.out; have := HK2.out; have := HK3.out; omega⟩, ⟨by (with_reducible repeat (first | apply Kd.R_alloc | apply Kd.R_drewN | apply Kd.R_drew)); exact Kd.R_mono HO_43.out (fun _ hk => trivial)⟩, ⟨by repeat (first | (with_reducible first | exact HB.out | apply below_alloc | apply pw_below_drewN | apply below_drew1 | refine below_set ?_ GE898.out) | exact HB.out)⟩⟩
               ·rw [if_neg c50] at H
                have c50b0 : ((Go.bits .and .i64 t899 a2) == t899) = false := beq_eq_false_iff_ne.mpr c50
                have c50b1 : ((Go.bits .and .i64 t899 a2) != t899) = true := bne_iff_ne.mpr c50
                have H' := Aside0.mk H
                clear H
                have p897 : 0 ≤ (x45_3 : Int) := of_decide_eq_true (by first | (with_reducible assumption) | assumption)
                have q897 : x45_3 < (t894.length : Int) := of_decide_eq_true (by first | (with_reducible assumption) | assumption)
                obtain ⟨ad897, e897, hx897_0, hx897_1, hx897_2, hx897_3⟩ := at_T97 (Kd.R_reads' HO_43.out).2.2 x45_3 p897 q897
                cases e897
                replace p897 := eq_true p897
                replace q897 := eq_true q897
                go_wp2_with (first | ((with_reducible refine gate_dst (N := 12) rfl ?_); refine box_event ?hg (N := 12) ?hd (cs := #[.int .i64 0, .int .i64 0, .int .i64 0, .int .i64 0]) (t := 97) ?hr ?_; (case hd => rfl); (case hg => rfl); (case hr => first | (go_simp; done) | (go_simp; rfl)); intro gb898 hg w58 hbox hb; have n0_ := Aside0.mk (Kd.R_below (Kd.R_elderB (by (with_reducible repeat (first | apply Kd.R_alloc | apply Kd.R_drewN | apply Kd.R_drew)); exact HO_43.out) gb898 (Nat.le_of_eq hg.symm)) hb); have n1_ := Aside0.mk (below_step (by repeat (first | (with_reducible first | exact HB.out | apply below_alloc | apply pw_below_drewN | apply below_drew1) | exact HB.out)) hb); have n2_ := Aside0.mk (hbox); have n3_ := Aside0.mk ((by rw [hg]; exact (below_size (by repeat (first | (with_reducible first | exact HB.out | apply below_alloc | apply pw_below_drewN | apply below_drew1) | exact HB.out))) : w.heap.size ≤ gb898)); have n4_ := Aside0.mk ((by rw [hg]; exact (below_size (by repeat (first | (with_reducible first | exact HB.out | apply below_alloc | apply pw_below_drewN | apply below_drew1) | exact HB.out))) : w.heap.size ≤ gb898)); clear HO_43; clear HB; have HO_43 := n0_; have HB := n1_; have BK898 := n2_; have GW898 := n3_; have GE898 := n4_; clear n0_ n1_ n2_ n3_ n4_; clear hb hbox hg; have hcz59_0 : w58.cell? ⟨gb898, 0, none⟩ = some (.int .i64 0) := (blk_cell BK898.out 0).trans rfl; have hcz59_1 : w58.cell? ⟨gb898, 1, none⟩ = some (.int .i64 0) := (blk_cell BK898.out 1).trans rfl; have hcz59_2 : w58.cell? ⟨gb898, 2, none⟩ = some (.int .i64 0) := (blk_cell BK898.out 2).trans rfl; have hcz59_3 : w58.cell? ⟨gb898, 3, none⟩ = some (.int .i64 0) := (blk_cell BK898.out 3).trans rfl; have hfz59_0 := blk_frozen BK898.out 0; have hfz59_1 := blk_frozen BK898.out 1; have hfz59_2 := blk_frozen BK898.out 2; have hfz59_3 := blk_frozen BK898.out 3) | ((with_reducible refine gate_callee (f := 118) rfl ?_); refine goesL_ (some 59) rfl rfl Try.func118 (by kernel_rfl) rfl #[.pointer (some ad893), .int .i64 ((rd_T97 t894 x45_3).f0), .int .i64 ((rd_T97 t894 x45_3).f1), .int .i64 ((rd_T97 t894 x45_3).f2), .int .i64 ((rd_T97 t894 x45_3).f3)] rfl (by (try simp only [List.map_toArray, List.map_cons, List.map_nil]); first | done | rfl | (simp only [List.length_drop, List.length_take]; rfl)) ?_; (refine (impl_chi_split.calls k3 _ c0 l0 ((rd_T97 t894 x45_3).f0) ((rd_T97 t894 x45_3).f1) ((rd_T97 t894 x45_3).f2) ((rd_T97 t894 x45_3).f3) t899 t900 _ ?side1 ?side2 A31.out).mono ?_); (case side1 => exact Kd.C_below HR0.out (by repeat (first | (with_reducible first | exact HB.out | apply below_alloc | apply pw_below_drewN | apply below_drew1 | refine below_set ?_ GE898.out) | exact HB.out))); (case side2 => exact HC0.out); rintro e w60 ⟨rfl, hb⟩; refine ⟨_, rfl, ?_⟩; have n0_ := Aside0.mk (Kd.R_below (by (with_reducible repeat (first | apply Kd.R_alloc | apply Kd.R_drewN | apply Kd.R_drew)); exact (Kd.R_mono (Kd.R_far (p := ⟨gb898, 3, none⟩) (Kd.R_far (p := ⟨gb898, 2, none⟩) (Kd.R_far (p := ⟨gb898, 1, none⟩) (Kd.R_far (p := ⟨gb898, 0, none⟩) (Kd.R_mono HO_43.out (fun k_ hk => (⟨hk, hk.2⟩ : _ ∧ k_ ≠ gb898))) (fun _ hk => hk.2) (.int .i64 ((rd_T97 t894 x45_3).f0))) (fun _ hk => hk.2) (.int .i64 ((rd_T97 t894 x45_3).f1))) (fun _ hk => hk.2) (.int .i64 ((rd_T97 t894 x45_3).f2))) (fun _ hk => hk.2) (.int .i64 ((rd_T97 t894 x45_3).f3))) (fun _ h_ => h_.1))) hb); have n1_ := Aside0.mk (blk_below (g := gb898) (o := .cells #[.int .i64 ((rd_T97 t894 x45_3).f0), .int .i64 ((rd_T97 t894 x45_3).f1), .int .i64 ((rd_T97 t894 x45_3).f2), .int .i64 ((rd_T97 t894 x45_3).f3)] 97 (0, 0)) (by (with_reducible repeat (first | refine blk_drewN ?_ _ | refine blk_drew ?_ | refine blk_alloc ?_ _)); refine blk_put (cs := #[.int .i64 ((rd_T97 t894 x45_3).f0), .int .i64 ((rd_T97 t894 x45_3).f1), .int .i64 ((rd_T97 t894 x45_3).f2), .int .i64 0]) ?_ 3 _ rfl; (with_reducible repeat (first | refine blk_drewN ?_ _ | refine blk_drew ?_ | refine blk_alloc ?_ _)); refine blk_put (cs := #[.int .i64 ((rd_T97 t894 x45_3).f0), .int .i64 ((rd_T97 t894 x45_3).f1), .int .i64 0, .int .i64 0]) ?_ 2 _ rfl; (with_reducible repeat (first | refine blk_drewN ?_ _ | refine blk_drew ?_ | refine blk_alloc ?_ _)); refine blk_put (cs := #[.int .i64 ((rd_T97 t894 x45_3).f0), .int .i64 0, .int .i64 0, .int .i64 0]) ?_ 1 _ rfl; (with_reducible repeat (first | refine blk_drewN ?_ _ | refine blk_drew ?_ | refine blk_alloc ?_ _)); refine blk_put (cs := #[.int .i64 0, .int .i64 0, .int .i64 0, .int .i64 0]) ?_ 0 _ rfl; (with_reducible repeat (first | refine blk_drewN ?_ _ | refine blk_drew ?_ | refine blk_alloc ?_ _)); exact BK898.out) hb); have n2_ := Aside0.mk (below_step (by repeat (first | (with_reducible first | exact HB.out | apply below_alloc | apply pw_below_drewN | apply below_drew1 | refine below_set ?_ GE898.out) | exact HB.out)) hb); clear HO_43; clear BK898; clear HB; have HO_43 := n0_; have BK898 := n1_; have HB := n2_; clear n0_ n1_ n2_; (try clear hb); (try clear hb2); (try clear hk); (try clear hi)) | ((with_reducible refine gate_callee (f := 108) rfl ?_); refine goesL_ (some 64) rfl rfl Try.func108 (by kernel_rfl) rfl #[.int .u64 (IntKind.u64.wrap (t899))] rfl (by (try simp only [List.map_toArray, List.map_cons, List.map_nil]); first | done | rfl | (simp only [List.length_drop, List.length_take]; rfl)) ?_; (with_reducible refine (bits_OnesCount.calls (IntKind.u64.wrap (t899)) t901 _ A32.out).mono ?_); rintro e w' ⟨rfl, ⟨nd, rfl⟩⟩; refine ⟨_, rfl, ?_⟩))
                go_roundg k3
                case measure => have := HK1.out; have := HK2.out; have := HK3.out; omega
                case rel => exact ⟨(wrap64 (x45_3 + 1)), (by first | rfl | (simp; done) | (simp [*]; done)), H', ⟨by have := HK1.out; have := HK2.out; have := HK3.out; omega⟩, ⟨by (with_reducible repeat (first | apply Kd.R_alloc | apply Kd.R_drewN | apply Kd.R_drew)); exact Kd.R_mono HO_43.out (fun _ hk => trivial)⟩, ⟨by repeat (first | (with_reducible first | exact HB.out | apply below_alloc | apply pw_below_drewN | apply below_drew1 | refine below_set ?_ GE898.out) | exact HB.out)⟩⟩
             ·rw [if_neg c33] at H
              have c33b0 : (t901 == 2) = false := beq_eq_false_iff_ne.mpr c33
              have c33b1 : (t901 != 2) = true := bne_iff_ne.mpr c33
              have H' := Aside0.mk H
              clear H
              have p897 : 0 ≤ (x45_3 : Int) := of_decide_eq_true (by first | (with_reducible assumption) | assumption)
              have q897 : x45_3 < (t894.length : Int) := of_decide_eq_true (by first | (with_reducible assumption) | assumption)
              obtain ⟨ad897, e897, hx897_0, hx897_1, hx897_2, hx897_3⟩ := at_T97 (Kd.R_reads' HO_43.out).2.2 x45_3 p897 q897
              cases e897
              replace p897 := eq_true p897
              replace q897 := eq_true q897
              go_wp2_with (first | ((with_reducible refine gate_dst (N := 12) rfl ?_); refine box_event ?hg (N := 12) ?hd (cs := #[.int .i64 0, .int .i64 0, .int .i64 0, .int .i64 0]) (t := 97) ?hr ?_; (case hd => rfl); (case hg => rfl); (case hr => first | (go_simp; done) | (go_simp; rfl)); intro gb898 hg w61 hbox hb; have n0_ := Aside0.mk (Kd.R_below (Kd.R_elderB (by (with_reducible repeat (first | apply Kd.R_alloc | apply Kd.R_drewN | apply Kd.R_drew)); exact HO_43.out) gb898 (Nat.le_of_eq hg.symm)) hb); have n1_ := Aside0.mk (below_step (by repeat (first | (with_reducible first | exact HB.out | apply below_alloc | apply pw_below_drewN | apply below_drew1) | exact HB.out)) hb); have n2_ := Aside0.mk (hbox); have n3_ := Aside0.mk ((by rw [hg]; exact (below_size (by repeat (first | (with_reducible first | exact HB.out | apply below_alloc | apply pw_below_drewN | apply below_drew1) | exact HB.out))) : w.heap.size ≤ gb898)); have n4_ := Aside0.mk ((by rw [hg]; exact (below_size (by repeat (first | (with_reducible first | exact HB.out | apply below_alloc | apply pw_below_drewN | apply below_drew1) | exact HB.out))) : w.heap.size ≤ gb898)); clear HO_43; clear HB; have HO_43 := n0_; have HB := n1_; have BK898 := n2_; have GW898 := n3_; have GE898 := n4_; clear n0_ n1_ n2_ n3_ n4_; clear hb hbox hg; have hcz62_0 : w61.cell? ⟨gb898, 0, none⟩ = some (.int .i64 0) := (blk_cell BK898.out 0).trans rfl; have hcz62_1 : w61.cell? ⟨gb898, 1, none⟩ = some (.int .i64 0) := (blk_cell BK898.out 1).trans rfl; have hcz62_2 : w61.cell? ⟨gb898, 2, none⟩ = some (.int .i64 0) := (blk_cell BK898.out 2).trans rfl; have hcz62_3 : w61.cell? ⟨gb898, 3, none⟩ = some (.int .i64 0) := (blk_cell BK898.out 3).trans rfl; have hfz62_0 := blk_frozen BK898.out 0; have hfz62_1 := blk_frozen BK898.out 1; have hfz62_2 := blk_frozen BK898.out 2; have hfz62_3 := blk_frozen BK898.out 3) | ((with_reducible refine gate_callee (f := 118) rfl ?_); refine goesL_ (some 59) rfl rfl Try.func118 (by kernel_rfl) rfl #[.pointer (some ad893), .int .i64 ((rd_T97 t894 x45_3).f0), .int .i64 ((rd_T97 t894 x45_3).f1), .int .i64 ((rd_T97 t894 x45_3).f2), .int .i64 ((rd_T97 t894 x45_3).f3)] rfl (by (try simp only [List.map_toArray, List.map_cons, List.map_nil]); first | done | rfl | (simp only [List.length_drop, List.length_take]; rfl)) ?_; (refine (impl_chi_split.calls k3 _ c0 l0 ((rd_T97 t894 x45_3).f0) ((rd_T97 t894 x45_3).f1) ((rd_T97 t894 x45_3).f2) ((rd_T97 t894 x45_3).f3) t899 t900 _ ?side1 ?side2 A31.out).mono ?_); (case side1 => exact Kd.C_below HR0.out (by repeat (first | (with_reducible first | exact HB.out | apply below_alloc | apply pw_below_drewN | apply below_drew1 | refine below_set ?_ GE898.out) | exact HB.out))); (case side2 => exact HC0.out); rintro e w63 ⟨rfl, hb⟩; refine ⟨_, rfl, ?_⟩; have n0_ := Aside0.mk (Kd.R_below (by (with_reducible repeat (first | apply Kd.R_alloc | apply Kd.R_drewN | apply Kd.R_drew)); exact (Kd.R_mono (Kd.R_far (p := ⟨gb898, 3, none⟩) (Kd.R_far (p := ⟨gb898, 2, none⟩) (Kd.R_far (p := ⟨gb898, 1, none⟩) (Kd.R_far (p := ⟨gb898, 0, none⟩) (Kd.R_mono HO_43.out (fun k_ hk => (⟨hk, hk.2⟩ : _ ∧ k_ ≠ gb898))) (fun _ hk => hk.2) (.int .i64 ((rd_T97 t894 x45_3).f0))) (fun _ hk => hk.2) (.int .i64 ((rd_T97 t894 x45_3).f1))) (fun _ hk => hk.2) (.int .i64 ((rd_T97 t894 x45_3).f2))) (fun _ hk => hk.2) (.int .i64 ((rd_T97 t894 x45_3).f3))) (fun _ h_ => h_.1))) hb); have n1_ := Aside0.mk (blk_below (g := gb898) (o := .cells #[.int .i64 ((rd_T97 t894 x45_3).f0), .int .i64 ((rd_T97 t894 x45_3).f1), .int .i64 ((rd_T97 t894 x45_3).f2), .int .i64 ((rd_T97 t894 x45_3).f3)] 97 (0, 0)) (by (with_reducible repeat (first | refine blk_drewN ?_ _ | refine blk_drew ?_ | refine blk_alloc ?_ _)); refine blk_put (cs := #[.int .i64 ((rd_T97 t894 x45_3).f0), .int .i64 ((rd_T97 t894 x45_3).f1), .int .i64 ((rd_T97 t894 x45_3).f2), .int .i64 0]) ?_ 3 _ rfl; (with_reducible repeat (first | refine blk_drewN ?_ _ | refine blk_drew ?_ | refine blk_alloc ?_ _)); refine blk_put (cs := #[.int .i64 ((rd_T97 t894 x45_3).f0), .int .i64 ((rd_T97 t894 x45_3).f1), .int .i64 0, .int .i64 0]) ?_ 2 _ rfl; (with_reducible repeat (first | refine blk_drewN ?_ _ | refine blk_drew ?_ | refine blk_alloc ?_ _)); refine blk_put (cs := #[.int .i64 ((rd_T97 t894 x45_3).f0), .int .i64 0, .int .i64 0, .int .i64 0]) ?_ 1 _ rfl; (with_reducible repeat (first | refine blk_drewN ?_ _ | refine blk_drew ?_ | refine blk_alloc ?_ _)); refine blk_put (cs := #[.int .i64 0, .int .i64 0, .int .i64 0, .int .i64 0]) ?_ 0 _ rfl; (with_reducible repeat (first | refine blk_drewN ?_ _ | refine blk_drew ?_ | refine blk_alloc ?_ _)); exact BK898.out) hb); have n2_ := Aside0.mk (below_step (by repeat (first | (with_reducible first | exact HB.out | apply below_alloc | apply pw_below_drewN | apply below_drew1 | refine below_set ?_ GE898.out) | exact HB.out)) hb); clear HO_43; clear BK898; clear HB; have HO_43 := n0_; have BK898 := n1_; have HB := n2_; clear n0_ n1_ n2_; (try clear hb); (try clear hb2); (try clear hk); (try clear hi)) | ((with_reducible refine gate_callee (f := 108) rfl ?_); refine goesL_ (some 64) rfl rfl Try.func108 (by kernel_rfl) rfl #[.int .u64 (IntKind.u64.wrap (t899))] rfl (by (try simp only [List.map_toArray, List.map_cons, List.map_nil]); first | done | rfl | (simp only [List.length_drop, List.length_take]; rfl)) ?_; (with_reducible refine (bits_OnesCount.calls (IntKind.u64.wrap (t899)) t901 _ A32.out).mono ?_); rintro e w' ⟨rfl, ⟨nd, rfl⟩⟩; refine ⟨_, rfl, ?_⟩))
              go_roundg k3
              case measure => have := HK1.out; have := HK2.out; have := HK3.out; omega
              case rel => exact ⟨(wrap64 (x45_3 + 1)), (by first | rfl | (simp; done) | (simp [*]; done)), H', ⟨by have := HK1.out; have := HK2.out; have := HK3.out; omega⟩, ⟨by (with_reducible repeat (first | apply Kd.R_alloc | apply Kd.R_drewN | apply Kd.R_drew)); exact Kd.R_mono HO_43.out (fun _ hk => trivial)⟩, ⟨by repeat (first | (with_reducible first | exact HB.out | apply below_alloc | apply pw_below_drewN | apply below_drew1 | refine below_set ?_ GE898.out) | exact HB.out)⟩⟩
            ·rw [if_neg c30] at H
             exact absurd H (by simp)
           ·rw [if_neg c29] at H
            exact absurd H (by simp)
          ·rw [if_neg c28] at H
           have c28b0 : decide (x45_3 < (t894.length : Int)) = false := decide_eq_false c28
           clear c28
           obtain rfl := Option.some.inj H
           go_wp2
           go_ret
           exact ⟨by first | rfl | (simp [errW_none, errW_some] <;> rfl) | (simp [*, errW_none, errW_some] <;> rfl), by repeat (first | (with_reducible first | exact HB.out | apply below_alloc | apply pw_below_drewN | apply below_drew1) | exact HB.out)⟩
       ·rw [if_neg c24] at H
        exact absurd H (by simp)
def impl_PartingOf.l0 : Nat → List Int → Int → Int → ByteArray → Option (Int × Int)
 | 0, _, _, _, _ => none
 | k + 1, x4, x6, x921000, x921001 => (impl_fullSet.f x921000).bind fun t925 => (if x6 ≤ t925 then ((impl_fullSet.f x921000).bind fun t926 => ((impl_chi_haveCommon.f k x4 x6 (Go.bits .andNot .i64 t926 x6)).bind fun t927 => (if t927 = true then (some (x6, Go.bits .andNot .i64 t926 x6)) else (impl_PartingOf.l0 k x4 (wrap64 (x6 + 1)) x921000 x921001)))) else (some (0, 0)))
def impl_PartingOf.f (k : Nat) (a0_0 : Int) (a0_1 : ByteArray) : Option (Int × Int) := (impl_orderOf.f k a0_0 a0_1).bind fun bt921 => (if bt921.2 = true then (impl_PartingOf.l0 k bt921.1 1 a0_0 a0_1) else (some (0, 0)))
theorem impl_PartingOf.mono_l : ∀ k, (∀ y0 y1 y2 y3, LeO (impl_PartingOf.l0 k y0 y1 y2 y3) (impl_PartingOf.l0 (k + 1) y0 y1 y2 y3))
 | 0 => fun _ _ _ _ r h => by simp [impl_PartingOf.l0] at h
 | k + 1 => by
  have ih0 := impl_PartingOf.mono_l k
  ·intro y0 y1 y2 y3
   unfold impl_PartingOf.l0
   repeat' first
   | (with_reducible exact ih0 _ _ _ _)
   | (with_reducible exact impl_chi_haveCommon.mono _ _ _ _)
   | (with_reducible exact impl_orderOf.mono _ _ _)
   | (with_reducible exact LeO.refl _)
   | (with_reducible exact LeO.none _)
   | (with_reducible refine LeO.ite ?_ ?_)
   | (with_reducible refine LeO.bind ?_ (fun _ => ?_))
   | exact ih0 _ _ _ _
   | exact impl_chi_haveCommon.mono _ _ _ _
   | exact impl_orderOf.mono _ _ _
   | exact LeO.none _
   | refine LeO.ite ?_ ?_
   | refine LeO.bind ?_ (fun _ => ?_)
theorem impl_PartingOf.mono : ∀ a0 a1 k, LeO (impl_PartingOf.f k a0 a1) (impl_PartingOf.f (k + 1) a0 a1) := by
 intro a0 a1 k
 have ih0 := impl_PartingOf.mono_l k
 unfold impl_PartingOf.f
 repeat' first
   | (with_reducible exact ih0 _ _ _ _)
   | (with_reducible exact impl_chi_haveCommon.mono _ _ _ _)
   | (with_reducible exact impl_orderOf.mono _ _ _)
   | (with_reducible exact LeO.refl _)
   | (with_reducible exact LeO.none _)
   | (with_reducible refine LeO.ite ?_ ?_)
   | (with_reducible refine LeO.bind ?_ (fun _ => ?_))
   | exact ih0 _ _ _ _
   | exact impl_chi_haveCommon.mono _ _ _ _
   | exact impl_orderOf.mono _ _ _
   | exact LeO.none _
   | refine LeO.ite ?_ ?_
   | refine LeO.bind ?_ (fun _ => ?_)
set_option maxHeartbeats 8000000 in
set_option maxRecDepth 100000 in
theorem impl_PartingOf.calls (k : Nat) (a0_0 : Int) (a0_1 : ByteArray) (r1 : Int) (r2 : Int) (w : World) (h : impl_PartingOf.f k a0_0 a0_1 = some (r1, r2)) :
  Calls Try.prog 42 #[.agg #[.int .i64 a0_0, .string a0_1]] w fun e w' => e = .returned (.tuple #[.int .i64 r1, .int .i64 r2]) ∧ Below w.heap.size w w' := by
 have hu26 := Try.underlying26
 have HB := Aside0.mk (Below.refl w.heap.size w)
 have H : ((impl_orderOf.f k a0_0 a0_1).bind fun bt921 => (if bt921.2 = true then (impl_PartingOf.l0 k bt921.1 1 a0_0 a0_1) else (some (0, 0)))) = some (r1, r2) := h
 clear h
 replace H := Option.bind_eq_some_iff.mp H
 obtain ⟨⟨t921, t924⟩, A20, H⟩ := H
 replace H : (if t924 = true then (impl_PartingOf.l0 k t921 1 a0_0 a0_1) else (some (0, 0))) = some (r1, r2) := H
 have A2 := Aside0.mk A20
 clear A20
 by_cases c3 : t924 = true
 ·subst c3
  have H1 : (impl_PartingOf.l0 k t921 1 a0_0 a0_1) = some (r1, r2) := by rw [if_pos rfl] at H; exact H
  clear H
  have H := H1
  clear H1
  have H' := Aside0.mk H
  clear H
  go_enter Try.func42, Try.ntmps42
  go_wp2_with (first | ((with_reducible refine gate_dst (N := 1) rfl ?_); refine box_event ?hg (N := 1) ?hd (cs := #[.int .i64 a0_0, .string a0_1]) (t := 26) ?hr ?_; (case hd => rfl); (case hg => rfl); (case hr => first | (go_simp; done) | (go_simp; rfl)); intro gb920 hg w4 hbox hb; have n0_ := Aside0.mk (below_step (by repeat (first | (with_reducible first | exact HB.out | apply below_alloc | apply pw_below_drewN | apply below_drew1) | exact HB.out)) hb); have n1_ := Aside0.mk (hbox); have n2_ := Aside0.mk ((by rw [hg]; exact (below_size (by repeat (first | (with_reducible first | exact HB.out | apply below_alloc | apply pw_below_drewN | apply below_drew1) | exact HB.out))) : w.heap.size ≤ gb920)); have n3_ := Aside0.mk ((by rw [hg]; exact (below_size (by repeat (first | (with_reducible first | exact HB.out | apply below_alloc | apply pw_below_drewN | apply below_drew1) | exact HB.out))) : w.heap.size ≤ gb920)); clear HB; have HB := n0_; have BK920 := n1_; have GW920 := n2_; have GE920 := n3_; clear n0_ n1_ n2_ n3_; clear hb hbox hg; have hcz5_0 : w4.cell? ⟨gb920, 0, none⟩ = some (.int .i64 a0_0) := (blk_cell BK920.out 0).trans rfl; have hcz5_1 : w4.cell? ⟨gb920, 1, none⟩ = some (.string a0_1) := (blk_cell BK920.out 1).trans rfl; have hfz5_0 := blk_frozen BK920.out 0; have hfz5_1 := blk_frozen BK920.out 1) | ((with_reducible refine gate_callee (f := 63) rfl ?_); refine goesL_ (some 10) rfl rfl Try.func63 (by kernel_rfl) rfl #[.agg #[.int .i64 a0_0, .string a0_1]] rfl (by (try simp only [List.map_toArray, List.map_cons, List.map_nil]); first | done | rfl | (simp only [List.length_drop, List.length_take]; rfl)) ?_; (with_reducible refine (impl_orderOf.calls k a0_0 a0_1 t921 true _ A2.out).mono ?_); rintro e w6 ⟨v922, rfl, ho0, hb⟩; refine ⟨_, rfl, ?_⟩; have n0_ := Aside0.mk (Kd.R_lower ho0 (below_size (by repeat (first | (with_reducible first | exact HB.out | apply below_alloc | apply pw_below_drewN | apply below_drew1 | refine below_set ?_ GE920.out) | exact HB.out)))); have n1_ := Aside0.mk (blk_below (g := gb920) (o := .cells #[.int .i64 a0_0, .string a0_1] 26 (0, 0)) (by (with_reducible repeat (first | refine blk_drewN ?_ _ | refine blk_drew ?_ | refine blk_alloc ?_ _)); exact BK920.out) hb); have n2_ := Aside0.mk (below_step (by repeat (first | (with_reducible first | exact HB.out | apply below_alloc | apply pw_below_drewN | apply below_drew1 | refine below_set ?_ GE920.out) | exact HB.out)) hb); clear BK920; clear HB; have HO923 := n0_; have BK920 := n1_; have HB := n2_; clear n0_ n1_ n2_; (try clear hb); (try clear hb2); (try clear hk); (try clear hi); (try clear ho0)))
  go_loopg [6] k (fun kq v6 w' => ∃ (x6_1 : Int), v6 = .int .i64 x6_1 ∧ Aside0 (impl_PartingOf.l0 kq t921 x6_1 a0_0 a0_1 = some (r1, r2)) ∧ Aside0 (kq ≤ k) ∧ Aside0 (Kd.R (Kd.int .i64) 82 w' w.heap.size (fun _ => True) v922 t921) ∧ Aside0 (w'.heap[gb920]? = some (.cells #[.int .i64 a0_0, .string a0_1] 26 (0, 0))) ∧ Aside0 (Below w.heap.size w w'))
  case atStart => exact ⟨(1), (by first | rfl | (simp; done) | (simp [*]; done)), H', ⟨Nat.le_refl _⟩, ⟨by (with_reducible repeat (first | apply Kd.R_alloc | apply Kd.R_drewN | apply Kd.R_drew)); exact HO923.out⟩, ⟨by (with_reducible repeat (first | refine blk_drewN ?_ _ | refine blk_drew ?_ | refine blk_alloc ?_ _)); exact BK920.out⟩, ⟨by repeat (first | (with_reducible first | exact HB.out | apply below_alloc | apply pw_below_drewN | apply below_drew1 | refine below_set ?_ GE920.out) | exact HB.out)⟩⟩
  case round =>
   clear H'
   try clear p2
   try clear c3
   try clear c4
   try clear c6
   try clear hcz5_0
   try clear hcz5_1
   try clear hfz5_0
   try clear hfz5_1
   obtain ⟨x6_1, rfl, HA, HK1, HO_4, BK920, HB⟩ := hrel
   cases gk with
   | zero => exact absurd HA.out (by simp [impl_PartingOf.l0])
   | succ k1 =>
    have H := HA.out
    clear HA
    simp only [impl_PartingOf.l0] at H
    replace H := Option.bind_eq_some_iff.mp H
    obtain ⟨t925, A70, H⟩ := H
    replace H : (if x6_1 ≤ t925 then ((impl_fullSet.f a0_0).bind fun t926 => ((impl_chi_haveCommon.f k1 t921 x6_1 (Go.bits .andNot .i64 t926 x6_1)).bind fun t927 => (if t927 = true then (some (x6_1, Go.bits .andNot .i64 t926 x6_1)) else (impl_PartingOf.l0 k1 t921 (wrap64 (x6_1 + 1)) a0_0 a0_1)))) else (some (0, 0))) = some (r1, r2) := H
    have A7 := Aside0.mk A70
    clear A70
    by_cases c8 : x6_1 ≤ t925
    ·rw [if_pos c8] at H
     have c8b0 : decide (x6_1 ≤ t925) = true := decide_eq_true c8
     clear c8
     replace H := Option.bind_eq_some_iff.mp H
     obtain ⟨t926, A90, H⟩ := H
     replace H : ((impl_chi_haveCommon.f k1 t921 x6_1 (Go.bits .andNot .i64 t926 x6_1)).bind fun t927 => (if t927 = true then (some (x6_1, Go.bits .andNot .i64 t926 x6_1)) else (impl_PartingOf.l0 k1 t921 (wrap64 (x6_1 + 1)) a0_0 a0_1))) = some (r1, r2) := H
     have A9 := Aside0.mk A90
     clear A90
     replace H := Option.bind_eq_some_iff.mp H
     obtain ⟨t927, A100, H⟩ := H
     replace H : (if t927 = true then (some (x6_1, Go.bits .andNot .i64 t926 x6_1)) else (impl_PartingOf.l0 k1 t921 (wrap64 (x6_1 + 1)) a0_0 a0_1)) = some (r1, r2) := H
     have A10 := Aside0.mk A100
     clear A100
     by_cases c11 : t927 = true
     ·subst c11
      have H1 : (some (x6_1, Go.bits .andNot .i64 t926 x6_1)) = some (r1, r2) := by rw [if_pos rfl] at H; exact H
      clear H
      have H := H1
      clear H1
      simp only [Option.some.injEq, Prod.mk.injEq] at H
      obtain ⟨rfl, rfl⟩ := H
      have hcz12_0 : wr.cell? ⟨gb920, 0, none⟩ = some (.int .i64 a0_0) := (blk_cell BK920.out 0).trans rfl
      have hcz12_1 : wr.cell? ⟨gb920, 1, none⟩ = some (.string a0_1) := (blk_cell BK920.out 1).trans rfl
      have hfz12_0 := blk_frozen BK920.out 0
      have hfz12_1 := blk_frozen BK920.out 1
      go_wp2_with (first | ((with_reducible refine gate_callee (f := 87) rfl ?_); refine goesL_ (some 18) rfl rfl Try.func87 (by kernel_rfl) rfl #[.int .i64 a0_0] rfl (by (try simp only [List.map_toArray, List.map_cons, List.map_nil]); first | done | rfl | (simp only [List.length_drop, List.length_take]; rfl)) ?_; (with_reducible refine (impl_fullSet.calls a0_0 t925 _ A7.out).mono ?_); rintro e w' ⟨rfl, ⟨nd, rfl⟩⟩; refine ⟨_, rfl, ?_⟩) | ((with_reducible refine gate_callee (f := 87) rfl ?_); refine goesL_ (some 24) rfl rfl Try.func87 (by kernel_rfl) rfl #[.int .i64 a0_0] rfl (by (try simp only [List.map_toArray, List.map_cons, List.map_nil]); first | done | rfl | (simp only [List.length_drop, List.length_take]; rfl)) ?_; (with_reducible refine (impl_fullSet.calls a0_0 t926 _ A9.out).mono ?_); rintro e w' ⟨rfl, ⟨nd, rfl⟩⟩; refine ⟨_, rfl, ?_⟩; obtain ⟨Ao13, co13, eo13⟩ := Kd.R_slice HO_4.out; subst eo13) | ((with_reducible refine gate_callee (f := 86) rfl ?_); refine goesL_ (some 30) rfl rfl Try.func86 (by kernel_rfl) rfl #[.pointer Ao13, .int .i64 x6_1, .int .i64 (Go.bits .andNot .i64 t926 x6_1)] rfl (by (try simp only [List.map_toArray, List.map_cons, List.map_nil]); first | done | rfl | (simp only [List.length_drop, List.length_take]; rfl)) ?_; (refine (impl_chi_haveCommon.calls k1 _ co13 t921 x6_1 (Go.bits .andNot .i64 t926 x6_1) true _ ?side1 ?side2 A10.out).mono ?_); (case side1 => repeat (first | exact (Kd.R_reads' HO_4.out).2.2 | (with_reducible refine Kd.C_alloc ?_ _) | (with_reducible refine Kd.C_drewN ?_ _) | (with_reducible refine Kd.C_drew ?_))); (case side2 => exact (Kd.R_reads' HO_4.out).2.1); rintro e w14 ⟨rfl, hb⟩; refine ⟨_, rfl, ?_⟩; have n0_ := Aside0.mk (Kd.R_below (by (with_reducible repeat (first | apply Kd.R_alloc | apply Kd.R_drewN | apply Kd.R_drew)); exact HO_4.out) hb); have n1_ := Aside0.mk (blk_below (g := gb920) (o := .cells #[.int .i64 a0_0, .string a0_1] 26 (0, 0)) (by (with_reducible repeat (first | refine blk_drewN ?_ _ | refine blk_drew ?_ | refine blk_alloc ?_ _)); exact BK920.out) hb); have n2_ := Aside0.mk (below_step (by repeat (first | (with_reducible first | exact HB.out | apply below_alloc | apply pw_below_drewN | apply below_drew1 | refine below_set ?_ GE920.out) | exact HB.out)) hb); clear HO_4; clear BK920; clear HB; have HO_4 := n0_; have BK920 := n1_; have HB := n2_; clear n0_ n1_ n2_; (try clear hb); (try clear hb2); (try clear hk); (try clear hi)))
      go_ret2
      exact ⟨by first | rfl | (simp [errW_none, errW_some] <;> rfl) | (simp [*, errW_none, errW_some] <;> rfl), by repeat (first | (with_reducible first | exact HB.out | apply below_alloc | apply pw_below_drewN | apply below_drew1 | refine below_set ?_ GE920.out) | exact HB.out)⟩
     ·replace c11 := Bool.eq_false_iff.mpr c11
      subst c11
      have H1 : (impl_PartingOf.l0 k1 t921 (wrap64 (x6_1 + 1)) a0_0 a0_1) = some (r1, r2) := by rw [if_neg (show ¬ (false = true) by decide)] at H; exact H
      clear H
      have H := H1
      clear H1
      have H' := Aside0.mk H
      clear H
      have hcz15_0 : wr.cell? ⟨gb920, 0, none⟩ = some (.int .i64 a0_0) := (blk_cell BK920.out 0).trans rfl
      have hcz15_1 : wr.cell? ⟨gb920, 1, none⟩ = some (.string a0_1) := (blk_cell BK920.out 1).trans rfl
      have hfz15_0 := blk_frozen BK920.out 0
      have hfz15_1 := blk_frozen BK920.out 1
      go_wp2_with (first | ((with_reducible refine gate_callee (f := 87) rfl ?_); refine goesL_ (some 18) rfl rfl Try.func87 (by kernel_rfl) rfl #[.int .i64 a0_0] rfl (by (try simp only [List.map_toArray, List.map_cons, List.map_nil]); first | done | rfl | (simp only [List.length_drop, List.length_take]; rfl)) ?_; (with_reducible refine (impl_fullSet.calls a0_0 t925 _ A7.out).mono ?_); rintro e w' ⟨rfl, ⟨nd, rfl⟩⟩; refine ⟨_, rfl, ?_⟩) | ((with_reducible refine gate_callee (f := 87) rfl ?_); refine goesL_ (some 24) rfl rfl Try.func87 (by kernel_rfl) rfl #[.int .i64 a0_0] rfl (by (try simp only [List.map_toArray, List.map_cons, List.map_nil]); first | done | rfl | (simp only [List.length_drop, List.length_take]; rfl)) ?_; (with_reducible refine (impl_fullSet.calls a0_0 t926 _ A9.out).mono ?_); rintro e w' ⟨rfl, ⟨nd, rfl⟩⟩; refine ⟨_, rfl, ?_⟩; obtain ⟨Ao16, co16, eo16⟩ := Kd.R_slice HO_4.out; subst eo16) | ((with_reducible refine gate_callee (f := 86) rfl ?_); refine goesL_ (some 30) rfl rfl Try.func86 (by kernel_rfl) rfl #[.pointer Ao16, .int .i64 x6_1, .int .i64 (Go.bits .andNot .i64 t926 x6_1)] rfl (by (try simp only [List.map_toArray, List.map_cons, List.map_nil]); first | done | rfl | (simp only [List.length_drop, List.length_take]; rfl)) ?_; (refine (impl_chi_haveCommon.calls k1 _ co16 t921 x6_1 (Go.bits .andNot .i64 t926 x6_1) false _ ?side1 ?side2 A10.out).mono ?_); (case side1 => repeat (first | exact (Kd.R_reads' HO_4.out).2.2 | (with_reducible refine Kd.C_alloc ?_ _) | (with_reducible refine Kd.C_drewN ?_ _) | (with_reducible refine Kd.C_drew ?_))); (case side2 => exact (Kd.R_reads' HO_4.out).2.1); rintro e w17 ⟨rfl, hb⟩; refine ⟨_, rfl, ?_⟩; have n0_ := Aside0.mk (Kd.R_below (by (with_reducible repeat (first | apply Kd.R_alloc | apply Kd.R_drewN | apply Kd.R_drew)); exact HO_4.out) hb); have n1_ := Aside0.mk (blk_below (g := gb920) (o := .cells #[.int .i64 a0_0, .string a0_1] 26 (0, 0)) (by (with_reducible repeat (first | refine blk_drewN ?_ _ | refine blk_drew ?_ | refine blk_alloc ?_ _)); exact BK920.out) hb); have n2_ := Aside0.mk (below_step (by repeat (first | (with_reducible first | exact HB.out | apply below_alloc | apply pw_below_drewN | apply below_drew1 | refine below_set ?_ GE920.out) | exact HB.out)) hb); clear HO_4; clear BK920; clear HB; have HO_4 := n0_; have BK920 := n1_; have HB := n2_; clear n0_ n1_ n2_; (try clear hb); (try clear hb2); (try clear hk); (try clear hi)))
      go_roundg k1
      case measure => have := HK1.out; omega
      case rel => exact ⟨(wrap64 (x6_1 + 1)), (by first | rfl | (simp; done) | (simp [*]; done)), H', ⟨by have := HK1.out; omega⟩, ⟨by (with_reducible repeat (first | apply Kd.R_alloc | apply Kd.R_drewN | apply Kd.R_drew)); exact HO_4.out⟩, ⟨by (with_reducible repeat (first | refine blk_drewN ?_ _ | refine blk_drew ?_ | refine blk_alloc ?_ _)); exact BK920.out⟩, ⟨by repeat (first | (with_reducible first | exact HB.out | apply below_alloc | apply pw_below_drewN | apply below_drew1 | refine below_set ?_ GE920.out) | exact HB.out)⟩⟩
    ·rw [if_neg c8] at H
     have c8b0 : decide (x6_1 ≤ t925) = false := decide_eq_false c8
     clear c8
     simp only [Option.some.injEq, Prod.mk.injEq] at H
     obtain ⟨rfl, rfl⟩ := H
     have hcz18_0 : wr.cell? ⟨gb920, 0, none⟩ = some (.int .i64 a0_0) := (blk_cell BK920.out 0).trans rfl
     have hcz18_1 : wr.cell? ⟨gb920, 1, none⟩ = some (.string a0_1) := (blk_cell BK920.out 1).trans rfl
     have hfz18_0 := blk_frozen BK920.out 0
     have hfz18_1 := blk_frozen BK920.out 1
     go_wp2_with (first | ((with_reducible refine gate_callee (f := 87) rfl ?_); refine goesL_ (some 18) rfl rfl Try.func87 (by kernel_rfl) rfl #[.int .i64 a0_0] rfl (by (try simp only [List.map_toArray, List.map_cons, List.map_nil]); first | done | rfl | (simp only [List.length_drop, List.length_take]; rfl)) ?_; (with_reducible refine (impl_fullSet.calls a0_0 t925 _ A7.out).mono ?_); rintro e w' ⟨rfl, ⟨nd, rfl⟩⟩; refine ⟨_, rfl, ?_⟩))
     go_ret2
     exact ⟨by first | rfl | (simp [errW_none, errW_some] <;> rfl) | (simp [*, errW_none, errW_some] <;> rfl), by repeat (first | (with_reducible first | exact HB.out | apply below_alloc | apply pw_below_drewN | apply below_drew1 | refine below_set ?_ GE920.out) | exact HB.out)⟩
 ·replace c3 := Bool.eq_false_iff.mpr c3
  subst c3
  have H1 : (some (0, 0)) = some (r1, r2) := by rw [if_neg (show ¬ (false = true) by decide)] at H; exact H
  clear H
  have H := H1
  clear H1
  simp only [Option.some.injEq, Prod.mk.injEq] at H
  obtain ⟨rfl, rfl⟩ := H
  go_enter Try.func42, Try.ntmps42
  go_wp2_with (first | ((with_reducible refine gate_dst (N := 1) rfl ?_); refine box_event ?hg (N := 1) ?hd (cs := #[.int .i64 a0_0, .string a0_1]) (t := 26) ?hr ?_; (case hd => rfl); (case hg => rfl); (case hr => first | (go_simp; done) | (go_simp; rfl)); intro gb920 hg w19 hbox hb; have n0_ := Aside0.mk (below_step (by repeat (first | (with_reducible first | exact HB.out | apply below_alloc | apply pw_below_drewN | apply below_drew1) | exact HB.out)) hb); have n1_ := Aside0.mk (hbox); have n2_ := Aside0.mk ((by rw [hg]; exact (below_size (by repeat (first | (with_reducible first | exact HB.out | apply below_alloc | apply pw_below_drewN | apply below_drew1) | exact HB.out))) : w.heap.size ≤ gb920)); have n3_ := Aside0.mk ((by rw [hg]; exact (below_size (by repeat (first | (with_reducible first | exact HB.out | apply below_alloc | apply pw_below_drewN | apply below_drew1) | exact HB.out))) : w.heap.size ≤ gb920)); clear HB; have HB := n0_; have BK920 := n1_; have GW920 := n2_; have GE920 := n3_; clear n0_ n1_ n2_ n3_; clear hb hbox hg; have hcz20_0 : w19.cell? ⟨gb920, 0, none⟩ = some (.int .i64 a0_0) := (blk_cell BK920.out 0).trans rfl; have hcz20_1 : w19.cell? ⟨gb920, 1, none⟩ = some (.string a0_1) := (blk_cell BK920.out 1).trans rfl; have hfz20_0 := blk_frozen BK920.out 0; have hfz20_1 := blk_frozen BK920.out 1) | ((with_reducible refine gate_callee (f := 63) rfl ?_); refine goesL_ (some 10) rfl rfl Try.func63 (by kernel_rfl) rfl #[.agg #[.int .i64 a0_0, .string a0_1]] rfl (by (try simp only [List.map_toArray, List.map_cons, List.map_nil]); first | done | rfl | (simp only [List.length_drop, List.length_take]; rfl)) ?_; (with_reducible refine (impl_orderOf.calls k a0_0 a0_1 t921 false _ A2.out).mono ?_); rintro e w21 ⟨v922, rfl, ho0, hb⟩; refine ⟨_, rfl, ?_⟩; have n0_ := Aside0.mk (Kd.R_lower ho0 (below_size (by repeat (first | (with_reducible first | exact HB.out | apply below_alloc | apply pw_below_drewN | apply below_drew1 | refine below_set ?_ GE920.out) | exact HB.out)))); have n1_ := Aside0.mk (blk_below (g := gb920) (o := .cells #[.int .i64 a0_0, .string a0_1] 26 (0, 0)) (by (with_reducible repeat (first | refine blk_drewN ?_ _ | refine blk_drew ?_ | refine blk_alloc ?_ _)); exact BK920.out) hb); have n2_ := Aside0.mk (below_step (by repeat (first | (with_reducible first | exact HB.out | apply below_alloc | apply pw_below_drewN | apply below_drew1 | refine below_set ?_ GE920.out) | exact HB.out)) hb); clear BK920; clear HB; have HO923 := n0_; have BK920 := n1_; have HB := n2_; clear n0_ n1_ n2_; (try clear hb); (try clear hb2); (try clear hk); (try clear hi); (try clear ho0)))
  go_ret2
  exact ⟨by first | rfl | (simp [errW_none, errW_some] <;> rfl) | (simp [*, errW_none, errW_some] <;> rfl), by repeat (first | (with_reducible first | exact HB.out | apply below_alloc | apply pw_below_drewN | apply below_drew1 | refine below_set ?_ GE920.out) | exact HB.out)⟩
end Go.Proofs.Ytbglgapndefcfaa.P
