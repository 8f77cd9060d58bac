/- What the law FnExactLeastGrid reaches, part 13: functions as plain Lean functions with the proofs that their calls come to them, and plain lemmas over these. Put together by a program (wip/pack.py). -/
import Derived.Test.YtdkpiahpmgcmdaaKFnExactLeastGridc
import Derived.Test.YtdkpiahpmgcmdaaKFnExactLeastGridi
import Derived.Test.YtdkpiahpmgcmdaaKFnExactLeastGridj
import Derived.Test.YtdkpiahpmgcmdaaKFnExactLeastGridl
import Derived.Test.YtdkpiahpmgcmdaaKFnExactLeastGrida
import Derived.ChangeArms
import Derived.Deep.Slices
import Derived.Deep.Fields
import Derived.WideShapes
import Derived.KernelRfl
import Derived.Test.YtdkpiahpmgcmdaaKFnExactLeastGridf
import Derived.Test.YtdkpiahpmgcmdaaKFnExactLeastGride
import Derived.Test.YtdkpiahpmgcmdaaKFnExactLeastGridk
import Derived.Test.YtdkpiahpmgcmdaaKFnExactLeastGridd
import Derived.Lib.ConvBytes
namespace Go.Proofs.Ytdkpiahpmgcmdaa.P
open Go.RowKit Go.Proofs.YtdkpiahpmgcmdaaW.PrintWords Go.Proofs.YtdkpiahpmgcmdaaW.PrintLast Go.Proofs.YtdkpiahpmgcmdaaW.PrintMore
attribute [local go_sem] ptrOf_slice
attribute [local go_sem] min2_str max2_int min2_int max_two min_two max_three min_three max_four min_four
set_option linter.unusedVariables false
set_option linter.unusedSimpArgs false
def impl_PlacePoints.j0 : Nat → Int → Bool → Int → ByteArray → Option ((List (S54)) × Bool)
 | 0, _, _, _, _ => none
 | k + 1, x1, x21, x320000, x320001 => if x21 = true then (some (([] : List (S54)), false)) else ((impl_tableOf.f k x320000 x320001).bind fun t321 => ((impl_chi_place.f k t321 ([] : List (S54)) x1).bind fun bt324 => (some (bt324.1, bt324.2))))
def impl_PlacePoints.f (k : Nat) (a0_0 : Int) (a0_1 : ByteArray) (a1 : Int) : Option ((List (S54)) × Bool) := (impl_AreSigns.f k a0_0 a0_1).bind fun t320 => (if t320 = true then (if a0_0 > 5 then (impl_PlacePoints.j0 k a1 true a0_0 a0_1) else (if a1 < 1 then (impl_PlacePoints.j0 k a1 true a0_0 a0_1) else (impl_PlacePoints.j0 k a1 (decide (a1 > 5)) a0_0 a0_1))) else (impl_PlacePoints.j0 k a1 true a0_0 a0_1))
set_option maxHeartbeats 8000000 in
set_option maxRecDepth 100000 in
theorem impl_PlacePoints.calls (k : Nat) (a0_0 : Int) (a0_1 : ByteArray) (a1 : Int) (r1 : List (S54)) (r2 : Bool) (w : World) (h : impl_PlacePoints.f k a0_0 a0_1 a1 = some (r1, r2)) :
  Calls Try.prog 11 #[.agg #[.int .i64 a0_0, .string a0_1], .int .i64 a1] w fun e w' => ∃ v0_ : Value, e = .returned (.tuple #[v0_, .bool r2]) ∧ Kd.R k54 54 w' w.heap.size (fun _ => True) v0_ r1 ∧ Below w.heap.size w w' := by
 have hu28 := Try.underlying28
 have HB := am_ (Below.refl w.heap.size w)
 have H : ((impl_AreSigns.f k a0_0 a0_1).bind fun t320 => (if t320 = true then (if a0_0 > 5 then (impl_PlacePoints.j0 k a1 true a0_0 a0_1) else (if a1 < 1 then (impl_PlacePoints.j0 k a1 true a0_0 a0_1) else (impl_PlacePoints.j0 k a1 (decide (a1 > 5)) a0_0 a0_1))) else (impl_PlacePoints.j0 k a1 true a0_0 a0_1))) = some (r1, r2) := h
 clear h
 have HC3 := am_ H
 clear H
 go_enter Try.func11, Try.ntmps11
 go_upto_region 1 with (first | ((with_reducible refine gate_dst (N := 2) rfl ?_); refine box_event ?hg (N := 2) ?hd (cs := #[.int .i64 a0_0, .string a0_1]) (t := 28) ?hr ?_; (case hd => rfl); (case hg => rfl); (case hr => first | (go_simp; done) | (go_simp; rfl)); intro gb319 hg w4 hbox hb; have n0_ := am_ (below_step (bx0 HB.out) hb); have n1_ := am_ (hbox); have n2_ := am_ ((by rw [hg]; exact (below_size (bx0 HB.out)) : w.heap.size ≤ gb319)); have n3_ := am_ ((by rw [hg]; exact (below_size (bx0 HB.out)) : w.heap.size ≤ gb319)); clear HB; have HB := n0_; have BK319 := n1_; have GW319 := n2_; have GE319 := n3_; clear n0_ n1_ n2_ n3_; clear hb hbox hg))
 (try simp only [Act.put, sA_, sZ_, sS_])
 go_cut [21] (fun v21 wc => ∃ (kq : Nat) (x21_2 : Bool), v21 = .bool x21_2 ∧ Aside0 (impl_PlacePoints.j0 kq a1 x21_2 a0_0 a0_1 = some (r1, r2)) ∧ Aside0 (kq ≤ k) ∧ Aside0 (wc.heap[gb319]? = some (.cells #[.int .i64 a0_0, .string a0_1] 28 (0, 0))) ∧ Aside0 (Below w.heap.size w wc))
 case first =>
  have H := HC3.out
  clear HC3
  replace H := Option.bind_eq_some_iff.mp H
  obtain ⟨t320, A50, H⟩ := H
  replace H : (if t320 = true then (if a0_0 > 5 then (impl_PlacePoints.j0 k a1 true a0_0 a0_1) else (if a1 < 1 then (impl_PlacePoints.j0 k a1 true a0_0 a0_1) else (impl_PlacePoints.j0 k a1 (decide (a1 > 5)) a0_0 a0_1))) else (impl_PlacePoints.j0 k a1 true a0_0 a0_1)) = some (r1, r2) := H
  have A5 := am_ A50
  clear A50
  by_cases c6 : t320 = true
  ·subst c6
   have H1 : (if a0_0 > 5 then (impl_PlacePoints.j0 k a1 true a0_0 a0_1) else (if a1 < 1 then (impl_PlacePoints.j0 k a1 true a0_0 a0_1) else (impl_PlacePoints.j0 k a1 (decide (a1 > 5)) a0_0 a0_1))) = some (r1, r2) := by rw [if_pos rfl] at H; exact H
   clear H
   have H := H1
   clear H1
   by_cases c7 : a0_0 > 5
   ·rw [if_pos c7] at H
    have c7b0 : decide (5 < a0_0) = true := decide_eq_true c7
    clear c7
    (first | rw [c7b0] | (simp only [i64_w, i32_w]; rw [c7b0]) | skip)
    have H' := am_ H
    clear H
    have hcz8_0 : w4.cell? ⟨gb319, 0, none⟩ = some (.int .i64 a0_0) := (blk_cell BK319.out 0).trans rfl
    have hcz8_1 : w4.cell? ⟨gb319, 1, none⟩ = some (.string a0_1) := (blk_cell BK319.out 1).trans rfl
    have hfz8_0 := blk_frozen BK319.out 0
    have hfz8_1 := blk_frozen BK319.out 1
    go_wp2_with (first | ((with_reducible refine gate_callee (f := 32) rfl ?_); refine goesL_ (some 7) rfl rfl Try.func32 (by kernel_rfl) rfl #[.agg #[.int .i64 a0_0, .string a0_1]] rfl (by (try simp only [List.map_toArray, List.map_cons, List.map_nil]); first | done | rfl | (simp only [List.length_drop, List.length_take]; rfl)) ?_; (with_reducible refine (impl_AreSigns.calls k a0_0 a0_1 true _ A5.out).mono ?_); rintro e w9 ⟨rfl, hb⟩; refine ⟨_, rfl, ?_⟩; have n0_ := am_ (blk_below (g := gb319) (o := .cells #[.int .i64 a0_0, .string a0_1] 28 (0, 0)) (kx_ BK319.out) hb); have n1_ := am_ (below_step (bx1 HB.out GE319.out) hb); clear BK319; clear HB; have BK319 := n0_; have HB := n1_; clear n0_ n1_; (try clear hb); (try clear hb2); (try clear hk); (try clear hi); have hcz10_0 : w9.cell? ⟨gb319, 0, none⟩ = some (.int .i64 a0_0) := (blk_cell BK319.out 0).trans rfl; have hcz10_1 : w9.cell? ⟨gb319, 1, none⟩ = some (.string a0_1) := (blk_cell BK319.out 1).trans rfl; have hfz10_0 := blk_frozen BK319.out 0; have hfz10_1 := blk_frozen BK319.out 1))
    go_meet
    case rel => exact ⟨_, (true), (by first | rfl | (simp; done) | (simp [*]; done)), H', ⟨by first | omega | exact Nat.le_refl _⟩, ⟨kx_ BK319.out⟩, ⟨bx1 HB.out GE319.out⟩⟩
   ·rw [if_neg c7] at H
    have c7b0 : decide (5 < a0_0) = false := decide_eq_false c7
    clear c7
    (first | rw [c7b0] | (simp only [i64_w, i32_w]; rw [c7b0]) | skip)
    by_cases c11 : a1 < 1
    ·rw [if_pos c11] at H
     have c11b0 : decide (a1 < 1) = true := decide_eq_true c11
     clear c11
     have H' := am_ H
     clear H
     have hcz12_0 : w4.cell? ⟨gb319, 0, none⟩ = some (.int .i64 a0_0) := (blk_cell BK319.out 0).trans rfl
     have hcz12_1 : w4.cell? ⟨gb319, 1, none⟩ = some (.string a0_1) := (blk_cell BK319.out 1).trans rfl
     have hfz12_0 := blk_frozen BK319.out 0
     have hfz12_1 := blk_frozen BK319.out 1
     go_wp2_with (first | ((with_reducible refine gate_callee (f := 32) rfl ?_); refine goesL_ (some 7) rfl rfl Try.func32 (by kernel_rfl) rfl #[.agg #[.int .i64 a0_0, .string a0_1]] rfl (by (try simp only [List.map_toArray, List.map_cons, List.map_nil]); first | done | rfl | (simp only [List.length_drop, List.length_take]; rfl)) ?_; (with_reducible refine (impl_AreSigns.calls k a0_0 a0_1 true _ A5.out).mono ?_); rintro e w13 ⟨rfl, hb⟩; refine ⟨_, rfl, ?_⟩; have n0_ := am_ (blk_below (g := gb319) (o := .cells #[.int .i64 a0_0, .string a0_1] 28 (0, 0)) (kx_ BK319.out) hb); have n1_ := am_ (below_step (bx1 HB.out GE319.out) hb); clear BK319; clear HB; have BK319 := n0_; have HB := n1_; clear n0_ n1_; (try clear hb); (try clear hb2); (try clear hk); (try clear hi); have hcz14_0 : w13.cell? ⟨gb319, 0, none⟩ = some (.int .i64 a0_0) := (blk_cell BK319.out 0).trans rfl; have hcz14_1 : w13.cell? ⟨gb319, 1, none⟩ = some (.string a0_1) := (blk_cell BK319.out 1).trans rfl; have hfz14_0 := blk_frozen BK319.out 0; have hfz14_1 := blk_frozen BK319.out 1))
     go_meet
     case rel => exact ⟨_, (true), (by first | rfl | (simp; done) | (simp [*]; done)), H', ⟨by first | omega | exact Nat.le_refl _⟩, ⟨kx_ BK319.out⟩, ⟨bx1 HB.out GE319.out⟩⟩
    ·rw [if_neg c11] at H
     have c11b0 : decide (a1 < 1) = false := decide_eq_false c11
     clear c11
     have H' := am_ H
     clear H
     have hcz15_0 : w4.cell? ⟨gb319, 0, none⟩ = some (.int .i64 a0_0) := (blk_cell BK319.out 0).trans rfl
     have hcz15_1 : w4.cell? ⟨gb319, 1, none⟩ = some (.string a0_1) := (blk_cell BK319.out 1).trans rfl
     have hfz15_0 := blk_frozen BK319.out 0
     have hfz15_1 := blk_frozen BK319.out 1
     go_wp2_with (first | ((with_reducible refine gate_callee (f := 32) rfl ?_); refine goesL_ (some 7) rfl rfl Try.func32 (by kernel_rfl) rfl #[.agg #[.int .i64 a0_0, .string a0_1]] rfl (by (try simp only [List.map_toArray, List.map_cons, List.map_nil]); first | done | rfl | (simp only [List.length_drop, List.length_take]; rfl)) ?_; (with_reducible refine (impl_AreSigns.calls k a0_0 a0_1 true _ A5.out).mono ?_); rintro e w16 ⟨rfl, hb⟩; refine ⟨_, rfl, ?_⟩; have n0_ := am_ (blk_below (g := gb319) (o := .cells #[.int .i64 a0_0, .string a0_1] 28 (0, 0)) (kx_ BK319.out) hb); have n1_ := am_ (below_step (bx1 HB.out GE319.out) hb); clear BK319; clear HB; have BK319 := n0_; have HB := n1_; clear n0_ n1_; (try clear hb); (try clear hb2); (try clear hk); (try clear hi); have hcz17_0 : w16.cell? ⟨gb319, 0, none⟩ = some (.int .i64 a0_0) := (blk_cell BK319.out 0).trans rfl; have hcz17_1 : w16.cell? ⟨gb319, 1, none⟩ = some (.string a0_1) := (blk_cell BK319.out 1).trans rfl; have hfz17_0 := blk_frozen BK319.out 0; have hfz17_1 := blk_frozen BK319.out 1))
     go_meet
     case rel => exact ⟨_, (decide (a1 > 5)), (by first | rfl | (simp; done) | (simp [*]; done)), H', ⟨by first | omega | exact Nat.le_refl _⟩, ⟨kx_ BK319.out⟩, ⟨bx1 HB.out GE319.out⟩⟩
  ·replace c6 := Bool.eq_false_iff.mpr c6
   subst c6
   have H1 : (impl_PlacePoints.j0 k a1 true a0_0 a0_1) = some (r1, r2) := by rw [if_neg (show ¬ (false = true) by decide)] at H; exact H
   clear H
   have H := H1
   clear H1
   have H' := am_ H
   clear H
   have hcz18_0 : w4.cell? ⟨gb319, 0, none⟩ = some (.int .i64 a0_0) := (blk_cell BK319.out 0).trans rfl
   have hcz18_1 : w4.cell? ⟨gb319, 1, none⟩ = some (.string a0_1) := (blk_cell BK319.out 1).trans rfl
   have hfz18_0 := blk_frozen BK319.out 0
   have hfz18_1 := blk_frozen BK319.out 1
   go_wp2_with (first | ((with_reducible refine gate_callee (f := 32) rfl ?_); refine goesL_ (some 7) rfl rfl Try.func32 (by kernel_rfl) rfl #[.agg #[.int .i64 a0_0, .string a0_1]] rfl (by (try simp only [List.map_toArray, List.map_cons, List.map_nil]); first | done | rfl | (simp only [List.length_drop, List.length_take]; rfl)) ?_; (with_reducible refine (impl_AreSigns.calls k a0_0 a0_1 false _ A5.out).mono ?_); rintro e w19 ⟨rfl, hb⟩; refine ⟨_, rfl, ?_⟩; have n0_ := am_ (blk_below (g := gb319) (o := .cells #[.int .i64 a0_0, .string a0_1] 28 (0, 0)) (kx_ BK319.out) hb); have n1_ := am_ (below_step (bx1 HB.out GE319.out) hb); clear BK319; clear HB; have BK319 := n0_; have HB := n1_; clear n0_ n1_; (try clear hb); (try clear hb2); (try clear hk); (try clear hi)))
   go_meet
   case rel => exact ⟨_, (true), (by first | rfl | (simp; done) | (simp [*]; done)), H', ⟨by first | omega | exact Nat.le_refl _⟩, ⟨kx_ BK319.out⟩, ⟨bx1 HB.out GE319.out⟩⟩
 case rest =>
  clear HC3
  try clear c1
  try clear p2
  try clear c3
  try clear c6
  try clear c7
  try clear c7b0
  try clear c11
  try clear c11b0
  try clear hcz10_0
  try clear hcz10_1
  try clear hcz12_0
  try clear hcz12_1
  try clear hcz14_0
  try clear hcz14_1
  try clear hcz15_0
  try clear hcz15_1
  try clear hcz17_0
  try clear hcz17_1
  try clear hcz18_0
  try clear hcz18_1
  try clear hcz8_0
  try clear hcz8_1
  try clear hfz10_0
  try clear hfz10_1
  try clear hfz12_0
  try clear hfz12_1
  try clear hfz14_0
  try clear hfz14_1
  try clear hfz15_0
  try clear hfz15_1
  try clear hfz17_0
  try clear hfz17_1
  try clear hfz18_0
  try clear hfz18_1
  try clear hfz8_0
  try clear hfz8_1
  obtain ⟨kq, x21_2, rfl, HA, HJ2, BK319, HB⟩ := hcut
  cases kq with
  | zero => exact absurd HA.out (by simp [impl_PlacePoints.j0])
  | succ kj2 =>
   have H := HA.out
   clear HA
   simp only [impl_PlacePoints.j0] at H
   by_cases c20 : x21_2 = true
   ·subst c20
    have H1 : (some (([] : List (S54)), false)) = some (r1, r2) := by rw [if_pos rfl] at H; exact H
    clear H
    have H := H1
    clear H1
    simp only [Option.some.injEq, Prod.mk.injEq] at H
    obtain ⟨rfl, rfl⟩ := H
    go_wp2
    go_ret2
    exact ⟨_, by first | rfl | (simp [errW_none, errW_some] <;> rfl) | (simp [*, errW_none, errW_some] <;> rfl), by first | exact Kd.R_nil _ _ _ _ _ | exact Kd.N_nil _ _ _ _ _ | exact Kd.V_nil _ _ _ _ _ | exact Kd.Q_nil _ _ _ _ _ | exact Kd.S_nil _ _ _ _ _, bx1 HB.out GE319.out⟩
   ·replace c20 := Bool.eq_false_iff.mpr c20
    subst c20
    have H1 : ((impl_tableOf.f kj2 a0_0 a0_1).bind fun t321 => ((impl_chi_place.f kj2 t321 ([] : List (S54)) a1).bind fun bt324 => (some (bt324.1, bt324.2)))) = some (r1, r2) := by rw [if_neg (show ¬ (false = true) by decide)] at H; exact H
    clear H
    have H := H1
    clear H1
    replace H := Option.bind_eq_some_iff.mp H
    obtain ⟨t321, A210, H⟩ := H
    replace H : ((impl_chi_place.f kj2 t321 ([] : List (S54)) a1).bind fun bt324 => (some (bt324.1, bt324.2))) = some (r1, r2) := H
    have A21 := am_ A210
    clear A210
    replace H := Option.bind_eq_some_iff.mp H
    obtain ⟨⟨t324, t327⟩, A220, H⟩ := H
    replace H : (some (t324, t327)) = some (r1, r2) := H
    have A22 := am_ A220
    clear A220
    simp only [Option.some.injEq, Prod.mk.injEq] at H
    obtain ⟨rfl, rfl⟩ := H
    have hcz23_0 : wc.cell? ⟨gb319, 0, none⟩ = some (.int .i64 a0_0) := (blk_cell BK319.out 0).trans rfl
    have hcz23_1 : wc.cell? ⟨gb319, 1, none⟩ = some (.string a0_1) := (blk_cell BK319.out 1).trans rfl
    have hfz23_0 := blk_frozen BK319.out 0
    have hfz23_1 := blk_frozen BK319.out 1
    go_wp2_with (first | ((with_reducible refine gate_callee (f := 33) rfl ?_); refine goesL_ (some 23) rfl rfl Try.func33 (by kernel_rfl) rfl #[.agg #[.int .i64 a0_0, .string a0_1]] rfl (by (try simp only [List.map_toArray, List.map_cons, List.map_nil]); first | done | rfl | (simp only [List.length_drop, List.length_take]; rfl)) ?_; (with_reducible refine (impl_tableOf.calls kj2 a0_0 a0_1 t321 _ A21.out).mono ?_); rintro e w24 ⟨v322, rfl, ho0, hb⟩; refine ⟨_, rfl, ?_⟩; have n0_ := am_ (Kd.R_lower ho0 (below_size (bx1 HB.out GE319.out))); have n1_ := am_ (blk_below (g := gb319) (o := .cells #[.int .i64 a0_0, .string a0_1] 28 (0, 0)) (kx_ BK319.out) hb); have n2_ := am_ (below_step (bx1 HB.out GE319.out) hb); clear BK319; clear HB; have HO323 := n0_; have BK319 := n1_; have HB := n2_; clear n0_ n1_ n2_; (try clear hb); (try clear hb2); (try clear hk); (try clear hi); (try clear ho0); obtain ⟨Ao25, co25, eo25⟩ := Kd.R_slice HO323.out; subst eo25) | ((with_reducible refine gate_callee (f := 34) rfl ?_); refine goesL_ (some 25) rfl rfl Try.func34 (by kernel_rfl) rfl #[.pointer Ao25, .slice none 0 0, .int .i64 a1] rfl (by (try simp only [List.map_toArray, List.map_cons, List.map_nil]); first | done | rfl | (simp only [List.length_drop, List.length_take]; rfl)) ?_; (refine (impl_chi_place.calls kj2 _ co25 t321 (fun k_ => some k_ = (.slice none 0 0 : Value).ownBlock) (.slice none 0 0) ([] : List (S54)) a1 t324 t327 w _ ?side1 ?side2 ?side3 ?side4 A22.out).mono ?_); (case side1 => repeat (first | (with_reducible first | exact HB.out | apply below_alloc | apply pw_below_drewN | apply below_drew1 | refine below_set ?_ GE319.out) | exact HB.out)); (case side2 => exact Kd.C_kept_own (HO323.out) (fun k_ hk_ hs_ => (fun e_ => by simp [Value.ownBlock] at e_) hs_)); (case side3 => exact (Kd.R_reads' HO323.out).2.1); (case side4 => exact Kd.R_nil _ _ _ _ _); rintro e w26 ⟨v325, rfl, ho0, hb, hkp⟩; refine ⟨_, rfl, ?_⟩; have n0_ := am_ (blk_kept (kx_ BK319.out) hkp (fun hs_ => (fun e_ => by simp [Value.ownBlock] at e_) hs_)); have n1_ := am_ (Kd.R_mono (ok' := fun k_ => True) (Kd.R_keptB (HO323.out) hkp (fun k_ hk_ hs_ => (fun e_ => by simp [Value.ownBlock] at e_) hs_)) (fun k_ hk_ => trivial)); have n2_ := am_ (Kd.R_mono (ok' := fun k_ => True) ho0 (fun k_ hk_ => trivial)); have n3_ := am_ (hb); clear BK319; clear HO323; clear HB; have BK319 := n0_; have HO323 := n1_; have HO326 := n2_; have HB := n3_; clear n0_ n1_ n2_ n3_; (try clear hb); (try clear hkp); (try clear ho0)))
    go_ret2
    exact ⟨_, by first | rfl | (simp [errW_none, errW_some] <;> rfl) | (simp [*, errW_none, errW_some] <;> rfl), rx_ HO326.out, bx1 HB.out GE319.out⟩
def impl_LeastGrid.l0 : Nat → Int → Int → ByteArray → Option (Int)
 | 0, _, _, _ => none
 | k + 1, x3, x369000, x369001 => if x3 ≤ 5 then ((impl_PlacePoints.f k x369000 x369001 x3).bind fun bt369 => (if bt369.2 = true then (some x3) else (impl_LeastGrid.l0 k (wrap64 (x3 + 1)) x369000 x369001))) else (some 0)
def impl_LeastGrid.f (k : Nat) (a0_0 : Int) (a0_1 : ByteArray) : Option (Int) := impl_LeastGrid.l0 k 1 a0_0 a0_1
set_option maxHeartbeats 8000000 in
set_option maxRecDepth 100000 in
theorem impl_LeastGrid.calls (k : Nat) (a0_0 : Int) (a0_1 : ByteArray) (r : Int) (w : World) (h : impl_LeastGrid.f k a0_0 a0_1 = some r) :
  Calls Try.prog 16 #[.agg #[.int .i64 a0_0, .string a0_1]] w fun e w' => e = .returned (.int .i64 r) ∧ Below w.heap.size w w' := by
 have hu28 := Try.underlying28
 have HB := am_ (Below.refl w.heap.size w)
 have H : (impl_LeastGrid.l0 k 1 a0_0 a0_1) = some r := h
 clear h
 have H' := am_ H
 clear H
 go_enter Try.func16, Try.ntmps16
 go_wp2_with (first | ((with_reducible refine gate_dst (N := 1) rfl ?_); refine box_event ?hg (N := 1) ?hd (cs := #[.int .i64 a0_0, .string a0_1]) (t := 28) ?hr ?_; (case hd => rfl); (case hg => rfl); (case hr => first | (go_simp; done) | (go_simp; rfl)); intro gb368 hg w2 hbox hb; have n0_ := am_ (below_step (bx0 HB.out) hb); have n1_ := am_ (hbox); have n2_ := am_ ((by rw [hg]; exact (below_size (bx0 HB.out)) : w.heap.size ≤ gb368)); have n3_ := am_ ((by rw [hg]; exact (below_size (bx0 HB.out)) : w.heap.size ≤ gb368)); clear HB; have HB := n0_; have BK368 := n1_; have GW368 := n2_; have GE368 := n3_; clear n0_ n1_ n2_ n3_; clear hb hbox hg))
 go_loopg [3] k (fun kq v3 w' => ∃ (x3_1 : Int), v3 = .int .i64 x3_1 ∧ Aside0 (impl_LeastGrid.l0 kq x3_1 a0_0 a0_1 = some r) ∧ Aside0 (kq ≤ k) ∧ Aside0 (w'.heap[gb368]? = some (.cells #[.int .i64 a0_0, .string a0_1] 28 (0, 0))) ∧ Aside0 (Below w.heap.size w w'))
 case atStart => exact ⟨(1), (by first | rfl | (simp; done) | (simp [*]; done)), H', ⟨Nat.le_refl _⟩, ⟨kx_ BK368.out⟩, ⟨bx1 HB.out GE368.out⟩⟩
 case round =>
  clear H'
  try clear c1
  try clear p2
  obtain ⟨x3_1, rfl, HA, HK1, BK368, HB⟩ := hrel
  cases gk with
  | zero => exact absurd HA.out (by simp [impl_LeastGrid.l0])
  | succ k1 =>
   have H := HA.out
   clear HA
   simp only [impl_LeastGrid.l0] at H
   by_cases c3 : x3_1 ≤ 5
   ·rw [if_pos c3] at H
    have c3b0 : decide (x3_1 ≤ 5) = true := decide_eq_true c3
    clear c3
    replace H := Option.bind_eq_some_iff.mp H
    obtain ⟨⟨t369, t372⟩, A40, H⟩ := H
    replace H : (if t372 = true then (some x3_1) else (impl_LeastGrid.l0 k1 (wrap64 (x3_1 + 1)) a0_0 a0_1)) = some r := H
    have A4 := am_ A40
    clear A40
    by_cases c5 : t372 = true
    ·subst c5
     have H1 : (some x3_1) = some r := by rw [if_pos rfl] at H; exact H
     clear H
     have H := H1
     clear H1
     obtain rfl := Option.some.inj H
     have hcz6_0 : wr.cell? ⟨gb368, 0, none⟩ = some (.int .i64 a0_0) := (blk_cell BK368.out 0).trans rfl
     have hcz6_1 : wr.cell? ⟨gb368, 1, none⟩ = some (.string a0_1) := (blk_cell BK368.out 1).trans rfl
     have hfz6_0 := blk_frozen BK368.out 0
     have hfz6_1 := blk_frozen BK368.out 1
     go_wp2_with (first | ((with_reducible refine gate_callee (f := 11) rfl ?_); refine goesL_ (some 13) rfl rfl Try.func11 (by kernel_rfl) rfl #[.agg #[.int .i64 a0_0, .string a0_1], .int .i64 x3_1] rfl (by (try simp only [List.map_toArray, List.map_cons, List.map_nil]); first | done | rfl | (simp only [List.length_drop, List.length_take]; rfl)) ?_; (with_reducible refine (impl_PlacePoints.calls k1 a0_0 a0_1 x3_1 t369 true _ A4.out).mono ?_); rintro e w7 ⟨v370, rfl, ho0, hb⟩; refine ⟨_, rfl, ?_⟩; have n0_ := am_ (Kd.R_lower ho0 (below_size (bx1 HB.out GE368.out))); have n1_ := am_ (blk_below (g := gb368) (o := .cells #[.int .i64 a0_0, .string a0_1] 28 (0, 0)) (kx_ BK368.out) hb); have n2_ := am_ (below_step (bx1 HB.out GE368.out) hb); clear BK368; clear HB; have HO371 := n0_; have BK368 := n1_; have HB := n2_; clear n0_ n1_ n2_; (try clear hb); (try clear hb2); (try clear hk); (try clear hi); (try clear ho0)))
     go_ret
     exact ⟨by first | rfl | (simp [errW_none, errW_some] <;> rfl) | (simp [*, errW_none, errW_some] <;> rfl), bx1 HB.out GE368.out⟩
    ·replace c5 := Bool.eq_false_iff.mpr c5
     subst c5
     have H1 : (impl_LeastGrid.l0 k1 (wrap64 (x3_1 + 1)) a0_0 a0_1) = some r := by rw [if_neg (show ¬ (false = true) by decide)] at H; exact H
     clear H
     have H := H1
     clear H1
     have H' := am_ H
     clear H
     have hcz8_0 : wr.cell? ⟨gb368, 0, none⟩ = some (.int .i64 a0_0) := (blk_cell BK368.out 0).trans rfl
     have hcz8_1 : wr.cell? ⟨gb368, 1, none⟩ = some (.string a0_1) := (blk_cell BK368.out 1).trans rfl
     have hfz8_0 := blk_frozen BK368.out 0
     have hfz8_1 := blk_frozen BK368.out 1
     go_wp2_with (first | ((with_reducible refine gate_callee (f := 11) rfl ?_); refine goesL_ (some 13) rfl rfl Try.func11 (by kernel_rfl) rfl #[.agg #[.int .i64 a0_0, .string a0_1], .int .i64 x3_1] rfl (by (try simp only [List.map_toArray, List.map_cons, List.map_nil]); first | done | rfl | (simp only [List.length_drop, List.length_take]; rfl)) ?_; (with_reducible refine (impl_PlacePoints.calls k1 a0_0 a0_1 x3_1 t369 false _ A4.out).mono ?_); rintro e w9 ⟨v370, rfl, ho0, hb⟩; refine ⟨_, rfl, ?_⟩; have n0_ := am_ (Kd.R_lower ho0 (below_size (bx1 HB.out GE368.out))); have n1_ := am_ (blk_below (g := gb368) (o := .cells #[.int .i64 a0_0, .string a0_1] 28 (0, 0)) (kx_ BK368.out) hb); have n2_ := am_ (below_step (bx1 HB.out GE368.out) hb); clear BK368; clear HB; have HO371 := n0_; have BK368 := n1_; have HB := n2_; clear n0_ n1_ n2_; (try clear hb); (try clear hb2); (try clear hk); (try clear hi); (try clear ho0)))
     go_roundg k1
     case measure => have := HK1.out; omega
     case rel => exact ⟨(wrap64 (x3_1 + 1)), (by first | rfl | (simp; done) | (simp [*]; done)), H', ⟨by have := HK1.out; omega⟩, ⟨kx_ BK368.out⟩, ⟨bx1 HB.out GE368.out⟩⟩
   ·rw [if_neg c3] at H
    have c3b0 : decide (x3_1 ≤ 5) = false := decide_eq_false c3
    clear c3
    obtain rfl := Option.some.inj H
    go_wp2
    go_ret
    exact ⟨by first | rfl | (simp [errW_none, errW_some] <;> rfl) | (simp [*, errW_none, errW_some] <;> rfl), bx1 HB.out GE368.out⟩
def laws_FnExactLeastGrid.f (k : Nat) (a0_0 : Int) (a0_1 : ByteArray) : Option (Bool) := (laws_szSigns.f a0_0 a0_1 1048576).bind fun t374 => (if t374 < 0 then (some true) else ((laws_toSigns.f a0_0 a0_1).bind fun bt375 => ((spec_LeastGrid.f k bt375.1 bt375.2).bind fun t377 => ((laws_toSigns.f a0_0 a0_1).bind fun bt378 => ((impl_LeastGrid.f k bt378.1 bt378.2).bind fun t380 => (if t380 = t377 then (some true) else (some false)))))))
set_option maxHeartbeats 8000000 in
set_option maxRecDepth 100000 in
theorem laws_FnExactLeastGrid.calls (k : Nat) (a0_0 : Int) (a0_1 : ByteArray) (r : Bool) (w : World) (h : laws_FnExactLeastGrid.f k a0_0 a0_1 = some r) :
  Calls Try.prog 4 #[.agg #[.int .i64 a0_0, .string a0_1]] w fun e w' => e = .returned (.bool r) ∧ Below w.heap.size w w' := by
 have hu23 := Try.underlying23
 have HB := am_ (Below.refl w.heap.size w)
 have H : ((laws_szSigns.f a0_0 a0_1 1048576).bind fun t374 => (if t374 < 0 then (some true) else ((laws_toSigns.f a0_0 a0_1).bind fun bt375 => ((spec_LeastGrid.f k bt375.1 bt375.2).bind fun t377 => ((laws_toSigns.f a0_0 a0_1).bind fun bt378 => ((impl_LeastGrid.f k bt378.1 bt378.2).bind fun t380 => (if t380 = t377 then (some true) else (some false)))))))) = some r := h
 clear h
 replace H := Option.bind_eq_some_iff.mp H
 obtain ⟨t374, A20, H⟩ := H
 replace H : (if t374 < 0 then (some true) else ((laws_toSigns.f a0_0 a0_1).bind fun bt375 => ((spec_LeastGrid.f k bt375.1 bt375.2).bind fun t377 => ((laws_toSigns.f a0_0 a0_1).bind fun bt378 => ((impl_LeastGrid.f k bt378.1 bt378.2).bind fun t380 => (if t380 = t377 then (some true) else (some false))))))) = some r := H
 have A2 := am_ A20
 clear A20
 by_cases c3 : t374 < 0
 ·rw [if_pos c3] at H
  have c3b0 : decide (t374 < 0) = true := decide_eq_true c3
  clear c3
  obtain rfl := Option.some.inj H
  go_enter Try.func4, Try.ntmps4
  go_wp2_with (first | ((with_reducible refine gate_dst (N := 1) rfl ?_); refine box_event ?hg (N := 1) ?hd (cs := #[.int .i64 a0_0, .string a0_1]) (t := 23) ?hr ?_; (case hd => rfl); (case hg => rfl); (case hr => first | (go_simp; done) | (go_simp; rfl)); intro gb373 hg w4 hbox hb; have n0_ := am_ (below_step (bx0 HB.out) hb); have n1_ := am_ (hbox); have n2_ := am_ ((by rw [hg]; exact (below_size (bx0 HB.out)) : w.heap.size ≤ gb373)); have n3_ := am_ ((by rw [hg]; exact (below_size (bx0 HB.out)) : w.heap.size ≤ gb373)); clear HB; have HB := n0_; have BK373 := n1_; have GW373 := n2_; have GE373 := n3_; clear n0_ n1_ n2_ n3_; clear hb hbox hg; have hcz5_0 : w4.cell? ⟨gb373, 0, none⟩ = some (.int .i64 a0_0) := (blk_cell BK373.out 0).trans rfl; have hcz5_1 : w4.cell? ⟨gb373, 1, none⟩ = some (.string a0_1) := (blk_cell BK373.out 1).trans rfl; have hfz5_0 := blk_frozen BK373.out 0; have hfz5_1 := blk_frozen BK373.out 1) | ((with_reducible refine gate_callee (f := 8) rfl ?_); refine goesL_ (some 8) rfl rfl Try.func8 (by kernel_rfl) rfl #[.agg #[.int .i64 a0_0, .string a0_1], .int .i64 1048576] rfl (by (try simp only [List.map_toArray, List.map_cons, List.map_nil]); first | done | rfl | (simp only [List.length_drop, List.length_take]; rfl)) ?_; (with_reducible refine (laws_szSigns.calls a0_0 a0_1 1048576 t374 _ A2.out).mono ?_); rintro e w6 ⟨rfl, hb⟩; refine ⟨_, rfl, ?_⟩; have n0_ := am_ (blk_below (g := gb373) (o := .cells #[.int .i64 a0_0, .string a0_1] 23 (0, 0)) (kx_ BK373.out) hb); have n1_ := am_ (below_step (bx1 HB.out GE373.out) hb); clear BK373; clear HB; have BK373 := n0_; have HB := n1_; clear n0_ n1_; (try clear hb); (try clear hb2); (try clear hk); (try clear hi)))
  go_ret
  exact ⟨by first | rfl | (simp [errW_none, errW_some] <;> rfl) | (simp [*, errW_none, errW_some] <;> rfl), bx1 HB.out GE373.out⟩
 ·rw [if_neg c3] at H
  have c3b0 : decide (t374 < 0) = false := decide_eq_false c3
  clear c3
  replace H := Option.bind_eq_some_iff.mp H
  obtain ⟨⟨t375, t376⟩, A70, H⟩ := H
  replace H : ((spec_LeastGrid.f k t375 t376).bind fun t377 => ((laws_toSigns.f a0_0 a0_1).bind fun bt378 => ((impl_LeastGrid.f k bt378.1 bt378.2).bind fun t380 => (if t380 = t377 then (some true) else (some false))))) = some r := H
  have A7 := am_ A70
  clear A70
  replace H := Option.bind_eq_some_iff.mp H
  obtain ⟨t377, A80, H⟩ := H
  replace H : ((laws_toSigns.f a0_0 a0_1).bind fun bt378 => ((impl_LeastGrid.f k bt378.1 bt378.2).bind fun t380 => (if t380 = t377 then (some true) else (some false)))) = some r := H
  have A8 := am_ A80
  clear A80
  replace H := Option.bind_eq_some_iff.mp H
  obtain ⟨⟨t378, t379⟩, A90, H⟩ := H
  replace H : ((impl_LeastGrid.f k t378 t379).bind fun t380 => (if t380 = t377 then (some true) else (some false))) = some r := H
  have A9 := am_ A90
  clear A90
  replace H := Option.bind_eq_some_iff.mp H
  obtain ⟨t380, A100, H⟩ := H
  replace H : (if t380 = t377 then (some true) else (some false)) = some r := H
  have A10 := am_ A100
  clear A100
  by_cases c11 : t380 = t377
  ·rw [if_pos c11] at H
   have c11b0 : (t380 == t377) = true := beq_iff_eq.mpr c11
   have c11b1 : (t380 != t377) = false := bne_eq_false_iff_eq.mpr c11
   clear c11
   obtain rfl := Option.some.inj H
   go_enter Try.func4, Try.ntmps4
   go_wp2_with (first | ((with_reducible refine gate_dst (N := 1) rfl ?_); refine box_event ?hg (N := 1) ?hd (cs := #[.int .i64 a0_0, .string a0_1]) (t := 23) ?hr ?_; (case hd => rfl); (case hg => rfl); (case hr => first | (go_simp; done) | (go_simp; rfl)); intro gb373 hg w12 hbox hb; have n0_ := am_ (below_step (bx0 HB.out) hb); have n1_ := am_ (hbox); have n2_ := am_ ((by rw [hg]; exact (below_size (bx0 HB.out)) : w.heap.size ≤ gb373)); have n3_ := am_ ((by rw [hg]; exact (below_size (bx0 HB.out)) : w.heap.size ≤ gb373)); clear HB; have HB := n0_; have BK373 := n1_; have GW373 := n2_; have GE373 := n3_; clear n0_ n1_ n2_ n3_; clear hb hbox hg; have hcz13_0 : w12.cell? ⟨gb373, 0, none⟩ = some (.int .i64 a0_0) := (blk_cell BK373.out 0).trans rfl; have hcz13_1 : w12.cell? ⟨gb373, 1, none⟩ = some (.string a0_1) := (blk_cell BK373.out 1).trans rfl; have hfz13_0 := blk_frozen BK373.out 0; have hfz13_1 := blk_frozen BK373.out 1) | ((with_reducible refine gate_callee (f := 8) rfl ?_); refine goesL_ (some 8) rfl rfl Try.func8 (by kernel_rfl) rfl #[.agg #[.int .i64 a0_0, .string a0_1], .int .i64 1048576] rfl (by (try simp only [List.map_toArray, List.map_cons, List.map_nil]); first | done | rfl | (simp only [List.length_drop, List.length_take]; rfl)) ?_; (with_reducible refine (laws_szSigns.calls a0_0 a0_1 1048576 t374 _ A2.out).mono ?_); rintro e w14 ⟨rfl, hb⟩; refine ⟨_, rfl, ?_⟩; have n0_ := am_ (blk_below (g := gb373) (o := .cells #[.int .i64 a0_0, .string a0_1] 23 (0, 0)) (kx_ BK373.out) hb); have n1_ := am_ (below_step (bx1 HB.out GE373.out) hb); clear BK373; clear HB; have BK373 := n0_; have HB := n1_; clear n0_ n1_; (try clear hb); (try clear hb2); (try clear hk); (try clear hi); have hcz15_0 : w14.cell? ⟨gb373, 0, none⟩ = some (.int .i64 a0_0) := (blk_cell BK373.out 0).trans rfl; have hcz15_1 : w14.cell? ⟨gb373, 1, none⟩ = some (.string a0_1) := (blk_cell BK373.out 1).trans rfl; have hfz15_0 := blk_frozen BK373.out 0; have hfz15_1 := blk_frozen BK373.out 1) | ((with_reducible refine gate_callee (f := 10) rfl ?_); refine goesL_ (some 12) rfl rfl Try.func10 (by kernel_rfl) rfl #[.agg #[.int .i64 a0_0, .string a0_1]] rfl (by (try simp only [List.map_toArray, List.map_cons, List.map_nil]); first | done | rfl | (simp only [List.length_drop, List.length_take]; rfl)) ?_; (with_reducible refine (laws_toSigns.calls a0_0 a0_1 t375 t376 _ A7.out).mono ?_); rintro e w16 ⟨rfl, hb⟩; refine ⟨_, rfl, ?_⟩; have n0_ := am_ (blk_below (g := gb373) (o := .cells #[.int .i64 a0_0, .string a0_1] 23 (0, 0)) (kx_ BK373.out) hb); have n1_ := am_ (below_step (bx1 HB.out GE373.out) hb); clear BK373; clear HB; have BK373 := n0_; have HB := n1_; clear n0_ n1_; (try clear hb); (try clear hb2); (try clear hk); (try clear hi)) | ((with_reducible refine gate_callee (f := 15) rfl ?_); refine goesL_ (some 13) rfl rfl Try.func15 (by kernel_rfl) rfl #[.agg #[.int .i64 t375, .string t376]] rfl (by (try simp only [List.map_toArray, List.map_cons, List.map_nil]); first | done | rfl | (simp only [List.length_drop, List.length_take]; rfl)) ?_; (with_reducible refine (spec_LeastGrid.calls k t375 t376 t377 _ A8.out).mono ?_); rintro e w17 ⟨rfl, hb⟩; refine ⟨_, rfl, ?_⟩; have n0_ := am_ (blk_below (g := gb373) (o := .cells #[.int .i64 a0_0, .string a0_1] 23 (0, 0)) (kx_ BK373.out) hb); have n1_ := am_ (below_step (bx1 HB.out GE373.out) hb); clear BK373; clear HB; have BK373 := n0_; have HB := n1_; clear n0_ n1_; (try clear hb); (try clear hb2); (try clear hk); (try clear hi); have hcz18_0 : w17.cell? ⟨gb373, 0, none⟩ = some (.int .i64 a0_0) := (blk_cell BK373.out 0).trans rfl; have hcz18_1 : w17.cell? ⟨gb373, 1, none⟩ = some (.string a0_1) := (blk_cell BK373.out 1).trans rfl; have hfz18_0 := blk_frozen BK373.out 0; have hfz18_1 := blk_frozen BK373.out 1) | ((with_reducible refine gate_callee (f := 10) rfl ?_); refine goesL_ (some 15) rfl rfl Try.func10 (by kernel_rfl) rfl #[.agg #[.int .i64 a0_0, .string a0_1]] rfl (by (try simp only [List.map_toArray, List.map_cons, List.map_nil]); first | done | rfl | (simp only [List.length_drop, List.length_take]; rfl)) ?_; (with_reducible refine (laws_toSigns.calls a0_0 a0_1 t378 t379 _ A9.out).mono ?_); rintro e w19 ⟨rfl, hb⟩; refine ⟨_, rfl, ?_⟩; have n0_ := am_ (blk_below (g := gb373) (o := .cells #[.int .i64 a0_0, .string a0_1] 23 (0, 0)) (kx_ BK373.out) hb); have n1_ := am_ (below_step (bx1 HB.out GE373.out) hb); clear BK373; clear HB; have BK373 := n0_; have HB := n1_; clear n0_ n1_; (try clear hb); (try clear hb2); (try clear hk); (try clear hi)) | ((with_reducible refine gate_callee (f := 16) rfl ?_); refine goesL_ (some 16) rfl rfl Try.func16 (by kernel_rfl) rfl #[.agg #[.int .i64 t378, .string t379]] rfl (by (try simp only [List.map_toArray, List.map_cons, List.map_nil]); first | done | rfl | (simp only [List.length_drop, List.length_take]; rfl)) ?_; (with_reducible refine (impl_LeastGrid.calls k t378 t379 t380 _ A10.out).mono ?_); rintro e w20 ⟨rfl, hb⟩; refine ⟨_, rfl, ?_⟩; have n0_ := am_ (blk_below (g := gb373) (o := .cells #[.int .i64 a0_0, .string a0_1] 23 (0, 0)) (kx_ BK373.out) hb); have n1_ := am_ (below_step (bx1 HB.out GE373.out) hb); clear BK373; clear HB; have BK373 := n0_; have HB := n1_; clear n0_ n1_; (try clear hb); (try clear hb2); (try clear hk); (try clear hi)))
   go_ret
   exact ⟨by first | rfl | (simp [errW_none, errW_some] <;> rfl) | (simp [*, errW_none, errW_some] <;> rfl), bx1 HB.out GE373.out⟩
  ·rw [if_neg c11] at H
   have c11b0 : (t380 == t377) = false := beq_eq_false_iff_ne.mpr c11
   have c11b1 : (t380 != t377) = true := bne_iff_ne.mpr c11
   obtain rfl := Option.some.inj H
   go_enter Try.func4, Try.ntmps4
   go_wp2_with (first | ((with_reducible refine gate_dst (N := 1) rfl ?_); refine box_event ?hg (N := 1) ?hd (cs := #[.int .i64 a0_0, .string a0_1]) (t := 23) ?hr ?_; (case hd => rfl); (case hg => rfl); (case hr => first | (go_simp; done) | (go_simp; rfl)); intro gb373 hg w21 hbox hb; have n0_ := am_ (below_step (bx0 HB.out) hb); have n1_ := am_ (hbox); have n2_ := am_ ((by rw [hg]; exact (below_size (bx0 HB.out)) : w.heap.size ≤ gb373)); have n3_ := am_ ((by rw [hg]; exact (below_size (bx0 HB.out)) : w.heap.size ≤ gb373)); clear HB; have HB := n0_; have BK373 := n1_; have GW373 := n2_; have GE373 := n3_; clear n0_ n1_ n2_ n3_; clear hb hbox hg; have hcz22_0 : w21.cell? ⟨gb373, 0, none⟩ = some (.int .i64 a0_0) := (blk_cell BK373.out 0).trans rfl; have hcz22_1 : w21.cell? ⟨gb373, 1, none⟩ = some (.string a0_1) := (blk_cell BK373.out 1).trans rfl; have hfz22_0 := blk_frozen BK373.out 0; have hfz22_1 := blk_frozen BK373.out 1) | ((with_reducible refine gate_callee (f := 8) rfl ?_); refine goesL_ (some 8) rfl rfl Try.func8 (by kernel_rfl) rfl #[.agg #[.int .i64 a0_0, .string a0_1], .int .i64 1048576] rfl (by (try simp only [List.map_toArray, List.map_cons, List.map_nil]); first | done | rfl | (simp only [List.length_drop, List.length_take]; rfl)) ?_; (with_reducible refine (laws_szSigns.calls a0_0 a0_1 1048576 t374 _ A2.out).mono ?_); rintro e w23 ⟨rfl, hb⟩; refine ⟨_, rfl, ?_⟩; have n0_ := am_ (blk_below (g := gb373) (o := .cells #[.int .i64 a0_0, .string a0_1] 23 (0, 0)) (kx_ BK373.out) hb); have n1_ := am_ (below_step (bx1 HB.out GE373.out) hb); clear BK373; clear HB; have BK373 := n0_; have HB := n1_; clear n0_ n1_; (try clear hb); (try clear hb2); (try clear hk); (try clear hi); have hcz24_0 : w23.cell? ⟨gb373, 0, none⟩ = some (.int .i64 a0_0) := (blk_cell BK373.out 0).trans rfl; have hcz24_1 : w23.cell? ⟨gb373, 1, none⟩ = some (.string a0_1) := (blk_cell BK373.out 1).trans rfl; have hfz24_0 := blk_frozen BK373.out 0; have hfz24_1 := blk_frozen BK373.out 1) | ((with_reducible refine gate_callee (f := 10) rfl ?_); refine goesL_ (some 12) rfl rfl Try.func10 (by kernel_rfl) rfl #[.agg #[.int .i64 a0_0, .string a0_1]] rfl (by (try simp only [List.map_toArray, List.map_cons, List.map_nil]); first | done | rfl | (simp only [List.length_drop, List.length_take]; rfl)) ?_; (with_reducible refine (laws_toSigns.calls a0_0 a0_1 t375 t376 _ A7.out).mono ?_); rintro e w25 ⟨rfl, hb⟩; refine ⟨_, rfl, ?_⟩; have n0_ := am_ (blk_below (g := gb373) (o := .cells #[.int .i64 a0_0, .string a0_1] 23 (0, 0)) (kx_ BK373.out) hb); have n1_ := am_ (below_step (bx1 HB.out GE373.out) hb); clear BK373; clear HB; have BK373 := n0_; have HB := n1_; clear n0_ n1_; (try clear hb); (try clear hb2); (try clear hk); (try clear hi)) | ((with_reducible refine gate_callee (f := 15) rfl ?_); refine goesL_ (some 13) rfl rfl Try.func15 (by kernel_rfl) rfl #[.agg #[.int .i64 t375, .string t376]] rfl (by (try simp only [List.map_toArray, List.map_cons, List.map_nil]); first | done | rfl | (simp only [List.length_drop, List.length_take]; rfl)) ?_; (with_reducible refine (spec_LeastGrid.calls k t375 t376 t377 _ A8.out).mono ?_); rintro e w26 ⟨rfl, hb⟩; refine ⟨_, rfl, ?_⟩; have n0_ := am_ (blk_below (g := gb373) (o := .cells #[.int .i64 a0_0, .string a0_1] 23 (0, 0)) (kx_ BK373.out) hb); have n1_ := am_ (below_step (bx1 HB.out GE373.out) hb); clear BK373; clear HB; have BK373 := n0_; have HB := n1_; clear n0_ n1_; (try clear hb); (try clear hb2); (try clear hk); (try clear hi); have hcz27_0 : w26.cell? ⟨gb373, 0, none⟩ = some (.int .i64 a0_0) := (blk_cell BK373.out 0).trans rfl; have hcz27_1 : w26.cell? ⟨gb373, 1, none⟩ = some (.string a0_1) := (blk_cell BK373.out 1).trans rfl; have hfz27_0 := blk_frozen BK373.out 0; have hfz27_1 := blk_frozen BK373.out 1) | ((with_reducible refine gate_callee (f := 10) rfl ?_); refine goesL_ (some 15) rfl rfl Try.func10 (by kernel_rfl) rfl #[.agg #[.int .i64 a0_0, .string a0_1]] rfl (by (try simp only [List.map_toArray, List.map_cons, List.map_nil]); first | done | rfl | (simp only [List.length_drop, List.length_take]; rfl)) ?_; (with_reducible refine (laws_toSigns.calls a0_0 a0_1 t378 t379 _ A9.out).mono ?_); rintro e w28 ⟨rfl, hb⟩; refine ⟨_, rfl, ?_⟩; have n0_ := am_ (blk_below (g := gb373) (o := .cells #[.int .i64 a0_0, .string a0_1] 23 (0, 0)) (kx_ BK373.out) hb); have n1_ := am_ (below_step (bx1 HB.out GE373.out) hb); clear BK373; clear HB; have BK373 := n0_; have HB := n1_; clear n0_ n1_; (try clear hb); (try clear hb2); (try clear hk); (try clear hi)) | ((with_reducible refine gate_callee (f := 16) rfl ?_); refine goesL_ (some 16) rfl rfl Try.func16 (by kernel_rfl) rfl #[.agg #[.int .i64 t378, .string t379]] rfl (by (try simp only [List.map_toArray, List.map_cons, List.map_nil]); first | done | rfl | (simp only [List.length_drop, List.length_take]; rfl)) ?_; (with_reducible refine (impl_LeastGrid.calls k t378 t379 t380 _ A10.out).mono ?_); rintro e w29 ⟨rfl, hb⟩; refine ⟨_, rfl, ?_⟩; have n0_ := am_ (blk_below (g := gb373) (o := .cells #[.int .i64 a0_0, .string a0_1] 23 (0, 0)) (kx_ BK373.out) hb); have n1_ := am_ (below_step (bx1 HB.out GE373.out) hb); clear BK373; clear HB; have BK373 := n0_; have HB := n1_; clear n0_ n1_; (try clear hb); (try clear hb2); (try clear hk); (try clear hi)))
   go_ret
   exact ⟨by first | rfl | (simp [errW_none, errW_some] <;> rfl) | (simp [*, errW_none, errW_some] <;> rfl), bx1 HB.out GE373.out⟩
end Go.Proofs.Ytdkpiahpmgcmdaa.P
namespace Go.Proofs.Ytdkpiahpmgcmdaa.Rk
open Go.RowKit Go.ChangeShapes Go.WideShapes Go.Deep Go.Proofs.YtdkpiahpmgcmdaaW.PrintWords
def I64 (n : Int) : Prop := -9223372036854775808 ≤ n ∧ n ≤ 9223372036854775807
theorem I64_of {n : Int} (h : (Lit.int .i64 n).wf = true) : I64 n := by
  have e1 : IntKind.i64.min = -9223372036854775808 := by decide
  have e2 : IntKind.i64.max = 9223372036854775807 := by decide
  simp [Lit.wf, e1, e2] at h
  unfold I64
  omega
section
variable {H : Type} {enc : TypeId × Value → H} {P : Program} {w : World} {base : Nat} {spare : Nat → Bool} {held : Bool} {α : Type}
def Elem (enc : TypeId × Value → H) (P : Program) (w : World) (base : Nat) (spare : Nat → Bool) (held : Bool) (e : TypeId) (d : Kd α) (Q : α → Prop) : Prop :=
  ∀ (fuel : Nat) (cs : List Value) (x : DataW H × List MemPlace), DataW.trod enc P w base spare held fuel e cs = some x → ∃ y, d.K w y cs ∧ Q y
end
end Go.Proofs.Ytdkpiahpmgcmdaa.Rk
namespace Go.Proofs.Ytdkpiahpmgcmdaa.P
open Go.RowKit Go.ChangeShapes Go.WideShapes Go.Deep Go.Proofs.Ytdkpiahpmgcmdaa.Rk Go.Proofs.YtdkpiahpmgcmdaaW.PrintWords
theorem cells_3 : Try.prog.cellsOf 3 = 1 := by kernel_rfl
theorem cells_9 : Try.prog.cellsOf 9 = 1 := by kernel_rfl
def Q54 (x : S54) : Prop := I64 x.f0 ∧ I64 x.f1
instance : Inhabited S54 := ⟨z54⟩
def Q58 (x : S58) : Prop := I64 x.f0 ∧ I64 x.f1
instance : Inhabited S58 := ⟨z58⟩
def Q28 (x : S28) : Prop := I64 x.f0 ∧ x.f1.size ≤ 9223372036854775807
instance : Inhabited S28 := ⟨z28⟩
def Q23 (x : S23) : Prop := I64 x.f0 ∧ x.f1.size ≤ 9223372036854775807
instance : Inhabited S23 := ⟨z23⟩
theorem cells_23 : Try.prog.cellsOf 23 = 2 := by kernel_rfl
set_option maxRecDepth 100000 in
theorem elem23 {H : Type} {enc : TypeId × Value → H} {w : World} {base : Nat} {spare : Nat → Bool} {held : Bool} : Elem enc Try.prog w base spare held 23 k23 Q23 := by
  intro fuel cs x h
  obtain ⟨xs, n, _, _, hlen, hxl, hf⟩ := DataW.trod_struct Try.underlying23 h
  rw [cells_23] at hlen
  match cs, hlen with
  | [c0, c1], _ =>
    have h0 : DataW.trod enc Try.prog w base spare held n 3 (List.take (Try.prog.cellsOf 3) (List.drop 0 [c0, c1])) = xs[0]? := hf 0 _ rfl
    rw [cells_3] at h0
    have y0 : xs[0]? = some (xs[0]'(by rw [hxl]; decide)) := List.getElem?_eq_getElem _
    rw [y0] at h0
    obtain ⟨n0, e0, _, w0⟩ := DataW.trod_int Try.underlying3 h0
    have e0' : c0 = .int .i64 n0 := by simpa using e0
    have h1 : DataW.trod enc Try.prog w base spare held n 9 (List.take (Try.prog.cellsOf 9) (List.drop 1 [c0, c1])) = xs[1]? := hf 1 _ rfl
    rw [cells_9] at h1
    have y1 : xs[1]? = some (xs[1]'(by rw [hxl]; decide)) := List.getElem?_eq_getElem _
    rw [y1] at h1
    obtain ⟨n1, e1, _, w1⟩ := DataW.trod_string Try.underlying9 h1
    unfold maxLen at w1
    have e1' : c1 = .string n1 := by simpa using e1
    subst e0' e1'
    exact ⟨⟨n0, n1⟩, k23_mk w ⟨n0, n1⟩, I64_of w0, w1⟩
end Go.Proofs.Ytdkpiahpmgcmdaa.P
namespace Go.Proofs.Ytdkpiahpmgcmdaa.Pl
set_option linter.unusedSimpArgs false
set_option linter.unusedVariables false
open Go.RowKit Go.Proofs.YtdkpiahpmgcmdaaW.PrintWords
theorem wrap_in {n : Int} (h0 : -9223372036854775808 ≤ n) (h1 : n ≤ 9223372036854775807) : wrap64 n = n := by
  unfold wrap64
  omega
theorem wrap_nat (i : Nat) (h : i < 9223372036854775807) : wrap64 ((i : Int) + 1) = ((i + 1 : Nat) : Int) := by
  unfold wrap64
  omega
theorem Ev.const {α : Type} {x : Option α} {r : α} (h : x = some r) : Ev (fun _ => x) r := ⟨0, fun _ _ => h⟩
theorem Ev.ite_pos {α : Type} {c : Prop} [Decidable c] {g f : Nat → Option α} {r : α} (h : c) (k : Ev g r) : Ev (fun n => if c then g n else f n) r := by
  simpa only [if_pos h] using k
theorem Ev.ite_neg {α : Type} {c : Prop} [Decidable c] {g f : Nat → Option α} {r : α} (h : ¬ c) (k : Ev f r) : Ev (fun n => if c then g n else f n) r := by
  simpa only [if_neg h] using k
theorem Ev.bind0 {α β : Type} {x : Option α} {f : Nat → α → Option β} {a : α} {r : β} (h : x = some a) (k : Ev (fun n => f n a) r) : Ev (fun n => x.bind (f n)) r := by
  subst h
  exact k
theorem Ev.loop {ρ : Type} (g : Nat → Nat → Option ρ) (n : Nat) (r : ρ) (hend : Ev (g n) r) (hstep : ∀ i, i < n → Ev (g (i + 1)) r → Ev (g i) r) : ∀ i, i ≤ n → Ev (g i) r := by
  have key : ∀ d i, i + d = n → Ev (g i) r := by
    intro d
    induction d with
    | zero => intro i hi; obtain rfl : i = n := by omega
              exact hend
    | succ d ih => intro i hi; exact hstep i (by omega) (ih (i + 1) (by omega))
  intro i hi
  exact key (n - i) i (by omega)
theorem Ev.loop_to {ρ : Type} (g : Nat → Nat → Option ρ) (n : Nat) (R : Nat → ρ) (hend : Ev (g n) (R n)) (hstep : ∀ i, i < n → Ev (g (i + 1)) (R (i + 1)) → Ev (g i) (R i)) : ∀ i, i ≤ n → Ev (g i) (R i) := by
  have key : ∀ d i, i + d = n → Ev (g i) (R i) := by
    intro d
    induction d with
    | zero => intro i hi; obtain rfl : i = n := by omega
              exact hend
    | succ d ih => intro i hi; exact hstep i (by omega) (ih (i + 1) (by omega))
  intro i hi
  exact key (n - i) i (by omega)
theorem Ev.loop2 {ρ : Type} (g f : Nat → Nat → Option ρ) (n : Nat) (hend : ∃ r, Ev (g n) r ∧ Ev (f n) r) (hstep : ∀ i, i < n → (∃ r, Ev (g (i + 1)) r ∧ Ev (f (i + 1)) r) → ∃ r, Ev (g i) r ∧ Ev (f i) r) : ∀ i, i ≤ n → ∃ r, Ev (g i) r ∧ Ev (f i) r := by
  have key : ∀ d i, i + d = n → ∃ r, Ev (g i) r ∧ Ev (f i) r := by
    intro d
    induction d with
    | zero => intro i hi; obtain rfl : i = n := by omega
              exact hend
    | succ d ih => intro i hi; exact hstep i (by omega) (ih (i + 1) (by omega))
  intro i hi
  exact key (n - i) i (by omega)
theorem getD_lt {α : Type} (l : List α) (d : α) (i : Nat) (h : i < l.length) : l.getD i d = l[i] := by
  rw [List.getD_eq_getElem?_getD, List.getElem?_eq_getElem h]
  rfl
end Go.Proofs.Ytdkpiahpmgcmdaa.Pl
namespace Go.Proofs.Ytdkpiahpmgcmdaa.Pure
set_option linter.unusedSimpArgs false
set_option linter.unusedVariables false
open Go.RowKit Go.Proofs.YtdkpiahpmgcmdaaW.PrintWords Go.Proofs.Ytdkpiahpmgcmdaa.P Go.Proofs.Ytdkpiahpmgcmdaa.Pl
abbrev LPt := S58
abbrev Pt := S54
abbrev rdP (l : List Pt) (i : Nat) : Pt := rd_T54 l (i : Int)
def toP (x : LPt) : Pt := ⟨x.f0, x.f1⟩
theorem rdP_lt (l : List Pt) (i : Nat) (h : i < l.length) : rdP l i = l[i] := by
  unfold rdP rd_T54
  rw [Int.toNat_natCast, getD_lt _ _ _ h]
def markP (i : Nat) : Pt := ⟨((2 * i + 1 : Nat) : Int), ((2 * i + 2 : Nat) : Int)⟩
def marksP (n : Nat) : List Pt := (List.range n).map markP
abbrev T3 := S77
def tri : Nat → List T3
  | 3 => [⟨0, 1, 2⟩]
  | 4 => [⟨0, 1, 2⟩, ⟨0, 1, 3⟩, ⟨0, 2, 3⟩, ⟨1, 2, 3⟩]
  | 5 => [⟨0, 1, 2⟩, ⟨0, 1, 3⟩, ⟨0, 1, 4⟩, ⟨0, 2, 3⟩, ⟨0, 2, 4⟩, ⟨0, 3, 4⟩, ⟨1, 2, 3⟩, ⟨1, 2, 4⟩, ⟨1, 3, 4⟩, ⟨2, 3, 4⟩]
  | 6 => [⟨0, 1, 2⟩, ⟨0, 1, 3⟩, ⟨0, 1, 4⟩, ⟨0, 1, 5⟩, ⟨0, 2, 3⟩, ⟨0, 2, 4⟩, ⟨0, 2, 5⟩, ⟨0, 3, 4⟩, ⟨0, 3, 5⟩, ⟨0, 4, 5⟩, ⟨1, 2, 3⟩, ⟨1, 2, 4⟩, ⟨1, 2, 5⟩, ⟨1, 3, 4⟩, ⟨1, 3, 5⟩, ⟨1, 4, 5⟩, ⟨2, 3, 4⟩, ⟨2, 3, 5⟩, ⟨2, 4, 5⟩, ⟨3, 4, 5⟩]
  | 7 => [⟨0, 1, 2⟩, ⟨0, 1, 3⟩, ⟨0, 1, 4⟩, ⟨0, 1, 5⟩, ⟨0, 1, 6⟩, ⟨0, 2, 3⟩, ⟨0, 2, 4⟩, ⟨0, 2, 5⟩, ⟨0, 2, 6⟩, ⟨0, 3, 4⟩, ⟨0, 3, 5⟩, ⟨0, 3, 6⟩, ⟨0, 4, 5⟩, ⟨0, 4, 6⟩, ⟨0, 5, 6⟩, ⟨1, 2, 3⟩, ⟨1, 2, 4⟩, ⟨1, 2, 5⟩, ⟨1, 2, 6⟩, ⟨1, 3, 4⟩, ⟨1, 3, 5⟩, ⟨1, 3, 6⟩, ⟨1, 4, 5⟩, ⟨1, 4, 6⟩, ⟨1, 5, 6⟩, ⟨2, 3, 4⟩, ⟨2, 3, 5⟩, ⟨2, 3, 6⟩, ⟨2, 4, 5⟩, ⟨2, 4, 6⟩, ⟨2, 5, 6⟩, ⟨3, 4, 5⟩, ⟨3, 4, 6⟩, ⟨3, 5, 6⟩, ⟨4, 5, 6⟩]
  | _ => []
theorem tri_some : ∀ n : Nat, n ≤ 7 → impl_triplesOf.f 500 n = some (tri n)
  | 0, _ => by kernel_rfl
  | 1, _ => by kernel_rfl
  | 2, _ => by kernel_rfl
  | 3, _ => by kernel_rfl
  | 4, _ => by kernel_rfl
  | 5, _ => by kernel_rfl
  | 6, _ => by kernel_rfl
  | 7, _ => by kernel_rfl
  | n + 8, h => absurd h (by omega)
theorem triplesOf_ev (n : Nat) (h : n ≤ 7) : Ev (fun k => impl_triplesOf.f k n) (tri n) := Ev.of (impl_triplesOf.mono _) (tri_some n h)
theorem tri_length (n : Nat) (h : n ≤ 7) : ((tri n).length : Int) = Int.tdiv ((n : Int) * (n - 1) * (n - 2)) 6 := by
  have : (List.range 8).all (fun n => ((tri n).length : Int) == Int.tdiv ((n : Int) * ((n : Int) - 1) * ((n : Int) - 2)) 6) = true := by decide +kernel
  rw [List.all_eq_true] at this
  simpa using this n (by simp; omega)
def okT (n : Nat) (t : T3) : Bool := decide (0 ≤ t.f0 ∧ t.f0 < t.f1 ∧ t.f1 < t.f2 ∧ t.f2 < n)
theorem tri_ok (n : Nat) (h : n ≤ 7) : (tri n).all (okT n) = true := by
  have : (List.range 8).all (fun n => (tri n).all (okT n)) = true := by decide +kernel
  rw [List.all_eq_true] at this
  exact this n (by simp; omega)
def put3 (l : List Int) (t : T3) (v : Int) : List Int := chiSet l t.f0 t.f1 t.f2 v
def fill (v : Nat → Int) : List T3 → Nat → List Int → List Int
  | [], _, l => l
  | t :: ts, m, l => fill v ts (m + 1) (put3 l t (v m))
theorem fill_length (v : Nat → Int) : ∀ ts m l, (fill v ts m l).length = l.length := by
  intro ts
  induction ts with
  | nil => intro m l; rfl
  | cons t ts ih => intro m l; rw [fill, ih]; exact chiSet_length ..
theorem fill_append (v : Nat → Int) : ∀ ts us m l, fill v (ts ++ us) m l = fill v us (m + ts.length) (fill v ts m l) := by
  intro ts
  induction ts with
  | nil => intro us m l; rfl
  | cons t ts ih => intro us m l; rw [List.cons_append, fill, ih, fill, List.length_cons]; congr 1; omega
def par (t : T3) (x y z : Int) : Option Bool :=
  if (x = t.f0 ∧ y = t.f1 ∧ z = t.f2) ∨ (x = t.f1 ∧ y = t.f2 ∧ z = t.f0) ∨ (x = t.f2 ∧ y = t.f0 ∧ z = t.f1) then some true
  else if (x = t.f0 ∧ y = t.f2 ∧ z = t.f1) ∨ (x = t.f2 ∧ y = t.f1 ∧ z = t.f0) ∨ (x = t.f1 ∧ y = t.f0 ∧ z = t.f2) then some false else none
theorem rd_set (l : List Int) (p q : Nat) (v : Int) (h : p < l.length) : rd (l.set p v) q = if p = q then v else rd l q := by
  unfold rd
  rw [Int.toNat_natCast, List.getD_eq_getElem?_getD, List.getD_eq_getElem?_getD, List.getElem?_set]
  by_cases e : p = q
  · subst e
    simp [h]
  · simp [e]
theorem chiA_nat (l : List Int) (x y z : Nat) : chiA l x y z = rd l ((1 + x * 49 + y * 7 + z : Nat) : Int) := by
  unfold chiA
  congr 1
  omega
theorem pos_iff (a b c x y z : Nat) (ha : a < 7) (hb : b < 7) (hc : c < 7) (hx : x < 7) (hy : y < 7) (hz : z < 7) : (1 + a * 49 + b * 7 + c = 1 + x * 49 + y * 7 + z) ↔ (x = a ∧ y = b ∧ z = c) := by
  constructor
  · intro h
    have h1 : c = z := by have := congrArg (· % 7) (show a * 49 + b * 7 + c + 1 = x * 49 + y * 7 + z + 1 by omega); omega
    have h2 : b = y := by subst h1; omega
    exact ⟨by omega, h2.symm, h1.symm⟩
  · rintro ⟨rfl, rfl, rfl⟩
    rfl
theorem chiA_set (l : List Int) (hl : l.length = 344) (a b c : Nat) (ha : a < 7) (hb : b < 7) (hc : c < 7) (ab : a ≠ b) (bc : b ≠ c) (ac : a ≠ c) (v : Int) (x y z : Nat) (hx : x < 7) (hy : y < 7) (hz : z < 7) :
    chiA (chiSet l a b c v) x y z = match par ⟨a, b, c⟩ x y z with | some true => v | some false => wrap64 (-v) | none => chiA l x y z := by
  rw [chiA_nat, chiA_nat]
  unfold chiSet setL par
  simp only [Int.toNat_natCast]
  rw [rd_set _ _ _ _ (by first | (simp only [List.length_set]; omega) | omega), rd_set _ _ _ _ (by first | (simp only [List.length_set]; omega) | omega), rd_set _ _ _ _ (by first | (simp only [List.length_set]; omega) | omega), rd_set _ _ _ _ (by first | (simp only [List.length_set]; omega) | omega), rd_set _ _ _ _ (by first | (simp only [List.length_set]; omega) | omega), rd_set _ _ _ _ (by first | (simp only [List.length_set]; omega) | omega)]
  simp only [pos_iff a b c x y z (by omega) (by omega) (by omega) hx hy hz, pos_iff b c a x y z (by omega) (by omega) (by omega) hx hy hz, pos_iff c a b x y z (by omega) (by omega) (by omega) hx hy hz, pos_iff a c b x y z (by omega) (by omega) (by omega) hx hy hz, pos_iff c b a x y z (by omega) (by omega) (by omega) hx hy hz, pos_iff b a c x y z (by omega) (by omega) (by omega) hx hy hz]
  simp only [Int.natCast_inj]
  clear hl
  generalize rd l ((1 + x * 49 + y * 7 + z : Nat) : Int) = o
  by_cases k0 : x = a ∧ y = b ∧ z = c
  · have := k0
    have n1 : ¬ (x = b ∧ y = c ∧ z = a) := by omega
    have n2 : ¬ (x = c ∧ y = a ∧ z = b) := by omega
    have n3 : ¬ (x = a ∧ y = c ∧ z = b) := by omega
    have n4 : ¬ (x = c ∧ y = b ∧ z = a) := by omega
    have n5 : ¬ (x = b ∧ y = a ∧ z = c) := by omega
    clear this
    simp only [(eq_true k0), (eq_false n1), (eq_false n2), (eq_false n3), (eq_false n4), (eq_false n5), if_true, if_false, or_true, true_or, or_false, false_or]
  by_cases k1 : x = b ∧ y = c ∧ z = a
  · have := k1
    have n2 : ¬ (x = c ∧ y = a ∧ z = b) := by omega
    have n3 : ¬ (x = a ∧ y = c ∧ z = b) := by omega
    have n4 : ¬ (x = c ∧ y = b ∧ z = a) := by omega
    have n5 : ¬ (x = b ∧ y = a ∧ z = c) := by omega
    clear this
    simp only [(eq_false k0), (eq_true k1), (eq_false n2), (eq_false n3), (eq_false n4), (eq_false n5), if_true, if_false, or_true, true_or, or_false, false_or]
  by_cases k2 : x = c ∧ y = a ∧ z = b
  · have := k2
    have n3 : ¬ (x = a ∧ y = c ∧ z = b) := by omega
    have n4 : ¬ (x = c ∧ y = b ∧ z = a) := by omega
    have n5 : ¬ (x = b ∧ y = a ∧ z = c) := by omega
    clear this
    simp only [(eq_false k0), (eq_false k1), (eq_true k2), (eq_false n3), (eq_false n4), (eq_false n5), if_true, if_false, or_true, true_or, or_false, false_or]
  by_cases k3 : x = a ∧ y = c ∧ z = b
  · have := k3
    have n4 : ¬ (x = c ∧ y = b ∧ z = a) := by omega
    have n5 : ¬ (x = b ∧ y = a ∧ z = c) := by omega
    clear this
    simp only [(eq_false k0), (eq_false k1), (eq_false k2), (eq_true k3), (eq_false n4), (eq_false n5), if_true, if_false, or_true, true_or, or_false, false_or]
  by_cases k4 : x = c ∧ y = b ∧ z = a
  · have := k4
    have n5 : ¬ (x = b ∧ y = a ∧ z = c) := by omega
    clear this
    simp only [(eq_false k0), (eq_false k1), (eq_false k2), (eq_false k3), (eq_true k4), (eq_false n5), if_true, if_false, or_true, true_or, or_false, false_or]
  by_cases k5 : x = b ∧ y = a ∧ z = c
  · have := k5
    clear this
    simp only [(eq_false k0), (eq_false k1), (eq_false k2), (eq_false k3), (eq_false k4), (eq_true k5), if_true, if_false, or_true, true_or, or_false, false_or]
  simp only [(eq_false k0), (eq_false k1), (eq_false k2), (eq_false k3), (eq_false k4), (eq_false k5), if_true, if_false, or_true, true_or, or_false, false_or]
theorem chiA_put3 (l : List Int) (hl : l.length = 344) (t : T3) (ht : okT 7 t = true) (v : Int) (x y z : Nat) (hx : x < 7) (hy : y < 7) (hz : z < 7) :
    chiA (put3 l t v) x y z = match par t x y z with | some true => v | some false => wrap64 (-v) | none => chiA l x y z := by
  obtain ⟨a, b, c⟩ := t
  unfold okT at ht
  rw [decide_eq_true_eq] at ht
  obtain ⟨h0, h1, h2, h3⟩ := ht
  dsimp only at h0 h1 h2 h3
  obtain ⟨a, rfl⟩ := Int.eq_ofNat_of_zero_le h0
  obtain ⟨b, rfl⟩ := Int.eq_ofNat_of_zero_le (show 0 ≤ b by omega)
  obtain ⟨c, rfl⟩ := Int.eq_ofNat_of_zero_le (show 0 ≤ c by omega)
  exact chiA_set l hl a b c (by omega) (by omega) (by omega) (by omega) (by omega) (by omega) v x y z hx hy hz
theorem chiN_put3 (l : List Int) (hl : l.length = 344) (t : T3) (v : Int) : chiN (put3 l t v) = chiN l := by
  have h : ∀ (l : List Int) (p : Nat) (u : Int), rd (l.set (1 + p) u) 0 = rd l 0 := by
    intro l p u
    unfold rd
    simp [List.getD_eq_getElem?_getD, List.getElem?_set, show ¬ (1 + p = 0) by omega]
  unfold put3 chiSet setL chiN
  simp only [Nat.add_assoc, h]
def src : List T3 → Nat → Int → Int → Int → Option (Nat × Bool)
  | [], _, _, _, _ => none
  | t :: ts, m, x, y, z => (src ts (m + 1) x y z).or ((par t x y z).map fun b => (m, b))
def sval (v : Nat → Int) (o : Int) : Option (Nat × Bool) → Int
  | some (m, true) => v m
  | some (m, false) => wrap64 (-v m)
  | none => o
theorem chiA_fill (v : Nat → Int) (x y z : Nat) (hx : x < 7) (hy : y < 7) (hz : z < 7) : ∀ (ts : List T3), ts.all (okT 7) = true → ∀ m l, l.length = 344 → chiA (fill v ts m l) x y z = sval v (chiA l x y z) (src ts m x y z) := by
  intro ts
  induction ts with
  | nil => intro _ m l _; rfl
  | cons t ts ih =>
    intro h m l hl
    rw [List.all_cons, Bool.and_eq_true] at h
    rw [fill, ih h.2 (m + 1) _ (by unfold put3; rw [chiSet_length]; exact hl), chiA_put3 l hl t h.1 (v m) x y z hx hy hz, src]
    cases hs : src ts (m + 1) x y z with
    | some p => obtain ⟨q, b⟩ := p; cases b <;> rfl
    | none =>
      cases hp : par t x y z with
      | none => rfl
      | some b => cases b <;> rfl
theorem chiN_fill (v : Nat → Int) : ∀ (ts : List T3) m l, l.length = 344 → chiN (fill v ts m l) = chiN l := by
  intro ts
  induction ts with
  | nil => intro m l _; rfl
  | cons t ts ih => intro m l hl; rw [fill, ih _ _ (by unfold put3; rw [chiSet_length]; exact hl), chiN_put3 l hl]
theorem okT_mono {n : Nat} (h : n ≤ 7) (t : T3) (ht : okT n t = true) : okT 7 t = true := by
  unfold okT at ht ⊢
  rw [decide_eq_true_eq] at ht ⊢
  omega
theorem tri_ok7 (n : Nat) (h : n ≤ 7) : (tri n).all (okT 7) = true := by
  have := tri_ok n h
  rw [List.all_eq_true] at this ⊢
  exact fun t ht => okT_mono h t (this t ht)
theorem chiA_new (n : Int) (x y z : Nat) (hx : x < 7) (hy : y < 7) (hz : z < 7) : chiA (chiNew n) x y z = 0 := by
  rw [chiA_nat, show 1 + x * 49 + y * 7 + z = (x * 49 + y * 7 + z) + 1 by omega]
  unfold rd chiNew
  rw [Int.toNat_natCast, List.getD_cons_succ, List.getD_eq_getElem?_getD, List.getElem?_replicate]
  rw [if_pos (by omega)]
  rfl
def sgn (x : Int) : Int := if x < 0 then -1 else if x > 0 then 1 else 0
theorem signOf_eq (x : Int) : impl_signOf.f x = some (sgn x) := by
  unfold impl_signOf.f cmp_Compare_int.f cmp_isNaN_int.f sgn
  simp only [bne_self_eq_false, Option.bind_some, Bool.false_eq_true, if_false]
  by_cases h : x < 0
  · simp [h]
  · by_cases h2 : x > 0
    · simp [h, h2]
    · simp [h, h2]
theorem l2Sign_eq (x : Int) : spec_l2Sign.f x = some (sgn x) := by
  unfold spec_l2Sign.f spec_l1Bit.f sgn
  by_cases h : x < 0
  · have h2 : ¬ x > 0 := by omega
    simp [h, h2, wrap64]
  · by_cases h2 : x > 0
    · simp [h, h2, wrap64]
    · simp [h, h2, wrap64]
def nearB (b : Int) (p : Pt) : Bool := decide (-b ≤ p.f0 ∧ p.f0 ≤ b) && decide (-b ≤ p.f1 ∧ p.f1 ≤ b)
def areaP (a b c : Pt) : Int := wrap64 ((wrap64 ((wrap64 (b.f0 - a.f0)) * (wrap64 (c.f1 - a.f1)))) - (wrap64 ((wrap64 (b.f1 - a.f1)) * (wrap64 (c.f0 - a.f0)))))
theorem range_dropP (n i : Nat) (h : i < n) : (List.range n).drop i = i :: (List.range n).drop (i + 1) := by
  rw [List.drop_eq_getElem_cons (by simpa using h)]
  simp
theorem isFar_p (x b : Int) (hb : 0 ≤ b ∧ b ≤ 1000000) : impl_isFar.f x b = some (!decide (-b ≤ x ∧ x ≤ b)) := by
  unfold impl_isFar.f
  rw [wrap_in (by omega) (by omega)]
  by_cases h : x < -b
  · rw [if_pos h]
    simp [show ¬ -b ≤ x by omega]
  · rw [if_neg h]
    by_cases h2 : x ≤ b
    · simp [h2, show -b ≤ x by omega, show ¬ x > b by omega]
    · simp [h2, show x > b by omega]
theorem near1_eq (p : Pt) (b : Int) (hb : 0 ≤ b ∧ b ≤ 1000000) : impl_areNear_1.f p.f0 p.f1 b = some (!nearB b p) := by
  unfold impl_areNear_1.f nearB
  rw [isFar_p _ _ hb, isFar_p _ _ hb]
  by_cases h : -b ≤ p.f0 ∧ p.f0 ≤ b
  · simp [h]
  · simp [h]
def nearAll (b : Int) (l : List Pt) : Bool := (List.range l.length).all fun i => nearB b (rdP l i)
theorem areNear_ev (b : Int) (hb : 0 ≤ b ∧ b ≤ 1000000) (l : List Pt) (hl : l.length ≤ 1048576) : Ev (fun k => impl_areNear.f k b l) (nearAll b l) := by
  have key : ∀ d i, i + d = l.length → ∃ r, Ev (fun k => slices_IndexFunc_Simpl_Point_impl_Point_impl_areNear_1.l0 k l l.length i b) r ∧ decide (r ≥ 0) = !((List.range l.length).drop i).all fun j => nearB b (rdP l j) := by
    intro d
    induction d with
    | zero =>
      intro i hi
      refine ⟨-1, Ev.step (fun k => slices_IndexFunc_Simpl_Point_impl_Point_impl_areNear_1.l0.eq_2 ..) (Ev.ite_neg (by omega) (Ev.now _)), ?_⟩
      rw [List.drop_of_length_le (by simp; omega)]
      rfl
    | succ d ih =>
      intro i hi
      obtain ⟨r, hr, he⟩ := ih (i + 1) (by omega)
      rw [range_dropP _ i (by omega), List.all_cons]
      cases hn : nearB b (rdP l i) with
      | false =>
        refine ⟨i, Ev.step (fun k => slices_IndexFunc_Simpl_Point_impl_Point_impl_areNear_1.l0.eq_2 ..) (Ev.ite_pos (by omega) (Ev.ite_pos (by omega) (Ev.ite_pos (by omega) (Ev.bind0 (near1_eq _ _ hb) (Ev.ite_pos (by rw [hn]; rfl) (Ev.now _)))))), ?_⟩
        simp
      | true =>
        refine ⟨r, Ev.step (fun k => slices_IndexFunc_Simpl_Point_impl_Point_impl_areNear_1.l0.eq_2 ..) (Ev.ite_pos (by omega) (Ev.ite_pos (by omega) (Ev.ite_pos (by omega) (Ev.bind0 (near1_eq _ _ hb) (Ev.ite_neg (by rw [hn]; decide) ?_))))), ?_⟩
        · rw [wrap_nat i (by omega)]
          exact hr
        · rw [he, Bool.true_and]
  obtain ⟨r, hr, he⟩ := key l.length 0 (by omega)
  unfold impl_areNear.f slices_ContainsFunc_Simpl_Point_impl_Point_impl_areNear_1.f slices_IndexFunc_Simpl_Point_impl_Point_impl_areNear_1.f
  refine Ev.bind (Ev.bind hr (Ev.now _)) (Ev.const ?_)
  rw [he, List.drop_zero, Bool.not_not]
  rfl
theorem TurnOf_ev (a b c : Pt) (ha : nearB 50 a = true) (hb : nearB 50 b = true) (hc : nearB 50 c = true) : Ev (fun k => impl_TurnOf.f k a.f0 a.f1 b.f0 b.f1 c.f0 c.f1) (sgn (areaP a b c)) := by
  unfold impl_TurnOf.f
  have h := areNear_ev 1000 (by omega) [a, b, c] (by simp)
  have e : nearAll 1000 [a, b, c] = true := by
    unfold nearB at ha hb hc
    simp only [Bool.and_eq_true, decide_eq_true_eq] at ha hb hc
    simp only [nearAll, List.length_cons, List.length_nil, List.range_succ, List.range_zero, List.nil_append, List.cons_append, List.all_cons, List.all_nil, Bool.and_true, Bool.and_eq_true]
    refine ⟨?_, ?_, ?_⟩
    · show nearB 1000 a = true
      unfold nearB
      simp only [Bool.and_eq_true, decide_eq_true_eq]
      omega
    · show nearB 1000 b = true
      unfold nearB
      simp only [Bool.and_eq_true, decide_eq_true_eq]
      omega
    · show nearB 1000 c = true
      unfold nearB
      simp only [Bool.and_eq_true, decide_eq_true_eq]
      omega
  rw [e] at h
  exact Ev.bind h (Ev.ite_pos rfl (Ev.bind0 rfl (Ev.bind0 (signOf_eq _) (Ev.now _))))
def bentT (l : List Pt) (t : T3) : Bool := areaP (rd_T54 l t.f0) (rd_T54 l t.f1) (rd_T54 l t.f2) != 0
def bent (l : List Pt) (k j i : Nat) : Bool := areaP (rdP l k) (rdP l j) (rdP l i) != 0
def areP (l : List Pt) : Bool := decide (3 ≤ l.length ∧ l.length ≤ 7) && (nearAll 50 l && (tri l.length).all (bentT l))
theorem nearAll_at {b : Int} {l : List Pt} (h : nearAll b l = true) (i : Nat) (hi : i < l.length) : nearB b (rdP l i) = true := by
  unfold nearAll at h
  rw [List.all_eq_true] at h
  exact h i (by simpa using hi)
def okPt (l : List Pt) (i : Nat) : Bool := nearB 50 (rdP l i) && (List.range i).all fun j => (List.range j).all fun k => bent l k j i
theorem all_in : (List.range 8).all (fun n => (List.range n).all fun i => (List.range i).all fun j => (List.range j).all fun k => (tri n).any fun t => t.f0 == (k : Int) && t.f1 == (j : Int) && t.f2 == (i : Int)) = true := by decide +kernel
theorem tri_in (n i j k : Nat) (hn : n ≤ 7) (hi : i < n) (hj : j < i) (hk : k < j) : ∃ t ∈ tri n, t = (⟨k, j, i⟩ : T3) := by
  have h := all_in
  rw [List.all_eq_true] at h
  have h := h n (by simp; omega)
  rw [List.all_eq_true] at h
  have h := h i (by simpa using hi)
  rw [List.all_eq_true] at h
  have h := h j (by simpa using hj)
  rw [List.all_eq_true] at h
  have h := h k (by simpa using hk)
  obtain ⟨t, ht, he⟩ := List.any_eq_true.mp h
  refine ⟨t, ht, ?_⟩
  simp only [Bool.and_eq_true, beq_iff_eq] at he
  obtain ⟨a, b, c⟩ := t
  obtain ⟨⟨rfl, rfl⟩, rfl⟩ := he
  rfl
theorem areP_len {l : List Pt} (h : areP l = true) : 3 ≤ l.length ∧ l.length ≤ 7 := by
  unfold areP at h
  rw [Bool.and_eq_true, decide_eq_true_eq] at h
  exact h.1
def isPM (s : ByteArray) (m : Nat) : Bool := bt s (m : Int) == 43 || bt s (m : Int) == 45
def isS (n : Int) (s : ByteArray) : Bool := decide (3 ≤ n ∧ n ≤ 7 ∧ (s.size : Int) = Int.tdiv (n * (n - 1) * (n - 2)) 6) && (List.range s.size).all (isPM s)
theorem count3 {n : Int} (h3 : 3 ≤ n) (h7 : n ≤ 7) : wrap64 (wrap64 (n * wrap64 (n - 1)) * wrap64 (n - 2)) = n * (n - 1) * (n - 2) ∧ wrap64 (Int.tdiv (n * (n - 1) * (n - 2)) 6) = Int.tdiv (n * (n - 1) * (n - 2)) 6 ∧ 0 ≤ Int.tdiv (n * (n - 1) * (n - 2)) 6 ∧ Int.tdiv (n * (n - 1) * (n - 2)) 6 ≤ 35 := by
  have : n = 3 ∨ n = 4 ∨ n = 5 ∨ n = 6 ∨ n = 7 := by omega
  obtain rfl | rfl | rfl | rfl | rfl := this <;> (unfold wrap64; decide)
theorem range_drop' (n i : Nat) (h : i < n) : (List.range n).drop i = i :: (List.range n).drop (i + 1) := by
  rw [List.drop_eq_getElem_cons (by simpa using h)]
  simp
theorem l1In_is (x a b : Int) : spec_l1In.f x a b = some (decide (a ≤ x ∧ x ≤ b)) := by
  unfold spec_l1In.f
  by_cases h : x ≥ a
  · rw [if_pos h]
    simp [h]
  · rw [if_neg h]
    simp [show ¬ a ≤ x by omega]
theorem spec_AreSigns_ev (n : Int) (s : ByteArray) : Ev (fun k => spec_AreSigns.f k n s) (isS n s) := by
  unfold spec_AreSigns.f isS
  have no : ∀ x, Ev (fun k => spec_AreSigns.j0 k true n x) false := fun x => Ev.step (fun k => spec_AreSigns.j0.eq_2 ..) (Ev.ite_pos rfl (Ev.now _))
  by_cases h : 3 ≤ n ∧ n ≤ 7
  · obtain ⟨e1, e2, e3, e4⟩ := count3 h.1 h.2
    refine Ev.bind0 (l1In_is ..) (Ev.ite_pos (decide_eq_true h) ?_)
    rw [e1, e2]
    by_cases hc : (s.size : Int) = Int.tdiv (n * (n - 1) * (n - 2)) 6
    · rw [show decide (3 ≤ n ∧ n ≤ 7 ∧ (s.size : Int) = Int.tdiv (n * (n - 1) * (n - 2)) 6) = true from decide_eq_true ⟨h.1, h.2, hc⟩, Bool.true_and]
      refine Ev.step (fun k => spec_AreSigns.j0.eq_2 ..) (Ev.ite_neg (by simp [hc]) ?_)
      have key := Ev.loop_to (fun i k => spec_AreSigns.l0 k i n s) s.size (fun i => ((List.range s.size).drop i).all (isPM s)) ?_ ?_ 0 (by omega)
      · simpa using key
      · refine Ev.step (fun k => spec_AreSigns.l0.eq_2 ..) (Ev.ite_neg (by omega) (Ev.const ?_))
        rw [List.drop_of_length_le (by simp)]
        rfl
      · intro i hi ih
        rw [range_drop' _ _ hi, List.all_cons]
        refine Ev.step (fun k => spec_AreSigns.l0.eq_2 ..) (Ev.ite_pos (by omega) (Ev.ite_pos (by omega) ?_))
        rw [wrap_nat i (by omega)]
        rw [show isPM s i = (bt s (i : Int) == 43 || bt s (i : Int) == 45) from rfl]
        by_cases h43 : bt s (i : Int) = 43
        · refine Ev.ite_pos h43 ?_
          simpa [h43] using ih
        · refine Ev.ite_neg h43 ?_
          by_cases h45 : bt s (i : Int) = 45
          · refine Ev.ite_pos h45 ?_
            simpa [h45] using ih
          · refine Ev.ite_neg h45 (Ev.const ?_)
            simp [h43, h45]
    · rw [show decide (3 ≤ n ∧ n ≤ 7 ∧ (s.size : Int) = Int.tdiv (n * (n - 1) * (n - 2)) 6) = false from decide_eq_false (fun q => hc q.2.2), Bool.false_and]
      rw [show ((s.size : Int) != Int.tdiv (n * (n - 1) * (n - 2)) 6) = true by simpa using hc]
      exact no s
  · rw [show decide (3 ≤ n ∧ n ≤ 7 ∧ (s.size : Int) = Int.tdiv (n * (n - 1) * (n - 2)) 6) = false from decide_eq_false (fun q => h ⟨q.1, q.2.1⟩), Bool.false_and]
    exact Ev.bind0 (l1In_is ..) (Ev.ite_neg (by simpa using h) (no s))
theorem impl_AreSigns_ev (n : Int) (s : ByteArray) : Ev (fun k => impl_AreSigns.f k n s) (isS n s) := by
  unfold impl_AreSigns.f isS
  have no : ∀ x, Ev (fun k => impl_AreSigns.j0 k true n x) false := fun x => Ev.step (fun k => impl_AreSigns.j0.eq_2 ..) (Ev.ite_pos rfl (Ev.now _))
  by_cases h3 : n < 3
  · rw [show decide (3 ≤ n ∧ n ≤ 7 ∧ (s.size : Int) = Int.tdiv (n * (n - 1) * (n - 2)) 6) = false from decide_eq_false (fun q => by omega), Bool.false_and]
    exact Ev.ite_pos h3 (no s)
  · refine Ev.ite_neg h3 ?_
    by_cases h7 : n > 7
    · rw [show decide (3 ≤ n ∧ n ≤ 7 ∧ (s.size : Int) = Int.tdiv (n * (n - 1) * (n - 2)) 6) = false from decide_eq_false (fun q => by omega), Bool.false_and]
      exact Ev.ite_pos h7 (no s)
    · refine Ev.ite_neg h7 ?_
      obtain ⟨e1, e2, e3, e4⟩ := count3 (n := n) (by omega) (by omega)
      rw [e1, e2]
      by_cases hc : (s.size : Int) = Int.tdiv (n * (n - 1) * (n - 2)) 6
      · rw [show decide (3 ≤ n ∧ n ≤ 7 ∧ (s.size : Int) = Int.tdiv (n * (n - 1) * (n - 2)) 6) = true from decide_eq_true ⟨by omega, by omega, hc⟩, Bool.true_and]
        refine Ev.step (fun k => impl_AreSigns.j0.eq_2 ..) (Ev.ite_neg (by simp [hc]) ?_)
        have key := Ev.loop_to (fun i k => impl_AreSigns.l0 k i n s) s.size (fun i => ((List.range s.size).drop i).all (isPM s)) ?_ ?_ 0 (by omega)
        · simpa using key
        · refine Ev.step (fun k => impl_AreSigns.l0.eq_2 ..) (Ev.ite_neg (by omega) (Ev.const ?_))
          rw [List.drop_of_length_le (by simp)]
          rfl
        · intro i hi ih
          rw [range_drop' _ _ hi, List.all_cons]
          refine Ev.step (fun k => impl_AreSigns.l0.eq_2 ..) (Ev.ite_pos (by omega) (Ev.ite_pos (by omega) ?_))
          rw [wrap_nat i (by omega)]
          rw [show isPM s i = (bt s (i : Int) == 43 || bt s (i : Int) == 45) from rfl]
          by_cases h43 : bt s (i : Int) = 43
          · refine Ev.ite_pos h43 ?_
            simpa [h43] using ih
          · refine Ev.ite_neg h43 ?_
            by_cases h45 : bt s (i : Int) = 45
            · refine Ev.ite_pos h45 ?_
              simpa [h45] using ih
            · refine Ev.ite_neg h45 (Ev.const ?_)
              simp [h43, h45]
      · rw [show decide (3 ≤ n ∧ n ≤ 7 ∧ (s.size : Int) = Int.tdiv (n * (n - 1) * (n - 2)) 6) = false from decide_eq_false (fun q => hc q.2.2), Bool.false_and]
        rw [show ((s.size : Int) != Int.tdiv (n * (n - 1) * (n - 2)) 6) = true by simpa using hc]
        exact no s
theorem isS_bounds {n : Int} {s : ByteArray} (h : isS n s = true) : 3 ≤ n ∧ n ≤ 7 ∧ s.size = (tri n.toNat).length ∧ s.size ≤ 35 := by
  unfold isS at h
  rw [Bool.and_eq_true, decide_eq_true_eq] at h
  obtain ⟨⟨h3, h7, hc⟩, _⟩ := h
  have hb := (count3 h3 h7).2.2.2
  obtain ⟨m, rfl⟩ := Int.eq_ofNat_of_zero_le (show 0 ≤ n by omega)
  have ht := tri_length m (by omega)
  rw [Int.toNat_natCast]
  exact ⟨h3, h7, by omega, by omega⟩
def sgAt (s : ByteArray) (m : Nat) : Int := if bt s (m : Int) = 45 then -1 else 1
def tab (n : Nat) (s : ByteArray) : List Int := fill (sgAt s) (tri n) 0 (chiNew n)
def sg (n : Nat) (s : ByteArray) (x y z : Int) : Int := sval (sgAt s) 0 (src (tri n) 0 x y z)
theorem tab_length (n : Nat) (s : ByteArray) : (tab n s).length = 344 := by
  unfold tab
  rw [fill_length, chiNew_length]
theorem tab_n (n : Nat) (s : ByteArray) : chiN (tab n s) = n := by
  unfold tab
  rw [chiN_fill _ _ _ _ (chiNew_length _)]
  rfl
theorem tab_at (n : Nat) (hn : n ≤ 7) (s : ByteArray) (x y z : Nat) (hx : x < 7) (hy : y < 7) (hz : z < 7) : chiA (tab n s) x y z = sg n s x y z := by
  unfold tab sg
  rw [chiA_fill _ x y z hx hy hz _ (tri_ok7 n hn) 0 _ (chiNew_length _), chiA_new _ x y z hx hy hz]
theorem tri_at (n : Nat) (hn : n ≤ 7) (i : Nat) (hi : i < (tri n).length) : okT 7 (tri n)[i] = true := by
  have := tri_ok7 n hn
  rw [List.all_eq_true] at this
  exact this _ (List.getElem_mem hi)
theorem rdT_lt (l : List T3) (i : Nat) (h : i < l.length) : rd_T77 l (i : Int) = l[i] := by
  unfold rd_T77
  rw [Int.toNat_natCast, getD_lt _ _ _ h]
theorem tableOf_ev (n : Nat) (hn : n ≤ 7) (s : ByteArray) (hs : s.size = (tri n).length) : Ev (fun k => impl_tableOf.f k n s) (tab n s) := by
  unfold impl_tableOf.f
  refine Ev.bind (triplesOf_ev n hn) ?_
  have h35 : (tri n).length ≤ 1000 := by
    have : (List.range 8).all (fun n => decide ((tri n).length ≤ 1000)) = true := by decide +kernel
    rw [List.all_eq_true] at this
    simpa using this n (by simp; omega)
  have key := Ev.loop (fun i k => impl_tableOf.l0 k (fill (sgAt s) ((tri n).take i) 0 (chiNew n)) (tri n) (tri n).length i n s) (tri n).length (tab n s) ?_ ?_ 0 (by omega)
  · simpa [fill] using key
  · refine Ev.step (fun k => impl_tableOf.l0.eq_2 ..) (Ev.ite_neg (by omega) (Ev.const ?_))
    rw [List.take_length]
    rfl
  · intro i hi ih
    refine Ev.step (fun k => impl_tableOf.l0.eq_2 ..) (Ev.ite_pos (by omega) (Ev.ite_pos (by omega) (Ev.ite_pos (by omega) (Ev.ite_pos (by omega) ?_))))
    have ht := tri_at n hn i hi
    rw [wrap_nat i (by omega), rdT_lt _ i hi]
    rw [List.take_succ_eq_append_getElem hi, fill_append, Nat.zero_add, List.length_take, Nat.min_eq_left (by omega)] at ih
    have hl : (fill (sgAt s) ((tri n).take i) 0 (chiNew n)).length = 344 := by rw [fill_length, chiNew_length]
    generalize fill (sgAt s) ((tri n).take i) 0 (chiNew n) = l at ih hl ⊢
    generalize (tri n)[i] = t at ih ht ⊢
    unfold okT at ht
    rw [decide_eq_true_eq] at ht
    have hset : ∀ v, impl_chi_set.f l t.f0 t.f1 t.f2 v = some (put3 l t v) := by
      intro v
      unfold impl_chi_set.f
      rw [if_pos ⟨hl, by omega, by omega, by omega⟩]
      rfl
    rw [fill, fill] at ih
    unfold sgAt at ih
    by_cases h45 : bt s (i : Int) = 45
    · rw [if_pos h45] at ih
      exact Ev.ite_pos h45 (Ev.bind0 (hset _) ih)
    · rw [if_neg h45] at ih
      exact Ev.ite_neg h45 (Ev.bind0 (hset _) ih)
def srt2 (n x y z p : Int) : Option (Int × Int) := if x > y then (spec_l3Index.f 60 n y x z).map fun m => (m, -p) else (spec_l3Index.f 60 n x y z).map fun m => (m, p)
def srt1 (n x y z p : Int) : Option (Int × Int) := if y > z then srt2 n x z y (-p) else srt2 n x y z p
def srt (n x y z : Int) : Option (Int × Int) := if x > y then srt1 n y x z (-1) else srt1 n x y z 1
def okSrt (n : Nat) (x y z : Nat) : Bool :=
  match srt n x y z, src (tri n) 0 x y z with
  | some (m, p), some (q, b) => m == (q : Int) && decide (q < (tri n).length) && (p == if b then 1 else -1)
  | _, _ => false
theorem all_srt : (List.range 8).all (fun n => (List.range n).all fun x => (List.range n).all fun y => (List.range n).all fun z => x == y || y == z || x == z || okSrt n x y z) = true := by decide +kernel
theorem srt_ok (n x y z : Nat) (hn : n ≤ 7) (hx : x < n) (hy : y < n) (hz : z < n) (h1 : x ≠ y) (h2 : y ≠ z) (h3 : x ≠ z) : okSrt n x y z = true := by
  have h := all_srt
  rw [List.all_eq_true] at h
  have h := h n (by simp; omega)
  rw [List.all_eq_true] at h
  have h := h x (by simpa using hx)
  rw [List.all_eq_true] at h
  have h := h y (by simpa using hy)
  rw [List.all_eq_true] at h
  have h := h z (by simpa using hz)
  simpa [h1, h2, h3] using h
theorem l3Index_ev {n x y z m : Int} (h : spec_l3Index.f 60 n x y z = some m) : Ev (fun k => spec_l3Index.f k n x y z) m := Ev.of (spec_l3Index.mono _ _ _ _) h
def look (s : ByteArray) (m p : Int) : Int := if bt s m = 45 then wrap64 (-p) else p
theorem j1_ev (n x y z p m q : Int) (s : ByteArray) (hp : p = 1 ∨ p = -1) (h : srt2 n x y z p = some (m, q)) (hm : 0 ≤ m) (hs : m < (s.size : Int)) : Ev (fun k => spec_l3At.j1 k x y z p n s) (look s m q) := by
  refine Ev.step (fun k => spec_l3At.j1.eq_2 ..) ?_
  have hw : wrap64 (-p) = -p := wrap_in (by omega) (by omega)
  unfold srt2 at h
  unfold look
  by_cases hxy : x > y
  · rw [if_pos hxy] at h
    obtain ⟨m', h1, h2⟩ := Option.map_eq_some_iff.mp h
    cases h2
    refine Ev.ite_pos hxy (Ev.bind (l3Index_ev h1) (Ev.ite_pos hm (Ev.ite_pos hs ?_)))
    rw [hw]
    by_cases h45 : bt s m = 45
    · exact Ev.ite_pos h45 (Ev.const (by rw [if_pos h45]))
    · exact Ev.ite_neg h45 (Ev.const (by rw [if_neg h45]))
  · rw [if_neg hxy] at h
    obtain ⟨m', h1, h2⟩ := Option.map_eq_some_iff.mp h
    cases h2
    refine Ev.ite_neg hxy (Ev.bind (l3Index_ev h1) (Ev.ite_pos hm (Ev.ite_pos hs ?_)))
    by_cases h45 : bt s m = 45
    · exact Ev.ite_pos h45 (Ev.const (by rw [if_pos h45]))
    · exact Ev.ite_neg h45 (Ev.const (by rw [if_neg h45]))
theorem j0_ev (n x y z p m q : Int) (s : ByteArray) (hp : p = 1 ∨ p = -1) (h : srt1 n x y z p = some (m, q)) (hm : 0 ≤ m) (hs : m < (s.size : Int)) : Ev (fun k => spec_l3At.j0 k x y z p n s) (look s m q) := by
  refine Ev.step (fun k => spec_l3At.j0.eq_2 ..) ?_
  have hw : wrap64 (-p) = -p := wrap_in (by omega) (by omega)
  unfold srt1 at h
  by_cases hyz : y > z
  · rw [if_pos hyz] at h
    rw [hw]
    exact Ev.ite_pos hyz (j1_ev n x z y (-p) m q s (by omega) h hm hs)
  · rw [if_neg hyz] at h
    exact Ev.ite_neg hyz (j1_ev n x y z p m q s hp h hm hs)
theorem l3At_ev (n : Nat) (hn : n ≤ 7) (s : ByteArray) (hs : s.size = (tri n).length) (x y z : Nat) (hx : x < n) (hy : y < n) (hz : z < n) (h1 : x ≠ y) (h2 : y ≠ z) (h3 : x ≠ z) :
    Ev (fun k => spec_l3At.f k n s x y z) (sg n s x y z) := by
  have h := srt_ok n x y z hn hx hy hz h1 h2 h3
  unfold okSrt at h
  unfold spec_l3At.f sg
  cases ha : srt n x y z with
  | none => rw [ha] at h; cases h
  | some mp =>
    obtain ⟨m, p⟩ := mp
    cases hb : src (tri n) 0 x y z with
    | none => rw [ha, hb] at h; cases h
    | some qb =>
      obtain ⟨q, b⟩ := qb
      rw [ha, hb] at h
      simp only [Bool.and_eq_true, beq_iff_eq, decide_eq_true_eq] at h
      obtain ⟨⟨rfl, hq⟩, hp⟩ := h
      have e : sval (sgAt s) 0 (some (q, b)) = look s q p := by
        subst hp
        unfold sval look sgAt
        cases b <;> by_cases h45 : bt s (q : Int) = 45 <;> simp [h45, wrap64]
      rw [e]
      unfold srt at ha
      by_cases hxy : (x : Int) > y
      · rw [if_pos hxy] at ha
        exact Ev.ite_pos hxy (j0_ev n y x z (-1) q p s (by omega) ha (by omega) (by omega))
      · rw [if_neg hxy] at ha
        exact Ev.ite_neg hxy (j0_ev n x y z 1 q p s (by omega) ha (by omega) (by omega))
theorem sg_pm (n : Nat) (hn : n ≤ 7) (s : ByteArray) (x y z : Nat) (hx : x < n) (hy : y < n) (hz : z < n) (h1 : x ≠ y) (h2 : y ≠ z) (h3 : x ≠ z) : sg n s x y z = 1 ∨ sg n s x y z = -1 := by
  have h := srt_ok n x y z hn hx hy hz h1 h2 h3
  unfold okSrt at h
  unfold sg
  cases ha : srt n x y z with
  | none => rw [ha] at h; cases h
  | some mp =>
    cases hb : src (tri n) 0 x y z with
    | none => rw [ha, hb] at h; cases h
    | some qb =>
      obtain ⟨q, b⟩ := qb
      unfold sval sgAt
      cases b <;> by_cases h45 : bt s (q : Int) = 45 <;> simp [h45, wrap64]
end Go.Proofs.Ytdkpiahpmgcmdaa.Pure
namespace Go.Proofs.Ytdkpiahpmgcmdaa.Pl
set_option linter.unusedSimpArgs false
set_option linter.unusedVariables false
open Go.RowKit Go.Proofs.YtdkpiahpmgcmdaaW.PrintWords
theorem range_dropS (n i : Nat) (h : i < n) : (List.range n).drop i = i :: (List.range n).drop (i + 1) := by
  rw [List.drop_eq_getElem_cons (by simpa using h)]
  simp
def Srch {ρ : Type} (g : Nat → Nat → Option ρ) (m : Nat) (P : Nat → Bool) (v : ρ) (lo : Nat) : Prop :=
  ∀ r, (((List.range m).drop lo).any P = true → r = v) → (((List.range m).drop lo).any P = false → Ev (g m) r) → Ev (g lo) r
theorem Srch.of {ρ : Type} (g : Nat → Nat → Option ρ) (m : Nat) (P : Nat → Bool) (v : ρ) (lo : Nat) (hlo : lo ≤ m)
    (hstep : ∀ i, lo ≤ i → i < m → ∀ r, (P i = true → r = v) → (P i = false → Ev (g (i + 1)) r) → Ev (g i) r) : Srch g m P v lo := by
  have key : ∀ d i, lo ≤ i → i + d = m → Srch g m P v i := by
    intro d
    induction d with
    | zero =>
      intro i _ hi
      obtain rfl : i = m := by omega
      intro r _ h2
      exact h2 (by rw [List.drop_of_length_le (by simp)]; rfl)
    | succ d ih =>
      intro i hl hi r h1 h2
      rw [range_dropS m i (by omega), List.any_cons] at h1 h2
      refine hstep i hl (by omega) r (fun h => h1 (by rw [h, Bool.true_or])) (fun h => ih (i + 1) (by omega) (by omega) r (fun k => h1 (by rw [k, Bool.or_true])) (fun k => h2 (by rw [h, k]; rfl)))
  exact key (m - lo) lo (Nat.le_refl _) (by omega)
theorem Srch.ans {ρ : Type} {g : Nat → Nat → Option ρ} {m : Nat} {P : Nat → Bool} {v w : ρ} {lo : Nat} (h : Srch g m P v lo) (he : Ev (g m) w) : Ev (g lo) (if ((List.range m).drop lo).any P then v else w) := by
  refine h _ (fun k => by rw [k]; rfl) (fun k => by rw [k]; exact he)
theorem Ev.up {ρ : Type} {f : Int → Nat → Option ρ} {i : Nat} {r : ρ} (hi : i < 1000000) (h : Ev (f ((i + 1 : Nat) : Int)) r) : Ev (f (wrap64 ((i : Int) + 1))) r := by
  rw [wrap_nat i (by omega)]
  exact h
end Go.Proofs.Ytdkpiahpmgcmdaa.Pl
namespace Go.Proofs.Ytdkpiahpmgcmdaa.Pure
set_option linter.unusedSimpArgs false
set_option linter.unusedVariables false
open Go.RowKit Go.Proofs.YtdkpiahpmgcmdaaW.PrintWords Go.Proofs.Ytdkpiahpmgcmdaa.P Go.Proofs.Ytdkpiahpmgcmdaa.Pl
def inL (l : List Int) (x : Int) : Bool := (List.range l.length).any fun j : Nat => x == rd l (j : Int)
def nxt (n : Nat) (l : List Int) : List (List Int) := ((List.range n).filter fun i : Nat => !inL l (i : Int)).map fun i : Nat => l ++ [(i : Int)]
def lev (n : Nat) : Nat → List (List Int)
  | 0 => [[]]
  | k + 1 => (lev n k).flatMap (nxt n)
def AN (n : Nat) : List (List Int) := lev n n
def inv (p : List Int) : List Int := (List.range p.length).map fun j : Nat => (p.idxOf (j : Int) : Int)
def okP (n : Nat) (p : List Int) : Bool := (p.length == n && (inv p).length == n) && (List.range n).all fun a => decide (0 ≤ rd p (a : Int) ∧ rd p (a : Int) < n ∧ 0 ≤ rd (inv p) (a : Int) ∧ rd (inv p) (a : Int) < n) && (List.range n).all fun x => decide ((x : Int) = rd p (a : Int)) == decide (rd (inv p) (x : Int) = (a : Int))
end Go.Proofs.Ytdkpiahpmgcmdaa.Pure
namespace Go.Proofs.Ytdkpiahpmgcmdaa.P
open Go.RowKit Go.Proofs.YtdkpiahpmgcmdaaW.PrintWords Go.Proofs.YtdkpiahpmgcmdaaW.PrintLast Go.Proofs.YtdkpiahpmgcmdaaW.PrintMore
set_option linter.unusedVariables false
set_option linter.unusedSimpArgs false
def oppI (x : Int) : Int := if x = 43 then 45 else if x = 45 then 43 else x
def oppL (s : ByteArray) : List Int := (List.range s.size).map fun j : Nat => oppI (bt s (j : Int))
def impl_opposite.f (a0 : ByteArray) : Option ByteArray := if a0.size ≤ 9223372036854775807 then some (strOfNums (oppL a0)) else none
def oppR (s : ByteArray) (i j : Nat) : Int := if j < i then oppI (bt s (j : Int)) else bt s (j : Int)
theorem OPB (w : World) (e : TypeId) (s : ByteArray) : Below w.heap.size w (Lib.bytesWorld w e s) :=
  ⟨rfl, rfl, rfl, by rw [Lib.bytesWorld_size]; omega, fun k hk => Lib.bytesWorld_at_old w e s k hk⟩
theorem OPW (i : Nat) (h : i < 9223372036854775807) : wrap64 ((i : Int) + 1) = ((i + 1 : Nat) : Int) := by
  unfold wrap64
  omega
theorem opp_bt (s : ByteArray) (j : Nat) (hj : j < s.size) : (some (Value.int .u8 (s.data.toList.getD j 0).toNat)) = some (.int .u8 (bt s (j : Int))) := by
  unfold bt
  rw [dif_pos (by simpa using hj)]
  have h : j < s.data.toList.length := hj
  rw [List.getD_eq_getElem?_getD, List.getElem?_eq_getElem h]
  rfl
theorem opp_frozen (w : World) (e : TypeId) (s : ByteArray) (j : Nat) (hj : j < s.size) : (Lib.bytesWorld w e s).frozen? ⟨w.heap.size, j, none⟩ = false := by
  have h1 : s.size ≤ (Lib.bytesCells w e s).size := by
    unfold Lib.bytesCells
    rw [Array.size_append, Array.size_map]
    exact Nat.le_add_right _ _
  unfold World.frozen?
  simp only [Lib.bytesWorld_at_new]
  simp
  omega
set_option maxHeartbeats 2000000 in
set_option maxRecDepth 100000 in
theorem impl_opposite.calls (a0 : ByteArray) (r : ByteArray) (w : World) (h : impl_opposite.f a0 = some r) :
    Calls Try.prog 71 #[.string a0] w fun e w' => e = .returned (.string r) ∧ Below w.heap.size w w' := by
  unfold impl_opposite.f at h
  by_cases hsz : a0.size ≤ 9223372036854775807
  case neg => rw [if_neg hsz] at h; cases h
  rw [if_pos hsz] at h
  obtain rfl := Option.some.inj h
  clear h
  have hcv : ∀ W : World, (convert 9 108 (.string a0)).run Try.prog W = .ok (.slice (some ⟨W.heap.size, 0, none⟩) a0.size (grownCap W a0.size 0 5)) (Lib.bytesWorld W 5 a0) :=
    fun W => Lib.run_convert_string_bytes W _ _ _ a0 Try.underlying9 Try.underlying108 Try.underlying5
  have hbel0 : Below w.heap.size w (Lib.bytesWorld w 5 a0) := OPB w 5 a0
  have hc0 : ∀ j, j < a0.size → (Lib.bytesWorld w 5 a0).cell? ⟨w.heap.size, j, none⟩ = some (.int .u8 (bt a0 (j : Int))) := fun j hj => by
    rw [Lib.bytesWorld_cell w 5 a0 j hj, opp_bt a0 j hj]
  have hf0 : ∀ j, j < a0.size → (Lib.bytesWorld w 5 a0).frozen? ⟨w.heap.size, j, none⟩ = false := fun j hj => opp_frozen w 5 a0 j hj
  have HC := Aside0.mk hc0; have HF := Aside0.mk hf0; have HB := Aside0.mk hbel0; have HS := Aside0.mk hsz
  clear hc0 hf0 hbel0 hsz
  go_enter Try.func71, Try.ntmps71
  go_wp2
  generalize grownCap w a0.size 0 5 = cap
  generalize Lib.bytesWorld w 5 a0 = w1 at HC HF HB ⊢
  go_loopg [10] a0.size (fun gg v10 wr => ∃ i : Nat, i ≤ a0.size ∧ a0.size - i ≤ gg ∧ v10 = .int .i64 i ∧ Aside0 (Below w.heap.size w wr) ∧ Aside0 (∀ j, j < a0.size → wr.cell? ⟨w.heap.size, j, none⟩ = some (.int .u8 (oppR a0 i j))) ∧ Aside0 (∀ j, j < a0.size → wr.frozen? ⟨w.heap.size, j, none⟩ = false))
  case atStart =>
    refine ⟨0, Nat.zero_le _, by omega, rfl, HB, ⟨fun j hj => ?_⟩, HF⟩
    rw [HC.out j hj]
    rfl
  case round =>
    clear HC HF HB
    obtain ⟨i, hi, hg, rfl, HB, HC, HF⟩ := hrel
    by_cases hlt : i < a0.size
    · have hltz : (i : Int) < (a0.size : Int) := by omega
      have l1 := HC.out i hlt
      have f1 := HF.out i hlt
      rw [show oppR a0 i i = bt a0 (i : Int) by unfold oppR; rw [if_neg (Nat.lt_irrefl _)]] at l1
      have hstep : ∀ (W : World) (x : Int), x = oppI (bt a0 (i : Int)) → (∀ j, j < a0.size → W.cell? ⟨w.heap.size, j, none⟩ = some (.int .u8 (if j = i then x else oppR a0 i j))) → ∀ j, j < a0.size → W.cell? ⟨w.heap.size, j, none⟩ = some (.int .u8 (oppR a0 (i + 1) j)) := by
        intro W x hx hW j hj
        rw [hW j hj]
        unfold oppR
        by_cases e : j = i
        · subst e; rw [if_pos rfl, if_pos (Nat.lt_succ_self _), hx]
        · rw [if_neg e]
          by_cases e2 : j < i
          · rw [if_pos e2, if_pos (by omega)]
          · rw [if_neg e2, if_neg (by omega)]
      have HSTEP := Aside0.mk hstep
      clear hstep
      generalize hb : bt a0 (i : Int) = b at l1 HSTEP
      have HBB := Aside0.mk hb
      clear hb
      by_cases h43 : b = 43
      · subst h43
        go_wp2
        go_roundg (a0.size - (i + 1))
        case measure => omega
        case rel =>
          refine ⟨i + 1, by omega, by omega, by rw [OPW i (by have := HS.out; omega)], ⟨HB.out.setCell (Nat.le_refl _) _⟩, ⟨HSTEP.out _ 45 rfl (fun j hj => ?_)⟩, ⟨fun j hj => by rw [World.frozen?_setCell]; exact HF.out j hj⟩⟩
          by_cases e : j = i
          · subst e; rw [if_pos rfl, World.cell?_setCell_same (h := l1)]
          · rw [if_neg e, World.cell?_setCell_other (h := by intro h; injection h with _ h2 _; exact e h2.symm)]; exact HC.out j hj
      · by_cases h45 : b = 45
        · subst h45
          have n43 : ((45 : Int) == 43) = false := rfl
          go_wp2
          go_roundg (a0.size - (i + 1))
          case measure => omega
          case rel =>
            refine ⟨i + 1, by omega, by omega, by rw [OPW i (by have := HS.out; omega)], ⟨HB.out.setCell (Nat.le_refl _) _⟩, ⟨HSTEP.out _ 43 rfl (fun j hj => ?_)⟩, ⟨fun j hj => by rw [World.frozen?_setCell]; exact HF.out j hj⟩⟩
            by_cases e : j = i
            · subst e; rw [if_pos rfl, World.cell?_setCell_same (h := l1)]
            · rw [if_neg e, World.cell?_setCell_other (h := by intro h; injection h with _ h2 _; exact e h2.symm)]; exact HC.out j hj
        · have n43 : (b == 43) = false := beq_eq_false_iff_ne.mpr h43
          have n45 : (b == 45) = false := beq_eq_false_iff_ne.mpr h45
          go_wp2
          go_roundg (a0.size - (i + 1))
          case measure => omega
          case rel =>
            refine ⟨i + 1, by omega, by omega, by rw [OPW i (by have := HS.out; omega)], HB, ⟨HSTEP.out _ b (by unfold oppI; rw [if_neg h43, if_neg h45]) (fun j hj => ?_)⟩, HF⟩
            by_cases e : j = i
            · subst e; rw [if_pos rfl]; exact l1
            · rw [if_neg e]; exact HC.out j hj
    · have hltz : ¬ (i : Int) < (a0.size : Int) := by omega
      have : i = a0.size := by omega
      subst this
      have hcv2 : ∀ W : World, (∀ j, j < a0.size → W.cell? ⟨w.heap.size, 0 + j, none⟩ = some (.int .u8 ((oppL a0).getD j 0))) → (convert 108 9 (Value.slice (some ⟨w.heap.size, 0, none⟩) a0.size cap)).run Try.prog W = .ok (.string (strOfNums (oppL a0))) W :=
        fun W hW => run_convert_bytes_arg W 108 5 Try.underlying108 Try.underlying5 w.heap.size 0 a0.size cap (oppL a0) (by rw [oppL, List.length_map, List.length_range]) hW 9 Try.underlying9
      have hcv3 := hcv2 wr (fun j hj => by
        rw [Nat.zero_add, HC.out j hj]
        unfold oppR oppL
        rw [if_pos hj, List.getD_eq_getElem?_getD, List.getElem?_map, List.getElem?_range hj]
        rfl)
      go_wp2
      go_ret
      exact ⟨rfl, HB.out⟩
end Go.Proofs.Ytdkpiahpmgcmdaa.P
namespace Go.Proofs.Ytdkpiahpmgcmdaa.P
open Go.RowKit Go.Proofs.YtdkpiahpmgcmdaaW.PrintWords Go.Proofs.YtdkpiahpmgcmdaaW.PrintLast Go.Proofs.YtdkpiahpmgcmdaaW.PrintMore
attribute [local go_sem] ptrOf_slice
attribute [local go_sem] min2_str max2_int min2_int max_two min_two max_three min_three max_four min_four
set_option linter.unusedVariables false
set_option linter.unusedSimpArgs false
def impl_chi_circuit.l0 : Nat → List Int → List Int → Int → Int → Option (ByteArray)
 | 0, _, _, _, _ => none
 | k + 1, x11, x56, x57, x58 => if x58 < x57 then (if 0 ≤ x58 then (if x58 < (x56.length : Int) then (if (rd x56 x58) > 0 then (if x11.length < 140737488355328 then (impl_chi_circuit.l0 k (x11 ++ [43]) x56 x57 (wrap64 (x58 + 1))) else (none)) else (if x11.length < 140737488355328 then (impl_chi_circuit.l0 k (x11 ++ [45]) x56 x57 (wrap64 (x58 + 1))) else (none))) else (none)) else (none)) else (if 0 < (x11.length : Int) then (if (rd x11 0) = 45 then ((impl_opposite.f (strOfNums x11)).bind fun t526 => (some t526)) else (some (strOfNums x11))) else (none))
def impl_chi_circuit.f (k : Nat) (l0 : List Int) (a1 : Int) (a2 : Int) (a3 : Int) (a4 : Int) : Option (ByteArray) := if 344 ≤ (l0.length : Int) then (if 0 ≤ a2 then (if a2 < 7 then (if 0 ≤ a3 then (if a3 < 7 then (if 0 ≤ a4 then (if a4 < 7 then (if 0 ≤ a1 then (if a1 < 7 then ((some (([chiA l0 a2 a3 a4, wrap64 (-(chiA l0 a1 a3 a4)), chiA l0 a1 a2 a4, wrap64 (-(chiA l0 a1 a2 a3))] : List Int) : List Int)).bind fun y515 => (impl_chi_circuit.l0 k ([] : List Int) y515 (y515.length : Int) 0)) else (none)) else (none)) else (none)) else (none)) else (none)) else (none)) else (none)) else (none)) else (none)
def impl_chi_circuit.T2 : Bool × List (List Nat × List Nat) := (true, [([], []), ([], []), ([], []), ([], []), ([0], [0]), ([4], [4]), ([5, 1], [1, 5]), ([6, 2], [2, 6]), ([7, 3], [3, 7]), ([8], [8]), ([], []), ([], []), ([], []), ([], []), ([10], [10]), ([14], [14]), ([15, 11], [11, 15]), ([16, 12], [12, 16]), ([17, 13], [13, 17]), ([18], [18]), ([19], [19]), ([], []), ([], []), ([], []), ([], []), ([21], [21]), ([25], [25]), ([26, 22], [22, 26]), ([27, 23], [23, 27]), ([28, 24], [24, 28]), ([29], [29]), ([], []), ([], []), ([], []), ([], []), ([31], [31]), ([35], [35]), ([36, 32], [32, 36]), ([37, 33], [33, 37]), ([38, 34], [34, 38]), ([39], [39]), ([40], [40]), ([9, 20, 30, 41], [9, 20, 30, 41]), ([42], [42]), ([], [])])
def impl_chi_circuit.B2 : List Nat := [0, 0, 0, 0, 1, 17, 51, 119, 255, 511, 0, 0, 0, 0, 1024, 17408, 52224, 121856, 261120, 523264, 1047552, 0, 0, 0, 0, 2097152, 35651584, 106954752, 249561088, 534773760, 1071644672, 0, 0, 0, 0, 2147483648, 36507222016, 109521666048, 255550554112, 547608330240, 1097364144128, 2196875771904, 4398046511103, 8796093022207, 0]
def impl_chi_split.l0 : Nat → ByteArray → Int → Int → List Int → Int → Int → Option (Int × Int)
 | 0, _, _, _, _, _, _ => none
 | k + 1, x12, x13, x14, x27, x28, x29 => if x29 < x28 then (if 0 ≤ x29 then (if x29 < (x27.length : Int) then (if x29 < (x12.size : Int) then (if (bt x12 x29) = 43 then (if 0 ≤ (rd x27 x29) then (impl_chi_split.l0 k x12 (Go.bits .or .i64 x13 (shl .i64 1 (rd x27 x29))) x14 x27 x28 (wrap64 (x29 + 1))) else (none)) else (if 0 ≤ (rd x27 x29) then (impl_chi_split.l0 k x12 x13 (Go.bits .or .i64 x14 (shl .i64 1 (rd x27 x29))) x27 x28 (wrap64 (x29 + 1))) else (none))) else (none)) else (none)) else (none)) else (some (x13, x14))
def impl_chi_split.f (k : Nat) (l0 : List Int) (a1 : Int) (a2 : Int) (a3 : Int) (a4 : Int) : Option (Int × Int) := (impl_chi_circuit.f k l0 a1 a2 a3 a4).bind fun t527 => ((some (([a1, a2, a3, a4] : List Int) : List Int)).bind fun y528 => (impl_chi_split.l0 k t527 0 0 y528 (y528.length : Int) 0))
def spec_l5Split.l0 : Nat → List Int → ByteArray → Int → Int → Int → Option (Int × Int)
 | 0, _, _, _, _, _ => none
 | k + 1, x1, x6, x7, x8, x9 => if x9 < 4 then (if 0 ≤ x9 then (if x9 < (x6.size : Int) then (if (bt x6 x9) = 43 then (if x9 < (x1.length : Int) then (if 0 ≤ (IntKind.u64.wrap (rd x1 x9)) then (spec_l5Split.l0 k x1 x6 (wrap64 (x7 + (shl .i64 1 (IntKind.u64.wrap (rd x1 x9))))) x8 (wrap64 (x9 + 1))) else (none)) else (none)) else (if x9 < (x1.length : Int) then (if 0 ≤ (IntKind.u64.wrap (rd x1 x9)) then (spec_l5Split.l0 k x1 x6 x7 (wrap64 (x8 + (shl .i64 1 (IntKind.u64.wrap (rd x1 x9))))) (wrap64 (x9 + 1))) else (none)) else (none))) else (none)) else (none)) else (some (x7, x8))
def spec_l5Split.f (k : Nat) (a0_0 : Int) (a0_1 : ByteArray) (l1 : List Int) : Option (Int × Int) := if 0 < (l1.length : Int) then (if 1 < (l1.length : Int) then (if 2 < (l1.length : Int) then (if 3 < (l1.length : Int) then ((spec_l4Circuit.f k a0_0 a0_1 (rd l1 0) (rd l1 1) (rd l1 2) (rd l1 3)).bind fun t404 => (spec_l5Split.l0 k l1 t404 0 0 0)) else (none)) else (none)) else (none)) else (none)
def spec_l5Split.T1 : Bool × List (List Nat × List Nat) := (true, [([], []), ([], []), ([1], [1]), ([2], [2]), ([], []), ([4], [4]), ([5], [5]), ([], []), ([7], [7]), ([8], [8]), ([], []), ([10], [10]), ([11], [11]), ([0, 3, 6, 9, 12], [0, 3, 6, 9, 12]), ([13, 13, 0, 1, 2, 3, 4, 5, 6, 7, 8, 9, 10, 11, 12, 13], [13])])
def spec_l5Split.B1 : List Nat := [0, 0, 2, 6, 0, 16, 48, 0, 128, 384, 0, 1024, 3072, 8191, 16383]
end Go.Proofs.Ytdkpiahpmgcmdaa.P
