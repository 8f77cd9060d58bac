/- What the law FnExactLeastGrid reaches, part 9: functions as plain Lean functions with the proofs that their calls come to them, and plain lemmas over these. Put together by a program (wip/pack.py). -/
import Derived.Test.YtdkpiahpmgcmdaaKFnExactLeastGridc
import Derived.Test.YtdkpiahpmgcmdaaKFnExactLeastGridf
import Derived.Test.YtdkpiahpmgcmdaaKFnExactLeastGridh
namespace Go.Proofs.Ytdkpiahpmgcmdaa.P
open Go.RowKit Go.Proofs.YtdkpiahpmgcmdaaW.PrintWords Go.Proofs.YtdkpiahpmgcmdaaW.PrintLast Go.Proofs.YtdkpiahpmgcmdaaW.PrintMore
attribute [local go_sem] ptrOf_slice
attribute [local go_sem] min2_str max2_int min2_int max_two min_two max_three min_three max_four min_four
set_option linter.unusedVariables false
set_option linter.unusedSimpArgs false
def spec_PlacePoints.f (k : Nat) (a0_0 : Int) (a0_1 : ByteArray) (a1 : Int) : Option ((List (S54)) × Bool) := (spec_AreSigns.f k a0_0 a0_1).bind fun t194 => (if t194 = true then (if a0_0 > 5 then (some ((([] : List (S54))), false)) else ((spec_l1In.f a1 1 5).bind fun t198 => (if t198 = true then (if a0_0 = 5 then ((spec_IsAcyclic.f k a0_0 a0_1).bind fun t199 => (if t199 = true then (if a0_0 = 4 then ((spec_IsAcyclic.f k a0_0 a0_1).bind fun t200 => (if t200 = true then ((spec_l23Place.f k a0_0 a0_1 a1 (([] : List (S54)))).bind fun bt204 => (some (bt204.1, bt204.2))) else (some ((([] : List (S54))), false)))) else ((spec_l23Place.f k a0_0 a0_1 a1 (([] : List (S54)))).bind fun bt214 => (some (bt214.1, bt214.2)))) else (some ((([] : List (S54))), false)))) else (if a0_0 = 4 then ((spec_IsAcyclic.f k a0_0 a0_1).bind fun t221 => (if t221 = true then ((spec_l23Place.f k a0_0 a0_1 a1 (([] : List (S54)))).bind fun bt225 => (some (bt225.1, bt225.2))) else (some ((([] : List (S54))), false)))) else ((spec_l23Place.f k a0_0 a0_1 a1 (([] : List (S54)))).bind fun bt235 => (some (bt235.1, bt235.2))))) else (some ((([] : List (S54))), false))))) else (some ((([] : List (S54))), false)))
set_option maxHeartbeats 8000000 in
set_option maxRecDepth 100000 in
theorem spec_PlacePoints.calls (k : Nat) (a0_0 : Int) (a0_1 : ByteArray) (a1 : Int) (r1 : List (S54)) (r2 : Bool) (w : World) (h : spec_PlacePoints.f k a0_0 a0_1 a1 = some (r1, r2)) :
  Calls Try.prog 9 #[.agg #[.int .i64 a0_0, .string a0_1], .int .i64 a1] w fun e w' => ∃ v0_ : Value, e = .returned (.tuple #[v0_, .bool r2]) ∧ Kd.R k54 54 w' w.heap.size (fun _ => True) v0_ r1 ∧ Below w.heap.size w w' := by
 have hu28 := Try.underlying28
 have HB := am_ (Below.refl w.heap.size w)
 have H : ((spec_AreSigns.f k a0_0 a0_1).bind fun t194 => (if t194 = true then (if a0_0 > 5 then (some ((([] : List (S54))), false)) else ((spec_l1In.f a1 1 5).bind fun t198 => (if t198 = true then (if a0_0 = 5 then ((spec_IsAcyclic.f k a0_0 a0_1).bind fun t199 => (if t199 = true then (if a0_0 = 4 then ((spec_IsAcyclic.f k a0_0 a0_1).bind fun t200 => (if t200 = true then ((spec_l23Place.f k a0_0 a0_1 a1 (([] : List (S54)))).bind fun bt204 => (some (bt204.1, bt204.2))) else (some ((([] : List (S54))), false)))) else ((spec_l23Place.f k a0_0 a0_1 a1 (([] : List (S54)))).bind fun bt214 => (some (bt214.1, bt214.2)))) else (some ((([] : List (S54))), false)))) else (if a0_0 = 4 then ((spec_IsAcyclic.f k a0_0 a0_1).bind fun t221 => (if t221 = true then ((spec_l23Place.f k a0_0 a0_1 a1 (([] : List (S54)))).bind fun bt225 => (some (bt225.1, bt225.2))) else (some ((([] : List (S54))), false)))) else ((spec_l23Place.f k a0_0 a0_1 a1 (([] : List (S54)))).bind fun bt235 => (some (bt235.1, bt235.2))))) else (some ((([] : List (S54))), false))))) else (some ((([] : List (S54))), false)))) = some (r1, r2) := h
 clear h
 replace H := Option.bind_eq_some_iff.mp H
 obtain ⟨t194, A30, H⟩ := H
 replace H : (if t194 = true then (if a0_0 > 5 then (some ((([] : List (S54))), false)) else ((spec_l1In.f a1 1 5).bind fun t198 => (if t198 = true then (if a0_0 = 5 then ((spec_IsAcyclic.f k a0_0 a0_1).bind fun t199 => (if t199 = true then (if a0_0 = 4 then ((spec_IsAcyclic.f k a0_0 a0_1).bind fun t200 => (if t200 = true then ((spec_l23Place.f k a0_0 a0_1 a1 (([] : List (S54)))).bind fun bt204 => (some (bt204.1, bt204.2))) else (some ((([] : List (S54))), false)))) else ((spec_l23Place.f k a0_0 a0_1 a1 (([] : List (S54)))).bind fun bt214 => (some (bt214.1, bt214.2)))) else (some ((([] : List (S54))), false)))) else (if a0_0 = 4 then ((spec_IsAcyclic.f k a0_0 a0_1).bind fun t221 => (if t221 = true then ((spec_l23Place.f k a0_0 a0_1 a1 (([] : List (S54)))).bind fun bt225 => (some (bt225.1, bt225.2))) else (some ((([] : List (S54))), false)))) else ((spec_l23Place.f k a0_0 a0_1 a1 (([] : List (S54)))).bind fun bt235 => (some (bt235.1, bt235.2))))) else (some ((([] : List (S54))), false))))) else (some ((([] : List (S54))), false))) = some (r1, r2) := H
 have A3 := am_ A30
 clear A30
 by_cases c4 : t194 = true
 ·subst c4
  have H1 : (if a0_0 > 5 then (some ((([] : List (S54))), false)) else ((spec_l1In.f a1 1 5).bind fun t198 => (if t198 = true then (if a0_0 = 5 then ((spec_IsAcyclic.f k a0_0 a0_1).bind fun t199 => (if t199 = true then (if a0_0 = 4 then ((spec_IsAcyclic.f k a0_0 a0_1).bind fun t200 => (if t200 = true then ((spec_l23Place.f k a0_0 a0_1 a1 (([] : List (S54)))).bind fun bt204 => (some (bt204.1, bt204.2))) else (some ((([] : List (S54))), false)))) else ((spec_l23Place.f k a0_0 a0_1 a1 (([] : List (S54)))).bind fun bt214 => (some (bt214.1, bt214.2)))) else (some ((([] : List (S54))), false)))) else (if a0_0 = 4 then ((spec_IsAcyclic.f k a0_0 a0_1).bind fun t221 => (if t221 = true then ((spec_l23Place.f k a0_0 a0_1 a1 (([] : List (S54)))).bind fun bt225 => (some (bt225.1, bt225.2))) else (some ((([] : List (S54))), false)))) else ((spec_l23Place.f k a0_0 a0_1 a1 (([] : List (S54)))).bind fun bt235 => (some (bt235.1, bt235.2))))) else (some ((([] : List (S54))), false))))) = some (r1, r2) := by rw [if_pos rfl] at H; exact H
  clear H
  have H := H1
  clear H1
  by_cases c5 : a0_0 > 5
  ·rw [if_pos c5] at H
   have c5b0 : decide (5 < a0_0) = true := decide_eq_true c5
   clear c5
   obtain ⟨y195, hy195⟩ : ∃ y_ : List (S54), y_ = (([] : List (S54))) := ⟨_, rfl⟩
   replace H : (some (y195, false)) = some (r1, r2) := by first | (rw [hy195]; with_reducible exact H) | (have H2_ := (Option.bind_some _ _).symm.trans H; rw [hy195]; with_reducible exact H2_) | (have H2_ := (Option.bind_some _ _).symm.trans H; with_reducible exact H2_) | with_reducible exact H | (rw [hy195]; exact H) | exact H
   have Ny195 := am_ hy195
   clear hy195
   simp only [Option.some.injEq, Prod.mk.injEq] at H
   obtain ⟨rfl, rfl⟩ := H
   go_enter Try.func9, Try.ntmps9
   go_wp2_with (first | ((with_reducible refine gate_dst (N := 2) rfl ?_); refine box_event ?hg (N := 2) ?hd (cs := #[.int .i64 a0_0, .string a0_1]) (t := 28) ?hr ?_; (case hd => rfl); (case hg => rfl); (case hr => first | (go_simp; done) | (go_simp; rfl)); intro gb193 hg w6 hbox hb; have n0_ := am_ (below_step (bx0 HB.out) hb); have n1_ := am_ (hbox); have n2_ := am_ ((by rw [hg]; exact (below_size (bx0 HB.out)) : w.heap.size ≤ gb193)); have n3_ := am_ ((by rw [hg]; exact (below_size (bx0 HB.out)) : w.heap.size ≤ gb193)); clear HB; have HB := n0_; have BK193 := n1_; have GW193 := n2_; have GE193 := n3_; clear n0_ n1_ n2_ n3_; clear hb hbox hg; have hcz7_0 : w6.cell? ⟨gb193, 0, none⟩ = some (.int .i64 a0_0) := (blk_cell BK193.out 0).trans rfl; have hcz7_1 : w6.cell? ⟨gb193, 1, none⟩ = some (.string a0_1) := (blk_cell BK193.out 1).trans rfl; have hfz7_0 := blk_frozen BK193.out 0; have hfz7_1 := blk_frozen BK193.out 1) | ((with_reducible refine gate_callee (f := 28) rfl ?_); refine goesL_ (some 9) rfl rfl Try.func28 (by kernel_rfl) rfl #[.agg #[.int .i64 a0_0, .string a0_1]] rfl (by (try simp only [List.map_toArray, List.map_cons, List.map_nil]); first | done | rfl | (simp only [List.length_drop, List.length_take]; rfl)) ?_; (with_reducible refine (spec_AreSigns.calls k a0_0 a0_1 true _ A3.out).mono ?_); rintro e w8 ⟨rfl, hb⟩; refine ⟨_, rfl, ?_⟩; have n0_ := am_ (blk_below (g := gb193) (o := .cells #[.int .i64 a0_0, .string a0_1] 28 (0, 0)) (kx_ BK193.out) hb); have n1_ := am_ (below_step (bx1 HB.out GE193.out) hb); clear BK193; clear HB; have BK193 := n0_; have HB := n1_; clear n0_ n1_; (try clear hb); (try clear hb2); (try clear hk); (try clear hi); have hcz9_0 : w8.cell? ⟨gb193, 0, none⟩ = some (.int .i64 a0_0) := (blk_cell BK193.out 0).trans rfl; have hcz9_1 : w8.cell? ⟨gb193, 1, none⟩ = some (.string a0_1) := (blk_cell BK193.out 1).trans rfl; have hfz9_0 := blk_frozen BK193.out 0; have hfz9_1 := blk_frozen BK193.out 1) | ((with_reducible refine gate_dst (N := 41) rfl ?_); refine Kd.R_lit k54 _ 54 ?hg (N := 41) ?hd (xs := ([] : List (S54))) (inner := []) (ok := fun _ => True) (okp := fun _ => True) ?hr ?hp (fun _ hk => hk) trivial (Below.refl _ _) (Nat.le_refl _) (by simp) ?_; (case hd => rfl); (case hg => rfl); (case hr => first | (go_simp; done) | (go_simp; rfl)); (case hp => exact (Reps.none _ _)); intro v196 w10 ho11 hb hg_ hnew_; clear hg_ hnew_; (first | rw [← Ny195.out] at ho11 | (simp only [Int.reduceToNat] at ho11; rw [← Ny195.out] at ho11)); have n0_ := am_ (Kd.R_lower ho11 (below_size (bx1 HB.out GE193.out))); have n1_ := am_ (blk_below (g := gb193) (o := .cells #[.int .i64 a0_0, .string a0_1] 28 (0, 0)) (kx_ BK193.out) hb); have n2_ := am_ (below_step (bx1 HB.out GE193.out) hb); clear BK193; clear HB; have HO197 := n0_; have BK193 := n1_; have HB := n2_; clear n0_ n1_ n2_; clear hb ho11))
   go_ret2
   exact ⟨_, by first | rfl | (simp [errW_none, errW_some] <;> rfl) | (simp [*, errW_none, errW_some] <;> rfl), rx_ HO197.out, bx1 HB.out GE193.out⟩
  ·rw [if_neg c5] at H
   have c5b0 : decide (5 < a0_0) = false := decide_eq_false c5
   clear c5
   replace H := Option.bind_eq_some_iff.mp H
   obtain ⟨t198, A120, H⟩ := H
   replace H : (if t198 = true then (if a0_0 = 5 then ((spec_IsAcyclic.f k a0_0 a0_1).bind fun t199 => (if t199 = true then (if a0_0 = 4 then ((spec_IsAcyclic.f k a0_0 a0_1).bind fun t200 => (if t200 = true then ((spec_l23Place.f k a0_0 a0_1 a1 (([] : List (S54)))).bind fun bt204 => (some (bt204.1, bt204.2))) else (some ((([] : List (S54))), false)))) else ((spec_l23Place.f k a0_0 a0_1 a1 (([] : List (S54)))).bind fun bt214 => (some (bt214.1, bt214.2)))) else (some ((([] : List (S54))), false)))) else (if a0_0 = 4 then ((spec_IsAcyclic.f k a0_0 a0_1).bind fun t221 => (if t221 = true then ((spec_l23Place.f k a0_0 a0_1 a1 (([] : List (S54)))).bind fun bt225 => (some (bt225.1, bt225.2))) else (some ((([] : List (S54))), false)))) else ((spec_l23Place.f k a0_0 a0_1 a1 (([] : List (S54)))).bind fun bt235 => (some (bt235.1, bt235.2))))) else (some ((([] : List (S54))), false))) = some (r1, r2) := H
   have A12 := am_ A120
   clear A120
   by_cases c13 : t198 = true
   ·subst c13
    have H1 : (if a0_0 = 5 then ((spec_IsAcyclic.f k a0_0 a0_1).bind fun t199 => (if t199 = true then (if a0_0 = 4 then ((spec_IsAcyclic.f k a0_0 a0_1).bind fun t200 => (if t200 = true then ((spec_l23Place.f k a0_0 a0_1 a1 (([] : List (S54)))).bind fun bt204 => (some (bt204.1, bt204.2))) else (some ((([] : List (S54))), false)))) else ((spec_l23Place.f k a0_0 a0_1 a1 (([] : List (S54)))).bind fun bt214 => (some (bt214.1, bt214.2)))) else (some ((([] : List (S54))), false)))) else (if a0_0 = 4 then ((spec_IsAcyclic.f k a0_0 a0_1).bind fun t221 => (if t221 = true then ((spec_l23Place.f k a0_0 a0_1 a1 (([] : List (S54)))).bind fun bt225 => (some (bt225.1, bt225.2))) else (some ((([] : List (S54))), false)))) else ((spec_l23Place.f k a0_0 a0_1 a1 (([] : List (S54)))).bind fun bt235 => (some (bt235.1, bt235.2))))) = some (r1, r2) := by rw [if_pos rfl] at H; exact H
    clear H
    have H := H1
    clear H1
    by_cases c14 : a0_0 = 5
    ·rw [if_pos c14] at H
     have c14b0 : (a0_0 == 5) = true := beq_iff_eq.mpr c14
     have c14b1 : (a0_0 != 5) = false := bne_eq_false_iff_eq.mpr c14
     clear c14
     replace H := Option.bind_eq_some_iff.mp H
     obtain ⟨t199, A150, H⟩ := H
     replace H : (if t199 = true then (if a0_0 = 4 then ((spec_IsAcyclic.f k a0_0 a0_1).bind fun t200 => (if t200 = true then ((spec_l23Place.f k a0_0 a0_1 a1 (([] : List (S54)))).bind fun bt204 => (some (bt204.1, bt204.2))) else (some ((([] : List (S54))), false)))) else ((spec_l23Place.f k a0_0 a0_1 a1 (([] : List (S54)))).bind fun bt214 => (some (bt214.1, bt214.2)))) else (some ((([] : List (S54))), false))) = some (r1, r2) := H
     have A15 := am_ A150
     clear A150
     by_cases c16 : t199 = true
     ·subst c16
      have H1 : (if a0_0 = 4 then ((spec_IsAcyclic.f k a0_0 a0_1).bind fun t200 => (if t200 = true then ((spec_l23Place.f k a0_0 a0_1 a1 (([] : List (S54)))).bind fun bt204 => (some (bt204.1, bt204.2))) else (some ((([] : List (S54))), false)))) else ((spec_l23Place.f k a0_0 a0_1 a1 (([] : List (S54)))).bind fun bt214 => (some (bt214.1, bt214.2)))) = some (r1, r2) := by rw [if_pos rfl] at H; exact H
      clear H
      have H := H1
      clear H1
      by_cases c17 : a0_0 = 4
      ·exfalso
       have e5_ : a0_0 = 5 := by first | exact c14 | simpa using c14b0
       omega
      ·rw [if_neg c17] at H
       have c17b0 : (a0_0 == 4) = false := beq_eq_false_iff_ne.mpr c17
       have c17b1 : (a0_0 != 4) = true := bne_iff_ne.mpr c17
       obtain ⟨y211, hy211⟩ : ∃ y_ : List (S54), y_ = (([] : List (S54))) := ⟨_, rfl⟩
       replace H : ((spec_l23Place.f k a0_0 a0_1 a1 y211).bind fun bt214 => (some (bt214.1, bt214.2))) = some (r1, r2) := by first | (rw [hy211]; with_reducible exact H) | (have H2_ := (Option.bind_some _ _).symm.trans H; rw [hy211]; with_reducible exact H2_) | (have H2_ := (Option.bind_some _ _).symm.trans H; with_reducible exact H2_) | with_reducible exact H | (rw [hy211]; exact H) | exact H
       have Ny211 := am_ hy211
       clear hy211
       replace H := Option.bind_eq_some_iff.mp H
       obtain ⟨⟨t214, t217⟩, A420, H⟩ := H
       replace H : (some (t214, t217)) = some (r1, r2) := H
       have A42 := am_ A420
       clear A420
       simp only [Option.some.injEq, Prod.mk.injEq] at H
       obtain ⟨rfl, rfl⟩ := H
       go_enter Try.func9, Try.ntmps9
       go_wp2_with (first | ((with_reducible refine gate_dst (N := 2) rfl ?_); refine box_event ?hg (N := 2) ?hd (cs := #[.int .i64 a0_0, .string a0_1]) (t := 28) ?hr ?_; (case hd => rfl); (case hg => rfl); (case hr => first | (go_simp; done) | (go_simp; rfl)); intro gb193 hg w43 hbox hb; have n0_ := am_ (below_step (bx0 HB.out) hb); have n1_ := am_ (hbox); have n2_ := am_ ((by rw [hg]; exact (below_size (bx0 HB.out)) : w.heap.size ≤ gb193)); have n3_ := am_ ((by rw [hg]; exact (below_size (bx0 HB.out)) : w.heap.size ≤ gb193)); clear HB; have HB := n0_; have BK193 := n1_; have GW193 := n2_; have GE193 := n3_; clear n0_ n1_ n2_ n3_; clear hb hbox hg; have hcz44_0 : w43.cell? ⟨gb193, 0, none⟩ = some (.int .i64 a0_0) := (blk_cell BK193.out 0).trans rfl; have hcz44_1 : w43.cell? ⟨gb193, 1, none⟩ = some (.string a0_1) := (blk_cell BK193.out 1).trans rfl; have hfz44_0 := blk_frozen BK193.out 0; have hfz44_1 := blk_frozen BK193.out 1) | ((with_reducible refine gate_callee (f := 28) rfl ?_); refine goesL_ (some 9) rfl rfl Try.func28 (by kernel_rfl) rfl #[.agg #[.int .i64 a0_0, .string a0_1]] rfl (by (try simp only [List.map_toArray, List.map_cons, List.map_nil]); first | done | rfl | (simp only [List.length_drop, List.length_take]; rfl)) ?_; (with_reducible refine (spec_AreSigns.calls k a0_0 a0_1 true _ A3.out).mono ?_); rintro e w45 ⟨rfl, hb⟩; refine ⟨_, rfl, ?_⟩; have n0_ := am_ (blk_below (g := gb193) (o := .cells #[.int .i64 a0_0, .string a0_1] 28 (0, 0)) (kx_ BK193.out) hb); have n1_ := am_ (below_step (bx1 HB.out GE193.out) hb); clear BK193; clear HB; have BK193 := n0_; have HB := n1_; clear n0_ n1_; (try clear hb); (try clear hb2); (try clear hk); (try clear hi); have hcz46_0 : w45.cell? ⟨gb193, 0, none⟩ = some (.int .i64 a0_0) := (blk_cell BK193.out 0).trans rfl; have hcz46_1 : w45.cell? ⟨gb193, 1, none⟩ = some (.string a0_1) := (blk_cell BK193.out 1).trans rfl; have hfz46_0 := blk_frozen BK193.out 0; have hfz46_1 := blk_frozen BK193.out 1) | (go_at_call 29; (with_reducible refine (spec_l1In.calls a1 1 5 true _ A12.out).mono ?_); rintro e w' ⟨rfl, ⟨nd, rfl⟩⟩) | (go_at_call 30; (with_reducible refine (spec_IsAcyclic.calls k a0_0 a0_1 true _ A15.out).mono ?_); rintro e w47 ⟨rfl, hb⟩; have n0_ := am_ (blk_below (g := gb193) (o := .cells #[.int .i64 a0_0, .string a0_1] 28 (0, 0)) (kx_ BK193.out) hb); have n1_ := am_ (below_step (bx1 HB.out GE193.out) hb); clear BK193; clear HB; have BK193 := n0_; have HB := n1_; clear n0_ n1_; (try clear hb); (try clear hb2); (try clear hk); (try clear hi); have hcz48_0 : w47.cell? ⟨gb193, 0, none⟩ = some (.int .i64 a0_0) := (blk_cell BK193.out 0).trans rfl; have hcz48_1 : w47.cell? ⟨gb193, 1, none⟩ = some (.string a0_1) := (blk_cell BK193.out 1).trans rfl; have hfz48_0 := blk_frozen BK193.out 0; have hfz48_1 := blk_frozen BK193.out 1) | ((with_reducible refine gate_dst (N := 45) rfl ?_); refine Kd.R_lit k54 _ 54 ?hg (N := 45) ?hd (xs := ([] : List (S54))) (inner := []) (ok := fun _ => True) (okp := fun _ => True) ?hr ?hp (fun _ hk => hk) trivial (Below.refl _ _) (Nat.le_refl _) (by simp) ?_; (case hd => rfl); (case hg => rfl); (case hr => first | (go_simp; done) | (go_simp; rfl)); (case hp => exact (Reps.none _ _)); intro v212 w49 ho50 hb hg_ hnew_; clear hg_ hnew_; (first | rw [← Ny211.out] at ho50 | (simp only [Int.reduceToNat] at ho50; rw [← Ny211.out] at ho50)); have n0_ := am_ (Kd.R_lower ho50 (below_size (bx1 HB.out GE193.out))); have n1_ := am_ (blk_below (g := gb193) (o := .cells #[.int .i64 a0_0, .string a0_1] 28 (0, 0)) (kx_ BK193.out) hb); have n2_ := am_ (below_step (bx1 HB.out GE193.out) hb); clear BK193; clear HB; have HO213 := n0_; have BK193 := n1_; have HB := n2_; clear n0_ n1_ n2_; clear hb ho50; obtain ⟨Ao51, co51, eo51⟩ := Kd.R_slice HO213.out; subst eo51) | ((with_reducible refine gate_callee (f := 31) rfl ?_); refine goesL_ (some 46) rfl rfl Try.func31 (by kernel_rfl) rfl #[.agg #[.int .i64 a0_0, .string a0_1], .int .i64 a1, .slice Ao51 y211.length co51] rfl (by (try simp only [List.map_toArray, List.map_cons, List.map_nil]); first | done | rfl | (simp only [List.length_drop, List.length_take]; rfl)) ?_; (with_reducible refine (spec_l23Place.calls k a0_0 a0_1 a1 (fun k_ => some k_ = (.slice Ao51 y211.length co51 : Value).ownBlock) (.slice Ao51 y211.length co51) y211 t214 t217 w _ ?side1 ?side2 A42.out).mono ?_); (case side1 => repeat (first | (with_reducible first | exact HB.out | apply below_alloc | apply pw_below_drewN | apply below_drew1 | refine below_set ?_ GE193.out) | exact HB.out)); (case side2 => exact Kd.R_tight rfl HO213.out); rintro e w52 ⟨v215, rfl, ho0, hb, hkp⟩; refine ⟨_, rfl, ?_⟩; have n0_ := am_ (blk_kept (kx_ BK193.out) hkp (fun hs_ => (fun e_ => (Kd.R_ne HO213.out BK193.out (by decide)) e_) hs_)); have n1_ := am_ (Kd.R_mono (ok' := fun k_ => True) ho0 (fun k_ hk_ => trivial)); have n2_ := am_ (hb); clear BK193; clear HB; clear HO213; have BK193 := n0_; have HO216 := n1_; have HB := n2_; clear n0_ n1_ n2_; (try clear hb); (try clear hkp); (try clear ho0)))
       go_ret2
       exact ⟨_, by first | rfl | (simp [errW_none, errW_some] <;> rfl) | (simp [*, errW_none, errW_some] <;> rfl), rx_ HO216.out, bx1 HB.out GE193.out⟩
     ·replace c16 := Bool.eq_false_iff.mpr c16
      subst c16
      have H1 : (some ((([] : List (S54))), false)) = some (r1, r2) := by rw [if_neg (show ¬ (false = true) by decide)] at H; exact H
      clear H
      have H := H1
      clear H1
      obtain ⟨y218, hy218⟩ : ∃ y_ : List (S54), y_ = (([] : List (S54))) := ⟨_, rfl⟩
      replace H : (some (y218, false)) = some (r1, r2) := by first | (rw [hy218]; with_reducible exact H) | (have H2_ := (Option.bind_some _ _).symm.trans H; rw [hy218]; with_reducible exact H2_) | (have H2_ := (Option.bind_some _ _).symm.trans H; with_reducible exact H2_) | with_reducible exact H | (rw [hy218]; exact H) | exact H
      have Ny218 := am_ hy218
      clear hy218
      simp only [Option.some.injEq, Prod.mk.injEq] at H
      obtain ⟨rfl, rfl⟩ := H
      go_enter Try.func9, Try.ntmps9
      go_wp2_with (first | ((with_reducible refine gate_dst (N := 2) rfl ?_); refine box_event ?hg (N := 2) ?hd (cs := #[.int .i64 a0_0, .string a0_1]) (t := 28) ?hr ?_; (case hd => rfl); (case hg => rfl); (case hr => first | (go_simp; done) | (go_simp; rfl)); intro gb193 hg w53 hbox hb; have n0_ := am_ (below_step (bx0 HB.out) hb); have n1_ := am_ (hbox); have n2_ := am_ ((by rw [hg]; exact (below_size (bx0 HB.out)) : w.heap.size ≤ gb193)); have n3_ := am_ ((by rw [hg]; exact (below_size (bx0 HB.out)) : w.heap.size ≤ gb193)); clear HB; have HB := n0_; have BK193 := n1_; have GW193 := n2_; have GE193 := n3_; clear n0_ n1_ n2_ n3_; clear hb hbox hg; have hcz54_0 : w53.cell? ⟨gb193, 0, none⟩ = some (.int .i64 a0_0) := (blk_cell BK193.out 0).trans rfl; have hcz54_1 : w53.cell? ⟨gb193, 1, none⟩ = some (.string a0_1) := (blk_cell BK193.out 1).trans rfl; have hfz54_0 := blk_frozen BK193.out 0; have hfz54_1 := blk_frozen BK193.out 1) | ((with_reducible refine gate_callee (f := 28) rfl ?_); refine goesL_ (some 9) rfl rfl Try.func28 (by kernel_rfl) rfl #[.agg #[.int .i64 a0_0, .string a0_1]] rfl (by (try simp only [List.map_toArray, List.map_cons, List.map_nil]); first | done | rfl | (simp only [List.length_drop, List.length_take]; rfl)) ?_; (with_reducible refine (spec_AreSigns.calls k a0_0 a0_1 true _ A3.out).mono ?_); rintro e w55 ⟨rfl, hb⟩; refine ⟨_, rfl, ?_⟩; have n0_ := am_ (blk_below (g := gb193) (o := .cells #[.int .i64 a0_0, .string a0_1] 28 (0, 0)) (kx_ BK193.out) hb); have n1_ := am_ (below_step (bx1 HB.out GE193.out) hb); clear BK193; clear HB; have BK193 := n0_; have HB := n1_; clear n0_ n1_; (try clear hb); (try clear hb2); (try clear hk); (try clear hi); have hcz56_0 : w55.cell? ⟨gb193, 0, none⟩ = some (.int .i64 a0_0) := (blk_cell BK193.out 0).trans rfl; have hcz56_1 : w55.cell? ⟨gb193, 1, none⟩ = some (.string a0_1) := (blk_cell BK193.out 1).trans rfl; have hfz56_0 := blk_frozen BK193.out 0; have hfz56_1 := blk_frozen BK193.out 1) | (go_at_call 29; (with_reducible refine (spec_l1In.calls a1 1 5 true _ A12.out).mono ?_); rintro e w' ⟨rfl, ⟨nd, rfl⟩⟩) | (go_at_call 30; (with_reducible refine (spec_IsAcyclic.calls k a0_0 a0_1 false _ A15.out).mono ?_); rintro e w57 ⟨rfl, hb⟩; have n0_ := am_ (blk_below (g := gb193) (o := .cells #[.int .i64 a0_0, .string a0_1] 28 (0, 0)) (kx_ BK193.out) hb); have n1_ := am_ (below_step (bx1 HB.out GE193.out) hb); clear BK193; clear HB; have BK193 := n0_; have HB := n1_; clear n0_ n1_; (try clear hb); (try clear hb2); (try clear hk); (try clear hi)) | ((with_reducible refine gate_dst (N := 41) rfl ?_); refine Kd.R_lit k54 _ 54 ?hg (N := 41) ?hd (xs := ([] : List (S54))) (inner := []) (ok := fun _ => True) (okp := fun _ => True) ?hr ?hp (fun _ hk => hk) trivial (Below.refl _ _) (Nat.le_refl _) (by simp) ?_; (case hd => rfl); (case hg => rfl); (case hr => first | (go_simp; done) | (go_simp; rfl)); (case hp => exact (Reps.none _ _)); intro v219 w58 ho59 hb hg_ hnew_; clear hg_ hnew_; (first | rw [← Ny218.out] at ho59 | (simp only [Int.reduceToNat] at ho59; rw [← Ny218.out] at ho59)); have n0_ := am_ (Kd.R_lower ho59 (below_size (bx1 HB.out GE193.out))); have n1_ := am_ (blk_below (g := gb193) (o := .cells #[.int .i64 a0_0, .string a0_1] 28 (0, 0)) (kx_ BK193.out) hb); have n2_ := am_ (below_step (bx1 HB.out GE193.out) hb); clear BK193; clear HB; have HO220 := n0_; have BK193 := n1_; have HB := n2_; clear n0_ n1_ n2_; clear hb ho59))
      go_ret2
      exact ⟨_, by first | rfl | (simp [errW_none, errW_some] <;> rfl) | (simp [*, errW_none, errW_some] <;> rfl), rx_ HO220.out, bx1 HB.out GE193.out⟩
    ·rw [if_neg c14] at H
     have c14b0 : (a0_0 == 5) = false := beq_eq_false_iff_ne.mpr c14
     have c14b1 : (a0_0 != 5) = true := bne_iff_ne.mpr c14
     by_cases c60 : a0_0 = 4
     ·rw [if_pos c60] at H
      have c60b0 : (a0_0 == 4) = true := beq_iff_eq.mpr c60
      have c60b1 : (a0_0 != 4) = false := bne_eq_false_iff_eq.mpr c60
      clear c60
      replace H := Option.bind_eq_some_iff.mp H
      obtain ⟨t221, A610, H⟩ := H
      replace H : (if t221 = true then ((spec_l23Place.f k a0_0 a0_1 a1 (([] : List (S54)))).bind fun bt225 => (some (bt225.1, bt225.2))) else (some ((([] : List (S54))), false))) = some (r1, r2) := H
      have A61 := am_ A610
      clear A610
      by_cases c62 : t221 = true
      ·subst c62
       have H1 : ((spec_l23Place.f k a0_0 a0_1 a1 (([] : List (S54)))).bind fun bt225 => (some (bt225.1, bt225.2))) = some (r1, r2) := by rw [if_pos rfl] at H; exact H
       clear H
       have H := H1
       clear H1
       obtain ⟨y222, hy222⟩ : ∃ y_ : List (S54), y_ = (([] : List (S54))) := ⟨_, rfl⟩
       replace H : ((spec_l23Place.f k a0_0 a0_1 a1 y222).bind fun bt225 => (some (bt225.1, bt225.2))) = some (r1, r2) := by first | (rw [hy222]; with_reducible exact H) | (have H2_ := (Option.bind_some _ _).symm.trans H; rw [hy222]; with_reducible exact H2_) | (have H2_ := (Option.bind_some _ _).symm.trans H; with_reducible exact H2_) | with_reducible exact H | (rw [hy222]; exact H) | exact H
       have Ny222 := am_ hy222
       clear hy222
       replace H := Option.bind_eq_some_iff.mp H
       obtain ⟨⟨t225, t228⟩, A630, H⟩ := H
       replace H : (some (t225, t228)) = some (r1, r2) := H
       have A63 := am_ A630
       clear A630
       simp only [Option.some.injEq, Prod.mk.injEq] at H
       obtain ⟨rfl, rfl⟩ := H
       go_enter Try.func9, Try.ntmps9
       go_wp2_with (first | ((with_reducible refine gate_dst (N := 2) rfl ?_); refine box_event ?hg (N := 2) ?hd (cs := #[.int .i64 a0_0, .string a0_1]) (t := 28) ?hr ?_; (case hd => rfl); (case hg => rfl); (case hr => first | (go_simp; done) | (go_simp; rfl)); intro gb193 hg w64 hbox hb; have n0_ := am_ (below_step (bx0 HB.out) hb); have n1_ := am_ (hbox); have n2_ := am_ ((by rw [hg]; exact (below_size (bx0 HB.out)) : w.heap.size ≤ gb193)); have n3_ := am_ ((by rw [hg]; exact (below_size (bx0 HB.out)) : w.heap.size ≤ gb193)); clear HB; have HB := n0_; have BK193 := n1_; have GW193 := n2_; have GE193 := n3_; clear n0_ n1_ n2_ n3_; clear hb hbox hg; have hcz65_0 : w64.cell? ⟨gb193, 0, none⟩ = some (.int .i64 a0_0) := (blk_cell BK193.out 0).trans rfl; have hcz65_1 : w64.cell? ⟨gb193, 1, none⟩ = some (.string a0_1) := (blk_cell BK193.out 1).trans rfl; have hfz65_0 := blk_frozen BK193.out 0; have hfz65_1 := blk_frozen BK193.out 1) | ((with_reducible refine gate_callee (f := 28) rfl ?_); refine goesL_ (some 9) rfl rfl Try.func28 (by kernel_rfl) rfl #[.agg #[.int .i64 a0_0, .string a0_1]] rfl (by (try simp only [List.map_toArray, List.map_cons, List.map_nil]); first | done | rfl | (simp only [List.length_drop, List.length_take]; rfl)) ?_; (with_reducible refine (spec_AreSigns.calls k a0_0 a0_1 true _ A3.out).mono ?_); rintro e w66 ⟨rfl, hb⟩; refine ⟨_, rfl, ?_⟩; have n0_ := am_ (blk_below (g := gb193) (o := .cells #[.int .i64 a0_0, .string a0_1] 28 (0, 0)) (kx_ BK193.out) hb); have n1_ := am_ (below_step (bx1 HB.out GE193.out) hb); clear BK193; clear HB; have BK193 := n0_; have HB := n1_; clear n0_ n1_; (try clear hb); (try clear hb2); (try clear hk); (try clear hi); have hcz67_0 : w66.cell? ⟨gb193, 0, none⟩ = some (.int .i64 a0_0) := (blk_cell BK193.out 0).trans rfl; have hcz67_1 : w66.cell? ⟨gb193, 1, none⟩ = some (.string a0_1) := (blk_cell BK193.out 1).trans rfl; have hfz67_0 := blk_frozen BK193.out 0; have hfz67_1 := blk_frozen BK193.out 1) | (go_at_call 29; (with_reducible refine (spec_l1In.calls a1 1 5 true _ A12.out).mono ?_); rintro e w' ⟨rfl, ⟨nd, rfl⟩⟩) | (go_at_call 30; (with_reducible refine (spec_IsAcyclic.calls k a0_0 a0_1 true _ A61.out).mono ?_); rintro e w68 ⟨rfl, hb⟩; have n0_ := am_ (blk_below (g := gb193) (o := .cells #[.int .i64 a0_0, .string a0_1] 28 (0, 0)) (kx_ BK193.out) hb); have n1_ := am_ (below_step (bx1 HB.out GE193.out) hb); clear BK193; clear HB; have BK193 := n0_; have HB := n1_; clear n0_ n1_; (try clear hb); (try clear hb2); (try clear hk); (try clear hi); have hcz69_0 : w68.cell? ⟨gb193, 0, none⟩ = some (.int .i64 a0_0) := (blk_cell BK193.out 0).trans rfl; have hcz69_1 : w68.cell? ⟨gb193, 1, none⟩ = some (.string a0_1) := (blk_cell BK193.out 1).trans rfl; have hfz69_0 := blk_frozen BK193.out 0; have hfz69_1 := blk_frozen BK193.out 1) | ((with_reducible refine gate_dst (N := 45) rfl ?_); refine Kd.R_lit k54 _ 54 ?hg (N := 45) ?hd (xs := ([] : List (S54))) (inner := []) (ok := fun _ => True) (okp := fun _ => True) ?hr ?hp (fun _ hk => hk) trivial (Below.refl _ _) (Nat.le_refl _) (by simp) ?_; (case hd => rfl); (case hg => rfl); (case hr => first | (go_simp; done) | (go_simp; rfl)); (case hp => exact (Reps.none _ _)); intro v223 w70 ho71 hb hg_ hnew_; clear hg_ hnew_; (first | rw [← Ny222.out] at ho71 | (simp only [Int.reduceToNat] at ho71; rw [← Ny222.out] at ho71)); have n0_ := am_ (Kd.R_lower ho71 (below_size (bx1 HB.out GE193.out))); have n1_ := am_ (blk_below (g := gb193) (o := .cells #[.int .i64 a0_0, .string a0_1] 28 (0, 0)) (kx_ BK193.out) hb); have n2_ := am_ (below_step (bx1 HB.out GE193.out) hb); clear BK193; clear HB; have HO224 := n0_; have BK193 := n1_; have HB := n2_; clear n0_ n1_ n2_; clear hb ho71; obtain ⟨Ao72, co72, eo72⟩ := Kd.R_slice HO224.out; subst eo72) | ((with_reducible refine gate_callee (f := 31) rfl ?_); refine goesL_ (some 46) rfl rfl Try.func31 (by kernel_rfl) rfl #[.agg #[.int .i64 a0_0, .string a0_1], .int .i64 a1, .slice Ao72 y222.length co72] rfl (by (try simp only [List.map_toArray, List.map_cons, List.map_nil]); first | done | rfl | (simp only [List.length_drop, List.length_take]; rfl)) ?_; (with_reducible refine (spec_l23Place.calls k a0_0 a0_1 a1 (fun k_ => some k_ = (.slice Ao72 y222.length co72 : Value).ownBlock) (.slice Ao72 y222.length co72) y222 t225 t228 w _ ?side1 ?side2 A63.out).mono ?_); (case side1 => repeat (first | (with_reducible first | exact HB.out | apply below_alloc | apply pw_below_drewN | apply below_drew1 | refine below_set ?_ GE193.out) | exact HB.out)); (case side2 => exact Kd.R_tight rfl HO224.out); rintro e w73 ⟨v226, rfl, ho0, hb, hkp⟩; refine ⟨_, rfl, ?_⟩; have n0_ := am_ (blk_kept (kx_ BK193.out) hkp (fun hs_ => (fun e_ => (Kd.R_ne HO224.out BK193.out (by decide)) e_) hs_)); have n1_ := am_ (Kd.R_mono (ok' := fun k_ => True) ho0 (fun k_ hk_ => trivial)); have n2_ := am_ (hb); clear BK193; clear HB; clear HO224; have BK193 := n0_; have HO227 := n1_; have HB := n2_; clear n0_ n1_ n2_; (try clear hb); (try clear hkp); (try clear ho0)))
       go_ret2
       exact ⟨_, by first | rfl | (simp [errW_none, errW_some] <;> rfl) | (simp [*, errW_none, errW_some] <;> rfl), rx_ HO227.out, bx1 HB.out GE193.out⟩
      ·replace c62 := Bool.eq_false_iff.mpr c62
       subst c62
       have H1 : (some ((([] : List (S54))), false)) = some (r1, r2) := by rw [if_neg (show ¬ (false = true) by decide)] at H; exact H
       clear H
       have H := H1
       clear H1
       obtain ⟨y229, hy229⟩ : ∃ y_ : List (S54), y_ = (([] : List (S54))) := ⟨_, rfl⟩
       replace H : (some (y229, false)) = some (r1, r2) := by first | (rw [hy229]; with_reducible exact H) | (have H2_ := (Option.bind_some _ _).symm.trans H; rw [hy229]; with_reducible exact H2_) | (have H2_ := (Option.bind_some _ _).symm.trans H; with_reducible exact H2_) | with_reducible exact H | (rw [hy229]; exact H) | exact H
       have Ny229 := am_ hy229
       clear hy229
       simp only [Option.some.injEq, Prod.mk.injEq] at H
       obtain ⟨rfl, rfl⟩ := H
       go_enter Try.func9, Try.ntmps9
       go_wp2_with (first | ((with_reducible refine gate_dst (N := 2) rfl ?_); refine box_event ?hg (N := 2) ?hd (cs := #[.int .i64 a0_0, .string a0_1]) (t := 28) ?hr ?_; (case hd => rfl); (case hg => rfl); (case hr => first | (go_simp; done) | (go_simp; rfl)); intro gb193 hg w74 hbox hb; have n0_ := am_ (below_step (bx0 HB.out) hb); have n1_ := am_ (hbox); have n2_ := am_ ((by rw [hg]; exact (below_size (bx0 HB.out)) : w.heap.size ≤ gb193)); have n3_ := am_ ((by rw [hg]; exact (below_size (bx0 HB.out)) : w.heap.size ≤ gb193)); clear HB; have HB := n0_; have BK193 := n1_; have GW193 := n2_; have GE193 := n3_; clear n0_ n1_ n2_ n3_; clear hb hbox hg; have hcz75_0 : w74.cell? ⟨gb193, 0, none⟩ = some (.int .i64 a0_0) := (blk_cell BK193.out 0).trans rfl; have hcz75_1 : w74.cell? ⟨gb193, 1, none⟩ = some (.string a0_1) := (blk_cell BK193.out 1).trans rfl; have hfz75_0 := blk_frozen BK193.out 0; have hfz75_1 := blk_frozen BK193.out 1) | ((with_reducible refine gate_callee (f := 28) rfl ?_); refine goesL_ (some 9) rfl rfl Try.func28 (by kernel_rfl) rfl #[.agg #[.int .i64 a0_0, .string a0_1]] rfl (by (try simp only [List.map_toArray, List.map_cons, List.map_nil]); first | done | rfl | (simp only [List.length_drop, List.length_take]; rfl)) ?_; (with_reducible refine (spec_AreSigns.calls k a0_0 a0_1 true _ A3.out).mono ?_); rintro e w76 ⟨rfl, hb⟩; refine ⟨_, rfl, ?_⟩; have n0_ := am_ (blk_below (g := gb193) (o := .cells #[.int .i64 a0_0, .string a0_1] 28 (0, 0)) (kx_ BK193.out) hb); have n1_ := am_ (below_step (bx1 HB.out GE193.out) hb); clear BK193; clear HB; have BK193 := n0_; have HB := n1_; clear n0_ n1_; (try clear hb); (try clear hb2); (try clear hk); (try clear hi); have hcz77_0 : w76.cell? ⟨gb193, 0, none⟩ = some (.int .i64 a0_0) := (blk_cell BK193.out 0).trans rfl; have hcz77_1 : w76.cell? ⟨gb193, 1, none⟩ = some (.string a0_1) := (blk_cell BK193.out 1).trans rfl; have hfz77_0 := blk_frozen BK193.out 0; have hfz77_1 := blk_frozen BK193.out 1) | (go_at_call 29; (with_reducible refine (spec_l1In.calls a1 1 5 true _ A12.out).mono ?_); rintro e w' ⟨rfl, ⟨nd, rfl⟩⟩) | (go_at_call 30; (with_reducible refine (spec_IsAcyclic.calls k a0_0 a0_1 false _ A61.out).mono ?_); rintro e w78 ⟨rfl, hb⟩; have n0_ := am_ (blk_below (g := gb193) (o := .cells #[.int .i64 a0_0, .string a0_1] 28 (0, 0)) (kx_ BK193.out) hb); have n1_ := am_ (below_step (bx1 HB.out GE193.out) hb); clear BK193; clear HB; have BK193 := n0_; have HB := n1_; clear n0_ n1_; (try clear hb); (try clear hb2); (try clear hk); (try clear hi)) | ((with_reducible refine gate_dst (N := 41) rfl ?_); refine Kd.R_lit k54 _ 54 ?hg (N := 41) ?hd (xs := ([] : List (S54))) (inner := []) (ok := fun _ => True) (okp := fun _ => True) ?hr ?hp (fun _ hk => hk) trivial (Below.refl _ _) (Nat.le_refl _) (by simp) ?_; (case hd => rfl); (case hg => rfl); (case hr => first | (go_simp; done) | (go_simp; rfl)); (case hp => exact (Reps.none _ _)); intro v230 w79 ho80 hb hg_ hnew_; clear hg_ hnew_; (first | rw [← Ny229.out] at ho80 | (simp only [Int.reduceToNat] at ho80; rw [← Ny229.out] at ho80)); have n0_ := am_ (Kd.R_lower ho80 (below_size (bx1 HB.out GE193.out))); have n1_ := am_ (blk_below (g := gb193) (o := .cells #[.int .i64 a0_0, .string a0_1] 28 (0, 0)) (kx_ BK193.out) hb); have n2_ := am_ (below_step (bx1 HB.out GE193.out) hb); clear BK193; clear HB; have HO231 := n0_; have BK193 := n1_; have HB := n2_; clear n0_ n1_ n2_; clear hb ho80))
       go_ret2
       exact ⟨_, by first | rfl | (simp [errW_none, errW_some] <;> rfl) | (simp [*, errW_none, errW_some] <;> rfl), rx_ HO231.out, bx1 HB.out GE193.out⟩
     ·rw [if_neg c60] at H
      have c60b0 : (a0_0 == 4) = false := beq_eq_false_iff_ne.mpr c60
      have c60b1 : (a0_0 != 4) = true := bne_iff_ne.mpr c60
      obtain ⟨y232, hy232⟩ : ∃ y_ : List (S54), y_ = (([] : List (S54))) := ⟨_, rfl⟩
      replace H : ((spec_l23Place.f k a0_0 a0_1 a1 y232).bind fun bt235 => (some (bt235.1, bt235.2))) = some (r1, r2) := by first | (rw [hy232]; with_reducible exact H) | (have H2_ := (Option.bind_some _ _).symm.trans H; rw [hy232]; with_reducible exact H2_) | (have H2_ := (Option.bind_some _ _).symm.trans H; with_reducible exact H2_) | with_reducible exact H | (rw [hy232]; exact H) | exact H
      have Ny232 := am_ hy232
      clear hy232
      replace H := Option.bind_eq_some_iff.mp H
      obtain ⟨⟨t235, t238⟩, A810, H⟩ := H
      replace H : (some (t235, t238)) = some (r1, r2) := H
      have A81 := am_ A810
      clear A810
      simp only [Option.some.injEq, Prod.mk.injEq] at H
      obtain ⟨rfl, rfl⟩ := H
      go_enter Try.func9, Try.ntmps9
      go_wp2_with (first | ((with_reducible refine gate_dst (N := 2) rfl ?_); refine box_event ?hg (N := 2) ?hd (cs := #[.int .i64 a0_0, .string a0_1]) (t := 28) ?hr ?_; (case hd => rfl); (case hg => rfl); (case hr => first | (go_simp; done) | (go_simp; rfl)); intro gb193 hg w82 hbox hb; have n0_ := am_ (below_step (bx0 HB.out) hb); have n1_ := am_ (hbox); have n2_ := am_ ((by rw [hg]; exact (below_size (bx0 HB.out)) : w.heap.size ≤ gb193)); have n3_ := am_ ((by rw [hg]; exact (below_size (bx0 HB.out)) : w.heap.size ≤ gb193)); clear HB; have HB := n0_; have BK193 := n1_; have GW193 := n2_; have GE193 := n3_; clear n0_ n1_ n2_ n3_; clear hb hbox hg; have hcz83_0 : w82.cell? ⟨gb193, 0, none⟩ = some (.int .i64 a0_0) := (blk_cell BK193.out 0).trans rfl; have hcz83_1 : w82.cell? ⟨gb193, 1, none⟩ = some (.string a0_1) := (blk_cell BK193.out 1).trans rfl; have hfz83_0 := blk_frozen BK193.out 0; have hfz83_1 := blk_frozen BK193.out 1) | ((with_reducible refine gate_callee (f := 28) rfl ?_); refine goesL_ (some 9) rfl rfl Try.func28 (by kernel_rfl) rfl #[.agg #[.int .i64 a0_0, .string a0_1]] rfl (by (try simp only [List.map_toArray, List.map_cons, List.map_nil]); first | done | rfl | (simp only [List.length_drop, List.length_take]; rfl)) ?_; (with_reducible refine (spec_AreSigns.calls k a0_0 a0_1 true _ A3.out).mono ?_); rintro e w84 ⟨rfl, hb⟩; refine ⟨_, rfl, ?_⟩; have n0_ := am_ (blk_below (g := gb193) (o := .cells #[.int .i64 a0_0, .string a0_1] 28 (0, 0)) (kx_ BK193.out) hb); have n1_ := am_ (below_step (bx1 HB.out GE193.out) hb); clear BK193; clear HB; have BK193 := n0_; have HB := n1_; clear n0_ n1_; (try clear hb); (try clear hb2); (try clear hk); (try clear hi); have hcz85_0 : w84.cell? ⟨gb193, 0, none⟩ = some (.int .i64 a0_0) := (blk_cell BK193.out 0).trans rfl; have hcz85_1 : w84.cell? ⟨gb193, 1, none⟩ = some (.string a0_1) := (blk_cell BK193.out 1).trans rfl; have hfz85_0 := blk_frozen BK193.out 0; have hfz85_1 := blk_frozen BK193.out 1) | (go_at_call 29; (with_reducible refine (spec_l1In.calls a1 1 5 true _ A12.out).mono ?_); rintro e w' ⟨rfl, ⟨nd, rfl⟩⟩) | ((with_reducible refine gate_dst (N := 45) rfl ?_); refine Kd.R_lit k54 _ 54 ?hg (N := 45) ?hd (xs := ([] : List (S54))) (inner := []) (ok := fun _ => True) (okp := fun _ => True) ?hr ?hp (fun _ hk => hk) trivial (Below.refl _ _) (Nat.le_refl _) (by simp) ?_; (case hd => rfl); (case hg => rfl); (case hr => first | (go_simp; done) | (go_simp; rfl)); (case hp => exact (Reps.none _ _)); intro v233 w86 ho87 hb hg_ hnew_; clear hg_ hnew_; (first | rw [← Ny232.out] at ho87 | (simp only [Int.reduceToNat] at ho87; rw [← Ny232.out] at ho87)); have n0_ := am_ (Kd.R_lower ho87 (below_size (bx1 HB.out GE193.out))); have n1_ := am_ (blk_below (g := gb193) (o := .cells #[.int .i64 a0_0, .string a0_1] 28 (0, 0)) (kx_ BK193.out) hb); have n2_ := am_ (below_step (bx1 HB.out GE193.out) hb); clear BK193; clear HB; have HO234 := n0_; have BK193 := n1_; have HB := n2_; clear n0_ n1_ n2_; clear hb ho87; obtain ⟨Ao88, co88, eo88⟩ := Kd.R_slice HO234.out; subst eo88) | ((with_reducible refine gate_callee (f := 31) rfl ?_); refine goesL_ (some 46) rfl rfl Try.func31 (by kernel_rfl) rfl #[.agg #[.int .i64 a0_0, .string a0_1], .int .i64 a1, .slice Ao88 y232.length co88] rfl (by (try simp only [List.map_toArray, List.map_cons, List.map_nil]); first | done | rfl | (simp only [List.length_drop, List.length_take]; rfl)) ?_; (with_reducible refine (spec_l23Place.calls k a0_0 a0_1 a1 (fun k_ => some k_ = (.slice Ao88 y232.length co88 : Value).ownBlock) (.slice Ao88 y232.length co88) y232 t235 t238 w _ ?side1 ?side2 A81.out).mono ?_); (case side1 => repeat (first | (with_reducible first | exact HB.out | apply below_alloc | apply pw_below_drewN | apply below_drew1 | refine below_set ?_ GE193.out) | exact HB.out)); (case side2 => exact Kd.R_tight rfl HO234.out); rintro e w89 ⟨v236, rfl, ho0, hb, hkp⟩; refine ⟨_, rfl, ?_⟩; have n0_ := am_ (blk_kept (kx_ BK193.out) hkp (fun hs_ => (fun e_ => (Kd.R_ne HO234.out BK193.out (by decide)) e_) hs_)); have n1_ := am_ (Kd.R_mono (ok' := fun k_ => True) ho0 (fun k_ hk_ => trivial)); have n2_ := am_ (hb); clear BK193; clear HB; clear HO234; have BK193 := n0_; have HO237 := n1_; have HB := n2_; clear n0_ n1_ n2_; (try clear hb); (try clear hkp); (try clear ho0)))
      go_ret2
      exact ⟨_, by first | rfl | (simp [errW_none, errW_some] <;> rfl) | (simp [*, errW_none, errW_some] <;> rfl), rx_ HO237.out, bx1 HB.out GE193.out⟩
   ·replace c13 := Bool.eq_false_iff.mpr c13
    subst c13
    have H1 : (some ((([] : List (S54))), false)) = some (r1, r2) := by rw [if_neg (show ¬ (false = true) by decide)] at H; exact H
    clear H
    have H := H1
    clear H1
    obtain ⟨y239, hy239⟩ : ∃ y_ : List (S54), y_ = (([] : List (S54))) := ⟨_, rfl⟩
    replace H : (some (y239, false)) = some (r1, r2) := by first | (rw [hy239]; with_reducible exact H) | (have H2_ := (Option.bind_some _ _).symm.trans H; rw [hy239]; with_reducible exact H2_) | (have H2_ := (Option.bind_some _ _).symm.trans H; with_reducible exact H2_) | with_reducible exact H | (rw [hy239]; exact H) | exact H
    have Ny239 := am_ hy239
    clear hy239
    simp only [Option.some.injEq, Prod.mk.injEq] at H
    obtain ⟨rfl, rfl⟩ := H
    go_enter Try.func9, Try.ntmps9
    go_wp2_with (first | ((with_reducible refine gate_dst (N := 2) rfl ?_); refine box_event ?hg (N := 2) ?hd (cs := #[.int .i64 a0_0, .string a0_1]) (t := 28) ?hr ?_; (case hd => rfl); (case hg => rfl); (case hr => first | (go_simp; done) | (go_simp; rfl)); intro gb193 hg w90 hbox hb; have n0_ := am_ (below_step (bx0 HB.out) hb); have n1_ := am_ (hbox); have n2_ := am_ ((by rw [hg]; exact (below_size (bx0 HB.out)) : w.heap.size ≤ gb193)); have n3_ := am_ ((by rw [hg]; exact (below_size (bx0 HB.out)) : w.heap.size ≤ gb193)); clear HB; have HB := n0_; have BK193 := n1_; have GW193 := n2_; have GE193 := n3_; clear n0_ n1_ n2_ n3_; clear hb hbox hg; have hcz91_0 : w90.cell? ⟨gb193, 0, none⟩ = some (.int .i64 a0_0) := (blk_cell BK193.out 0).trans rfl; have hcz91_1 : w90.cell? ⟨gb193, 1, none⟩ = some (.string a0_1) := (blk_cell BK193.out 1).trans rfl; have hfz91_0 := blk_frozen BK193.out 0; have hfz91_1 := blk_frozen BK193.out 1) | ((with_reducible refine gate_callee (f := 28) rfl ?_); refine goesL_ (some 9) rfl rfl Try.func28 (by kernel_rfl) rfl #[.agg #[.int .i64 a0_0, .string a0_1]] rfl (by (try simp only [List.map_toArray, List.map_cons, List.map_nil]); first | done | rfl | (simp only [List.length_drop, List.length_take]; rfl)) ?_; (with_reducible refine (spec_AreSigns.calls k a0_0 a0_1 true _ A3.out).mono ?_); rintro e w92 ⟨rfl, hb⟩; refine ⟨_, rfl, ?_⟩; have n0_ := am_ (blk_below (g := gb193) (o := .cells #[.int .i64 a0_0, .string a0_1] 28 (0, 0)) (kx_ BK193.out) hb); have n1_ := am_ (below_step (bx1 HB.out GE193.out) hb); clear BK193; clear HB; have BK193 := n0_; have HB := n1_; clear n0_ n1_; (try clear hb); (try clear hb2); (try clear hk); (try clear hi); have hcz93_0 : w92.cell? ⟨gb193, 0, none⟩ = some (.int .i64 a0_0) := (blk_cell BK193.out 0).trans rfl; have hcz93_1 : w92.cell? ⟨gb193, 1, none⟩ = some (.string a0_1) := (blk_cell BK193.out 1).trans rfl; have hfz93_0 := blk_frozen BK193.out 0; have hfz93_1 := blk_frozen BK193.out 1) | (go_at_call 29; (with_reducible refine (spec_l1In.calls a1 1 5 false _ A12.out).mono ?_); rintro e w' ⟨rfl, ⟨nd, rfl⟩⟩) | ((with_reducible refine gate_dst (N := 41) rfl ?_); refine Kd.R_lit k54 _ 54 ?hg (N := 41) ?hd (xs := ([] : List (S54))) (inner := []) (ok := fun _ => True) (okp := fun _ => True) ?hr ?hp (fun _ hk => hk) trivial (Below.refl _ _) (Nat.le_refl _) (by simp) ?_; (case hd => rfl); (case hg => rfl); (case hr => first | (go_simp; done) | (go_simp; rfl)); (case hp => exact (Reps.none _ _)); intro v240 w94 ho95 hb hg_ hnew_; clear hg_ hnew_; (first | rw [← Ny239.out] at ho95 | (simp only [Int.reduceToNat] at ho95; rw [← Ny239.out] at ho95)); have n0_ := am_ (Kd.R_lower ho95 (below_size (bx1 HB.out GE193.out))); have n1_ := am_ (blk_below (g := gb193) (o := .cells #[.int .i64 a0_0, .string a0_1] 28 (0, 0)) (kx_ BK193.out) hb); have n2_ := am_ (below_step (bx1 HB.out GE193.out) hb); clear BK193; clear HB; have HO241 := n0_; have BK193 := n1_; have HB := n2_; clear n0_ n1_ n2_; clear hb ho95))
    go_ret2
    exact ⟨_, by first | rfl | (simp [errW_none, errW_some] <;> rfl) | (simp [*, errW_none, errW_some] <;> rfl), rx_ HO241.out, bx1 HB.out GE193.out⟩
 ·replace c4 := Bool.eq_false_iff.mpr c4
  subst c4
  have H1 : (some ((([] : List (S54))), false)) = some (r1, r2) := by rw [if_neg (show ¬ (false = true) by decide)] at H; exact H
  clear H
  have H := H1
  clear H1
  obtain ⟨y242, hy242⟩ : ∃ y_ : List (S54), y_ = (([] : List (S54))) := ⟨_, rfl⟩
  replace H : (some (y242, false)) = some (r1, r2) := by first | (rw [hy242]; with_reducible exact H) | (have H2_ := (Option.bind_some _ _).symm.trans H; rw [hy242]; with_reducible exact H2_) | (have H2_ := (Option.bind_some _ _).symm.trans H; with_reducible exact H2_) | with_reducible exact H | (rw [hy242]; exact H) | exact H
  have Ny242 := am_ hy242
  clear hy242
  simp only [Option.some.injEq, Prod.mk.injEq] at H
  obtain ⟨rfl, rfl⟩ := H
  go_enter Try.func9, Try.ntmps9
  go_wp2_with (first | ((with_reducible refine gate_dst (N := 2) rfl ?_); refine box_event ?hg (N := 2) ?hd (cs := #[.int .i64 a0_0, .string a0_1]) (t := 28) ?hr ?_; (case hd => rfl); (case hg => rfl); (case hr => first | (go_simp; done) | (go_simp; rfl)); intro gb193 hg w96 hbox hb; have n0_ := am_ (below_step (bx0 HB.out) hb); have n1_ := am_ (hbox); have n2_ := am_ ((by rw [hg]; exact (below_size (bx0 HB.out)) : w.heap.size ≤ gb193)); have n3_ := am_ ((by rw [hg]; exact (below_size (bx0 HB.out)) : w.heap.size ≤ gb193)); clear HB; have HB := n0_; have BK193 := n1_; have GW193 := n2_; have GE193 := n3_; clear n0_ n1_ n2_ n3_; clear hb hbox hg; have hcz97_0 : w96.cell? ⟨gb193, 0, none⟩ = some (.int .i64 a0_0) := (blk_cell BK193.out 0).trans rfl; have hcz97_1 : w96.cell? ⟨gb193, 1, none⟩ = some (.string a0_1) := (blk_cell BK193.out 1).trans rfl; have hfz97_0 := blk_frozen BK193.out 0; have hfz97_1 := blk_frozen BK193.out 1) | ((with_reducible refine gate_callee (f := 28) rfl ?_); refine goesL_ (some 9) rfl rfl Try.func28 (by kernel_rfl) rfl #[.agg #[.int .i64 a0_0, .string a0_1]] rfl (by (try simp only [List.map_toArray, List.map_cons, List.map_nil]); first | done | rfl | (simp only [List.length_drop, List.length_take]; rfl)) ?_; (with_reducible refine (spec_AreSigns.calls k a0_0 a0_1 false _ A3.out).mono ?_); rintro e w98 ⟨rfl, hb⟩; refine ⟨_, rfl, ?_⟩; have n0_ := am_ (blk_below (g := gb193) (o := .cells #[.int .i64 a0_0, .string a0_1] 28 (0, 0)) (kx_ BK193.out) hb); have n1_ := am_ (below_step (bx1 HB.out GE193.out) hb); clear BK193; clear HB; have BK193 := n0_; have HB := n1_; clear n0_ n1_; (try clear hb); (try clear hb2); (try clear hk); (try clear hi)) | ((with_reducible refine gate_dst (N := 41) rfl ?_); refine Kd.R_lit k54 _ 54 ?hg (N := 41) ?hd (xs := ([] : List (S54))) (inner := []) (ok := fun _ => True) (okp := fun _ => True) ?hr ?hp (fun _ hk => hk) trivial (Below.refl _ _) (Nat.le_refl _) (by simp) ?_; (case hd => rfl); (case hg => rfl); (case hr => first | (go_simp; done) | (go_simp; rfl)); (case hp => exact (Reps.none _ _)); intro v243 w99 ho100 hb hg_ hnew_; clear hg_ hnew_; (first | rw [← Ny242.out] at ho100 | (simp only [Int.reduceToNat] at ho100; rw [← Ny242.out] at ho100)); have n0_ := am_ (Kd.R_lower ho100 (below_size (bx1 HB.out GE193.out))); have n1_ := am_ (blk_below (g := gb193) (o := .cells #[.int .i64 a0_0, .string a0_1] 28 (0, 0)) (kx_ BK193.out) hb); have n2_ := am_ (below_step (bx1 HB.out GE193.out) hb); clear BK193; clear HB; have HO244 := n0_; have BK193 := n1_; have HB := n2_; clear n0_ n1_ n2_; clear hb ho100))
  go_ret2
  exact ⟨_, by first | rfl | (simp [errW_none, errW_some] <;> rfl) | (simp [*, errW_none, errW_some] <;> rfl), rx_ HO244.out, bx1 HB.out GE193.out⟩
def spec_LeastGrid.l0 : Nat → Int → Int → ByteArray → Option (Int)
 | 0, _, _, _ => none
 | k + 1, x3, x364000, x364001 => if x3 ≤ 5 then ((spec_PlacePoints.f k x364000 x364001 x3).bind fun bt364 => (if bt364.2 = true then (some x3) else (spec_LeastGrid.l0 k (wrap64 (x3 + 1)) x364000 x364001))) else (some 0)
def spec_LeastGrid.f (k : Nat) (a0_0 : Int) (a0_1 : ByteArray) : Option (Int) := spec_LeastGrid.l0 k 1 a0_0 a0_1
set_option maxHeartbeats 8000000 in
set_option maxRecDepth 100000 in
theorem spec_LeastGrid.calls (k : Nat) (a0_0 : Int) (a0_1 : ByteArray) (r : Int) (w : World) (h : spec_LeastGrid.f k a0_0 a0_1 = some r) :
  Calls Try.prog 15 #[.agg #[.int .i64 a0_0, .string a0_1]] w fun e w' => e = .returned (.int .i64 r) ∧ Below w.heap.size w w' := by
 have hu28 := Try.underlying28
 have HB := am_ (Below.refl w.heap.size w)
 have H : (spec_LeastGrid.l0 k 1 a0_0 a0_1) = some r := h
 clear h
 have H' := am_ H
 clear H
 go_enter Try.func15, Try.ntmps15
 go_wp2_with (first | ((with_reducible refine gate_dst (N := 1) rfl ?_); refine box_event ?hg (N := 1) ?hd (cs := #[.int .i64 a0_0, .string a0_1]) (t := 28) ?hr ?_; (case hd => rfl); (case hg => rfl); (case hr => first | (go_simp; done) | (go_simp; rfl)); intro gb363 hg w2 hbox hb; have n0_ := am_ (below_step (bx0 HB.out) hb); have n1_ := am_ (hbox); have n2_ := am_ ((by rw [hg]; exact (below_size (bx0 HB.out)) : w.heap.size ≤ gb363)); have n3_ := am_ ((by rw [hg]; exact (below_size (bx0 HB.out)) : w.heap.size ≤ gb363)); clear HB; have HB := n0_; have BK363 := n1_; have GW363 := n2_; have GE363 := n3_; clear n0_ n1_ n2_ n3_; clear hb hbox hg))
 go_loopg [3] k (fun kq v3 w' => ∃ (x3_1 : Int), v3 = .int .i64 x3_1 ∧ Aside0 (spec_LeastGrid.l0 kq x3_1 a0_0 a0_1 = some r) ∧ Aside0 (kq ≤ k) ∧ Aside0 (w'.heap[gb363]? = some (.cells #[.int .i64 a0_0, .string a0_1] 28 (0, 0))) ∧ Aside0 (Below w.heap.size w w'))
 case atStart => exact ⟨(1), (by first | rfl | (simp; done) | (simp [*]; done)), H', ⟨Nat.le_refl _⟩, ⟨kx_ BK363.out⟩, ⟨bx1 HB.out GE363.out⟩⟩
 case round =>
  clear H'
  try clear c1
  try clear p2
  obtain ⟨x3_1, rfl, HA, HK1, BK363, HB⟩ := hrel
  cases gk with
  | zero => exact absurd HA.out (by simp [spec_LeastGrid.l0])
  | succ k1 =>
   have H := HA.out
   clear HA
   simp only [spec_LeastGrid.l0] at H
   by_cases c3 : x3_1 ≤ 5
   ·rw [if_pos c3] at H
    have c3b0 : decide (x3_1 ≤ 5) = true := decide_eq_true c3
    clear c3
    replace H := Option.bind_eq_some_iff.mp H
    obtain ⟨⟨t364, t367⟩, A40, H⟩ := H
    replace H : (if t367 = true then (some x3_1) else (spec_LeastGrid.l0 k1 (wrap64 (x3_1 + 1)) a0_0 a0_1)) = some r := H
    have A4 := am_ A40
    clear A40
    by_cases c5 : t367 = true
    ·subst c5
     have H1 : (some x3_1) = some r := by rw [if_pos rfl] at H; exact H
     clear H
     have H := H1
     clear H1
     obtain rfl := Option.some.inj H
     have hcz6_0 : wr.cell? ⟨gb363, 0, none⟩ = some (.int .i64 a0_0) := (blk_cell BK363.out 0).trans rfl
     have hcz6_1 : wr.cell? ⟨gb363, 1, none⟩ = some (.string a0_1) := (blk_cell BK363.out 1).trans rfl
     have hfz6_0 := blk_frozen BK363.out 0
     have hfz6_1 := blk_frozen BK363.out 1
     go_wp2_with (first | ((with_reducible refine gate_callee (f := 9) rfl ?_); refine goesL_ (some 13) rfl rfl Try.func9 (by kernel_rfl) rfl #[.agg #[.int .i64 a0_0, .string a0_1], .int .i64 x3_1] rfl (by (try simp only [List.map_toArray, List.map_cons, List.map_nil]); first | done | rfl | (simp only [List.length_drop, List.length_take]; rfl)) ?_; (with_reducible refine (spec_PlacePoints.calls k1 a0_0 a0_1 x3_1 t364 true _ A4.out).mono ?_); rintro e w7 ⟨v365, rfl, ho0, hb⟩; refine ⟨_, rfl, ?_⟩; have n0_ := am_ (Kd.R_lower ho0 (below_size (bx1 HB.out GE363.out))); have n1_ := am_ (blk_below (g := gb363) (o := .cells #[.int .i64 a0_0, .string a0_1] 28 (0, 0)) (kx_ BK363.out) hb); have n2_ := am_ (below_step (bx1 HB.out GE363.out) hb); clear BK363; clear HB; have HO366 := n0_; have BK363 := n1_; have HB := n2_; clear n0_ n1_ n2_; (try clear hb); (try clear hb2); (try clear hk); (try clear hi); (try clear ho0)))
     go_ret
     exact ⟨by first | rfl | (simp [errW_none, errW_some] <;> rfl) | (simp [*, errW_none, errW_some] <;> rfl), bx1 HB.out GE363.out⟩
    ·replace c5 := Bool.eq_false_iff.mpr c5
     subst c5
     have H1 : (spec_LeastGrid.l0 k1 (wrap64 (x3_1 + 1)) a0_0 a0_1) = some r := by rw [if_neg (show ¬ (false = true) by decide)] at H; exact H
     clear H
     have H := H1
     clear H1
     have H' := am_ H
     clear H
     have hcz8_0 : wr.cell? ⟨gb363, 0, none⟩ = some (.int .i64 a0_0) := (blk_cell BK363.out 0).trans rfl
     have hcz8_1 : wr.cell? ⟨gb363, 1, none⟩ = some (.string a0_1) := (blk_cell BK363.out 1).trans rfl
     have hfz8_0 := blk_frozen BK363.out 0
     have hfz8_1 := blk_frozen BK363.out 1
     go_wp2_with (first | ((with_reducible refine gate_callee (f := 9) rfl ?_); refine goesL_ (some 13) rfl rfl Try.func9 (by kernel_rfl) rfl #[.agg #[.int .i64 a0_0, .string a0_1], .int .i64 x3_1] rfl (by (try simp only [List.map_toArray, List.map_cons, List.map_nil]); first | done | rfl | (simp only [List.length_drop, List.length_take]; rfl)) ?_; (with_reducible refine (spec_PlacePoints.calls k1 a0_0 a0_1 x3_1 t364 false _ A4.out).mono ?_); rintro e w9 ⟨v365, rfl, ho0, hb⟩; refine ⟨_, rfl, ?_⟩; have n0_ := am_ (Kd.R_lower ho0 (below_size (bx1 HB.out GE363.out))); have n1_ := am_ (blk_below (g := gb363) (o := .cells #[.int .i64 a0_0, .string a0_1] 28 (0, 0)) (kx_ BK363.out) hb); have n2_ := am_ (below_step (bx1 HB.out GE363.out) hb); clear BK363; clear HB; have HO366 := n0_; have BK363 := n1_; have HB := n2_; clear n0_ n1_ n2_; (try clear hb); (try clear hb2); (try clear hk); (try clear hi); (try clear ho0)))
     go_roundg k1
     case measure => have := HK1.out; omega
     case rel => exact ⟨(wrap64 (x3_1 + 1)), (by first | rfl | (simp; done) | (simp [*]; done)), H', ⟨by have := HK1.out; omega⟩, ⟨kx_ BK363.out⟩, ⟨bx1 HB.out GE363.out⟩⟩
   ·rw [if_neg c3] at H
    have c3b0 : decide (x3_1 ≤ 5) = false := decide_eq_false c3
    clear c3
    obtain rfl := Option.some.inj H
    go_wp2
    go_ret
    exact ⟨by first | rfl | (simp [errW_none, errW_some] <;> rfl) | (simp [*, errW_none, errW_some] <;> rfl), bx1 HB.out GE363.out⟩
mutual
def impl_AreSigns.j0 : Nat → Bool → Int → ByteArray → Option (Bool)
 | 0, _, _, _ => none
 | k + 1, x28, x249000, x249001 => if x28 = true then (some false) else (impl_AreSigns.l0 k 0 x249000 x249001)
def impl_AreSigns.l0 : Nat → Int → Int → ByteArray → Option (Bool)
 | 0, _, _, _ => none
 | k + 1, x3, x249000, x249001 => if x3 < (x249001.size : Int) then (if 0 ≤ x3 then (if (bt x249001 x3) = 43 then (impl_AreSigns.l0 k (wrap64 (x3 + 1)) x249000 x249001) else (if (bt x249001 x3) = 45 then (impl_AreSigns.l0 k (wrap64 (x3 + 1)) x249000 x249001) else (some false))) else (none)) else (some true)
end
def impl_AreSigns.f (k : Nat) (a0_0 : Int) (a0_1 : ByteArray) : Option (Bool) := if a0_0 < 3 then (impl_AreSigns.j0 k true a0_0 a0_1) else (if a0_0 > 7 then (impl_AreSigns.j0 k true a0_0 a0_1) else (impl_AreSigns.j0 k ((a0_1.size : Int) != (wrap64 (Int.tdiv (wrap64 ((wrap64 (a0_0 * (wrap64 (a0_0 - 1)))) * (wrap64 (a0_0 - 2)))) 6))) a0_0 a0_1))
set_option maxHeartbeats 8000000 in
set_option maxRecDepth 100000 in
theorem impl_AreSigns.calls (k : Nat) (a0_0 : Int) (a0_1 : ByteArray) (r : Bool) (w : World) (h : impl_AreSigns.f k a0_0 a0_1 = some r) :
  Calls Try.prog 32 #[.agg #[.int .i64 a0_0, .string a0_1]] w fun e w' => e = .returned (.bool r) ∧ Below w.heap.size w w' := by
 have hu28 := Try.underlying28
 have HB := am_ (Below.refl w.heap.size w)
 have H : (if a0_0 < 3 then (impl_AreSigns.j0 k true a0_0 a0_1) else (if a0_0 > 7 then (impl_AreSigns.j0 k true a0_0 a0_1) else (impl_AreSigns.j0 k ((a0_1.size : Int) != (wrap64 (Int.tdiv (wrap64 ((wrap64 (a0_0 * (wrap64 (a0_0 - 1)))) * (wrap64 (a0_0 - 2)))) 6))) a0_0 a0_1))) = some r := h
 clear h
 have HC2 := am_ H
 clear H
 go_enter Try.func32, Try.ntmps32
 go_upto_region 1 with (first | ((with_reducible refine gate_dst (N := 1) rfl ?_); (try (refine gate_guard (by rfl) ?_; dsimp only)); refine box_event ?hg (N := 1) ?hd (cs := #[.int .i64 a0_0, .string a0_1]) (t := 28) ?hr ?_; (case hd => rfl); (case hg => rfl); (case hr => first | (go_simp; done) | (go_simp; rfl)); intro gb248 hg w3 hbox hb; have n0_ := am_ (below_step (bx0 HB.out) hb); have n1_ := am_ (hbox); have n2_ := am_ ((by rw [hg]; exact (below_size (bx0 HB.out)) : w.heap.size ≤ gb248)); have n3_ := am_ ((by rw [hg]; exact (below_size (bx0 HB.out)) : w.heap.size ≤ gb248)); clear HB; have HB := n0_; have BK248 := n1_; have GW248 := n2_; have GE248 := n3_; clear n0_ n1_ n2_ n3_; clear hb hbox hg))
 (try simp only [Act.put, sA_, sZ_, sS_])
 go_cut [28] (fun v28 wc => ∃ (kq : Nat) (x28_1 : Bool), v28 = .bool x28_1 ∧ Aside0 (impl_AreSigns.j0 kq x28_1 a0_0 a0_1 = some r) ∧ Aside0 (kq ≤ k) ∧ Aside0 (wc.heap[gb248]? = some (.cells #[.int .i64 a0_0, .string a0_1] 28 (0, 0))) ∧ Aside0 (Below w.heap.size w wc))
 case first =>
  have H := HC2.out
  clear HC2
  by_cases c4 : a0_0 < 3
  ·rw [if_pos c4] at H
   have c4b0 : decide (a0_0 < 3) = true := decide_eq_true c4
   clear c4
   (first | rw [c4b0] | (simp only [i64_w, i32_w]; rw [c4b0]) | skip)
   have H' := am_ H
   clear H
   have hcz5_0 : w3.cell? ⟨gb248, 0, none⟩ = some (.int .i64 a0_0) := (blk_cell BK248.out 0).trans rfl
   have hcz5_1 : w3.cell? ⟨gb248, 1, none⟩ = some (.string a0_1) := (blk_cell BK248.out 1).trans rfl
   have hfz5_0 := blk_frozen BK248.out 0
   have hfz5_1 := blk_frozen BK248.out 1
   go_wp2
   go_meet
   case rel => exact ⟨_, (true), (by first | rfl | (simp; done) | (simp [*]; done)), H', ⟨by first | omega | exact Nat.le_refl _⟩, ⟨kx_ BK248.out⟩, ⟨bx1 HB.out GE248.out⟩⟩
  ·rw [if_neg c4] at H
   have c4b0 : decide (a0_0 < 3) = false := decide_eq_false c4
   clear c4
   (first | rw [c4b0] | (simp only [i64_w, i32_w]; rw [c4b0]) | skip)
   by_cases c6 : a0_0 > 7
   ·rw [if_pos c6] at H
    have c6b0 : decide (7 < a0_0) = true := decide_eq_true c6
    clear c6
    have H' := am_ H
    clear H
    have hcz7_0 : w3.cell? ⟨gb248, 0, none⟩ = some (.int .i64 a0_0) := (blk_cell BK248.out 0).trans rfl
    have hcz7_1 : w3.cell? ⟨gb248, 1, none⟩ = some (.string a0_1) := (blk_cell BK248.out 1).trans rfl
    have hfz7_0 := blk_frozen BK248.out 0
    have hfz7_1 := blk_frozen BK248.out 1
    go_wp2
    go_meet
    case rel => exact ⟨_, (true), (by first | rfl | (simp; done) | (simp [*]; done)), H', ⟨by first | omega | exact Nat.le_refl _⟩, ⟨kx_ BK248.out⟩, ⟨bx1 HB.out GE248.out⟩⟩
   ·rw [if_neg c6] at H
    have c6b0 : decide (7 < a0_0) = false := decide_eq_false c6
    clear c6
    have H' := am_ H
    clear H
    have hcz8_0 : w3.cell? ⟨gb248, 0, none⟩ = some (.int .i64 a0_0) := (blk_cell BK248.out 0).trans rfl
    have hcz8_1 : w3.cell? ⟨gb248, 1, none⟩ = some (.string a0_1) := (blk_cell BK248.out 1).trans rfl
    have hfz8_0 := blk_frozen BK248.out 0
    have hfz8_1 := blk_frozen BK248.out 1
    go_wp2
    go_meet
    case rel => exact ⟨_, (((a0_1.size : Int) != (wrap64 (Int.tdiv (wrap64 ((wrap64 (a0_0 * (wrap64 (a0_0 - 1)))) * (wrap64 (a0_0 - 2)))) 6)))), (by first | rfl | (simp; done) | (simp [*]; done)), H', ⟨by first | omega | exact Nat.le_refl _⟩, ⟨kx_ BK248.out⟩, ⟨bx1 HB.out GE248.out⟩⟩
 case rest =>
  clear HC2
  try clear p2
  try clear c3
  try clear c4
  try clear c4b0
  try clear c6
  try clear c6b0
  try clear p6
  try clear hcz5_0
  try clear hcz5_1
  try clear hcz7_0
  try clear hcz7_1
  try clear hcz8_0
  try clear hcz8_1
  try clear hfz5_0
  try clear hfz5_1
  try clear hfz7_0
  try clear hfz7_1
  try clear hfz8_0
  try clear hfz8_1
  obtain ⟨kq, x28_1, rfl, HA, HJ1, BK248, HB⟩ := hcut
  cases kq with
  | zero => exact absurd HA.out (by simp [impl_AreSigns.j0])
  | succ kj1 =>
   have H := HA.out
   clear HA
   simp only [impl_AreSigns.j0] at H
   by_cases c9 : x28_1 = true
   ·subst c9
    have H1 : (some false) = some r := by rw [if_pos rfl] at H; exact H
    clear H
    have H := H1
    clear H1
    obtain rfl := Option.some.inj H
    go_wp2
    go_ret
    exact ⟨by first | rfl | (simp [errW_none, errW_some] <;> rfl) | (simp [*, errW_none, errW_some] <;> rfl), bx1 HB.out GE248.out⟩
   ·replace c9 := Bool.eq_false_iff.mpr c9
    subst c9
    have H1 : (impl_AreSigns.l0 kj1 0 a0_0 a0_1) = some r := by rw [if_neg (show ¬ (false = true) by decide)] at H; exact H
    clear H
    have H := H1
    clear H1
    have H' := am_ H
    clear H
    go_wp2
    go_loopg [3] kj1 (fun kq v3 w' => ∃ (x3_2 : Int), v3 = .int .i64 x3_2 ∧ Aside0 (impl_AreSigns.l0 kq x3_2 a0_0 a0_1 = some r) ∧ Aside0 (kq ≤ kj1) ∧ Aside0 (w'.heap[gb248]? = some (.cells #[.int .i64 a0_0, .string a0_1] 28 (0, 0))) ∧ Aside0 (Below w.heap.size w w'))
    case atStart => exact ⟨(0), (by first | rfl | (simp; done) | (simp [*]; done)), H', ⟨Nat.le_refl _⟩, ⟨kx_ BK248.out⟩, ⟨bx1 HB.out GE248.out⟩⟩
    case round =>
     clear H'
     try clear p2
     try clear c3
     try clear c4
     try clear c4b0
     try clear c6
     try clear c6b0
     try clear p6
     try clear c9
     try clear hcz5_0
     try clear hcz5_1
     try clear hcz7_0
     try clear hcz7_1
     try clear hcz8_0
     try clear hcz8_1
     try clear hfz5_0
     try clear hfz5_1
     try clear hfz7_0
     try clear hfz7_1
     try clear hfz8_0
     try clear hfz8_1
     try clear p2
     try clear p6
     obtain ⟨x3_2, rfl, HA, HK2, BK248, HB⟩ := hrel
     cases gk with
     | zero => exact absurd HA.out (by simp [impl_AreSigns.l0])
     | succ k2 =>
      have H := HA.out
      clear HA
      simp only [impl_AreSigns.l0] at H
      by_cases c10 : x3_2 < (a0_1.size : Int)
      ·rw [if_pos c10] at H
       have c10b0 : decide (x3_2 < (a0_1.size : Int)) = true := decide_eq_true c10
       clear c10
       by_cases c11 : 0 ≤ x3_2
       ·rw [if_pos c11] at H
        have c11b0 : decide (0 ≤ x3_2) = true := decide_eq_true c11
        clear c11
        by_cases c13 : (bt a0_1 x3_2) = 43
        ·rw [if_pos c13] at H
         have c13b0 : ((bt a0_1 x3_2) == 43) = true := beq_iff_eq.mpr c13
         have c13b1 : ((bt a0_1 x3_2) != 43) = false := bne_eq_false_iff_eq.mpr c13
         clear c13
         have H' := am_ H
         clear H
         have hcz14_0 : wr.cell? ⟨gb248, 0, none⟩ = some (.int .i64 a0_0) := (blk_cell BK248.out 0).trans rfl
         have hcz14_1 : wr.cell? ⟨gb248, 1, none⟩ = some (.string a0_1) := (blk_cell BK248.out 1).trans rfl
         have hfz14_0 := blk_frozen BK248.out 0
         have hfz14_1 := blk_frozen BK248.out 1
         have p12 : 0 ≤ (x3_2 : Int) := of_decide_eq_true (by first | (with_reducible assumption) | assumption)
         have q12 : x3_2 < (a0_1.size : Int) := of_decide_eq_true (by first | (with_reducible assumption) | assumption)
         have hx12 := bt_at a0_1 x3_2
         replace p12 := eq_true p12
         replace q12 := eq_true q12
         go_wp2
         go_roundg k2
         case measure => have := HJ1.out; have := HK2.out; omega
         case rel => exact ⟨(wrap64 (x3_2 + 1)), (by first | rfl | (simp; done) | (simp [*]; done)), H', ⟨by have := HJ1.out; have := HK2.out; omega⟩, ⟨kx_ BK248.out⟩, ⟨bx1 HB.out GE248.out⟩⟩
        ·rw [if_neg c13] at H
         have c13b0 : ((bt a0_1 x3_2) == 43) = false := beq_eq_false_iff_ne.mpr c13
         have c13b1 : ((bt a0_1 x3_2) != 43) = true := bne_iff_ne.mpr c13
         by_cases c16 : (bt a0_1 x3_2) = 45
         ·rw [if_pos c16] at H
          have c16b0 : ((bt a0_1 x3_2) == 45) = true := beq_iff_eq.mpr c16
          have c16b1 : ((bt a0_1 x3_2) != 45) = false := bne_eq_false_iff_eq.mpr c16
          clear c16
          have H' := am_ H
          clear H
          have hcz17_0 : wr.cell? ⟨gb248, 0, none⟩ = some (.int .i64 a0_0) := (blk_cell BK248.out 0).trans rfl
          have hcz17_1 : wr.cell? ⟨gb248, 1, none⟩ = some (.string a0_1) := (blk_cell BK248.out 1).trans rfl
          have hfz17_0 := blk_frozen BK248.out 0
          have hfz17_1 := blk_frozen BK248.out 1
          have p12 : 0 ≤ (x3_2 : Int) := of_decide_eq_true (by first | (with_reducible assumption) | assumption)
          have q12 : x3_2 < (a0_1.size : Int) := of_decide_eq_true (by first | (with_reducible assumption) | assumption)
          have hx12 := bt_at a0_1 x3_2
          replace p12 := eq_true p12
          replace q12 := eq_true q12
          have p15 : 0 ≤ (x3_2 : Int) := of_decide_eq_true (by first | (with_reducible assumption) | assumption)
          have q15 : x3_2 < (a0_1.size : Int) := of_decide_eq_true (by first | (with_reducible assumption) | assumption)
          have hx15 := bt_at a0_1 x3_2
          replace p15 := eq_true p15
          replace q15 := eq_true q15
          go_wp2
          go_roundg k2
          case measure => have := HJ1.out; have := HK2.out; omega
          case rel => exact ⟨(wrap64 (x3_2 + 1)), (by first | rfl | (simp; done) | (simp [*]; done)), H', ⟨by have := HJ1.out; have := HK2.out; omega⟩, ⟨kx_ BK248.out⟩, ⟨bx1 HB.out GE248.out⟩⟩
         ·rw [if_neg c16] at H
          have c16b0 : ((bt a0_1 x3_2) == 45) = false := beq_eq_false_iff_ne.mpr c16
          have c16b1 : ((bt a0_1 x3_2) != 45) = true := bne_iff_ne.mpr c16
          obtain rfl := Option.some.inj H
          have hcz18_0 : wr.cell? ⟨gb248, 0, none⟩ = some (.int .i64 a0_0) := (blk_cell BK248.out 0).trans rfl
          have hcz18_1 : wr.cell? ⟨gb248, 1, none⟩ = some (.string a0_1) := (blk_cell BK248.out 1).trans rfl
          have hfz18_0 := blk_frozen BK248.out 0
          have hfz18_1 := blk_frozen BK248.out 1
          have p12 : 0 ≤ (x3_2 : Int) := of_decide_eq_true (by first | (with_reducible assumption) | assumption)
          have q12 : x3_2 < (a0_1.size : Int) := of_decide_eq_true (by first | (with_reducible assumption) | assumption)
          have hx12 := bt_at a0_1 x3_2
          replace p12 := eq_true p12
          replace q12 := eq_true q12
          have p15 : 0 ≤ (x3_2 : Int) := of_decide_eq_true (by first | (with_reducible assumption) | assumption)
          have q15 : x3_2 < (a0_1.size : Int) := of_decide_eq_true (by first | (with_reducible assumption) | assumption)
          have hx15 := bt_at a0_1 x3_2
          replace p15 := eq_true p15
          replace q15 := eq_true q15
          go_wp2
          go_ret
          exact ⟨by first | rfl | (simp [errW_none, errW_some] <;> rfl) | (simp [*, errW_none, errW_some] <;> rfl), bx1 HB.out GE248.out⟩
       ·rw [if_neg c11] at H
        exact absurd H (by simp)
      ·rw [if_neg c10] at H
       have c10b0 : decide (x3_2 < (a0_1.size : Int)) = false := decide_eq_false c10
       clear c10
       obtain rfl := Option.some.inj H
       have hcz19_0 : wr.cell? ⟨gb248, 0, none⟩ = some (.int .i64 a0_0) := (blk_cell BK248.out 0).trans rfl
       have hcz19_1 : wr.cell? ⟨gb248, 1, none⟩ = some (.string a0_1) := (blk_cell BK248.out 1).trans rfl
       have hfz19_0 := blk_frozen BK248.out 0
       have hfz19_1 := blk_frozen BK248.out 1
       go_wp2
       go_ret
       exact ⟨by first | rfl | (simp [errW_none, errW_some] <;> rfl) | (simp [*, errW_none, errW_some] <;> rfl), bx1 HB.out GE248.out⟩
mutual
def impl_triplesOf.l0 : Nat → Int → List (S77) → Int → Option ((List (S77)))
 | 0, _, _, _ => none
 | k + 1, x0, x3, x4 => if x4 < x0 then (impl_triplesOf.l1 k x0 x3 x4 (wrap64 (x4 + 1))) else (some x3)
def impl_triplesOf.l1 : Nat → Int → List (S77) → Int → Int → Option ((List (S77)))
 | 0, _, _, _, _ => none
 | k + 1, x0, x3, x4, x5 => if x5 < x0 then (impl_triplesOf.l2 k x0 x3 x4 x5 (wrap64 (x5 + 1))) else (impl_triplesOf.l0 k x0 x3 (wrap64 (x4 + 1)))
def impl_triplesOf.l2 : Nat → Int → List (S77) → Int → Int → Int → Option ((List (S77)))
 | 0, _, _, _, _, _ => none
 | k + 1, x0, x3, x4, x5, x6 => if x6 < x0 then (if x3.length < 5864062014805 then (impl_triplesOf.l2 k x0 (x3 ++ [(⟨x4, x5, x6⟩ : S77)]) x4 x5 (wrap64 (x6 + 1))) else (none)) else (impl_triplesOf.l1 k x0 x3 x4 (wrap64 (x5 + 1)))
end
def impl_triplesOf.f (k : Nat) (a0 : Int) : Option ((List (S77))) := impl_triplesOf.l0 k a0 ([] : List (S77)) 0
theorem impl_triplesOf.mono_l : ∀ k, (∀ y0 y1 y2, LeO (impl_triplesOf.l0 k y0 y1 y2) (impl_triplesOf.l0 (k + 1) y0 y1 y2)) ∧ (∀ y0 y1 y2 y3, LeO (impl_triplesOf.l1 k y0 y1 y2 y3) (impl_triplesOf.l1 (k + 1) y0 y1 y2 y3)) ∧ (∀ y0 y1 y2 y3 y4, LeO (impl_triplesOf.l2 k y0 y1 y2 y3 y4) (impl_triplesOf.l2 (k + 1) y0 y1 y2 y3 y4))
 | 0 => ⟨fun _ _ _ r h => by simp [impl_triplesOf.l0] at h, fun _ _ _ _ r h => by simp [impl_triplesOf.l1] at h, fun _ _ _ _ _ r h => by simp [impl_triplesOf.l2] at h⟩
 | k + 1 => by
  obtain ⟨ih0, ih1, ih2⟩ := impl_triplesOf.mono_l k
  refine ⟨?_, ?_, ?_⟩
  ·intro y0 y1 y2
   unfold impl_triplesOf.l0
   repeat' first
   | (with_reducible exact ih0 _ _ _)
   | (with_reducible exact ih1 _ _ _ _)
   | (with_reducible exact ih2 _ _ _ _ _)
   | (with_reducible exact LeO.refl _)
   | (with_reducible exact LeO.none _)
   | (with_reducible refine LeO.ite ?_ ?_)
   | (with_reducible refine LeO.bind ?_ (fun _ => ?_))
   | exact ih0 _ _ _
   | exact ih1 _ _ _ _
   | exact ih2 _ _ _ _ _
   | exact LeO.none _
   | refine LeO.ite ?_ ?_
   | refine LeO.bind ?_ (fun _ => ?_)
  ·intro y0 y1 y2 y3
   unfold impl_triplesOf.l1
   repeat' first
   | (with_reducible exact ih0 _ _ _)
   | (with_reducible exact ih1 _ _ _ _)
   | (with_reducible exact ih2 _ _ _ _ _)
   | (with_reducible exact LeO.refl _)
   | (with_reducible exact LeO.none _)
   | (with_reducible refine LeO.ite ?_ ?_)
   | (with_reducible refine LeO.bind ?_ (fun _ => ?_))
   | exact ih0 _ _ _
   | exact ih1 _ _ _ _
   | exact ih2 _ _ _ _ _
   | exact LeO.none _
   | refine LeO.ite ?_ ?_
   | refine LeO.bind ?_ (fun _ => ?_)
  ·intro y0 y1 y2 y3 y4
   unfold impl_triplesOf.l2
   repeat' first
   | (with_reducible exact ih0 _ _ _)
   | (with_reducible exact ih1 _ _ _ _)
   | (with_reducible exact ih2 _ _ _ _ _)
   | (with_reducible exact LeO.refl _)
   | (with_reducible exact LeO.none _)
   | (with_reducible refine LeO.ite ?_ ?_)
   | (with_reducible refine LeO.bind ?_ (fun _ => ?_))
   | exact ih0 _ _ _
   | exact ih1 _ _ _ _
   | exact ih2 _ _ _ _ _
   | exact LeO.none _
   | refine LeO.ite ?_ ?_
   | refine LeO.bind ?_ (fun _ => ?_)
theorem impl_triplesOf.mono : ∀ a0 k, LeO (impl_triplesOf.f k a0) (impl_triplesOf.f (k + 1) a0) := by
 intro a0 k
 obtain ⟨ih0, ih1, ih2⟩ := impl_triplesOf.mono_l k
 unfold impl_triplesOf.f
 repeat' first
   | (with_reducible exact ih0 _ _ _)
   | (with_reducible exact ih1 _ _ _ _)
   | (with_reducible exact ih2 _ _ _ _ _)
   | (with_reducible exact LeO.refl _)
   | (with_reducible exact LeO.none _)
   | (with_reducible refine LeO.ite ?_ ?_)
   | (with_reducible refine LeO.bind ?_ (fun _ => ?_))
   | exact ih0 _ _ _
   | exact ih1 _ _ _ _
   | exact ih2 _ _ _ _ _
   | exact LeO.none _
   | refine LeO.ite ?_ ?_
   | refine LeO.bind ?_ (fun _ => ?_)
set_option maxHeartbeats 8000000 in
set_option maxRecDepth 100000 in
theorem impl_triplesOf.calls (k : Nat) (a0 : Int) (r : List (S77)) (w : World) (h : impl_triplesOf.f k a0 = some r) :
  Calls Try.prog 52 #[.int .i64 a0] w fun e w' => ∃ v0_ : Value, e = .returned (v0_) ∧ Kd.R k77 77 w' w.heap.size (fun _ => True) v0_ r ∧ Below w.heap.size w w' := by
 have hu77 := Try.underlying77
 have HB := am_ (Below.refl w.heap.size w)
 have H : (impl_triplesOf.l0 k a0 ([] : List (S77)) 0) = some r := h
 clear h
 have H' := am_ H
 clear H
 go_enter Try.func52, Try.ntmps52
 go_wp2
 go_loopg [3, 4] k (fun kq v3 v4 w' => ∃ (x3_1 : List (S77)) (x4_1 : Int), v4 = .int .i64 x4_1 ∧ Aside0 (impl_triplesOf.l0 kq a0 x3_1 x4_1 = some r) ∧ Aside0 (kq ≤ k) ∧ Aside0 (Kd.R k77 77 w' w.heap.size (fun _ => True) v3 x3_1) ∧ Aside0 (Below w.heap.size w w'))
 case atStart => exact ⟨(([] : List (S77))), (0), (by first | rfl | (simp; done) | (simp [*]; done)), H', ⟨Nat.le_refl _⟩, ⟨by first | exact Kd.R_nil _ _ _ _ _ | exact Kd.N_nil _ _ _ _ _ | exact Kd.V_nil _ _ _ _ _ | exact Kd.Q_nil _ _ _ _ _ | exact Kd.S_nil _ _ _ _ _⟩, ⟨bx0 HB.out⟩⟩
 case round =>
  clear H'
  obtain ⟨x3_1, x4_1, rfl, HA, HK1, HO_3, HB⟩ := hrel
  cases gk with
  | zero => exact absurd HA.out (by simp [impl_triplesOf.l0])
  | succ k1 =>
   have H := HA.out
   clear HA
   simp only [impl_triplesOf.l0] at H
   by_cases c2 : x4_1 < a0
   ·rw [if_pos c2] at H
    have c2b0 : decide (x4_1 < a0) = true := decide_eq_true c2
    clear c2
    have H' := am_ H
    clear H
    go_wp2
    go_loopg [3, 5] k1 (fun kq v3 v5 w' => ∃ (x3_2 : List (S77)) (x5_2 : Int), v5 = .int .i64 x5_2 ∧ Aside0 (impl_triplesOf.l1 kq a0 x3_2 x4_1 x5_2 = some r) ∧ Aside0 (kq ≤ k1) ∧ Aside0 (Kd.R k77 77 w' w.heap.size (fun _ => True) v3 x3_2) ∧ Aside0 (Below w.heap.size w w'))
    case atStart => exact ⟨(x3_1), (wrap64 (x4_1 + 1)), (by first | rfl | (simp; done) | (simp [*]; done)), H', ⟨Nat.le_refl _⟩, ⟨rx_ HO_3.out⟩, ⟨bx0 HB.out⟩⟩
    case round =>
     clear H'
     try clear c2
     try clear c2b0
     try clear p2
     obtain ⟨x3_2, x5_2, rfl, HA, HK2, HO_3, HB⟩ := hrel
     cases gk with
     | zero => exact absurd HA.out (by simp [impl_triplesOf.l1])
     | succ k2 =>
      have H := HA.out
      clear HA
      simp only [impl_triplesOf.l1] at H
      by_cases c3 : x5_2 < a0
      ·rw [if_pos c3] at H
       have c3b0 : decide (x5_2 < a0) = true := decide_eq_true c3
       clear c3
       have H' := am_ H
       clear H
       go_wp2
       go_loopg [3, 6] k2 (fun kq v3 v6 w' => ∃ (x3_3 : List (S77)) (x6_3 : Int), v6 = .int .i64 x6_3 ∧ Aside0 (impl_triplesOf.l2 kq a0 x3_3 x4_1 x5_2 x6_3 = some r) ∧ Aside0 (kq ≤ k2) ∧ Aside0 (Kd.R k77 77 w' w.heap.size (fun _ => True) v3 x3_3) ∧ Aside0 (Below w.heap.size w w'))
       case atStart => exact ⟨(x3_2), (wrap64 (x5_2 + 1)), (by first | rfl | (simp; done) | (simp [*]; done)), H', ⟨Nat.le_refl _⟩, ⟨rx_ HO_3.out⟩, ⟨bx0 HB.out⟩⟩
       case round =>
        clear H'
        try clear c2
        try clear c2b0
        try clear p2
        try clear c3
        try clear c3b0
        try clear p2
        obtain ⟨x3_3, x6_3, rfl, HA, HK3, HO_3, HB⟩ := hrel
        cases gk with
        | zero => exact absurd HA.out (by simp [impl_triplesOf.l2])
        | succ k3 =>
         have H := HA.out
         clear HA
         simp only [impl_triplesOf.l2] at H
         by_cases c4 : x6_3 < a0
         ·rw [if_pos c4] at H
          have c4b0 : decide (x6_3 < a0) = true := decide_eq_true c4
          clear c4
          by_cases c5 : x3_3.length < 5864062014805
          ·rw [if_pos c5] at H
           have LMc5 := am_ c5
           clear c5
           obtain ⟨y249, hy249⟩ : ∃ y_ : List (S77), y_ = (x3_3 ++ [(⟨x4_1, x5_2, x6_3⟩ : S77)]) := ⟨_, rfl⟩
           replace H : (impl_triplesOf.l2 k3 a0 y249 x4_1 x5_2 (wrap64 (x6_3 + 1))) = some r := by first | (rw [hy249]; with_reducible exact H) | (have H2_ := (Option.bind_some _ _).symm.trans H; rw [hy249]; with_reducible exact H2_) | (have H2_ := (Option.bind_some _ _).symm.trans H; with_reducible exact H2_) | with_reducible exact H | (rw [hy249]; exact H) | exact H
           have Ny249 := am_ hy249
           clear hy249
           have H' := am_ H
           clear H
           go_wp2_with (first | ((with_reducible refine gate_builtin (b := .append) (xs := #[.tmp 26, .tmp 31]) rfl ?_); at_builtin; refine Kd.R_append k77 (w0 := w) w.heap.size rfl (.tmp 26) (.tmp 31) 75 77 (.agg #[(.int .i64 0), (.int .i64 0), (.int .i64 0)]) 24 rfl Try.underlying75 info77 rfl (by decide) (by omega) u3 x3_3 (⟨x4_1, x5_2, x6_3⟩ : S77) [.int .i64 x4_1, .int .i64 x5_2, .int .i64 x6_3] (fun _ => True) (fun _ => False) rfl rfl ?aP (fun _ hk => hk.elim) ?aF ?aO ?aB ?aS ?aL ?_; (case aP => exact k77_mkM _ _ _ (⟨x4_1, x5_2, x6_3⟩ : S77)); (case aB => exact (bx0 HB.out)); (case aF => exact (fun _ _ => trivial)); (case aO => exact (rx_ HO_3.out)); (case aS => exact (below_size (bx0 HB.out))); (case aL => have := LMc5.out; omega); intro v250 w6 ho hb hg hat; rw [← Ny249.out] at ho; have n0_ := am_ (hb); have n1_ := am_ (ho); clear HB; clear HO_3; have HB := n0_; have HO251 := n1_; clear n0_ n1_; clear ho hb hg hat))
           go_roundg k3
           case measure => have := HK1.out; have := HK2.out; have := HK3.out; omega
           case rel => exact ⟨(y249), (wrap64 (x6_3 + 1)), (by first | rfl | (simp; done) | (simp [*]; done)), H', ⟨by have := HK1.out; have := HK2.out; have := HK3.out; omega⟩, ⟨rx_ HO251.out⟩, ⟨bx0 HB.out⟩⟩
          ·rw [if_neg c5] at H
           exact absurd H (by simp)
         ·rw [if_neg c4] at H
          have c4b0 : decide (x6_3 < a0) = false := decide_eq_false c4
          clear c4
          have H' := am_ H
          clear H
          go_wp2
          go_roundg k3
          case measure => have := HK1.out; have := HK2.out; have := HK3.out; omega
          case rel => exact ⟨(x3_3), (wrap64 (x5_2 + 1)), (by first | rfl | (simp; done) | (simp [*]; done)), H', ⟨by have := HK1.out; have := HK2.out; have := HK3.out; omega⟩, ⟨rx_ HO_3.out⟩, ⟨bx0 HB.out⟩⟩
      ·rw [if_neg c3] at H
       have c3b0 : decide (x5_2 < a0) = false := decide_eq_false c3
       clear c3
       have H' := am_ H
       clear H
       go_wp2
       go_roundg k2
       case measure => have := HK1.out; have := HK2.out; omega
       case rel => exact ⟨(x3_2), (wrap64 (x4_1 + 1)), (by first | rfl | (simp; done) | (simp [*]; done)), H', ⟨by have := HK1.out; have := HK2.out; omega⟩, ⟨rx_ HO_3.out⟩, ⟨bx0 HB.out⟩⟩
   ·rw [if_neg c2] at H
    have c2b0 : decide (x4_1 < a0) = false := decide_eq_false c2
    clear c2
    obtain rfl := Option.some.inj H
    go_wp2
    go_ret
    exact ⟨_, by first | rfl | (simp [errW_none, errW_some] <;> rfl) | (simp [*, errW_none, errW_some] <;> rfl), rx_ HO_3.out, bx0 HB.out⟩
end Go.Proofs.Ytdkpiahpmgcmdaa.P
namespace Go.Proofs.Ytdkpiahpmgcmdaa.P
open Go.RowKit Go.Proofs.YtdkpiahpmgcmdaaW.PrintWords Go.Proofs.YtdkpiahpmgcmdaaW.PrintLast Go.Proofs.YtdkpiahpmgcmdaaW.PrintMore
def ix (i j k : Int) : Nat := 1 + i.toNat * 49 + j.toNat * 7 + k.toNat
def setL (l : List Int) (i j k v : Int) : List Int := ((l.set (1 + i.toNat * 49 + j.toNat * 7 + k.toNat) v).set (1 + j.toNat * 49 + k.toNat * 7 + i.toNat) v).set (1 + k.toNat * 49 + i.toNat * 7 + j.toNat) v
def chiSet (l : List Int) (i j k v : Int) : List Int := setL (setL l i j k v) i k j (wrap64 (-v))
theorem setL_length (l : List Int) (i j k v : Int) : (setL l i j k v).length = l.length := by simp [setL]
theorem chiSet_length (l : List Int) (i j k v : Int) : (chiSet l i j k v).length = l.length := by simp [chiSet, setL_length]
def impl_chi_set.f (l : List Int) (i j k v : Int) : Option (List Int) :=
  if l.length = 344 ∧ (0 ≤ i ∧ i < 7) ∧ (0 ≤ j ∧ j < 7) ∧ (0 ≤ k ∧ k < 7) then some (chiSet l i j k v) else none
abbrev TBL (w : World) (base : Nat) (ok : Nat → Prop) (v : Value) (l : List Int) : Prop := Kd.R (Kd.int .i64) 74 w base ok v l
theorem tbl_cell {w : World} {base g n cap : Nat} {ok : Nat → Prop} {l : List Int} (h : TBL w base ok (.slice (some ⟨g, 0, none⟩) n cap) l) (o : Nat) (ho : o < n) : ∃ v, w.cell? ⟨g, o, none⟩ = some v ∧ w.frozen? ⟨g, o, none⟩ = false := by
  have := Kd.R_celln 0 h (o : Int) (by omega) (by omega)
  rw [Int.toNat_natCast] at this
  exact ⟨_, this⟩
theorem tbl_set {w : World} {base g n cap : Nat} {ok : Nat → Prop} {l : List Int} (h : TBL w base ok (.slice (some ⟨g, 0, none⟩) n cap) l) (o : Nat) (v : Int) : TBL (w.setCell ⟨g, o, none⟩ (.int .i64 v)) base ok (.slice (some ⟨g, 0, none⟩) n cap) (l.set o v) := by
  have := Kd.R_putn h (o : Int) v
  rw [Int.toNat_natCast] at this
  exact this
end Go.Proofs.Ytdkpiahpmgcmdaa.P
