/- What the law FnExactPlacePoints reaches, part 14: functions as plain Lean functions with the proofs that their calls come to them, and plain lemmas over these. Put together by a program (wip/pack.py). -/
import Derived.Test.YtdkpiahpmgcmdaaKFnExactPlacePointsc
import Derived.Test.YtdkpiahpmgcmdaaKFnExactPlacePointsi
import Derived.Test.YtdkpiahpmgcmdaaKFnExactPlacePointsm
import Derived.Test.YtdkpiahpmgcmdaaKFnExactPlacePointsa
import Derived.ChangeArms
import Derived.Deep.Slices
import Derived.Deep.Fields
import Derived.WideShapes
import Derived.KernelRfl
import Derived.Test.YtdkpiahpmgcmdaaKFnExactPlacePointsf
import Derived.Test.YtdkpiahpmgcmdaaKFnExactPlacePointse
import Derived.Test.YtdkpiahpmgcmdaaKFnExactPlacePointsk
import Derived.Test.YtdkpiahpmgcmdaaKFnExactPlacePointsj
import Derived.Test.YtdkpiahpmgcmdaaKFnExactPlacePointsd
import Derived.Lib.ConvBytes
namespace Go.Proofs.Ytdkpiahpmgcmdaa.P
open Go.RowKit Go.Proofs.YtdkpiahpmgcmdaaW.PrintWords Go.Proofs.YtdkpiahpmgcmdaaW.PrintLast Go.Proofs.YtdkpiahpmgcmdaaW.PrintMore
attribute [local go_sem] ptrOf_slice
attribute [local go_sem] min2_str max2_int min2_int max_two min_two max_three min_three max_four min_four
set_option linter.unusedVariables false
set_option linter.unusedSimpArgs false
mutual
def laws_FnExactPlacePoints.j0 : Nat → Int → List (S54) → Bool → List (S54) → Bool → Int → ByteArray → Option (Bool)
 | 0, _, _, _, _, _, _, _ => none
 | k + 1, x1, x6, x7, x8, x41, x338000, x338001 => if x41 = true then (some false) else ((laws_markPointS.f k x8 1).bind fun bt352 => ((laws_heldPointS.f k bt352.2 1).bind fun t354 => (if t354 < 0 then (some false) else (if t354 = bt352.1 then ((laws_toSigns.f x338000 x338001).bind fun bt355 => ((impl_PlacePoints.f k bt355.1 bt355.2 x1).bind fun bt357 => ((laws_eqPointS.f k bt357.1 x6).bind fun t361 => (if t361 = true then (laws_FnExactPlacePoints.j1 k bt352.2 bt352.1 (bt357.2 != x7)) else (laws_FnExactPlacePoints.j1 k bt352.2 bt352.1 true))))) else (some false)))))
def laws_FnExactPlacePoints.j1 : Nat → List (S54) → Int → Bool → Option (Bool)
 | 0, _, _, _ => none
 | k + 1, x8, x10, x68 => if x68 = true then (some false) else ((laws_heldPointS.f k x8 1).bind fun t362 => (if t362 < 0 then (some false) else (if t362 = x10 then (some true) else (some false))))
end
def laws_FnExactPlacePoints.f (k : Nat) (a0_0 : Int) (a0_1 : ByteArray) (a1 : Int) : Option (Bool) := (laws_szSigns.f a0_0 a0_1 1048576).bind fun t338 => (if t338 < 0 then (some true) else ((laws_toSigns.f a0_0 a0_1).bind fun bt339 => ((spec_PlacePoints.f k bt339.1 bt339.2 a1).bind fun bt341 => ((laws_toSigns.f a0_0 a0_1).bind fun bt345 => ((impl_PlacePoints.f k bt345.1 bt345.2 a1).bind fun bt347 => ((laws_eqPointS.f k bt347.1 bt341.1).bind fun t351 => (if t351 = true then (laws_FnExactPlacePoints.j0 k a1 bt341.1 bt341.2 bt347.1 (bt347.2 != bt341.2) a0_0 a0_1) else (laws_FnExactPlacePoints.j0 k a1 bt341.1 bt341.2 bt347.1 true a0_0 a0_1))))))))
set_option maxHeartbeats 8000000 in
set_option maxRecDepth 100000 in
theorem laws_FnExactPlacePoints.calls (k : Nat) (a0_0 : Int) (a0_1 : ByteArray) (a1 : Int) (r : Bool) (w : World) (h : laws_FnExactPlacePoints.f k a0_0 a0_1 a1 = some r) :
  Calls Try.prog 3 #[.agg #[.int .i64 a0_0, .string a0_1], .int .i64 a1] w fun e w' => e = .returned (.bool r) ∧ Below w.heap.size w w' := by
 have hu23 := Try.underlying23
 have HB := am_ (Below.refl w.heap.size w)
 have H : ((laws_szSigns.f a0_0 a0_1 1048576).bind fun t338 => (if t338 < 0 then (some true) else ((laws_toSigns.f a0_0 a0_1).bind fun bt339 => ((spec_PlacePoints.f k bt339.1 bt339.2 a1).bind fun bt341 => ((laws_toSigns.f a0_0 a0_1).bind fun bt345 => ((impl_PlacePoints.f k bt345.1 bt345.2 a1).bind fun bt347 => ((laws_eqPointS.f k bt347.1 bt341.1).bind fun t351 => (if t351 = true then (laws_FnExactPlacePoints.j0 k a1 bt341.1 bt341.2 bt347.1 (bt347.2 != bt341.2) a0_0 a0_1) else (laws_FnExactPlacePoints.j0 k a1 bt341.1 bt341.2 bt347.1 true a0_0 a0_1))))))))) = some r := h
 clear h
 replace H := Option.bind_eq_some_iff.mp H
 obtain ⟨t338, A30, H⟩ := H
 replace H : (if t338 < 0 then (some true) else ((laws_toSigns.f a0_0 a0_1).bind fun bt339 => ((spec_PlacePoints.f k bt339.1 bt339.2 a1).bind fun bt341 => ((laws_toSigns.f a0_0 a0_1).bind fun bt345 => ((impl_PlacePoints.f k bt345.1 bt345.2 a1).bind fun bt347 => ((laws_eqPointS.f k bt347.1 bt341.1).bind fun t351 => (if t351 = true then (laws_FnExactPlacePoints.j0 k a1 bt341.1 bt341.2 bt347.1 (bt347.2 != bt341.2) a0_0 a0_1) else (laws_FnExactPlacePoints.j0 k a1 bt341.1 bt341.2 bt347.1 true a0_0 a0_1)))))))) = some r := H
 have A3 := am_ A30
 clear A30
 by_cases c4 : t338 < 0
 ·rw [if_pos c4] at H
  have c4b0 : decide (t338 < 0) = true := decide_eq_true c4
  clear c4
  obtain rfl := Option.some.inj H
  go_enter Try.func3, Try.ntmps3
  go_wp2_with (first | ((with_reducible refine gate_dst (N := 2) rfl ?_); refine box_event ?hg (N := 2) ?hd (cs := #[.int .i64 a0_0, .string a0_1]) (t := 23) ?hr ?_; (case hd => rfl); (case hg => rfl); (case hr => first | (go_simp; done) | (go_simp; rfl)); intro gb337 hg w5 hbox hb; have n0_ := am_ (below_step (bx0 HB.out) hb); have n1_ := am_ (hbox); have n2_ := am_ ((by rw [hg]; exact (below_size (bx0 HB.out)) : w.heap.size ≤ gb337)); have n3_ := am_ ((by rw [hg]; exact (below_size (bx0 HB.out)) : w.heap.size ≤ gb337)); clear HB; have HB := n0_; have BK337 := n1_; have GW337 := n2_; have GE337 := n3_; clear n0_ n1_ n2_ n3_; clear hb hbox hg; have hcz6_0 : w5.cell? ⟨gb337, 0, none⟩ = some (.int .i64 a0_0) := (blk_cell BK337.out 0).trans rfl; have hcz6_1 : w5.cell? ⟨gb337, 1, none⟩ = some (.string a0_1) := (blk_cell BK337.out 1).trans rfl; have hfz6_0 := blk_frozen BK337.out 0; have hfz6_1 := blk_frozen BK337.out 1) | ((with_reducible refine gate_callee (f := 8) rfl ?_); refine goesL_ (some 16) rfl rfl Try.func8 (by kernel_rfl) rfl #[.agg #[.int .i64 a0_0, .string a0_1], .int .i64 1048576] rfl (by (try simp only [List.map_toArray, List.map_cons, List.map_nil]); first | done | rfl | (simp only [List.length_drop, List.length_take]; rfl)) ?_; (with_reducible refine (laws_szSigns.calls a0_0 a0_1 1048576 t338 _ A3.out).mono ?_); rintro e w7 ⟨rfl, hb⟩; refine ⟨_, rfl, ?_⟩; have n0_ := am_ (blk_below (g := gb337) (o := .cells #[.int .i64 a0_0, .string a0_1] 23 (0, 0)) (kx_ BK337.out) hb); have n1_ := am_ (below_step (bx1 HB.out GE337.out) hb); clear BK337; clear HB; have BK337 := n0_; have HB := n1_; clear n0_ n1_; (try clear hb); (try clear hb2); (try clear hk); (try clear hi)))
  go_ret
  exact ⟨by first | rfl | (simp [errW_none, errW_some] <;> rfl) | (simp [*, errW_none, errW_some] <;> rfl), bx1 HB.out GE337.out⟩
 ·rw [if_neg c4] at H
  have c4b0 : decide (t338 < 0) = false := decide_eq_false c4
  clear c4
  replace H := Option.bind_eq_some_iff.mp H
  obtain ⟨⟨t339, t340⟩, A80, H⟩ := H
  replace H : ((spec_PlacePoints.f k t339 t340 a1).bind fun bt341 => ((laws_toSigns.f a0_0 a0_1).bind fun bt345 => ((impl_PlacePoints.f k bt345.1 bt345.2 a1).bind fun bt347 => ((laws_eqPointS.f k bt347.1 bt341.1).bind fun t351 => (if t351 = true then (laws_FnExactPlacePoints.j0 k a1 bt341.1 bt341.2 bt347.1 (bt347.2 != bt341.2) a0_0 a0_1) else (laws_FnExactPlacePoints.j0 k a1 bt341.1 bt341.2 bt347.1 true a0_0 a0_1)))))) = some r := H
  have A8 := am_ A80
  clear A80
  replace H := Option.bind_eq_some_iff.mp H
  obtain ⟨⟨t341, t344⟩, A90, H⟩ := H
  replace H : ((laws_toSigns.f a0_0 a0_1).bind fun bt345 => ((impl_PlacePoints.f k bt345.1 bt345.2 a1).bind fun bt347 => ((laws_eqPointS.f k bt347.1 t341).bind fun t351 => (if t351 = true then (laws_FnExactPlacePoints.j0 k a1 t341 t344 bt347.1 (bt347.2 != t344) a0_0 a0_1) else (laws_FnExactPlacePoints.j0 k a1 t341 t344 bt347.1 true a0_0 a0_1))))) = some r := H
  have A9 := am_ A90
  clear A90
  replace H := Option.bind_eq_some_iff.mp H
  obtain ⟨⟨t345, t346⟩, A100, H⟩ := H
  replace H : ((impl_PlacePoints.f k t345 t346 a1).bind fun bt347 => ((laws_eqPointS.f k bt347.1 t341).bind fun t351 => (if t351 = true then (laws_FnExactPlacePoints.j0 k a1 t341 t344 bt347.1 (bt347.2 != t344) a0_0 a0_1) else (laws_FnExactPlacePoints.j0 k a1 t341 t344 bt347.1 true a0_0 a0_1)))) = some r := H
  have A10 := am_ A100
  clear A100
  replace H := Option.bind_eq_some_iff.mp H
  obtain ⟨⟨t347, t350⟩, A110, H⟩ := H
  replace H : ((laws_eqPointS.f k t347 t341).bind fun t351 => (if t351 = true then (laws_FnExactPlacePoints.j0 k a1 t341 t344 t347 (t350 != t344) a0_0 a0_1) else (laws_FnExactPlacePoints.j0 k a1 t341 t344 t347 true a0_0 a0_1))) = some r := H
  have A11 := am_ A110
  clear A110
  have HC12 := am_ H
  clear H
  go_enter Try.func3, Try.ntmps3
  go_upto_region 7 with (first | ((with_reducible refine gate_dst (N := 2) rfl ?_); refine box_event ?hg (N := 2) ?hd (cs := #[.int .i64 a0_0, .string a0_1]) (t := 23) ?hr ?_; (case hd => rfl); (case hg => rfl); (case hr => first | (go_simp; done) | (go_simp; rfl)); intro gb337 hg w13 hbox hb; have n0_ := am_ (below_step (bx0 HB.out) hb); have n1_ := am_ (hbox); have n2_ := am_ ((by rw [hg]; exact (below_size (bx0 HB.out)) : w.heap.size ≤ gb337)); have n3_ := am_ ((by rw [hg]; exact (below_size (bx0 HB.out)) : w.heap.size ≤ gb337)); clear HB; have HB := n0_; have BK337 := n1_; have GW337 := n2_; have GE337 := n3_; clear n0_ n1_ n2_ n3_; clear hb hbox hg; have hcz14_0 : w13.cell? ⟨gb337, 0, none⟩ = some (.int .i64 a0_0) := (blk_cell BK337.out 0).trans rfl; have hcz14_1 : w13.cell? ⟨gb337, 1, none⟩ = some (.string a0_1) := (blk_cell BK337.out 1).trans rfl; have hfz14_0 := blk_frozen BK337.out 0; have hfz14_1 := blk_frozen BK337.out 1) | ((with_reducible refine gate_callee (f := 8) rfl ?_); refine goesL_ (some 16) rfl rfl Try.func8 (by kernel_rfl) rfl #[.agg #[.int .i64 a0_0, .string a0_1], .int .i64 1048576] rfl (by (try simp only [List.map_toArray, List.map_cons, List.map_nil]); first | done | rfl | (simp only [List.length_drop, List.length_take]; rfl)) ?_; (with_reducible refine (laws_szSigns.calls a0_0 a0_1 1048576 t338 _ A3.out).mono ?_); rintro e w15 ⟨rfl, hb⟩; refine ⟨_, rfl, ?_⟩; have n0_ := am_ (blk_below (g := gb337) (o := .cells #[.int .i64 a0_0, .string a0_1] 23 (0, 0)) (kx_ BK337.out) hb); have n1_ := am_ (below_step (bx1 HB.out GE337.out) hb); clear BK337; clear HB; have BK337 := n0_; have HB := n1_; clear n0_ n1_; (try clear hb); (try clear hb2); (try clear hk); (try clear hi); have hcz16_0 : w15.cell? ⟨gb337, 0, none⟩ = some (.int .i64 a0_0) := (blk_cell BK337.out 0).trans rfl; have hcz16_1 : w15.cell? ⟨gb337, 1, none⟩ = some (.string a0_1) := (blk_cell BK337.out 1).trans rfl; have hfz16_0 := blk_frozen BK337.out 0; have hfz16_1 := blk_frozen BK337.out 1) | ((with_reducible refine gate_callee (f := 10) rfl ?_); refine goesL_ (some 21) rfl rfl Try.func10 (by kernel_rfl) rfl #[.agg #[.int .i64 a0_0, .string a0_1]] rfl (by (try simp only [List.map_toArray, List.map_cons, List.map_nil]); first | done | rfl | (simp only [List.length_drop, List.length_take]; rfl)) ?_; (with_reducible refine (laws_toSigns.calls a0_0 a0_1 t339 t340 _ A8.out).mono ?_); rintro e w17 ⟨rfl, hb⟩; refine ⟨_, rfl, ?_⟩; have n0_ := am_ (blk_below (g := gb337) (o := .cells #[.int .i64 a0_0, .string a0_1] 23 (0, 0)) (kx_ BK337.out) hb); have n1_ := am_ (below_step (bx1 HB.out GE337.out) hb); clear BK337; clear HB; have BK337 := n0_; have HB := n1_; clear n0_ n1_; (try clear hb); (try clear hb2); (try clear hk); (try clear hi)) | ((with_reducible refine gate_callee (f := 9) rfl ?_); refine goesL_ (some 23) rfl rfl Try.func9 (by kernel_rfl) rfl #[.agg #[.int .i64 t339, .string t340], .int .i64 a1] rfl (by (try simp only [List.map_toArray, List.map_cons, List.map_nil]); first | done | rfl | (simp only [List.length_drop, List.length_take]; rfl)) ?_; (with_reducible refine (spec_PlacePoints.calls k t339 t340 a1 t341 t344 _ A9.out).mono ?_); rintro e w18 ⟨v342, rfl, ho0, hb⟩; refine ⟨_, rfl, ?_⟩; have n0_ := am_ (Kd.R_lower ho0 (below_size (bx1 HB.out GE337.out))); have n1_ := am_ (blk_below (g := gb337) (o := .cells #[.int .i64 a0_0, .string a0_1] 23 (0, 0)) (kx_ BK337.out) hb); have n2_ := am_ (below_step (bx1 HB.out GE337.out) hb); clear BK337; clear HB; have HO343 := n0_; have BK337 := n1_; have HB := n2_; clear n0_ n1_ n2_; (try clear hb); (try clear hb2); (try clear hk); (try clear hi); (try clear ho0); have hcz19_0 : w18.cell? ⟨gb337, 0, none⟩ = some (.int .i64 a0_0) := (blk_cell BK337.out 0).trans rfl; have hcz19_1 : w18.cell? ⟨gb337, 1, none⟩ = some (.string a0_1) := (blk_cell BK337.out 1).trans rfl; have hfz19_0 := blk_frozen BK337.out 0; have hfz19_1 := blk_frozen BK337.out 1) | ((with_reducible refine gate_callee (f := 10) rfl ?_); refine goesL_ (some 28) rfl rfl Try.func10 (by kernel_rfl) rfl #[.agg #[.int .i64 a0_0, .string a0_1]] rfl (by (try simp only [List.map_toArray, List.map_cons, List.map_nil]); first | done | rfl | (simp only [List.length_drop, List.length_take]; rfl)) ?_; (with_reducible refine (laws_toSigns.calls a0_0 a0_1 t345 t346 _ A10.out).mono ?_); rintro e w20 ⟨rfl, hb⟩; refine ⟨_, rfl, ?_⟩; have n0_ := am_ (Kd.R_below (rx_ HO343.out) hb); have n1_ := am_ (blk_below (g := gb337) (o := .cells #[.int .i64 a0_0, .string a0_1] 23 (0, 0)) (kx_ BK337.out) hb); have n2_ := am_ (below_step (bx1 HB.out GE337.out) hb); clear HO343; clear BK337; clear HB; have HO343 := n0_; have BK337 := n1_; have HB := n2_; clear n0_ n1_ n2_; (try clear hb); (try clear hb2); (try clear hk); (try clear hi)) | ((with_reducible refine gate_callee (f := 11) rfl ?_); refine goesL_ (some 30) rfl rfl Try.func11 (by kernel_rfl) rfl #[.agg #[.int .i64 t345, .string t346], .int .i64 a1] rfl (by (try simp only [List.map_toArray, List.map_cons, List.map_nil]); first | done | rfl | (simp only [List.length_drop, List.length_take]; rfl)) ?_; (with_reducible refine (impl_PlacePoints.calls k t345 t346 a1 t347 t350 _ A11.out).mono ?_); rintro e w21 ⟨v348, rfl, ho0, hb⟩; refine ⟨_, rfl, ?_⟩; have n0_ := am_ (Kd.R_elder' (rx_ HO343.out) (Kd.R_base ho0) hb); have n1_ := am_ (Kd.R_lower (Kd.R_new' ho0 (Kd.R_lt (rx_ HO343.out))) (below_size (bx1 HB.out GE337.out))); have n2_ := am_ (blk_below (g := gb337) (o := .cells #[.int .i64 a0_0, .string a0_1] 23 (0, 0)) (kx_ BK337.out) hb); have n3_ := am_ (below_step (bx1 HB.out GE337.out) hb); clear HO343; clear BK337; clear HB; have HO343 := n0_; have HO349 := n1_; have BK337 := n2_; have HB := n3_; clear n0_ n1_ n2_ n3_; (try clear hb); (try clear hb2); (try clear hk); (try clear hi); (try clear ho0)))
  (try simp only [Act.put, sA_, sZ_, sS_])
  go_cut [41] (fun v41 wc => ∃ (kq : Nat) (x41_11 : Bool), v41 = .bool x41_11 ∧ Aside0 (laws_FnExactPlacePoints.j0 kq a1 t341 t344 t347 x41_11 a0_0 a0_1 = some r) ∧ Aside0 (kq ≤ k) ∧ Aside0 (Kd.R k54 54 wc w.heap.size (fun k_ => some k_ ≠ (v348 : Value).ownBlock) v342 t341) ∧ Aside0 (Kd.R k54 54 wc w.heap.size (fun k_ => some k_ ≠ (v342 : Value).ownBlock) v348 t347) ∧ Aside0 (wc.heap[gb337]? = some (.cells #[.int .i64 a0_0, .string a0_1] 23 (0, 0))) ∧ Aside0 (Below w.heap.size w wc))
  case first =>
   have H := HC12.out
   clear HC12
   replace H := Option.bind_eq_some_iff.mp H
   obtain ⟨t351, A220, H⟩ := H
   replace H : (if t351 = true then (laws_FnExactPlacePoints.j0 k a1 t341 t344 t347 (t350 != t344) a0_0 a0_1) else (laws_FnExactPlacePoints.j0 k a1 t341 t344 t347 true a0_0 a0_1)) = some r := H
   have A22 := am_ A220
   clear A220
   by_cases c23 : t351 = true
   ·subst c23
    have H1 : (laws_FnExactPlacePoints.j0 k a1 t341 t344 t347 (t350 != t344) a0_0 a0_1) = some r := by rw [if_pos rfl] at H; exact H
    clear H
    have H := H1
    clear H1
    have H' := am_ H
    clear H
    obtain ⟨Ao24, co24, eo24⟩ := Kd.R_slice HO349.out
    subst eo24
    obtain ⟨Ao25, co25, eo25⟩ := Kd.R_slice HO343.out
    subst eo25
    go_wp2_with (first | ((with_reducible refine gate_callee (f := 12) rfl ?_); refine goesL_ (some 35) rfl rfl Try.func12 (by kernel_rfl) rfl #[.slice Ao24 t347.length co24, .slice Ao25 t341.length co25] rfl (by (try simp only [List.map_toArray, List.map_cons, List.map_nil]); first | done | rfl | (simp only [List.length_drop, List.length_take]; rfl)) ?_; (with_reducible refine (laws_eqPointS.calls k _ _ t347 _ _ t341 true _ ?side1 ?side2 ?side3 ?side4 A22.out).mono ?_); (case side1 => repeat (first | exact (Kd.R_reads' HO349.out).2.2 | (with_reducible refine Kd.C_alloc ?_ _) | (with_reducible refine Kd.C_drewN ?_ _) | (with_reducible refine Kd.C_drew ?_))); (case side2 => exact (Kd.R_reads' HO349.out).2.1); (case side3 => repeat (first | exact (Kd.R_reads' HO343.out).2.2 | (with_reducible refine Kd.C_alloc ?_ _) | (with_reducible refine Kd.C_drewN ?_ _) | (with_reducible refine Kd.C_drew ?_))); (case side4 => exact (Kd.R_reads' HO343.out).2.1); rintro e w26 ⟨rfl, hb⟩; refine ⟨_, rfl, ?_⟩; have n0_ := am_ (Kd.R_below (rx_ HO343.out) hb); have n1_ := am_ (Kd.R_below (rx_ HO349.out) hb); have n2_ := am_ (blk_below (g := gb337) (o := .cells #[.int .i64 a0_0, .string a0_1] 23 (0, 0)) (kx_ BK337.out) hb); have n3_ := am_ (below_step (bx1 HB.out GE337.out) hb); clear HO343; clear HO349; clear BK337; clear HB; have HO343 := n0_; have HO349 := n1_; have BK337 := n2_; have HB := n3_; clear n0_ n1_ n2_ n3_; (try clear hb); (try clear hb2); (try clear hk); (try clear hi)))
    go_meet
    case rel => exact ⟨_, ((t350 != t344)), (by first | rfl | (simp; done) | (simp [*]; done)), H', ⟨by first | omega | exact Nat.le_refl _⟩, ⟨by (with_reducible repeat (first | apply Kd.R_alloc | apply Kd.R_drewN | apply Kd.R_drew)); exact Kd.R_mono HO343.out (fun _ hk => hk.2)⟩, ⟨by (with_reducible repeat (first | apply Kd.R_alloc | apply Kd.R_drewN | apply Kd.R_drew)); exact Kd.R_mono HO349.out (fun _ hk => hk.2)⟩, ⟨kx_ BK337.out⟩, ⟨bx1 HB.out GE337.out⟩⟩
   ·replace c23 := Bool.eq_false_iff.mpr c23
    subst c23
    have H1 : (laws_FnExactPlacePoints.j0 k a1 t341 t344 t347 true a0_0 a0_1) = some r := by rw [if_neg (show ¬ (false = true) by decide)] at H; exact H
    clear H
    have H := H1
    clear H1
    have H' := am_ H
    clear H
    obtain ⟨Ao27, co27, eo27⟩ := Kd.R_slice HO349.out
    subst eo27
    obtain ⟨Ao28, co28, eo28⟩ := Kd.R_slice HO343.out
    subst eo28
    go_wp2_with (first | ((with_reducible refine gate_callee (f := 12) rfl ?_); refine goesL_ (some 35) rfl rfl Try.func12 (by kernel_rfl) rfl #[.slice Ao27 t347.length co27, .slice Ao28 t341.length co28] rfl (by (try simp only [List.map_toArray, List.map_cons, List.map_nil]); first | done | rfl | (simp only [List.length_drop, List.length_take]; rfl)) ?_; (with_reducible refine (laws_eqPointS.calls k _ _ t347 _ _ t341 false _ ?side1 ?side2 ?side3 ?side4 A22.out).mono ?_); (case side1 => repeat (first | exact (Kd.R_reads' HO349.out).2.2 | (with_reducible refine Kd.C_alloc ?_ _) | (with_reducible refine Kd.C_drewN ?_ _) | (with_reducible refine Kd.C_drew ?_))); (case side2 => exact (Kd.R_reads' HO349.out).2.1); (case side3 => repeat (first | exact (Kd.R_reads' HO343.out).2.2 | (with_reducible refine Kd.C_alloc ?_ _) | (with_reducible refine Kd.C_drewN ?_ _) | (with_reducible refine Kd.C_drew ?_))); (case side4 => exact (Kd.R_reads' HO343.out).2.1); rintro e w29 ⟨rfl, hb⟩; refine ⟨_, rfl, ?_⟩; have n0_ := am_ (Kd.R_below (rx_ HO343.out) hb); have n1_ := am_ (Kd.R_below (rx_ HO349.out) hb); have n2_ := am_ (blk_below (g := gb337) (o := .cells #[.int .i64 a0_0, .string a0_1] 23 (0, 0)) (kx_ BK337.out) hb); have n3_ := am_ (below_step (bx1 HB.out GE337.out) hb); clear HO343; clear HO349; clear BK337; clear HB; have HO343 := n0_; have HO349 := n1_; have BK337 := n2_; have HB := n3_; clear n0_ n1_ n2_ n3_; (try clear hb); (try clear hb2); (try clear hk); (try clear hi)))
    go_meet
    case rel => exact ⟨_, (true), (by first | rfl | (simp; done) | (simp [*]; done)), H', ⟨by first | omega | exact Nat.le_refl _⟩, ⟨by (with_reducible repeat (first | apply Kd.R_alloc | apply Kd.R_drewN | apply Kd.R_drew)); exact Kd.R_mono HO343.out (fun _ hk => hk.2)⟩, ⟨by (with_reducible repeat (first | apply Kd.R_alloc | apply Kd.R_drewN | apply Kd.R_drew)); exact Kd.R_mono HO349.out (fun _ hk => hk.2)⟩, ⟨kx_ BK337.out⟩, ⟨bx1 HB.out GE337.out⟩⟩
  case rest =>
   clear HC12
   try clear c1
   try clear c2
   try clear p2
   try clear c3
   try clear c4
   try clear c4b0
   try clear c8
   try clear c9
   try clear c10
   try clear c11
   try clear c12
   try clear c23
   try clear hcz14_0
   try clear hcz14_1
   try clear hcz16_0
   try clear hcz16_1
   try clear hcz19_0
   try clear hcz19_1
   try clear hcz6_0
   try clear hcz6_1
   try clear hfz14_0
   try clear hfz14_1
   try clear hfz16_0
   try clear hfz16_1
   try clear hfz19_0
   try clear hfz19_1
   try clear hfz6_0
   try clear hfz6_1
   obtain ⟨kq, x41_11, rfl, HA, HJ11, HO_6, HO_8, BK337, HB⟩ := hcut
   cases kq with
   | zero => exact absurd HA.out (by simp [laws_FnExactPlacePoints.j0])
   | succ kj11 =>
    have H := HA.out
    clear HA
    simp only [laws_FnExactPlacePoints.j0] at H
    by_cases c30 : x41_11 = true
    ·subst c30
     have H1 : (some false) = some r := by rw [if_pos rfl] at H; exact H
     clear H
     have H := H1
     clear H1
     obtain rfl := Option.some.inj H
     go_wp2
     go_ret
     exact ⟨by first | rfl | (simp [errW_none, errW_some] <;> rfl) | (simp [*, errW_none, errW_some] <;> rfl), bx1 HB.out GE337.out⟩
    ·replace c30 := Bool.eq_false_iff.mpr c30
     subst c30
     have H1 : ((laws_markPointS.f kj11 t347 1).bind fun bt352 => ((laws_heldPointS.f kj11 bt352.2 1).bind fun t354 => (if t354 < 0 then (some false) else (if t354 = bt352.1 then ((laws_toSigns.f a0_0 a0_1).bind fun bt355 => ((impl_PlacePoints.f kj11 bt355.1 bt355.2 a1).bind fun bt357 => ((laws_eqPointS.f kj11 bt357.1 t341).bind fun t361 => (if t361 = true then (laws_FnExactPlacePoints.j1 kj11 bt352.2 bt352.1 (bt357.2 != t344)) else (laws_FnExactPlacePoints.j1 kj11 bt352.2 bt352.1 true))))) else (some false))))) = some r := by rw [if_neg (show ¬ (false = true) by decide)] at H; exact H
     clear H
     have H := H1
     clear H1
     replace H := Option.bind_eq_some_iff.mp H
     obtain ⟨⟨t352, t353⟩, A310, H⟩ := H
     replace H : ((laws_heldPointS.f kj11 t353 1).bind fun t354 => (if t354 < 0 then (some false) else (if t354 = t352 then ((laws_toSigns.f a0_0 a0_1).bind fun bt355 => ((impl_PlacePoints.f kj11 bt355.1 bt355.2 a1).bind fun bt357 => ((laws_eqPointS.f kj11 bt357.1 t341).bind fun t361 => (if t361 = true then (laws_FnExactPlacePoints.j1 kj11 t353 t352 (bt357.2 != t344)) else (laws_FnExactPlacePoints.j1 kj11 t353 t352 true))))) else (some false)))) = some r := H
     have A31 := am_ A310
     clear A310
     replace H := Option.bind_eq_some_iff.mp H
     obtain ⟨t354, A320, H⟩ := H
     replace H : (if t354 < 0 then (some false) else (if t354 = t352 then ((laws_toSigns.f a0_0 a0_1).bind fun bt355 => ((impl_PlacePoints.f kj11 bt355.1 bt355.2 a1).bind fun bt357 => ((laws_eqPointS.f kj11 bt357.1 t341).bind fun t361 => (if t361 = true then (laws_FnExactPlacePoints.j1 kj11 t353 t352 (bt357.2 != t344)) else (laws_FnExactPlacePoints.j1 kj11 t353 t352 true))))) else (some false))) = some r := H
     have A32 := am_ A320
     clear A320
     by_cases c33 : t354 < 0
     ·rw [if_pos c33] at H
      have c33b0 : decide (t354 < 0) = true := decide_eq_true c33
      clear c33
      obtain rfl := Option.some.inj H
      obtain ⟨Ao34, co34, eo34⟩ := Kd.R_slice HO_8.out
      subst eo34
      go_wp2_with (first | ((with_reducible refine gate_callee (f := 13) rfl ?_); refine goesL_ (some 44) rfl rfl Try.func13 (by kernel_rfl) rfl #[.slice Ao34 t347.length co34, .int .i64 1] rfl (by (try simp only [List.map_toArray, List.map_cons, List.map_nil]); first | done | rfl | (simp only [List.length_drop, List.length_take]; rfl)) ?_; (with_reducible refine (laws_markPointS.calls kj11 (fun k_ => some k_ = (.slice Ao34 t347.length co34 : Value).ownBlock) (.slice Ao34 t347.length co34) t347 1 t352 t353 w _ ?side1 ?side2 A31.out).mono ?_); (case side1 => repeat (first | (with_reducible first | exact HB.out | apply below_alloc | apply pw_below_drewN | apply below_drew1 | refine below_set ?_ GE337.out) | exact HB.out)); (case side2 => exact Kd.R_tight rfl HO_8.out); rintro e w35 ⟨rfl, hy0, hb, hkp⟩; refine ⟨_, rfl, ?_⟩; have n0_ := am_ (Kd.R_mono (ok' := fun k_ => some k_ ≠ (.slice Ao34 t347.length co34 : Value).ownBlock) (Kd.R_keptB (HO_6.out) hkp (fun k_ hk_ hs_ => (hk_) hs_)) (fun k_ hk_ => hk_.1)); have n1_ := am_ (Kd.R_reok rfl hy0 (fun k_ e_ => HO_8.out.1 k_ e_)); have n2_ := am_ (blk_kept (kx_ BK337.out) hkp (fun hs_ => (fun e_ => (Kd.R_ne HO_8.out BK337.out (by decide)) e_) hs_)); have n3_ := am_ (hb); clear HO_6; clear HO_8; clear BK337; clear HB; have HO_6 := n0_; have HO_8 := n1_; have BK337 := n2_; have HB := n3_; clear n0_ n1_ n2_ n3_; (try clear hb); (try clear hkp); (try clear hy0)) | ((with_reducible refine gate_callee (f := 14) rfl ?_); refine goesL_ (some 47) rfl rfl Try.func14 (by kernel_rfl) rfl #[.slice Ao34 t353.length co34, .int .i64 1] rfl (by (try simp only [List.map_toArray, List.map_cons, List.map_nil]); first | done | (rw [show t353.length = t347.length from (Kd.R_reads' HO_8.out).1.symm] <;> rfl) | rfl | (simp only [List.length_drop, List.length_take]; rfl)) ?_; (with_reducible refine (laws_heldPointS.calls kj11 _ _ t353 1 t354 _ ?side1 ?side2 A32.out).mono ?_); (case side1 => repeat (first | exact (Kd.R_reads' HO_8.out).2.2 | (with_reducible refine Kd.C_alloc ?_ _) | (with_reducible refine Kd.C_drewN ?_ _) | (with_reducible refine Kd.C_drew ?_))); (case side2 => rw [show t353.length = t347.length from (Kd.R_reads' HO_8.out).1.symm]; exact (Kd.R_reads' HO_8.out).2.1); rintro e w' ⟨rfl, ⟨nd, rfl⟩⟩; refine ⟨_, rfl, ?_⟩))
      go_ret
      exact ⟨by first | rfl | (simp [errW_none, errW_some] <;> rfl) | (simp [*, errW_none, errW_some] <;> rfl), bx1 HB.out GE337.out⟩
     ·rw [if_neg c33] at H
      have c33b0 : decide (t354 < 0) = false := decide_eq_false c33
      clear c33
      by_cases c36 : t354 = t352
      ·rw [if_pos c36] at H
       have c36b0 : (t354 == t352) = true := beq_iff_eq.mpr c36
       have c36b1 : (t354 != t352) = false := bne_eq_false_iff_eq.mpr c36
       clear c36
       replace H := Option.bind_eq_some_iff.mp H
       obtain ⟨⟨t355, t356⟩, A370, H⟩ := H
       replace H : ((impl_PlacePoints.f kj11 t355 t356 a1).bind fun bt357 => ((laws_eqPointS.f kj11 bt357.1 t341).bind fun t361 => (if t361 = true then (laws_FnExactPlacePoints.j1 kj11 t353 t352 (bt357.2 != t344)) else (laws_FnExactPlacePoints.j1 kj11 t353 t352 true)))) = some r := H
       have A37 := am_ A370
       clear A370
       replace H := Option.bind_eq_some_iff.mp H
       obtain ⟨⟨t357, t360⟩, A380, H⟩ := H
       replace H : ((laws_eqPointS.f kj11 t357 t341).bind fun t361 => (if t361 = true then (laws_FnExactPlacePoints.j1 kj11 t353 t352 (t360 != t344)) else (laws_FnExactPlacePoints.j1 kj11 t353 t352 true))) = some r := H
       have A38 := am_ A380
       clear A380
       have HC39 := am_ H
       clear H
       obtain ⟨Ao40, co40, eo40⟩ := Kd.R_slice HO_8.out
       subst eo40
       go_upto_region 18 with (first | ((with_reducible refine gate_callee (f := 13) rfl ?_); refine goesL_ (some 44) rfl rfl Try.func13 (by kernel_rfl) rfl #[.slice Ao40 t347.length co40, .int .i64 1] rfl (by (try simp only [List.map_toArray, List.map_cons, List.map_nil]); first | done | rfl | (simp only [List.length_drop, List.length_take]; rfl)) ?_; (with_reducible refine (laws_markPointS.calls kj11 (fun k_ => some k_ = (.slice Ao40 t347.length co40 : Value).ownBlock) (.slice Ao40 t347.length co40) t347 1 t352 t353 w _ ?side1 ?side2 A31.out).mono ?_); (case side1 => repeat (first | (with_reducible first | exact HB.out | apply below_alloc | apply pw_below_drewN | apply below_drew1 | refine below_set ?_ GE337.out) | exact HB.out)); (case side2 => exact Kd.R_tight rfl HO_8.out); rintro e w41 ⟨rfl, hy0, hb, hkp⟩; refine ⟨_, rfl, ?_⟩; have n0_ := am_ (Kd.R_mono (ok' := fun k_ => some k_ ≠ (.slice Ao40 t347.length co40 : Value).ownBlock) (Kd.R_keptB (HO_6.out) hkp (fun k_ hk_ hs_ => (hk_) hs_)) (fun k_ hk_ => hk_.1)); have n1_ := am_ (Kd.R_reok rfl hy0 (fun k_ e_ => HO_8.out.1 k_ e_)); have n2_ := am_ (blk_kept (kx_ BK337.out) hkp (fun hs_ => (fun e_ => (Kd.R_ne HO_8.out BK337.out (by decide)) e_) hs_)); have n3_ := am_ (hb); clear HO_6; clear HO_8; clear BK337; clear HB; have HO_6 := n0_; have HO_8 := n1_; have BK337 := n2_; have HB := n3_; clear n0_ n1_ n2_ n3_; (try clear hb); (try clear hkp); (try clear hy0)) | ((with_reducible refine gate_callee (f := 14) rfl ?_); refine goesL_ (some 47) rfl rfl Try.func14 (by kernel_rfl) rfl #[.slice Ao40 t353.length co40, .int .i64 1] rfl (by (try simp only [List.map_toArray, List.map_cons, List.map_nil]); first | done | (rw [show t353.length = t347.length from (Kd.R_reads' HO_8.out).1.symm] <;> rfl) | rfl | (simp only [List.length_drop, List.length_take]; rfl)) ?_; (with_reducible refine (laws_heldPointS.calls kj11 _ _ t353 1 t354 _ ?side1 ?side2 A32.out).mono ?_); (case side1 => repeat (first | exact (Kd.R_reads' HO_8.out).2.2 | (with_reducible refine Kd.C_alloc ?_ _) | (with_reducible refine Kd.C_drewN ?_ _) | (with_reducible refine Kd.C_drew ?_))); (case side2 => rw [show t353.length = t347.length from (Kd.R_reads' HO_8.out).1.symm]; exact (Kd.R_reads' HO_8.out).2.1); rintro e w' ⟨rfl, ⟨nd, rfl⟩⟩; refine ⟨_, rfl, ?_⟩; have hcz42_0 : w41.cell? ⟨gb337, 0, none⟩ = some (.int .i64 a0_0) := (blk_cell BK337.out 0).trans rfl; have hcz42_1 : w41.cell? ⟨gb337, 1, none⟩ = some (.string a0_1) := (blk_cell BK337.out 1).trans rfl; have hfz42_0 := blk_frozen BK337.out 0; have hfz42_1 := blk_frozen BK337.out 1) | ((with_reducible refine gate_callee (f := 10) rfl ?_); refine goesL_ (some 55) rfl rfl Try.func10 (by kernel_rfl) rfl #[.agg #[.int .i64 a0_0, .string a0_1]] rfl (by (try simp only [List.map_toArray, List.map_cons, List.map_nil]); first | done | rfl | (simp only [List.length_drop, List.length_take]; rfl)) ?_; (with_reducible refine (laws_toSigns.calls a0_0 a0_1 t355 t356 _ A37.out).mono ?_); rintro e w43 ⟨rfl, hb⟩; refine ⟨_, rfl, ?_⟩; have n0_ := am_ (Kd.R_below (rx_ HO_6.out) hb); have n1_ := am_ (Kd.R_below (rx_ HO_8.out) hb); have n2_ := am_ (blk_below (g := gb337) (o := .cells #[.int .i64 a0_0, .string a0_1] 23 (0, 0)) (kx_ BK337.out) hb); have n3_ := am_ (below_step (bx1 HB.out GE337.out) hb); clear HO_6; clear HO_8; clear BK337; clear HB; have HO_6 := n0_; have HO_8 := n1_; have BK337 := n2_; have HB := n3_; clear n0_ n1_ n2_ n3_; (try clear hb); (try clear hb2); (try clear hk); (try clear hi)) | ((with_reducible refine gate_callee (f := 11) rfl ?_); refine goesL_ (some 57) rfl rfl Try.func11 (by kernel_rfl) rfl #[.agg #[.int .i64 t355, .string t356], .int .i64 a1] rfl (by (try simp only [List.map_toArray, List.map_cons, List.map_nil]); first | done | rfl | (simp only [List.length_drop, List.length_take]; rfl)) ?_; (with_reducible refine (impl_PlacePoints.calls kj11 t355 t356 a1 t357 t360 _ A38.out).mono ?_); rintro e w44 ⟨v358, rfl, ho0, hb⟩; refine ⟨_, rfl, ?_⟩; have n0_ := am_ (Kd.R_elder' (rx_ HO_6.out) (Kd.R_base ho0) hb); have n1_ := am_ (Kd.R_elder' (rx_ HO_8.out) (Kd.R_base ho0) hb); have n2_ := am_ (Kd.R_lower (Kd.R_new' (Kd.R_new' ho0 (Kd.R_lt (rx_ HO_6.out))) (Kd.R_lt (rx_ HO_8.out))) (below_size (bx1 HB.out GE337.out))); have n3_ := am_ (blk_below (g := gb337) (o := .cells #[.int .i64 a0_0, .string a0_1] 23 (0, 0)) (kx_ BK337.out) hb); have n4_ := am_ (below_step (bx1 HB.out GE337.out) hb); clear HO_6; clear HO_8; clear BK337; clear HB; have HO_6 := n0_; have HO_8 := n1_; have HO359 := n2_; have BK337 := n3_; have HB := n4_; clear n0_ n1_ n2_ n3_ n4_; (try clear hb); (try clear hb2); (try clear hk); (try clear hi); (try clear ho0)))
       (try simp only [Act.put, sA_, sZ_, sS_])
       go_cut [68] (fun v68 wc => ∃ (kq : Nat) (x68_38 : Bool), v68 = .bool x68_38 ∧ Aside0 (laws_FnExactPlacePoints.j1 kq t353 t352 x68_38 = some r) ∧ Aside0 (kq ≤ kj11) ∧ Aside0 (Kd.R k54 54 wc w.heap.size (fun _ => True) (.slice Ao40 t347.length co40) t353) ∧ Aside0 (wc.heap[gb337]? = some (.cells #[.int .i64 a0_0, .string a0_1] 23 (0, 0))) ∧ Aside0 (Below w.heap.size w wc))
       case first =>
        have H := HC39.out
        clear HC39
        replace H := Option.bind_eq_some_iff.mp H
        obtain ⟨t361, A450, H⟩ := H
        replace H : (if t361 = true then (laws_FnExactPlacePoints.j1 kj11 t353 t352 (t360 != t344)) else (laws_FnExactPlacePoints.j1 kj11 t353 t352 true)) = some r := H
        have A45 := am_ A450
        clear A450
        by_cases c46 : t361 = true
        ·subst c46
         have H1 : (laws_FnExactPlacePoints.j1 kj11 t353 t352 (t360 != t344)) = some r := by rw [if_pos rfl] at H; exact H
         clear H
         have H := H1
         clear H1
         have H' := am_ H
         clear H
         obtain ⟨Ao47, co47, eo47⟩ := Kd.R_slice HO359.out
         subst eo47
         obtain ⟨Ao48, co48, eo48⟩ := Kd.R_slice HO_6.out
         subst eo48
         go_wp2_with (first | ((with_reducible refine gate_callee (f := 12) rfl ?_); refine goesL_ (some 62) rfl rfl Try.func12 (by kernel_rfl) rfl #[.slice Ao47 t357.length co47, .slice Ao48 t341.length co48] rfl (by (try simp only [List.map_toArray, List.map_cons, List.map_nil]); first | done | rfl | (simp only [List.length_drop, List.length_take]; rfl)) ?_; (with_reducible refine (laws_eqPointS.calls kj11 _ _ t357 _ _ t341 true _ ?side1 ?side2 ?side3 ?side4 A45.out).mono ?_); (case side1 => repeat (first | exact (Kd.R_reads' HO359.out).2.2 | (with_reducible refine Kd.C_alloc ?_ _) | (with_reducible refine Kd.C_drewN ?_ _) | (with_reducible refine Kd.C_drew ?_))); (case side2 => exact (Kd.R_reads' HO359.out).2.1); (case side3 => repeat (first | exact (Kd.R_reads' HO_6.out).2.2 | (with_reducible refine Kd.C_alloc ?_ _) | (with_reducible refine Kd.C_drewN ?_ _) | (with_reducible refine Kd.C_drew ?_))); (case side4 => exact (Kd.R_reads' HO_6.out).2.1); rintro e w49 ⟨rfl, hb⟩; refine ⟨_, rfl, ?_⟩; have n0_ := am_ (Kd.R_below (rx_ HO_6.out) hb); have n1_ := am_ (Kd.R_below (rx_ HO_8.out) hb); have n2_ := am_ (Kd.R_below (rx_ HO359.out) hb); have n3_ := am_ (blk_below (g := gb337) (o := .cells #[.int .i64 a0_0, .string a0_1] 23 (0, 0)) (kx_ BK337.out) hb); have n4_ := am_ (below_step (bx1 HB.out GE337.out) hb); clear HO_6; clear HO_8; clear HO359; clear BK337; clear HB; have HO_6 := n0_; have HO_8 := n1_; have HO359 := n2_; have BK337 := n3_; have HB := n4_; clear n0_ n1_ n2_ n3_ n4_; (try clear hb); (try clear hb2); (try clear hk); (try clear hi)))
         go_meet
         case rel => exact ⟨_, ((t360 != t344)), (by first | rfl | (simp; done) | (simp [*]; done)), H', ⟨by have := HJ11.out; first | omega | exact Nat.le_refl _⟩, ⟨by (with_reducible repeat (first | apply Kd.R_alloc | apply Kd.R_drewN | apply Kd.R_drew)); exact Kd.R_mono HO_8.out (fun _ hk => trivial)⟩, ⟨kx_ BK337.out⟩, ⟨bx1 HB.out GE337.out⟩⟩
        ·replace c46 := Bool.eq_false_iff.mpr c46
         subst c46
         have H1 : (laws_FnExactPlacePoints.j1 kj11 t353 t352 true) = some r := by rw [if_neg (show ¬ (false = true) by decide)] at H; exact H
         clear H
         have H := H1
         clear H1
         have H' := am_ H
         clear H
         obtain ⟨Ao50, co50, eo50⟩ := Kd.R_slice HO359.out
         subst eo50
         obtain ⟨Ao51, co51, eo51⟩ := Kd.R_slice HO_6.out
         subst eo51
         go_wp2_with (first | ((with_reducible refine gate_callee (f := 12) rfl ?_); refine goesL_ (some 62) rfl rfl Try.func12 (by kernel_rfl) rfl #[.slice Ao50 t357.length co50, .slice Ao51 t341.length co51] rfl (by (try simp only [List.map_toArray, List.map_cons, List.map_nil]); first | done | rfl | (simp only [List.length_drop, List.length_take]; rfl)) ?_; (with_reducible refine (laws_eqPointS.calls kj11 _ _ t357 _ _ t341 false _ ?side1 ?side2 ?side3 ?side4 A45.out).mono ?_); (case side1 => repeat (first | exact (Kd.R_reads' HO359.out).2.2 | (with_reducible refine Kd.C_alloc ?_ _) | (with_reducible refine Kd.C_drewN ?_ _) | (with_reducible refine Kd.C_drew ?_))); (case side2 => exact (Kd.R_reads' HO359.out).2.1); (case side3 => repeat (first | exact (Kd.R_reads' HO_6.out).2.2 | (with_reducible refine Kd.C_alloc ?_ _) | (with_reducible refine Kd.C_drewN ?_ _) | (with_reducible refine Kd.C_drew ?_))); (case side4 => exact (Kd.R_reads' HO_6.out).2.1); rintro e w52 ⟨rfl, hb⟩; refine ⟨_, rfl, ?_⟩; have n0_ := am_ (Kd.R_below (rx_ HO_6.out) hb); have n1_ := am_ (Kd.R_below (rx_ HO_8.out) hb); have n2_ := am_ (Kd.R_below (rx_ HO359.out) hb); have n3_ := am_ (blk_below (g := gb337) (o := .cells #[.int .i64 a0_0, .string a0_1] 23 (0, 0)) (kx_ BK337.out) hb); have n4_ := am_ (below_step (bx1 HB.out GE337.out) hb); clear HO_6; clear HO_8; clear HO359; clear BK337; clear HB; have HO_6 := n0_; have HO_8 := n1_; have HO359 := n2_; have BK337 := n3_; have HB := n4_; clear n0_ n1_ n2_ n3_ n4_; (try clear hb); (try clear hb2); (try clear hk); (try clear hi)))
         go_meet
         case rel => exact ⟨_, (true), (by first | rfl | (simp; done) | (simp [*]; done)), H', ⟨by have := HJ11.out; first | omega | exact Nat.le_refl _⟩, ⟨by (with_reducible repeat (first | apply Kd.R_alloc | apply Kd.R_drewN | apply Kd.R_drew)); exact Kd.R_mono HO_8.out (fun _ hk => trivial)⟩, ⟨kx_ BK337.out⟩, ⟨bx1 HB.out GE337.out⟩⟩
       case rest =>
        clear HC39
        try clear c1
        try clear c2
        try clear p2
        try clear c3
        try clear c4
        try clear c4b0
        try clear c8
        try clear c9
        try clear c10
        try clear c11
        try clear c12
        try clear c13
        try clear c14
        try clear c23
        try clear c30
        try clear c33
        try clear c33b0
        try clear c36
        try clear c36b0
        try clear c36b1
        try clear c46
        try clear hcz14_0
        try clear hcz14_1
        try clear hcz16_0
        try clear hcz16_1
        try clear hcz19_0
        try clear hcz19_1
        try clear hcz42_0
        try clear hcz42_1
        try clear hcz6_0
        try clear hcz6_1
        try clear hfz14_0
        try clear hfz14_1
        try clear hfz16_0
        try clear hfz16_1
        try clear hfz19_0
        try clear hfz19_1
        try clear hfz42_0
        try clear hfz42_1
        try clear hfz6_0
        try clear hfz6_1
        try clear p2
        obtain ⟨kq, x68_38, rfl, HA, HJ38, HO_8, BK337, HB⟩ := hcut
        have hl8_38 := (Kd.R_reads' HO_8.out).1
        rw [hl8_38] at HO_8
        (try simp only [hl8_38])
        (try simp only [hl8_38] at BK337)
        cases kq with
        | zero => exact absurd HA.out (by simp [laws_FnExactPlacePoints.j1])
        | succ kj38 =>
         have H := HA.out
         clear HA
         simp only [laws_FnExactPlacePoints.j1] at H
         by_cases c53 : x68_38 = true
         ·subst c53
          have H1 : (some false) = some r := by rw [if_pos rfl] at H; exact H
          clear H
          have H := H1
          clear H1
          obtain rfl := Option.some.inj H
          go_wp2
          go_ret
          exact ⟨by first | rfl | (simp [errW_none, errW_some] <;> rfl) | (simp [*, errW_none, errW_some] <;> rfl), bx1 HB.out GE337.out⟩
         ·replace c53 := Bool.eq_false_iff.mpr c53
          subst c53
          have H1 : ((laws_heldPointS.f kj38 t353 1).bind fun t362 => (if t362 < 0 then (some false) else (if t362 = t352 then (some true) else (some false)))) = some r := by rw [if_neg (show ¬ (false = true) by decide)] at H; exact H
          clear H
          have H := H1
          clear H1
          replace H := Option.bind_eq_some_iff.mp H
          obtain ⟨t362, A540, H⟩ := H
          replace H : (if t362 < 0 then (some false) else (if t362 = t352 then (some true) else (some false))) = some r := H
          have A54 := am_ A540
          clear A540
          by_cases c55 : t362 < 0
          ·rw [if_pos c55] at H
           have c55b0 : decide (t362 < 0) = true := decide_eq_true c55
           clear c55
           obtain rfl := Option.some.inj H
           go_wp2_with (first | ((with_reducible refine gate_callee (f := 14) rfl ?_); refine goesL_ (some 71) rfl rfl Try.func14 (by kernel_rfl) rfl #[.slice Ao40 t353.length co40, .int .i64 1] rfl (by (try simp only [List.map_toArray, List.map_cons, List.map_nil]); first | done | rfl | (simp only [List.length_drop, List.length_take]; rfl)) ?_; (with_reducible refine (laws_heldPointS.calls kj38 _ _ t353 1 t362 _ ?side1 ?side2 A54.out).mono ?_); (case side1 => repeat (first | exact (Kd.R_reads' HO_8.out).2.2 | (with_reducible refine Kd.C_alloc ?_ _) | (with_reducible refine Kd.C_drewN ?_ _) | (with_reducible refine Kd.C_drew ?_))); (case side2 => exact (Kd.R_reads' HO_8.out).2.1); rintro e w' ⟨rfl, ⟨nd, rfl⟩⟩; refine ⟨_, rfl, ?_⟩))
           go_ret
           exact ⟨by first | rfl | (simp [errW_none, errW_some] <;> rfl) | (simp [*, errW_none, errW_some] <;> rfl), bx1 HB.out GE337.out⟩
          ·rw [if_neg c55] at H
           have c55b0 : decide (t362 < 0) = false := decide_eq_false c55
           clear c55
           by_cases c56 : t362 = t352
           ·rw [if_pos c56] at H
            have c56b0 : (t362 == t352) = true := beq_iff_eq.mpr c56
            have c56b1 : (t362 != t352) = false := bne_eq_false_iff_eq.mpr c56
            clear c56
            obtain rfl := Option.some.inj H
            go_wp2_with (first | ((with_reducible refine gate_callee (f := 14) rfl ?_); refine goesL_ (some 71) rfl rfl Try.func14 (by kernel_rfl) rfl #[.slice Ao40 t353.length co40, .int .i64 1] rfl (by (try simp only [List.map_toArray, List.map_cons, List.map_nil]); first | done | rfl | (simp only [List.length_drop, List.length_take]; rfl)) ?_; (with_reducible refine (laws_heldPointS.calls kj38 _ _ t353 1 t362 _ ?side1 ?side2 A54.out).mono ?_); (case side1 => repeat (first | exact (Kd.R_reads' HO_8.out).2.2 | (with_reducible refine Kd.C_alloc ?_ _) | (with_reducible refine Kd.C_drewN ?_ _) | (with_reducible refine Kd.C_drew ?_))); (case side2 => exact (Kd.R_reads' HO_8.out).2.1); rintro e w' ⟨rfl, ⟨nd, rfl⟩⟩; refine ⟨_, rfl, ?_⟩))
            go_ret
            exact ⟨by first | rfl | (simp [errW_none, errW_some] <;> rfl) | (simp [*, errW_none, errW_some] <;> rfl), bx1 HB.out GE337.out⟩
           ·rw [if_neg c56] at H
            have c56b0 : (t362 == t352) = false := beq_eq_false_iff_ne.mpr c56
            have c56b1 : (t362 != t352) = true := bne_iff_ne.mpr c56
            obtain rfl := Option.some.inj H
            go_wp2_with (first | ((with_reducible refine gate_callee (f := 14) rfl ?_); refine goesL_ (some 71) rfl rfl Try.func14 (by kernel_rfl) rfl #[.slice Ao40 t353.length co40, .int .i64 1] rfl (by (try simp only [List.map_toArray, List.map_cons, List.map_nil]); first | done | rfl | (simp only [List.length_drop, List.length_take]; rfl)) ?_; (with_reducible refine (laws_heldPointS.calls kj38 _ _ t353 1 t362 _ ?side1 ?side2 A54.out).mono ?_); (case side1 => repeat (first | exact (Kd.R_reads' HO_8.out).2.2 | (with_reducible refine Kd.C_alloc ?_ _) | (with_reducible refine Kd.C_drewN ?_ _) | (with_reducible refine Kd.C_drew ?_))); (case side2 => exact (Kd.R_reads' HO_8.out).2.1); rintro e w' ⟨rfl, ⟨nd, rfl⟩⟩; refine ⟨_, rfl, ?_⟩))
            go_ret
            exact ⟨by first | rfl | (simp [errW_none, errW_some] <;> rfl) | (simp [*, errW_none, errW_some] <;> rfl), bx1 HB.out GE337.out⟩
      ·rw [if_neg c36] at H
       have c36b0 : (t354 == t352) = false := beq_eq_false_iff_ne.mpr c36
       have c36b1 : (t354 != t352) = true := bne_iff_ne.mpr c36
       obtain rfl := Option.some.inj H
       obtain ⟨Ao57, co57, eo57⟩ := Kd.R_slice HO_8.out
       subst eo57
       go_wp2_with (first | ((with_reducible refine gate_callee (f := 13) rfl ?_); refine goesL_ (some 44) rfl rfl Try.func13 (by kernel_rfl) rfl #[.slice Ao57 t347.length co57, .int .i64 1] rfl (by (try simp only [List.map_toArray, List.map_cons, List.map_nil]); first | done | rfl | (simp only [List.length_drop, List.length_take]; rfl)) ?_; (with_reducible refine (laws_markPointS.calls kj11 (fun k_ => some k_ = (.slice Ao57 t347.length co57 : Value).ownBlock) (.slice Ao57 t347.length co57) t347 1 t352 t353 w _ ?side1 ?side2 A31.out).mono ?_); (case side1 => repeat (first | (with_reducible first | exact HB.out | apply below_alloc | apply pw_below_drewN | apply below_drew1 | refine below_set ?_ GE337.out) | exact HB.out)); (case side2 => exact Kd.R_tight rfl HO_8.out); rintro e w58 ⟨rfl, hy0, hb, hkp⟩; refine ⟨_, rfl, ?_⟩; have n0_ := am_ (Kd.R_mono (ok' := fun k_ => some k_ ≠ (.slice Ao57 t347.length co57 : Value).ownBlock) (Kd.R_keptB (HO_6.out) hkp (fun k_ hk_ hs_ => (hk_) hs_)) (fun k_ hk_ => hk_.1)); have n1_ := am_ (Kd.R_reok rfl hy0 (fun k_ e_ => HO_8.out.1 k_ e_)); have n2_ := am_ (blk_kept (kx_ BK337.out) hkp (fun hs_ => (fun e_ => (Kd.R_ne HO_8.out BK337.out (by decide)) e_) hs_)); have n3_ := am_ (hb); clear HO_6; clear HO_8; clear BK337; clear HB; have HO_6 := n0_; have HO_8 := n1_; have BK337 := n2_; have HB := n3_; clear n0_ n1_ n2_ n3_; (try clear hb); (try clear hkp); (try clear hy0)) | ((with_reducible refine gate_callee (f := 14) rfl ?_); refine goesL_ (some 47) rfl rfl Try.func14 (by kernel_rfl) rfl #[.slice Ao57 t353.length co57, .int .i64 1] rfl (by (try simp only [List.map_toArray, List.map_cons, List.map_nil]); first | done | (rw [show t353.length = t347.length from (Kd.R_reads' HO_8.out).1.symm] <;> rfl) | rfl | (simp only [List.length_drop, List.length_take]; rfl)) ?_; (with_reducible refine (laws_heldPointS.calls kj11 _ _ t353 1 t354 _ ?side1 ?side2 A32.out).mono ?_); (case side1 => repeat (first | exact (Kd.R_reads' HO_8.out).2.2 | (with_reducible refine Kd.C_alloc ?_ _) | (with_reducible refine Kd.C_drewN ?_ _) | (with_reducible refine Kd.C_drew ?_))); (case side2 => rw [show t353.length = t347.length from (Kd.R_reads' HO_8.out).1.symm]; exact (Kd.R_reads' HO_8.out).2.1); rintro e w' ⟨rfl, ⟨nd, rfl⟩⟩; refine ⟨_, rfl, ?_⟩))
       go_ret
       exact ⟨by first | rfl | (simp [errW_none, errW_some] <;> rfl) | (simp [*, errW_none, errW_some] <;> rfl), bx1 HB.out GE337.out⟩
end Go.Proofs.Ytdkpiahpmgcmdaa.P
namespace Go.Proofs.Ytdkpiahpmgcmdaa.Rk
open Go.RowKit Go.ChangeShapes Go.WideShapes Go.Deep Go.Proofs.YtdkpiahpmgcmdaaW.PrintWords
def I64 (n : Int) : Prop := -9223372036854775808 ≤ n ∧ n ≤ 9223372036854775807
theorem I64_of {n : Int} (h : (Lit.int .i64 n).wf = true) : I64 n := by
  have e1 : IntKind.i64.min = -9223372036854775808 := by decide
  have e2 : IntKind.i64.max = 9223372036854775807 := by decide
  simp [Lit.wf, e1, e2] at h
  unfold I64
  omega
section
variable {H : Type} {enc : TypeId × Value → H} {P : Program} {w : World} {base : Nat} {spare : Nat → Bool} {held : Bool} {α : Type}
def Elem (enc : TypeId × Value → H) (P : Program) (w : World) (base : Nat) (spare : Nat → Bool) (held : Bool) (e : TypeId) (d : Kd α) (Q : α → Prop) : Prop :=
  ∀ (fuel : Nat) (cs : List Value) (x : DataW H × List MemPlace), DataW.trod enc P w base spare held fuel e cs = some x → ∃ y, d.K w y cs ∧ Q y
end
end Go.Proofs.Ytdkpiahpmgcmdaa.Rk
namespace Go.Proofs.Ytdkpiahpmgcmdaa.P
open Go.RowKit Go.ChangeShapes Go.WideShapes Go.Deep Go.Proofs.Ytdkpiahpmgcmdaa.Rk Go.Proofs.YtdkpiahpmgcmdaaW.PrintWords
theorem cells_3 : Try.prog.cellsOf 3 = 1 := by kernel_rfl
theorem cells_9 : Try.prog.cellsOf 9 = 1 := by kernel_rfl
def Q54 (x : S54) : Prop := I64 x.f0 ∧ I64 x.f1
instance : Inhabited S54 := ⟨z54⟩
def Q58 (x : S58) : Prop := I64 x.f0 ∧ I64 x.f1
instance : Inhabited S58 := ⟨z58⟩
def Q28 (x : S28) : Prop := I64 x.f0 ∧ x.f1.size ≤ 9223372036854775807
instance : Inhabited S28 := ⟨z28⟩
def Q23 (x : S23) : Prop := I64 x.f0 ∧ x.f1.size ≤ 9223372036854775807
instance : Inhabited S23 := ⟨z23⟩
theorem cells_23 : Try.prog.cellsOf 23 = 2 := by kernel_rfl
set_option maxRecDepth 100000 in
theorem elem23 {H : Type} {enc : TypeId × Value → H} {w : World} {base : Nat} {spare : Nat → Bool} {held : Bool} : Elem enc Try.prog w base spare held 23 k23 Q23 := by
  intro fuel cs x h
  obtain ⟨xs, n, _, _, hlen, hxl, hf⟩ := DataW.trod_struct Try.underlying23 h
  rw [cells_23] at hlen
  match cs, hlen with
  | [c0, c1], _ =>
    have h0 : DataW.trod enc Try.prog w base spare held n 3 (List.take (Try.prog.cellsOf 3) (List.drop 0 [c0, c1])) = xs[0]? := hf 0 _ rfl
    rw [cells_3] at h0
    have y0 : xs[0]? = some (xs[0]'(by rw [hxl]; decide)) := List.getElem?_eq_getElem _
    rw [y0] at h0
    obtain ⟨n0, e0, _, w0⟩ := DataW.trod_int Try.underlying3 h0
    have e0' : c0 = .int .i64 n0 := by simpa using e0
    have h1 : DataW.trod enc Try.prog w base spare held n 9 (List.take (Try.prog.cellsOf 9) (List.drop 1 [c0, c1])) = xs[1]? := hf 1 _ rfl
    rw [cells_9] at h1
    have y1 : xs[1]? = some (xs[1]'(by rw [hxl]; decide)) := List.getElem?_eq_getElem _
    rw [y1] at h1
    obtain ⟨n1, e1, _, w1⟩ := DataW.trod_string Try.underlying9 h1
    unfold maxLen at w1
    have e1' : c1 = .string n1 := by simpa using e1
    subst e0' e1'
    exact ⟨⟨n0, n1⟩, k23_mk w ⟨n0, n1⟩, I64_of w0, w1⟩
end Go.Proofs.Ytdkpiahpmgcmdaa.P
namespace Go.Proofs.Ytdkpiahpmgcmdaa.Pl
set_option linter.unusedSimpArgs false
set_option linter.unusedVariables false
open Go.RowKit Go.Proofs.YtdkpiahpmgcmdaaW.PrintWords
theorem wrap_in {n : Int} (h0 : -9223372036854775808 ≤ n) (h1 : n ≤ 9223372036854775807) : wrap64 n = n := by
  unfold wrap64
  omega
theorem wrap_nat (i : Nat) (h : i < 9223372036854775807) : wrap64 ((i : Int) + 1) = ((i + 1 : Nat) : Int) := by
  unfold wrap64
  omega
theorem Ev.const {α : Type} {x : Option α} {r : α} (h : x = some r) : Ev (fun _ => x) r := ⟨0, fun _ _ => h⟩
theorem Ev.ite_pos {α : Type} {c : Prop} [Decidable c] {g f : Nat → Option α} {r : α} (h : c) (k : Ev g r) : Ev (fun n => if c then g n else f n) r := by
  simpa only [if_pos h] using k
theorem Ev.ite_neg {α : Type} {c : Prop} [Decidable c] {g f : Nat → Option α} {r : α} (h : ¬ c) (k : Ev f r) : Ev (fun n => if c then g n else f n) r := by
  simpa only [if_neg h] using k
theorem Ev.bind0 {α β : Type} {x : Option α} {f : Nat → α → Option β} {a : α} {r : β} (h : x = some a) (k : Ev (fun n => f n a) r) : Ev (fun n => x.bind (f n)) r := by
  subst h
  exact k
theorem Ev.loop {ρ : Type} (g : Nat → Nat → Option ρ) (n : Nat) (r : ρ) (hend : Ev (g n) r) (hstep : ∀ i, i < n → Ev (g (i + 1)) r → Ev (g i) r) : ∀ i, i ≤ n → Ev (g i) r := by
  have key : ∀ d i, i + d = n → Ev (g i) r := by
    intro d
    induction d with
    | zero => intro i hi; obtain rfl : i = n := by omega
              exact hend
    | succ d ih => intro i hi; exact hstep i (by omega) (ih (i + 1) (by omega))
  intro i hi
  exact key (n - i) i (by omega)
theorem Ev.loop_to {ρ : Type} (g : Nat → Nat → Option ρ) (n : Nat) (R : Nat → ρ) (hend : Ev (g n) (R n)) (hstep : ∀ i, i < n → Ev (g (i + 1)) (R (i + 1)) → Ev (g i) (R i)) : ∀ i, i ≤ n → Ev (g i) (R i) := by
  have key : ∀ d i, i + d = n → Ev (g i) (R i) := by
    intro d
    induction d with
    | zero => intro i hi; obtain rfl : i = n := by omega
              exact hend
    | succ d ih => intro i hi; exact hstep i (by omega) (ih (i + 1) (by omega))
  intro i hi
  exact key (n - i) i (by omega)
theorem getD_lt {α : Type} (l : List α) (d : α) (i : Nat) (h : i < l.length) : l.getD i d = l[i] := by
  rw [List.getD_eq_getElem?_getD, List.getElem?_eq_getElem h]
  rfl
end Go.Proofs.Ytdkpiahpmgcmdaa.Pl
namespace Go.Proofs.Ytdkpiahpmgcmdaa.Pure
set_option linter.unusedSimpArgs false
set_option linter.unusedVariables false
open Go.RowKit Go.Proofs.YtdkpiahpmgcmdaaW.PrintWords Go.Proofs.Ytdkpiahpmgcmdaa.P Go.Proofs.Ytdkpiahpmgcmdaa.Pl
abbrev LPt := S58
abbrev Pt := S54
abbrev rdP (l : List Pt) (i : Nat) : Pt := rd_T54 l (i : Int)
def toP (x : LPt) : Pt := ⟨x.f0, x.f1⟩
theorem rdP_lt (l : List Pt) (i : Nat) (h : i < l.length) : rdP l i = l[i] := by
  unfold rdP rd_T54
  rw [Int.toNat_natCast, getD_lt _ _ _ h]
theorem eqPointS_self (l : List Pt) (hl : l.length ≤ 1048576) : Ev (fun k => laws_eqPointS.f k l l) true := by
  unfold laws_eqPointS.f
  refine Ev.ite_pos rfl ?_
  refine Ev.loop (fun i k => laws_eqPointS.l0 k l l i) l.length true ?_ ?_ 0 (by omega)
  · refine Ev.step (fun k => laws_eqPointS.l0.eq_2 ..) ?_
    exact Ev.ite_neg (by omega) (Ev.now _)
  · intro i hi ih
    refine Ev.step (fun k => laws_eqPointS.l0.eq_2 ..) ?_
    refine Ev.ite_pos (by omega) (Ev.ite_pos (by omega) (Ev.ite_pos (by omega) ?_))
    refine Ev.bind0 (a := true) (by unfold laws_eqPoint.f; simp) ?_
    refine Ev.ite_pos rfl ?_
    rw [wrap_nat i (by omega)]
    exact ih
def markP (i : Nat) : Pt := ⟨((2 * i + 1 : Nat) : Int), ((2 * i + 2 : Nat) : Int)⟩
def marksP (n : Nat) : List Pt := (List.range n).map markP
theorem marksP_length (n : Nat) : (marksP n).length = n := by simp [marksP]
theorem rd_marksP (n i : Nat) (h : i < n) : rdP (marksP n) i = markP i := by
  rw [rdP_lt _ _ (by rw [marksP_length]; exact h)]
  simp [marksP]
theorem marksP_set (l : List Pt) (n i : Nat) (hl : l.length = n) (hi : i < n) : (marksP i ++ l.drop i).set i (markP i) = marksP (i + 1) ++ l.drop (i + 1) := by
  have h0 : (marksP i).length = i := marksP_length i
  rw [List.set_append_right _ _ (by omega), h0, Nat.sub_self, List.drop_eq_getElem_cons (by omega), List.set_cons_zero]
  simp [marksP, List.range_succ]
theorem markPointS_ev (l : List Pt) (hl : l.length ≤ 1048576) : Ev (fun k => laws_markPointS.f k l 1) (((2 * l.length + 1 : Nat) : Int), marksP l.length) := by
  have key := Ev.loop (fun i k => laws_markPointS.l0 k (marksP i ++ l.drop i) ((2 * i + 1 : Nat) : Int) i) l.length (((2 * l.length + 1 : Nat) : Int), marksP l.length) ?_ ?_ 0 (by omega)
  · unfold laws_markPointS.f
    simpa [marksP] using key
  · refine Ev.step (fun k => laws_markPointS.l0.eq_2 ..) ?_
    refine Ev.ite_neg (by simp [marksP_length]) (Ev.const ?_)
    simp
  · intro i hi ih
    have hlen : i < (marksP i ++ l.drop i).length := by simp [marksP_length]; omega
    have hset := marksP_set l l.length i rfl hi
    generalize marksP i ++ l.drop i = L at hlen hset ⊢
    refine Ev.step (fun k => laws_markPointS.l0.eq_2 ..) ?_
    refine Ev.ite_pos (by omega) (Ev.ite_pos (by omega) (Ev.bind0 rfl ?_))
    have e1 : wrap64 (((2 * i + 1 : Nat) : Int) + 1) = ((2 * i + 2 : Nat) : Int) := wrap_nat (2 * i + 1) (by omega)
    have e2 : wrap64 (((2 * i + 2 : Nat) : Int) + 1) = ((2 * (i + 1) + 1 : Nat) : Int) := wrap_nat (2 * i + 2) (by omega)
    rw [e1, e2, wrap_nat i (by omega), Int.toNat_natCast]
    have e3 : ∀ b, (rd_T54 (L.set i (⟨((2 * i + 1 : Nat) : Int), b⟩ : Pt)) (i : Int)).f0 = ((2 * i + 1 : Nat) : Int) := by
      intro b
      have := rdP_lt (L.set i (⟨((2 * i + 1 : Nat) : Int), b⟩ : Pt)) i (by rw [List.length_set]; exact hlen)
      rw [List.getElem_set_self] at this
      exact congrArg (fun p : Pt => p.f0) this
    rw [e3, List.set_set]
    rw [← hset] at ih
    exact ih
theorem heldPointS_ev (n : Nat) (hl : n ≤ 1048576) : Ev (fun k => laws_heldPointS.f k (marksP n) 1) ((2 * n + 1 : Nat) : Int) := by
  have key := Ev.loop (fun i k => laws_heldPointS.l0 k (marksP n) ((2 * i + 1 : Nat) : Int) i) n ((2 * n + 1 : Nat) : Int) ?_ ?_ 0 (by omega)
  · exact key
  · refine Ev.step (fun k => laws_heldPointS.l0.eq_2 ..) ?_
    exact Ev.ite_neg (by simp [marksP_length]) (Ev.now _)
  · intro i hi ih
    have e1 : wrap64 (((2 * i + 1 : Nat) : Int) + 1) = ((2 * i + 2 : Nat) : Int) := wrap_nat (2 * i + 1) (by omega)
    have e2 : wrap64 (((2 * i + 2 : Nat) : Int) + 1) = ((2 * (i + 1) + 1 : Nat) : Int) := wrap_nat (2 * i + 2) (by omega)
    have hr := rd_marksP n i hi
    refine Ev.step (fun k => laws_heldPointS.l0.eq_2 ..) ?_
    rw [e1, e2, wrap_nat i (by omega)]
    exact Ev.ite_pos (by simp [marksP_length]; omega) (Ev.ite_pos (by omega) (Ev.ite_pos (congrArg (fun p : Pt => p.f0) hr) (Ev.ite_pos (congrArg (fun p : Pt => p.f1) hr) ih)))
abbrev T3 := S77
def tri : Nat → List T3
  | 3 => [⟨0, 1, 2⟩]
  | 4 => [⟨0, 1, 2⟩, ⟨0, 1, 3⟩, ⟨0, 2, 3⟩, ⟨1, 2, 3⟩]
  | 5 => [⟨0, 1, 2⟩, ⟨0, 1, 3⟩, ⟨0, 1, 4⟩, ⟨0, 2, 3⟩, ⟨0, 2, 4⟩, ⟨0, 3, 4⟩, ⟨1, 2, 3⟩, ⟨1, 2, 4⟩, ⟨1, 3, 4⟩, ⟨2, 3, 4⟩]
  | 6 => [⟨0, 1, 2⟩, ⟨0, 1, 3⟩, ⟨0, 1, 4⟩, ⟨0, 1, 5⟩, ⟨0, 2, 3⟩, ⟨0, 2, 4⟩, ⟨0, 2, 5⟩, ⟨0, 3, 4⟩, ⟨0, 3, 5⟩, ⟨0, 4, 5⟩, ⟨1, 2, 3⟩, ⟨1, 2, 4⟩, ⟨1, 2, 5⟩, ⟨1, 3, 4⟩, ⟨1, 3, 5⟩, ⟨1, 4, 5⟩, ⟨2, 3, 4⟩, ⟨2, 3, 5⟩, ⟨2, 4, 5⟩, ⟨3, 4, 5⟩]
  | 7 => [⟨0, 1, 2⟩, ⟨0, 1, 3⟩, ⟨0, 1, 4⟩, ⟨0, 1, 5⟩, ⟨0, 1, 6⟩, ⟨0, 2, 3⟩, ⟨0, 2, 4⟩, ⟨0, 2, 5⟩, ⟨0, 2, 6⟩, ⟨0, 3, 4⟩, ⟨0, 3, 5⟩, ⟨0, 3, 6⟩, ⟨0, 4, 5⟩, ⟨0, 4, 6⟩, ⟨0, 5, 6⟩, ⟨1, 2, 3⟩, ⟨1, 2, 4⟩, ⟨1, 2, 5⟩, ⟨1, 2, 6⟩, ⟨1, 3, 4⟩, ⟨1, 3, 5⟩, ⟨1, 3, 6⟩, ⟨1, 4, 5⟩, ⟨1, 4, 6⟩, ⟨1, 5, 6⟩, ⟨2, 3, 4⟩, ⟨2, 3, 5⟩, ⟨2, 3, 6⟩, ⟨2, 4, 5⟩, ⟨2, 4, 6⟩, ⟨2, 5, 6⟩, ⟨3, 4, 5⟩, ⟨3, 4, 6⟩, ⟨3, 5, 6⟩, ⟨4, 5, 6⟩]
  | _ => []
theorem tri_some : ∀ n : Nat, n ≤ 7 → impl_triplesOf.f 500 n = some (tri n)
  | 0, _ => by kernel_rfl
  | 1, _ => by kernel_rfl
  | 2, _ => by kernel_rfl
  | 3, _ => by kernel_rfl
  | 4, _ => by kernel_rfl
  | 5, _ => by kernel_rfl
  | 6, _ => by kernel_rfl
  | 7, _ => by kernel_rfl
  | n + 8, h => absurd h (by omega)
theorem triplesOf_ev (n : Nat) (h : n ≤ 7) : Ev (fun k => impl_triplesOf.f k n) (tri n) := Ev.of (impl_triplesOf.mono _) (tri_some n h)
theorem tri_length (n : Nat) (h : n ≤ 7) : ((tri n).length : Int) = Int.tdiv ((n : Int) * (n - 1) * (n - 2)) 6 := by
  have : (List.range 8).all (fun n => ((tri n).length : Int) == Int.tdiv ((n : Int) * ((n : Int) - 1) * ((n : Int) - 2)) 6) = true := by decide +kernel
  rw [List.all_eq_true] at this
  simpa using this n (by simp; omega)
def okT (n : Nat) (t : T3) : Bool := decide (0 ≤ t.f0 ∧ t.f0 < t.f1 ∧ t.f1 < t.f2 ∧ t.f2 < n)
theorem tri_ok (n : Nat) (h : n ≤ 7) : (tri n).all (okT n) = true := by
  have : (List.range 8).all (fun n => (tri n).all (okT n)) = true := by decide +kernel
  rw [List.all_eq_true] at this
  exact this n (by simp; omega)
def put3 (l : List Int) (t : T3) (v : Int) : List Int := chiSet l t.f0 t.f1 t.f2 v
def fill (v : Nat → Int) : List T3 → Nat → List Int → List Int
  | [], _, l => l
  | t :: ts, m, l => fill v ts (m + 1) (put3 l t (v m))
theorem fill_length (v : Nat → Int) : ∀ ts m l, (fill v ts m l).length = l.length := by
  intro ts
  induction ts with
  | nil => intro m l; rfl
  | cons t ts ih => intro m l; rw [fill, ih]; exact chiSet_length ..
theorem fill_append (v : Nat → Int) : ∀ ts us m l, fill v (ts ++ us) m l = fill v us (m + ts.length) (fill v ts m l) := by
  intro ts
  induction ts with
  | nil => intro us m l; rfl
  | cons t ts ih => intro us m l; rw [List.cons_append, fill, ih, fill, List.length_cons]; congr 1; omega
def par (t : T3) (x y z : Int) : Option Bool :=
  if (x = t.f0 ∧ y = t.f1 ∧ z = t.f2) ∨ (x = t.f1 ∧ y = t.f2 ∧ z = t.f0) ∨ (x = t.f2 ∧ y = t.f0 ∧ z = t.f1) then some true
  else if (x = t.f0 ∧ y = t.f2 ∧ z = t.f1) ∨ (x = t.f2 ∧ y = t.f1 ∧ z = t.f0) ∨ (x = t.f1 ∧ y = t.f0 ∧ z = t.f2) then some false else none
theorem rd_set (l : List Int) (p q : Nat) (v : Int) (h : p < l.length) : rd (l.set p v) q = if p = q then v else rd l q := by
  unfold rd
  rw [Int.toNat_natCast, List.getD_eq_getElem?_getD, List.getD_eq_getElem?_getD, List.getElem?_set]
  by_cases e : p = q
  · subst e
    simp [h]
  · simp [e]
theorem chiA_nat (l : List Int) (x y z : Nat) : chiA l x y z = rd l ((1 + x * 49 + y * 7 + z : Nat) : Int) := by
  unfold chiA
  congr 1
  omega
theorem pos_iff (a b c x y z : Nat) (ha : a < 7) (hb : b < 7) (hc : c < 7) (hx : x < 7) (hy : y < 7) (hz : z < 7) : (1 + a * 49 + b * 7 + c = 1 + x * 49 + y * 7 + z) ↔ (x = a ∧ y = b ∧ z = c) := by
  constructor
  · intro h
    have h1 : c = z := by have := congrArg (· % 7) (show a * 49 + b * 7 + c + 1 = x * 49 + y * 7 + z + 1 by omega); omega
    have h2 : b = y := by subst h1; omega
    exact ⟨by omega, h2.symm, h1.symm⟩
  · rintro ⟨rfl, rfl, rfl⟩
    rfl
theorem chiA_set (l : List Int) (hl : l.length = 344) (a b c : Nat) (ha : a < 7) (hb : b < 7) (hc : c < 7) (ab : a ≠ b) (bc : b ≠ c) (ac : a ≠ c) (v : Int) (x y z : Nat) (hx : x < 7) (hy : y < 7) (hz : z < 7) :
    chiA (chiSet l a b c v) x y z = match par ⟨a, b, c⟩ x y z with | some true => v | some false => wrap64 (-v) | none => chiA l x y z := by
  rw [chiA_nat, chiA_nat]
  unfold chiSet setL par
  simp only [Int.toNat_natCast]
  rw [rd_set _ _ _ _ (by first | (simp only [List.length_set]; omega) | omega), rd_set _ _ _ _ (by first | (simp only [List.length_set]; omega) | omega), rd_set _ _ _ _ (by first | (simp only [List.length_set]; omega) | omega), rd_set _ _ _ _ (by first | (simp only [List.length_set]; omega) | omega), rd_set _ _ _ _ (by first | (simp only [List.length_set]; omega) | omega), rd_set _ _ _ _ (by first | (simp only [List.length_set]; omega) | omega)]
  simp only [pos_iff a b c x y z (by omega) (by omega) (by omega) hx hy hz, pos_iff b c a x y z (by omega) (by omega) (by omega) hx hy hz, pos_iff c a b x y z (by omega) (by omega) (by omega) hx hy hz, pos_iff a c b x y z (by omega) (by omega) (by omega) hx hy hz, pos_iff c b a x y z (by omega) (by omega) (by omega) hx hy hz, pos_iff b a c x y z (by omega) (by omega) (by omega) hx hy hz]
  simp only [Int.natCast_inj]
  clear hl
  generalize rd l ((1 + x * 49 + y * 7 + z : Nat) : Int) = o
  by_cases k0 : x = a ∧ y = b ∧ z = c
  · have := k0
    have n1 : ¬ (x = b ∧ y = c ∧ z = a) := by omega
    have n2 : ¬ (x = c ∧ y = a ∧ z = b) := by omega
    have n3 : ¬ (x = a ∧ y = c ∧ z = b) := by omega
    have n4 : ¬ (x = c ∧ y = b ∧ z = a) := by omega
    have n5 : ¬ (x = b ∧ y = a ∧ z = c) := by omega
    clear this
    simp only [(eq_true k0), (eq_false n1), (eq_false n2), (eq_false n3), (eq_false n4), (eq_false n5), if_true, if_false, or_true, true_or, or_false, false_or]
  by_cases k1 : x = b ∧ y = c ∧ z = a
  · have := k1
    have n2 : ¬ (x = c ∧ y = a ∧ z = b) := by omega
    have n3 : ¬ (x = a ∧ y = c ∧ z = b) := by omega
    have n4 : ¬ (x = c ∧ y = b ∧ z = a) := by omega
    have n5 : ¬ (x = b ∧ y = a ∧ z = c) := by omega
    clear this
    simp only [(eq_false k0), (eq_true k1), (eq_false n2), (eq_false n3), (eq_false n4), (eq_false n5), if_true, if_false, or_true, true_or, or_false, false_or]
  by_cases k2 : x = c ∧ y = a ∧ z = b
  · have := k2
    have n3 : ¬ (x = a ∧ y = c ∧ z = b) := by omega
    have n4 : ¬ (x = c ∧ y = b ∧ z = a) := by omega
    have n5 : ¬ (x = b ∧ y = a ∧ z = c) := by omega
    clear this
    simp only [(eq_false k0), (eq_false k1), (eq_true k2), (eq_false n3), (eq_false n4), (eq_false n5), if_true, if_false, or_true, true_or, or_false, false_or]
  by_cases k3 : x = a ∧ y = c ∧ z = b
  · have := k3
    have n4 : ¬ (x = c ∧ y = b ∧ z = a) := by omega
    have n5 : ¬ (x = b ∧ y = a ∧ z = c) := by omega
    clear this
    simp only [(eq_false k0), (eq_false k1), (eq_false k2), (eq_true k3), (eq_false n4), (eq_false n5), if_true, if_false, or_true, true_or, or_false, false_or]
  by_cases k4 : x = c ∧ y = b ∧ z = a
  · have := k4
    have n5 : ¬ (x = b ∧ y = a ∧ z = c) := by omega
    clear this
    simp only [(eq_false k0), (eq_false k1), (eq_false k2), (eq_false k3), (eq_true k4), (eq_false n5), if_true, if_false, or_true, true_or, or_false, false_or]
  by_cases k5 : x = b ∧ y = a ∧ z = c
  · have := k5
    clear this
    simp only [(eq_false k0), (eq_false k1), (eq_false k2), (eq_false k3), (eq_false k4), (eq_true k5), if_true, if_false, or_true, true_or, or_false, false_or]
  simp only [(eq_false k0), (eq_false k1), (eq_false k2), (eq_false k3), (eq_false k4), (eq_false k5), if_true, if_false, or_true, true_or, or_false, false_or]
theorem chiA_put3 (l : List Int) (hl : l.length = 344) (t : T3) (ht : okT 7 t = true) (v : Int) (x y z : Nat) (hx : x < 7) (hy : y < 7) (hz : z < 7) :
    chiA (put3 l t v) x y z = match par t x y z with | some true => v | some false => wrap64 (-v) | none => chiA l x y z := by
  obtain ⟨a, b, c⟩ := t
  unfold okT at ht
  rw [decide_eq_true_eq] at ht
  obtain ⟨h0, h1, h2, h3⟩ := ht
  dsimp only at h0 h1 h2 h3
  obtain ⟨a, rfl⟩ := Int.eq_ofNat_of_zero_le h0
  obtain ⟨b, rfl⟩ := Int.eq_ofNat_of_zero_le (show 0 ≤ b by omega)
  obtain ⟨c, rfl⟩ := Int.eq_ofNat_of_zero_le (show 0 ≤ c by omega)
  exact chiA_set l hl a b c (by omega) (by omega) (by omega) (by omega) (by omega) (by omega) v x y z hx hy hz
theorem chiN_put3 (l : List Int) (hl : l.length = 344) (t : T3) (v : Int) : chiN (put3 l t v) = chiN l := by
  have h : ∀ (l : List Int) (p : Nat) (u : Int), rd (l.set (1 + p) u) 0 = rd l 0 := by
    intro l p u
    unfold rd
    simp [List.getD_eq_getElem?_getD, List.getElem?_set, show ¬ (1 + p = 0) by omega]
  unfold put3 chiSet setL chiN
  simp only [Nat.add_assoc, h]
def src : List T3 → Nat → Int → Int → Int → Option (Nat × Bool)
  | [], _, _, _, _ => none
  | t :: ts, m, x, y, z => (src ts (m + 1) x y z).or ((par t x y z).map fun b => (m, b))
def sval (v : Nat → Int) (o : Int) : Option (Nat × Bool) → Int
  | some (m, true) => v m
  | some (m, false) => wrap64 (-v m)
  | none => o
theorem chiA_fill (v : Nat → Int) (x y z : Nat) (hx : x < 7) (hy : y < 7) (hz : z < 7) : ∀ (ts : List T3), ts.all (okT 7) = true → ∀ m l, l.length = 344 → chiA (fill v ts m l) x y z = sval v (chiA l x y z) (src ts m x y z) := by
  intro ts
  induction ts with
  | nil => intro _ m l _; rfl
  | cons t ts ih =>
    intro h m l hl
    rw [List.all_cons, Bool.and_eq_true] at h
    rw [fill, ih h.2 (m + 1) _ (by unfold put3; rw [chiSet_length]; exact hl), chiA_put3 l hl t h.1 (v m) x y z hx hy hz, src]
    cases hs : src ts (m + 1) x y z with
    | some p => obtain ⟨q, b⟩ := p; cases b <;> rfl
    | none =>
      cases hp : par t x y z with
      | none => rfl
      | some b => cases b <;> rfl
theorem chiN_fill (v : Nat → Int) : ∀ (ts : List T3) m l, l.length = 344 → chiN (fill v ts m l) = chiN l := by
  intro ts
  induction ts with
  | nil => intro m l _; rfl
  | cons t ts ih => intro m l hl; rw [fill, ih _ _ (by unfold put3; rw [chiSet_length]; exact hl), chiN_put3 l hl]
theorem okT_mono {n : Nat} (h : n ≤ 7) (t : T3) (ht : okT n t = true) : okT 7 t = true := by
  unfold okT at ht ⊢
  rw [decide_eq_true_eq] at ht ⊢
  omega
theorem tri_ok7 (n : Nat) (h : n ≤ 7) : (tri n).all (okT 7) = true := by
  have := tri_ok n h
  rw [List.all_eq_true] at this ⊢
  exact fun t ht => okT_mono h t (this t ht)
theorem chiA_new (n : Int) (x y z : Nat) (hx : x < 7) (hy : y < 7) (hz : z < 7) : chiA (chiNew n) x y z = 0 := by
  rw [chiA_nat, show 1 + x * 49 + y * 7 + z = (x * 49 + y * 7 + z) + 1 by omega]
  unfold rd chiNew
  rw [Int.toNat_natCast, List.getD_cons_succ, List.getD_eq_getElem?_getD, List.getElem?_replicate]
  rw [if_pos (by omega)]
  rfl
def sgn (x : Int) : Int := if x < 0 then -1 else if x > 0 then 1 else 0
theorem signOf_eq (x : Int) : impl_signOf.f x = some (sgn x) := by
  unfold impl_signOf.f cmp_Compare_int.f cmp_isNaN_int.f sgn
  simp only [bne_self_eq_false, Option.bind_some, Bool.false_eq_true, if_false]
  by_cases h : x < 0
  · simp [h]
  · by_cases h2 : x > 0
    · simp [h, h2]
    · simp [h, h2]
theorem l2Sign_eq (x : Int) : spec_l2Sign.f x = some (sgn x) := by
  unfold spec_l2Sign.f spec_l1Bit.f sgn
  by_cases h : x < 0
  · have h2 : ¬ x > 0 := by omega
    simp [h, h2, wrap64]
  · by_cases h2 : x > 0
    · simp [h, h2, wrap64]
    · simp [h, h2, wrap64]
def nearB (b : Int) (p : Pt) : Bool := decide (-b ≤ p.f0 ∧ p.f0 ≤ b) && decide (-b ≤ p.f1 ∧ p.f1 ≤ b)
def areaP (a b c : Pt) : Int := wrap64 ((wrap64 ((wrap64 (b.f0 - a.f0)) * (wrap64 (c.f1 - a.f1)))) - (wrap64 ((wrap64 (b.f1 - a.f1)) * (wrap64 (c.f0 - a.f0)))))
theorem range_dropP (n i : Nat) (h : i < n) : (List.range n).drop i = i :: (List.range n).drop (i + 1) := by
  rw [List.drop_eq_getElem_cons (by simpa using h)]
  simp
theorem isFar_p (x b : Int) (hb : 0 ≤ b ∧ b ≤ 1000000) : impl_isFar.f x b = some (!decide (-b ≤ x ∧ x ≤ b)) := by
  unfold impl_isFar.f
  rw [wrap_in (by omega) (by omega)]
  by_cases h : x < -b
  · rw [if_pos h]
    simp [show ¬ -b ≤ x by omega]
  · rw [if_neg h]
    by_cases h2 : x ≤ b
    · simp [h2, show -b ≤ x by omega, show ¬ x > b by omega]
    · simp [h2, show x > b by omega]
theorem near1_eq (p : Pt) (b : Int) (hb : 0 ≤ b ∧ b ≤ 1000000) : impl_areNear_1.f p.f0 p.f1 b = some (!nearB b p) := by
  unfold impl_areNear_1.f nearB
  rw [isFar_p _ _ hb, isFar_p _ _ hb]
  by_cases h : -b ≤ p.f0 ∧ p.f0 ≤ b
  · simp [h]
  · simp [h]
def nearAll (b : Int) (l : List Pt) : Bool := (List.range l.length).all fun i => nearB b (rdP l i)
theorem areNear_ev (b : Int) (hb : 0 ≤ b ∧ b ≤ 1000000) (l : List Pt) (hl : l.length ≤ 1048576) : Ev (fun k => impl_areNear.f k b l) (nearAll b l) := by
  have key : ∀ d i, i + d = l.length → ∃ r, Ev (fun k => slices_IndexFunc_Simpl_Point_impl_Point_impl_areNear_1.l0 k l l.length i b) r ∧ decide (r ≥ 0) = !((List.range l.length).drop i).all fun j => nearB b (rdP l j) := by
    intro d
    induction d with
    | zero =>
      intro i hi
      refine ⟨-1, Ev.step (fun k => slices_IndexFunc_Simpl_Point_impl_Point_impl_areNear_1.l0.eq_2 ..) (Ev.ite_neg (by omega) (Ev.now _)), ?_⟩
      rw [List.drop_of_length_le (by simp; omega)]
      rfl
    | succ d ih =>
      intro i hi
      obtain ⟨r, hr, he⟩ := ih (i + 1) (by omega)
      rw [range_dropP _ i (by omega), List.all_cons]
      cases hn : nearB b (rdP l i) with
      | false =>
        refine ⟨i, Ev.step (fun k => slices_IndexFunc_Simpl_Point_impl_Point_impl_areNear_1.l0.eq_2 ..) (Ev.ite_pos (by omega) (Ev.ite_pos (by omega) (Ev.ite_pos (by omega) (Ev.bind0 (near1_eq _ _ hb) (Ev.ite_pos (by rw [hn]; rfl) (Ev.now _)))))), ?_⟩
        simp
      | true =>
        refine ⟨r, Ev.step (fun k => slices_IndexFunc_Simpl_Point_impl_Point_impl_areNear_1.l0.eq_2 ..) (Ev.ite_pos (by omega) (Ev.ite_pos (by omega) (Ev.ite_pos (by omega) (Ev.bind0 (near1_eq _ _ hb) (Ev.ite_neg (by rw [hn]; decide) ?_))))), ?_⟩
        · rw [wrap_nat i (by omega)]
          exact hr
        · rw [he, Bool.true_and]
  obtain ⟨r, hr, he⟩ := key l.length 0 (by omega)
  unfold impl_areNear.f slices_ContainsFunc_Simpl_Point_impl_Point_impl_areNear_1.f slices_IndexFunc_Simpl_Point_impl_Point_impl_areNear_1.f
  refine Ev.bind (Ev.bind hr (Ev.now _)) (Ev.const ?_)
  rw [he, List.drop_zero, Bool.not_not]
  rfl
theorem TurnOf_ev (a b c : Pt) (ha : nearB 50 a = true) (hb : nearB 50 b = true) (hc : nearB 50 c = true) : Ev (fun k => impl_TurnOf.f k a.f0 a.f1 b.f0 b.f1 c.f0 c.f1) (sgn (areaP a b c)) := by
  unfold impl_TurnOf.f
  have h := areNear_ev 1000 (by omega) [a, b, c] (by simp)
  have e : nearAll 1000 [a, b, c] = true := by
    unfold nearB at ha hb hc
    simp only [Bool.and_eq_true, decide_eq_true_eq] at ha hb hc
    simp only [nearAll, List.length_cons, List.length_nil, List.range_succ, List.range_zero, List.nil_append, List.cons_append, List.all_cons, List.all_nil, Bool.and_true, Bool.and_eq_true]
    refine ⟨?_, ?_, ?_⟩
    · show nearB 1000 a = true
      unfold nearB
      simp only [Bool.and_eq_true, decide_eq_true_eq]
      omega
    · show nearB 1000 b = true
      unfold nearB
      simp only [Bool.and_eq_true, decide_eq_true_eq]
      omega
    · show nearB 1000 c = true
      unfold nearB
      simp only [Bool.and_eq_true, decide_eq_true_eq]
      omega
  rw [e] at h
  exact Ev.bind h (Ev.ite_pos rfl (Ev.bind0 rfl (Ev.bind0 (signOf_eq _) (Ev.now _))))
def bentT (l : List Pt) (t : T3) : Bool := areaP (rd_T54 l t.f0) (rd_T54 l t.f1) (rd_T54 l t.f2) != 0
def bent (l : List Pt) (k j i : Nat) : Bool := areaP (rdP l k) (rdP l j) (rdP l i) != 0
def areP (l : List Pt) : Bool := decide (3 ≤ l.length ∧ l.length ≤ 7) && (nearAll 50 l && (tri l.length).all (bentT l))
theorem nearAll_at {b : Int} {l : List Pt} (h : nearAll b l = true) (i : Nat) (hi : i < l.length) : nearB b (rdP l i) = true := by
  unfold nearAll at h
  rw [List.all_eq_true] at h
  exact h i (by simpa using hi)
def okPt (l : List Pt) (i : Nat) : Bool := nearB 50 (rdP l i) && (List.range i).all fun j => (List.range j).all fun k => bent l k j i
theorem all_in : (List.range 8).all (fun n => (List.range n).all fun i => (List.range i).all fun j => (List.range j).all fun k => (tri n).any fun t => t.f0 == (k : Int) && t.f1 == (j : Int) && t.f2 == (i : Int)) = true := by decide +kernel
theorem tri_in (n i j k : Nat) (hn : n ≤ 7) (hi : i < n) (hj : j < i) (hk : k < j) : ∃ t ∈ tri n, t = (⟨k, j, i⟩ : T3) := by
  have h := all_in
  rw [List.all_eq_true] at h
  have h := h n (by simp; omega)
  rw [List.all_eq_true] at h
  have h := h i (by simpa using hi)
  rw [List.all_eq_true] at h
  have h := h j (by simpa using hj)
  rw [List.all_eq_true] at h
  have h := h k (by simpa using hk)
  obtain ⟨t, ht, he⟩ := List.any_eq_true.mp h
  refine ⟨t, ht, ?_⟩
  simp only [Bool.and_eq_true, beq_iff_eq] at he
  obtain ⟨a, b, c⟩ := t
  obtain ⟨⟨rfl, rfl⟩, rfl⟩ := he
  rfl
theorem areP_len {l : List Pt} (h : areP l = true) : 3 ≤ l.length ∧ l.length ≤ 7 := by
  unfold areP at h
  rw [Bool.and_eq_true, decide_eq_true_eq] at h
  exact h.1
def isPM (s : ByteArray) (m : Nat) : Bool := bt s (m : Int) == 43 || bt s (m : Int) == 45
def isS (n : Int) (s : ByteArray) : Bool := decide (3 ≤ n ∧ n ≤ 7 ∧ (s.size : Int) = Int.tdiv (n * (n - 1) * (n - 2)) 6) && (List.range s.size).all (isPM s)
theorem count3 {n : Int} (h3 : 3 ≤ n) (h7 : n ≤ 7) : wrap64 (wrap64 (n * wrap64 (n - 1)) * wrap64 (n - 2)) = n * (n - 1) * (n - 2) ∧ wrap64 (Int.tdiv (n * (n - 1) * (n - 2)) 6) = Int.tdiv (n * (n - 1) * (n - 2)) 6 ∧ 0 ≤ Int.tdiv (n * (n - 1) * (n - 2)) 6 ∧ Int.tdiv (n * (n - 1) * (n - 2)) 6 ≤ 35 := by
  have : n = 3 ∨ n = 4 ∨ n = 5 ∨ n = 6 ∨ n = 7 := by omega
  obtain rfl | rfl | rfl | rfl | rfl := this <;> (unfold wrap64; decide)
theorem range_drop' (n i : Nat) (h : i < n) : (List.range n).drop i = i :: (List.range n).drop (i + 1) := by
  rw [List.drop_eq_getElem_cons (by simpa using h)]
  simp
theorem l1In_is (x a b : Int) : spec_l1In.f x a b = some (decide (a ≤ x ∧ x ≤ b)) := by
  unfold spec_l1In.f
  by_cases h : x ≥ a
  · rw [if_pos h]
    simp [h]
  · rw [if_neg h]
    simp [show ¬ a ≤ x by omega]
theorem spec_AreSigns_ev (n : Int) (s : ByteArray) : Ev (fun k => spec_AreSigns.f k n s) (isS n s) := by
  unfold spec_AreSigns.f isS
  have no : ∀ x, Ev (fun k => spec_AreSigns.j0 k true n x) false := fun x => Ev.step (fun k => spec_AreSigns.j0.eq_2 ..) (Ev.ite_pos rfl (Ev.now _))
  by_cases h : 3 ≤ n ∧ n ≤ 7
  · obtain ⟨e1, e2, e3, e4⟩ := count3 h.1 h.2
    refine Ev.bind0 (l1In_is ..) (Ev.ite_pos (decide_eq_true h) ?_)
    rw [e1, e2]
    by_cases hc : (s.size : Int) = Int.tdiv (n * (n - 1) * (n - 2)) 6
    · rw [show decide (3 ≤ n ∧ n ≤ 7 ∧ (s.size : Int) = Int.tdiv (n * (n - 1) * (n - 2)) 6) = true from decide_eq_true ⟨h.1, h.2, hc⟩, Bool.true_and]
      refine Ev.step (fun k => spec_AreSigns.j0.eq_2 ..) (Ev.ite_neg (by simp [hc]) ?_)
      have key := Ev.loop_to (fun i k => spec_AreSigns.l0 k i n s) s.size (fun i => ((List.range s.size).drop i).all (isPM s)) ?_ ?_ 0 (by omega)
      · simpa using key
      · refine Ev.step (fun k => spec_AreSigns.l0.eq_2 ..) (Ev.ite_neg (by omega) (Ev.const ?_))
        rw [List.drop_of_length_le (by simp)]
        rfl
      · intro i hi ih
        rw [range_drop' _ _ hi, List.all_cons]
        refine Ev.step (fun k => spec_AreSigns.l0.eq_2 ..) (Ev.ite_pos (by omega) (Ev.ite_pos (by omega) ?_))
        rw [wrap_nat i (by omega)]
        rw [show isPM s i = (bt s (i : Int) == 43 || bt s (i : Int) == 45) from rfl]
        by_cases h43 : bt s (i : Int) = 43
        · refine Ev.ite_pos h43 ?_
          simpa [h43] using ih
        · refine Ev.ite_neg h43 ?_
          by_cases h45 : bt s (i : Int) = 45
          · refine Ev.ite_pos h45 ?_
            simpa [h45] using ih
          · refine Ev.ite_neg h45 (Ev.const ?_)
            simp [h43, h45]
    · rw [show decide (3 ≤ n ∧ n ≤ 7 ∧ (s.size : Int) = Int.tdiv (n * (n - 1) * (n - 2)) 6) = false from decide_eq_false (fun q => hc q.2.2), Bool.false_and]
      rw [show ((s.size : Int) != Int.tdiv (n * (n - 1) * (n - 2)) 6) = true by simpa using hc]
      exact no s
  · rw [show decide (3 ≤ n ∧ n ≤ 7 ∧ (s.size : Int) = Int.tdiv (n * (n - 1) * (n - 2)) 6) = false from decide_eq_false (fun q => h ⟨q.1, q.2.1⟩), Bool.false_and]
    exact Ev.bind0 (l1In_is ..) (Ev.ite_neg (by simpa using h) (no s))
theorem impl_AreSigns_ev (n : Int) (s : ByteArray) : Ev (fun k => impl_AreSigns.f k n s) (isS n s) := by
  unfold impl_AreSigns.f isS
  have no : ∀ x, Ev (fun k => impl_AreSigns.j0 k true n x) false := fun x => Ev.step (fun k => impl_AreSigns.j0.eq_2 ..) (Ev.ite_pos rfl (Ev.now _))
  by_cases h3 : n < 3
  · rw [show decide (3 ≤ n ∧ n ≤ 7 ∧ (s.size : Int) = Int.tdiv (n * (n - 1) * (n - 2)) 6) = false from decide_eq_false (fun q => by omega), Bool.false_and]
    exact Ev.ite_pos h3 (no s)
  · refine Ev.ite_neg h3 ?_
    by_cases h7 : n > 7
    · rw [show decide (3 ≤ n ∧ n ≤ 7 ∧ (s.size : Int) = Int.tdiv (n * (n - 1) * (n - 2)) 6) = false from decide_eq_false (fun q => by omega), Bool.false_and]
      exact Ev.ite_pos h7 (no s)
    · refine Ev.ite_neg h7 ?_
      obtain ⟨e1, e2, e3, e4⟩ := count3 (n := n) (by omega) (by omega)
      rw [e1, e2]
      by_cases hc : (s.size : Int) = Int.tdiv (n * (n - 1) * (n - 2)) 6
      · rw [show decide (3 ≤ n ∧ n ≤ 7 ∧ (s.size : Int) = Int.tdiv (n * (n - 1) * (n - 2)) 6) = true from decide_eq_true ⟨by omega, by omega, hc⟩, Bool.true_and]
        refine Ev.step (fun k => impl_AreSigns.j0.eq_2 ..) (Ev.ite_neg (by simp [hc]) ?_)
        have key := Ev.loop_to (fun i k => impl_AreSigns.l0 k i n s) s.size (fun i => ((List.range s.size).drop i).all (isPM s)) ?_ ?_ 0 (by omega)
        · simpa using key
        · refine Ev.step (fun k => impl_AreSigns.l0.eq_2 ..) (Ev.ite_neg (by omega) (Ev.const ?_))
          rw [List.drop_of_length_le (by simp)]
          rfl
        · intro i hi ih
          rw [range_drop' _ _ hi, List.all_cons]
          refine Ev.step (fun k => impl_AreSigns.l0.eq_2 ..) (Ev.ite_pos (by omega) (Ev.ite_pos (by omega) ?_))
          rw [wrap_nat i (by omega)]
          rw [show isPM s i = (bt s (i : Int) == 43 || bt s (i : Int) == 45) from rfl]
          by_cases h43 : bt s (i : Int) = 43
          · refine Ev.ite_pos h43 ?_
            simpa [h43] using ih
          · refine Ev.ite_neg h43 ?_
            by_cases h45 : bt s (i : Int) = 45
            · refine Ev.ite_pos h45 ?_
              simpa [h45] using ih
            · refine Ev.ite_neg h45 (Ev.const ?_)
              simp [h43, h45]
      · rw [show decide (3 ≤ n ∧ n ≤ 7 ∧ (s.size : Int) = Int.tdiv (n * (n - 1) * (n - 2)) 6) = false from decide_eq_false (fun q => hc q.2.2), Bool.false_and]
        rw [show ((s.size : Int) != Int.tdiv (n * (n - 1) * (n - 2)) 6) = true by simpa using hc]
        exact no s
theorem isS_bounds {n : Int} {s : ByteArray} (h : isS n s = true) : 3 ≤ n ∧ n ≤ 7 ∧ s.size = (tri n.toNat).length ∧ s.size ≤ 35 := by
  unfold isS at h
  rw [Bool.and_eq_true, decide_eq_true_eq] at h
  obtain ⟨⟨h3, h7, hc⟩, _⟩ := h
  have hb := (count3 h3 h7).2.2.2
  obtain ⟨m, rfl⟩ := Int.eq_ofNat_of_zero_le (show 0 ≤ n by omega)
  have ht := tri_length m (by omega)
  rw [Int.toNat_natCast]
  exact ⟨h3, h7, by omega, by omega⟩
def sgAt (s : ByteArray) (m : Nat) : Int := if bt s (m : Int) = 45 then -1 else 1
def tab (n : Nat) (s : ByteArray) : List Int := fill (sgAt s) (tri n) 0 (chiNew n)
def sg (n : Nat) (s : ByteArray) (x y z : Int) : Int := sval (sgAt s) 0 (src (tri n) 0 x y z)
theorem tab_length (n : Nat) (s : ByteArray) : (tab n s).length = 344 := by
  unfold tab
  rw [fill_length, chiNew_length]
theorem tab_n (n : Nat) (s : ByteArray) : chiN (tab n s) = n := by
  unfold tab
  rw [chiN_fill _ _ _ _ (chiNew_length _)]
  rfl
theorem tab_at (n : Nat) (hn : n ≤ 7) (s : ByteArray) (x y z : Nat) (hx : x < 7) (hy : y < 7) (hz : z < 7) : chiA (tab n s) x y z = sg n s x y z := by
  unfold tab sg
  rw [chiA_fill _ x y z hx hy hz _ (tri_ok7 n hn) 0 _ (chiNew_length _), chiA_new _ x y z hx hy hz]
theorem tri_at (n : Nat) (hn : n ≤ 7) (i : Nat) (hi : i < (tri n).length) : okT 7 (tri n)[i] = true := by
  have := tri_ok7 n hn
  rw [List.all_eq_true] at this
  exact this _ (List.getElem_mem hi)
theorem rdT_lt (l : List T3) (i : Nat) (h : i < l.length) : rd_T77 l (i : Int) = l[i] := by
  unfold rd_T77
  rw [Int.toNat_natCast, getD_lt _ _ _ h]
theorem tableOf_ev (n : Nat) (hn : n ≤ 7) (s : ByteArray) (hs : s.size = (tri n).length) : Ev (fun k => impl_tableOf.f k n s) (tab n s) := by
  unfold impl_tableOf.f
  refine Ev.bind (triplesOf_ev n hn) ?_
  have h35 : (tri n).length ≤ 1000 := by
    have : (List.range 8).all (fun n => decide ((tri n).length ≤ 1000)) = true := by decide +kernel
    rw [List.all_eq_true] at this
    simpa using this n (by simp; omega)
  have key := Ev.loop (fun i k => impl_tableOf.l0 k (fill (sgAt s) ((tri n).take i) 0 (chiNew n)) (tri n) (tri n).length i n s) (tri n).length (tab n s) ?_ ?_ 0 (by omega)
  · simpa [fill] using key
  · refine Ev.step (fun k => impl_tableOf.l0.eq_2 ..) (Ev.ite_neg (by omega) (Ev.const ?_))
    rw [List.take_length]
    rfl
  · intro i hi ih
    refine Ev.step (fun k => impl_tableOf.l0.eq_2 ..) (Ev.ite_pos (by omega) (Ev.ite_pos (by omega) (Ev.ite_pos (by omega) (Ev.ite_pos (by omega) ?_))))
    have ht := tri_at n hn i hi
    rw [wrap_nat i (by omega), rdT_lt _ i hi]
    rw [List.take_succ_eq_append_getElem hi, fill_append, Nat.zero_add, List.length_take, Nat.min_eq_left (by omega)] at ih
    have hl : (fill (sgAt s) ((tri n).take i) 0 (chiNew n)).length = 344 := by rw [fill_length, chiNew_length]
    generalize fill (sgAt s) ((tri n).take i) 0 (chiNew n) = l at ih hl ⊢
    generalize (tri n)[i] = t at ih ht ⊢
    unfold okT at ht
    rw [decide_eq_true_eq] at ht
    have hset : ∀ v, impl_chi_set.f l t.f0 t.f1 t.f2 v = some (put3 l t v) := by
      intro v
      unfold impl_chi_set.f
      rw [if_pos ⟨hl, by omega, by omega, by omega⟩]
      rfl
    rw [fill, fill] at ih
    unfold sgAt at ih
    by_cases h45 : bt s (i : Int) = 45
    · rw [if_pos h45] at ih
      exact Ev.ite_pos h45 (Ev.bind0 (hset _) ih)
    · rw [if_neg h45] at ih
      exact Ev.ite_neg h45 (Ev.bind0 (hset _) ih)
def srt2 (n x y z p : Int) : Option (Int × Int) := if x > y then (spec_l3Index.f 60 n y x z).map fun m => (m, -p) else (spec_l3Index.f 60 n x y z).map fun m => (m, p)
def srt1 (n x y z p : Int) : Option (Int × Int) := if y > z then srt2 n x z y (-p) else srt2 n x y z p
def srt (n x y z : Int) : Option (Int × Int) := if x > y then srt1 n y x z (-1) else srt1 n x y z 1
def okSrt (n : Nat) (x y z : Nat) : Bool :=
  match srt n x y z, src (tri n) 0 x y z with
  | some (m, p), some (q, b) => m == (q : Int) && decide (q < (tri n).length) && (p == if b then 1 else -1)
  | _, _ => false
theorem all_srt : (List.range 8).all (fun n => (List.range n).all fun x => (List.range n).all fun y => (List.range n).all fun z => x == y || y == z || x == z || okSrt n x y z) = true := by decide +kernel
theorem srt_ok (n x y z : Nat) (hn : n ≤ 7) (hx : x < n) (hy : y < n) (hz : z < n) (h1 : x ≠ y) (h2 : y ≠ z) (h3 : x ≠ z) : okSrt n x y z = true := by
  have h := all_srt
  rw [List.all_eq_true] at h
  have h := h n (by simp; omega)
  rw [List.all_eq_true] at h
  have h := h x (by simpa using hx)
  rw [List.all_eq_true] at h
  have h := h y (by simpa using hy)
  rw [List.all_eq_true] at h
  have h := h z (by simpa using hz)
  simpa [h1, h2, h3] using h
theorem l3Index_ev {n x y z m : Int} (h : spec_l3Index.f 60 n x y z = some m) : Ev (fun k => spec_l3Index.f k n x y z) m := Ev.of (spec_l3Index.mono _ _ _ _) h
def look (s : ByteArray) (m p : Int) : Int := if bt s m = 45 then wrap64 (-p) else p
theorem j1_ev (n x y z p m q : Int) (s : ByteArray) (hp : p = 1 ∨ p = -1) (h : srt2 n x y z p = some (m, q)) (hm : 0 ≤ m) (hs : m < (s.size : Int)) : Ev (fun k => spec_l3At.j1 k x y z p n s) (look s m q) := by
  refine Ev.step (fun k => spec_l3At.j1.eq_2 ..) ?_
  have hw : wrap64 (-p) = -p := wrap_in (by omega) (by omega)
  unfold srt2 at h
  unfold look
  by_cases hxy : x > y
  · rw [if_pos hxy] at h
    obtain ⟨m', h1, h2⟩ := Option.map_eq_some_iff.mp h
    cases h2
    refine Ev.ite_pos hxy (Ev.bind (l3Index_ev h1) (Ev.ite_pos hm (Ev.ite_pos hs ?_)))
    rw [hw]
    by_cases h45 : bt s m = 45
    · exact Ev.ite_pos h45 (Ev.const (by rw [if_pos h45]))
    · exact Ev.ite_neg h45 (Ev.const (by rw [if_neg h45]))
  · rw [if_neg hxy] at h
    obtain ⟨m', h1, h2⟩ := Option.map_eq_some_iff.mp h
    cases h2
    refine Ev.ite_neg hxy (Ev.bind (l3Index_ev h1) (Ev.ite_pos hm (Ev.ite_pos hs ?_)))
    by_cases h45 : bt s m = 45
    · exact Ev.ite_pos h45 (Ev.const (by rw [if_pos h45]))
    · exact Ev.ite_neg h45 (Ev.const (by rw [if_neg h45]))
theorem j0_ev (n x y z p m q : Int) (s : ByteArray) (hp : p = 1 ∨ p = -1) (h : srt1 n x y z p = some (m, q)) (hm : 0 ≤ m) (hs : m < (s.size : Int)) : Ev (fun k => spec_l3At.j0 k x y z p n s) (look s m q) := by
  refine Ev.step (fun k => spec_l3At.j0.eq_2 ..) ?_
  have hw : wrap64 (-p) = -p := wrap_in (by omega) (by omega)
  unfold srt1 at h
  by_cases hyz : y > z
  · rw [if_pos hyz] at h
    rw [hw]
    exact Ev.ite_pos hyz (j1_ev n x z y (-p) m q s (by omega) h hm hs)
  · rw [if_neg hyz] at h
    exact Ev.ite_neg hyz (j1_ev n x y z p m q s hp h hm hs)
theorem l3At_ev (n : Nat) (hn : n ≤ 7) (s : ByteArray) (hs : s.size = (tri n).length) (x y z : Nat) (hx : x < n) (hy : y < n) (hz : z < n) (h1 : x ≠ y) (h2 : y ≠ z) (h3 : x ≠ z) :
    Ev (fun k => spec_l3At.f k n s x y z) (sg n s x y z) := by
  have h := srt_ok n x y z hn hx hy hz h1 h2 h3
  unfold okSrt at h
  unfold spec_l3At.f sg
  cases ha : srt n x y z with
  | none => rw [ha] at h; cases h
  | some mp =>
    obtain ⟨m, p⟩ := mp
    cases hb : src (tri n) 0 x y z with
    | none => rw [ha, hb] at h; cases h
    | some qb =>
      obtain ⟨q, b⟩ := qb
      rw [ha, hb] at h
      simp only [Bool.and_eq_true, beq_iff_eq, decide_eq_true_eq] at h
      obtain ⟨⟨rfl, hq⟩, hp⟩ := h
      have e : sval (sgAt s) 0 (some (q, b)) = look s q p := by
        subst hp
        unfold sval look sgAt
        cases b <;> by_cases h45 : bt s (q : Int) = 45 <;> simp [h45, wrap64]
      rw [e]
      unfold srt at ha
      by_cases hxy : (x : Int) > y
      · rw [if_pos hxy] at ha
        exact Ev.ite_pos hxy (j0_ev n y x z (-1) q p s (by omega) ha (by omega) (by omega))
      · rw [if_neg hxy] at ha
        exact Ev.ite_neg hxy (j0_ev n x y z 1 q p s (by omega) ha (by omega) (by omega))
theorem sg_pm (n : Nat) (hn : n ≤ 7) (s : ByteArray) (x y z : Nat) (hx : x < n) (hy : y < n) (hz : z < n) (h1 : x ≠ y) (h2 : y ≠ z) (h3 : x ≠ z) : sg n s x y z = 1 ∨ sg n s x y z = -1 := by
  have h := srt_ok n x y z hn hx hy hz h1 h2 h3
  unfold okSrt at h
  unfold sg
  cases ha : srt n x y z with
  | none => rw [ha] at h; cases h
  | some mp =>
    cases hb : src (tri n) 0 x y z with
    | none => rw [ha, hb] at h; cases h
    | some qb =>
      obtain ⟨q, b⟩ := qb
      unfold sval sgAt
      cases b <;> by_cases h45 : bt s (q : Int) = 45 <;> simp [h45, wrap64]
end Go.Proofs.Ytdkpiahpmgcmdaa.Pure
namespace Go.Proofs.Ytdkpiahpmgcmdaa.Pl
set_option linter.unusedSimpArgs false
set_option linter.unusedVariables false
open Go.RowKit Go.Proofs.YtdkpiahpmgcmdaaW.PrintWords
theorem range_dropS (n i : Nat) (h : i < n) : (List.range n).drop i = i :: (List.range n).drop (i + 1) := by
  rw [List.drop_eq_getElem_cons (by simpa using h)]
  simp
def Srch {ρ : Type} (g : Nat → Nat → Option ρ) (m : Nat) (P : Nat → Bool) (v : ρ) (lo : Nat) : Prop :=
  ∀ r, (((List.range m).drop lo).any P = true → r = v) → (((List.range m).drop lo).any P = false → Ev (g m) r) → Ev (g lo) r
theorem Srch.of {ρ : Type} (g : Nat → Nat → Option ρ) (m : Nat) (P : Nat → Bool) (v : ρ) (lo : Nat) (hlo : lo ≤ m)
    (hstep : ∀ i, lo ≤ i → i < m → ∀ r, (P i = true → r = v) → (P i = false → Ev (g (i + 1)) r) → Ev (g i) r) : Srch g m P v lo := by
  have key : ∀ d i, lo ≤ i → i + d = m → Srch g m P v i := by
    intro d
    induction d with
    | zero =>
      intro i _ hi
      obtain rfl : i = m := by omega
      intro r _ h2
      exact h2 (by rw [List.drop_of_length_le (by simp)]; rfl)
    | succ d ih =>
      intro i hl hi r h1 h2
      rw [range_dropS m i (by omega), List.any_cons] at h1 h2
      refine hstep i hl (by omega) r (fun h => h1 (by rw [h, Bool.true_or])) (fun h => ih (i + 1) (by omega) (by omega) r (fun k => h1 (by rw [k, Bool.or_true])) (fun k => h2 (by rw [h, k]; rfl)))
  exact key (m - lo) lo (Nat.le_refl _) (by omega)
theorem Srch.ans {ρ : Type} {g : Nat → Nat → Option ρ} {m : Nat} {P : Nat → Bool} {v w : ρ} {lo : Nat} (h : Srch g m P v lo) (he : Ev (g m) w) : Ev (g lo) (if ((List.range m).drop lo).any P then v else w) := by
  refine h _ (fun k => by rw [k]; rfl) (fun k => by rw [k]; exact he)
theorem Ev.up {ρ : Type} {f : Int → Nat → Option ρ} {i : Nat} {r : ρ} (hi : i < 1000000) (h : Ev (f ((i + 1 : Nat) : Int)) r) : Ev (f (wrap64 ((i : Int) + 1))) r := by
  rw [wrap_nat i (by omega)]
  exact h
end Go.Proofs.Ytdkpiahpmgcmdaa.Pl
namespace Go.Proofs.Ytdkpiahpmgcmdaa.Pure
set_option linter.unusedSimpArgs false
set_option linter.unusedVariables false
open Go.RowKit Go.Proofs.YtdkpiahpmgcmdaaW.PrintWords Go.Proofs.Ytdkpiahpmgcmdaa.P Go.Proofs.Ytdkpiahpmgcmdaa.Pl
def inL (l : List Int) (x : Int) : Bool := (List.range l.length).any fun j : Nat => x == rd l (j : Int)
def nxt (n : Nat) (l : List Int) : List (List Int) := ((List.range n).filter fun i : Nat => !inL l (i : Int)).map fun i : Nat => l ++ [(i : Int)]
def lev (n : Nat) : Nat → List (List Int)
  | 0 => [[]]
  | k + 1 => (lev n k).flatMap (nxt n)
def AN (n : Nat) : List (List Int) := lev n n
def inv (p : List Int) : List Int := (List.range p.length).map fun j : Nat => (p.idxOf (j : Int) : Int)
def okP (n : Nat) (p : List Int) : Bool := (p.length == n && (inv p).length == n) && (List.range n).all fun a => decide (0 ≤ rd p (a : Int) ∧ rd p (a : Int) < n ∧ 0 ≤ rd (inv p) (a : Int) ∧ rd (inv p) (a : Int) < n) && (List.range n).all fun x => decide ((x : Int) = rd p (a : Int)) == decide (rd (inv p) (x : Int) = (a : Int))
end Go.Proofs.Ytdkpiahpmgcmdaa.Pure
namespace Go.Proofs.Ytdkpiahpmgcmdaa.P
open Go.RowKit Go.Proofs.YtdkpiahpmgcmdaaW.PrintWords Go.Proofs.YtdkpiahpmgcmdaaW.PrintLast Go.Proofs.YtdkpiahpmgcmdaaW.PrintMore
set_option linter.unusedVariables false
set_option linter.unusedSimpArgs false
def oppI (x : Int) : Int := if x = 43 then 45 else if x = 45 then 43 else x
def oppL (s : ByteArray) : List Int := (List.range s.size).map fun j : Nat => oppI (bt s (j : Int))
def impl_opposite.f (a0 : ByteArray) : Option ByteArray := if a0.size ≤ 9223372036854775807 then some (strOfNums (oppL a0)) else none
def oppR (s : ByteArray) (i j : Nat) : Int := if j < i then oppI (bt s (j : Int)) else bt s (j : Int)
theorem OPB (w : World) (e : TypeId) (s : ByteArray) : Below w.heap.size w (Lib.bytesWorld w e s) :=
  ⟨rfl, rfl, rfl, by rw [Lib.bytesWorld_size]; omega, fun k hk => Lib.bytesWorld_at_old w e s k hk⟩
theorem OPW (i : Nat) (h : i < 9223372036854775807) : wrap64 ((i : Int) + 1) = ((i + 1 : Nat) : Int) := by
  unfold wrap64
  omega
theorem opp_bt (s : ByteArray) (j : Nat) (hj : j < s.size) : (some (Value.int .u8 (s.data.toList.getD j 0).toNat)) = some (.int .u8 (bt s (j : Int))) := by
  unfold bt
  rw [dif_pos (by simpa using hj)]
  have h : j < s.data.toList.length := hj
  rw [List.getD_eq_getElem?_getD, List.getElem?_eq_getElem h]
  rfl
theorem opp_frozen (w : World) (e : TypeId) (s : ByteArray) (j : Nat) (hj : j < s.size) : (Lib.bytesWorld w e s).frozen? ⟨w.heap.size, j, none⟩ = false := by
  have h1 : s.size ≤ (Lib.bytesCells w e s).size := by
    unfold Lib.bytesCells
    rw [Array.size_append, Array.size_map]
    exact Nat.le_add_right _ _
  unfold World.frozen?
  simp only [Lib.bytesWorld_at_new]
  simp
  omega
set_option maxHeartbeats 2000000 in
set_option maxRecDepth 100000 in
theorem impl_opposite.calls (a0 : ByteArray) (r : ByteArray) (w : World) (h : impl_opposite.f a0 = some r) :
    Calls Try.prog 71 #[.string a0] w fun e w' => e = .returned (.string r) ∧ Below w.heap.size w w' := by
  unfold impl_opposite.f at h
  by_cases hsz : a0.size ≤ 9223372036854775807
  case neg => rw [if_neg hsz] at h; cases h
  rw [if_pos hsz] at h
  obtain rfl := Option.some.inj h
  clear h
  have hcv : ∀ W : World, (convert 9 108 (.string a0)).run Try.prog W = .ok (.slice (some ⟨W.heap.size, 0, none⟩) a0.size (grownCap W a0.size 0 5)) (Lib.bytesWorld W 5 a0) :=
    fun W => Lib.run_convert_string_bytes W _ _ _ a0 Try.underlying9 Try.underlying108 Try.underlying5
  have hbel0 : Below w.heap.size w (Lib.bytesWorld w 5 a0) := OPB w 5 a0
  have hc0 : ∀ j, j < a0.size → (Lib.bytesWorld w 5 a0).cell? ⟨w.heap.size, j, none⟩ = some (.int .u8 (bt a0 (j : Int))) := fun j hj => by
    rw [Lib.bytesWorld_cell w 5 a0 j hj, opp_bt a0 j hj]
  have hf0 : ∀ j, j < a0.size → (Lib.bytesWorld w 5 a0).frozen? ⟨w.heap.size, j, none⟩ = false := fun j hj => opp_frozen w 5 a0 j hj
  have HC := Aside0.mk hc0; have HF := Aside0.mk hf0; have HB := Aside0.mk hbel0; have HS := Aside0.mk hsz
  clear hc0 hf0 hbel0 hsz
  go_enter Try.func71, Try.ntmps71
  go_wp2
  generalize grownCap w a0.size 0 5 = cap
  generalize Lib.bytesWorld w 5 a0 = w1 at HC HF HB ⊢
  go_loopg [10] a0.size (fun gg v10 wr => ∃ i : Nat, i ≤ a0.size ∧ a0.size - i ≤ gg ∧ v10 = .int .i64 i ∧ Aside0 (Below w.heap.size w wr) ∧ Aside0 (∀ j, j < a0.size → wr.cell? ⟨w.heap.size, j, none⟩ = some (.int .u8 (oppR a0 i j))) ∧ Aside0 (∀ j, j < a0.size → wr.frozen? ⟨w.heap.size, j, none⟩ = false))
  case atStart =>
    refine ⟨0, Nat.zero_le _, by omega, rfl, HB, ⟨fun j hj => ?_⟩, HF⟩
    rw [HC.out j hj]
    rfl
  case round =>
    clear HC HF HB
    obtain ⟨i, hi, hg, rfl, HB, HC, HF⟩ := hrel
    by_cases hlt : i < a0.size
    · have hltz : (i : Int) < (a0.size : Int) := by omega
      have l1 := HC.out i hlt
      have f1 := HF.out i hlt
      rw [show oppR a0 i i = bt a0 (i : Int) by unfold oppR; rw [if_neg (Nat.lt_irrefl _)]] at l1
      have hstep : ∀ (W : World) (x : Int), x = oppI (bt a0 (i : Int)) → (∀ j, j < a0.size → W.cell? ⟨w.heap.size, j, none⟩ = some (.int .u8 (if j = i then x else oppR a0 i j))) → ∀ j, j < a0.size → W.cell? ⟨w.heap.size, j, none⟩ = some (.int .u8 (oppR a0 (i + 1) j)) := by
        intro W x hx hW j hj
        rw [hW j hj]
        unfold oppR
        by_cases e : j = i
        · subst e; rw [if_pos rfl, if_pos (Nat.lt_succ_self _), hx]
        · rw [if_neg e]
          by_cases e2 : j < i
          · rw [if_pos e2, if_pos (by omega)]
          · rw [if_neg e2, if_neg (by omega)]
      have HSTEP := Aside0.mk hstep
      clear hstep
      generalize hb : bt a0 (i : Int) = b at l1 HSTEP
      have HBB := Aside0.mk hb
      clear hb
      by_cases h43 : b = 43
      · subst h43
        go_wp2
        go_roundg (a0.size - (i + 1))
        case measure => omega
        case rel =>
          refine ⟨i + 1, by omega, by omega, by rw [OPW i (by have := HS.out; omega)], ⟨HB.out.setCell (Nat.le_refl _) _⟩, ⟨HSTEP.out _ 45 rfl (fun j hj => ?_)⟩, ⟨fun j hj => by rw [World.frozen?_setCell]; exact HF.out j hj⟩⟩
          by_cases e : j = i
          · subst e; rw [if_pos rfl, World.cell?_setCell_same (h := l1)]
          · rw [if_neg e, World.cell?_setCell_other (h := by intro h; injection h with _ h2 _; exact e h2.symm)]; exact HC.out j hj
      · by_cases h45 : b = 45
        · subst h45
          have n43 : ((45 : Int) == 43) = false := rfl
          go_wp2
          go_roundg (a0.size - (i + 1))
          case measure => omega
          case rel =>
            refine ⟨i + 1, by omega, by omega, by rw [OPW i (by have := HS.out; omega)], ⟨HB.out.setCell (Nat.le_refl _) _⟩, ⟨HSTEP.out _ 43 rfl (fun j hj => ?_)⟩, ⟨fun j hj => by rw [World.frozen?_setCell]; exact HF.out j hj⟩⟩
            by_cases e : j = i
            · subst e; rw [if_pos rfl, World.cell?_setCell_same (h := l1)]
            · rw [if_neg e, World.cell?_setCell_other (h := by intro h; injection h with _ h2 _; exact e h2.symm)]; exact HC.out j hj
        · have n43 : (b == 43) = false := beq_eq_false_iff_ne.mpr h43
          have n45 : (b == 45) = false := beq_eq_false_iff_ne.mpr h45
          go_wp2
          go_roundg (a0.size - (i + 1))
          case measure => omega
          case rel =>
            refine ⟨i + 1, by omega, by omega, by rw [OPW i (by have := HS.out; omega)], HB, ⟨HSTEP.out _ b (by unfold oppI; rw [if_neg h43, if_neg h45]) (fun j hj => ?_)⟩, HF⟩
            by_cases e : j = i
            · subst e; rw [if_pos rfl]; exact l1
            · rw [if_neg e]; exact HC.out j hj
    · have hltz : ¬ (i : Int) < (a0.size : Int) := by omega
      have : i = a0.size := by omega
      subst this
      have hcv2 : ∀ W : World, (∀ j, j < a0.size → W.cell? ⟨w.heap.size, 0 + j, none⟩ = some (.int .u8 ((oppL a0).getD j 0))) → (convert 108 9 (Value.slice (some ⟨w.heap.size, 0, none⟩) a0.size cap)).run Try.prog W = .ok (.string (strOfNums (oppL a0))) W :=
        fun W hW => run_convert_bytes_arg W 108 5 Try.underlying108 Try.underlying5 w.heap.size 0 a0.size cap (oppL a0) (by rw [oppL, List.length_map, List.length_range]) hW 9 Try.underlying9
      have hcv3 := hcv2 wr (fun j hj => by
        rw [Nat.zero_add, HC.out j hj]
        unfold oppR oppL
        rw [if_pos hj, List.getD_eq_getElem?_getD, List.getElem?_map, List.getElem?_range hj]
        rfl)
      go_wp2
      go_ret
      exact ⟨rfl, HB.out⟩
end Go.Proofs.Ytdkpiahpmgcmdaa.P
namespace Go.Proofs.Ytdkpiahpmgcmdaa.P
open Go.RowKit Go.Proofs.YtdkpiahpmgcmdaaW.PrintWords Go.Proofs.YtdkpiahpmgcmdaaW.PrintLast Go.Proofs.YtdkpiahpmgcmdaaW.PrintMore
attribute [local go_sem] ptrOf_slice
attribute [local go_sem] min2_str max2_int min2_int max_two min_two max_three min_three max_four min_four
set_option linter.unusedVariables false
set_option linter.unusedSimpArgs false
def impl_chi_circuit.l0 : Nat → List Int → List Int → Int → Int → Option (ByteArray)
 | 0, _, _, _, _ => none
 | k + 1, x11, x56, x57, x58 => if x58 < x57 then (if 0 ≤ x58 then (if x58 < (x56.length : Int) then (if (rd x56 x58) > 0 then (if x11.length < 140737488355328 then (impl_chi_circuit.l0 k (x11 ++ [43]) x56 x57 (wrap64 (x58 + 1))) else (none)) else (if x11.length < 140737488355328 then (impl_chi_circuit.l0 k (x11 ++ [45]) x56 x57 (wrap64 (x58 + 1))) else (none))) else (none)) else (none)) else (if 0 < (x11.length : Int) then (if (rd x11 0) = 45 then ((impl_opposite.f (strOfNums x11)).bind fun t526 => (some t526)) else (some (strOfNums x11))) else (none))
def impl_chi_circuit.f (k : Nat) (l0 : List Int) (a1 : Int) (a2 : Int) (a3 : Int) (a4 : Int) : Option (ByteArray) := if 344 ≤ (l0.length : Int) then (if 0 ≤ a2 then (if a2 < 7 then (if 0 ≤ a3 then (if a3 < 7 then (if 0 ≤ a4 then (if a4 < 7 then (if 0 ≤ a1 then (if a1 < 7 then ((some (([chiA l0 a2 a3 a4, wrap64 (-(chiA l0 a1 a3 a4)), chiA l0 a1 a2 a4, wrap64 (-(chiA l0 a1 a2 a3))] : List Int) : List Int)).bind fun y515 => (impl_chi_circuit.l0 k ([] : List Int) y515 (y515.length : Int) 0)) else (none)) else (none)) else (none)) else (none)) else (none)) else (none)) else (none)) else (none)) else (none)
def impl_chi_circuit.T2 : Bool × List (List Nat × List Nat) := (true, [([], []), ([], []), ([], []), ([], []), ([0], [0]), ([4], [4]), ([5, 1], [1, 5]), ([6, 2], [2, 6]), ([7, 3], [3, 7]), ([8], [8]), ([], []), ([], []), ([], []), ([], []), ([10], [10]), ([14], [14]), ([15, 11], [11, 15]), ([16, 12], [12, 16]), ([17, 13], [13, 17]), ([18], [18]), ([19], [19]), ([], []), ([], []), ([], []), ([], []), ([21], [21]), ([25], [25]), ([26, 22], [22, 26]), ([27, 23], [23, 27]), ([28, 24], [24, 28]), ([29], [29]), ([], []), ([], []), ([], []), ([], []), ([31], [31]), ([35], [35]), ([36, 32], [32, 36]), ([37, 33], [33, 37]), ([38, 34], [34, 38]), ([39], [39]), ([40], [40]), ([9, 20, 30, 41], [9, 20, 30, 41]), ([42], [42]), ([], [])])
def impl_chi_circuit.B2 : List Nat := [0, 0, 0, 0, 1, 17, 51, 119, 255, 511, 0, 0, 0, 0, 1024, 17408, 52224, 121856, 261120, 523264, 1047552, 0, 0, 0, 0, 2097152, 35651584, 106954752, 249561088, 534773760, 1071644672, 0, 0, 0, 0, 2147483648, 36507222016, 109521666048, 255550554112, 547608330240, 1097364144128, 2196875771904, 4398046511103, 8796093022207, 0]
def impl_chi_split.l0 : Nat → ByteArray → Int → Int → List Int → Int → Int → Option (Int × Int)
 | 0, _, _, _, _, _, _ => none
 | k + 1, x12, x13, x14, x27, x28, x29 => if x29 < x28 then (if 0 ≤ x29 then (if x29 < (x27.length : Int) then (if x29 < (x12.size : Int) then (if (bt x12 x29) = 43 then (if 0 ≤ (rd x27 x29) then (impl_chi_split.l0 k x12 (Go.bits .or .i64 x13 (shl .i64 1 (rd x27 x29))) x14 x27 x28 (wrap64 (x29 + 1))) else (none)) else (if 0 ≤ (rd x27 x29) then (impl_chi_split.l0 k x12 x13 (Go.bits .or .i64 x14 (shl .i64 1 (rd x27 x29))) x27 x28 (wrap64 (x29 + 1))) else (none))) else (none)) else (none)) else (none)) else (some (x13, x14))
def impl_chi_split.f (k : Nat) (l0 : List Int) (a1 : Int) (a2 : Int) (a3 : Int) (a4 : Int) : Option (Int × Int) := (impl_chi_circuit.f k l0 a1 a2 a3 a4).bind fun t527 => ((some (([a1, a2, a3, a4] : List Int) : List Int)).bind fun y528 => (impl_chi_split.l0 k t527 0 0 y528 (y528.length : Int) 0))
end Go.Proofs.Ytdkpiahpmgcmdaa.P
