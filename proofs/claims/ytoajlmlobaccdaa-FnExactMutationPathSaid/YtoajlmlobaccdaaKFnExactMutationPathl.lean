/- What the law FnExactMutationPath reaches, part 12: functions as plain Lean functions with the proofs that their calls come to them, and plain lemmas over these. Put together by a program (wip/pack.py). -/
import Derived.Test.YtoajlmlobaccdaaKFnExactMutationPathc
import Derived.Test.YtoajlmlobaccdaaKFnExactMutationPathd
import Derived.Test.YtoajlmlobaccdaaKFnExactMutationPathg
import Derived.Test.YtoajlmlobaccdaaKFnExactMutationPathk
import Derived.Test.YtoajlmlobaccdaaKFnExactMutationPatha
import Derived.ChangeArms
import Derived.Deep.Slices
import Derived.Deep.Fields
import Derived.WideShapes
import Derived.KernelRfl
namespace Go.Proofs.Ytoajlmlobaccdaa.P
open Go.RowKit Go.Proofs.YtoajlmlobaccdaaW.PrintWords Go.Proofs.YtoajlmlobaccdaaW.PrintLast Go.Proofs.YtoajlmlobaccdaaW.PrintMore
attribute [local go_sem] ptrOf_slice
attribute [local go_sem] min2_str max2_int min2_int max_two min_two max_three min_three max_four min_four
set_option linter.unusedVariables false
set_option linter.unusedSimpArgs false
def laws_FnExactMutationPath.f (k : Nat) (a0_0 : Int) (a0_1 : ByteArray) (a1_0 : Int) (a1_1 : ByteArray) : Option (Bool) := (laws_szSigns.f a0_0 a0_1 1048576).bind fun t1115 => (if t1115 < 0 then (some true) else ((laws_szSigns.f a1_0 a1_1 t1115).bind fun t1116 => (if t1116 < 0 then (some true) else ((laws_toSigns.f a0_0 a0_1).bind fun bt1117 => ((laws_toSigns.f a1_0 a1_1).bind fun bt1119 => ((spec_MutationPath.f k bt1117.1 bt1117.2 bt1119.1 bt1119.2).bind fun t1121 => ((laws_toSigns.f a0_0 a0_1).bind fun bt1124 => ((laws_toSigns.f a1_0 a1_1).bind fun bt1126 => ((impl_MutationPath.f k bt1124.1 bt1124.2 bt1126.1 bt1126.2).bind fun t1128 => ((laws_eqIntSS.f k t1128 t1121).bind fun t1131 => (if t1131 = true then ((laws_markIntSS.f k t1128 1).bind fun bm_ => (if t1128.length = bm_.2.length then ((laws_heldIntSS.f k bm_.2 1).bind fun t1133 => (if t1133 < 0 then none else (if t1133 = bm_.1 then ((laws_toSigns.f a0_0 a0_1).bind fun bt1134 => ((laws_toSigns.f a1_0 a1_1).bind fun bt1136 => ((impl_MutationPath.f k bt1134.1 bt1134.2 bt1136.1 bt1136.2).bind fun t1138 => ((laws_eqIntSS.f k t1138 t1121).bind fun t1141 => (if t1141 = true then ((laws_heldIntSS.f k bm_.2 1).bind fun t1142 => (if t1142 < 0 then none else (if t1142 = bm_.1 then (some true) else none))) else none))))) else none))) else none)) else none)))))))))))
set_option maxHeartbeats 8000000 in
set_option maxRecDepth 100000 in
theorem laws_FnExactMutationPath.calls (k : Nat) (a0_0 : Int) (a0_1 : ByteArray) (a1_0 : Int) (a1_1 : ByteArray) (r : Bool) (w : World) (h : laws_FnExactMutationPath.f k a0_0 a0_1 a1_0 a1_1 = some r) :
    Calls Try.prog 7 #[.agg #[.int .i64 a0_0, .string a0_1], .agg #[.int .i64 a1_0, .string a1_1]] w fun e w' => e = .returned (.bool r) ∧ Below w.heap.size w w' := by
  have hu28 := Try.underlying28
  have HB := Aside0.mk (Below.refl w.heap.size w)
  have H : ((laws_szSigns.f a0_0 a0_1 1048576).bind fun t1115 => (if t1115 < 0 then (some true) else ((laws_szSigns.f a1_0 a1_1 t1115).bind fun t1116 => (if t1116 < 0 then (some true) else ((laws_toSigns.f a0_0 a0_1).bind fun bt1117 => ((laws_toSigns.f a1_0 a1_1).bind fun bt1119 => ((spec_MutationPath.f k bt1117.1 bt1117.2 bt1119.1 bt1119.2).bind fun t1121 => ((laws_toSigns.f a0_0 a0_1).bind fun bt1124 => ((laws_toSigns.f a1_0 a1_1).bind fun bt1126 => ((impl_MutationPath.f k bt1124.1 bt1124.2 bt1126.1 bt1126.2).bind fun t1128 => ((laws_eqIntSS.f k t1128 t1121).bind fun t1131 => (if t1131 = true then ((laws_markIntSS.f k t1128 1).bind fun bm_ => (if t1128.length = bm_.2.length then ((laws_heldIntSS.f k bm_.2 1).bind fun t1133 => (if t1133 < 0 then none else (if t1133 = bm_.1 then ((laws_toSigns.f a0_0 a0_1).bind fun bt1134 => ((laws_toSigns.f a1_0 a1_1).bind fun bt1136 => ((impl_MutationPath.f k bt1134.1 bt1134.2 bt1136.1 bt1136.2).bind fun t1138 => ((laws_eqIntSS.f k t1138 t1121).bind fun t1141 => (if t1141 = true then ((laws_heldIntSS.f k bm_.2 1).bind fun t1142 => (if t1142 < 0 then none else (if t1142 = bm_.1 then (some true) else none))) else none))))) else none))) else none)) else none)))))))))))) = some r := h
  clear h
  replace H := Option.bind_eq_some_iff.mp H
  obtain ⟨t1115, A30, H⟩ := H
  replace H : (if t1115 < 0 then (some true) else ((laws_szSigns.f a1_0 a1_1 t1115).bind fun t1116 => (if t1116 < 0 then (some true) else ((laws_toSigns.f a0_0 a0_1).bind fun bt1117 => ((laws_toSigns.f a1_0 a1_1).bind fun bt1119 => ((spec_MutationPath.f k bt1117.1 bt1117.2 bt1119.1 bt1119.2).bind fun t1121 => ((laws_toSigns.f a0_0 a0_1).bind fun bt1124 => ((laws_toSigns.f a1_0 a1_1).bind fun bt1126 => ((impl_MutationPath.f k bt1124.1 bt1124.2 bt1126.1 bt1126.2).bind fun t1128 => ((laws_eqIntSS.f k t1128 t1121).bind fun t1131 => (if t1131 = true then ((laws_markIntSS.f k t1128 1).bind fun bm_ => (if t1128.length = bm_.2.length then ((laws_heldIntSS.f k bm_.2 1).bind fun t1133 => (if t1133 < 0 then none else (if t1133 = bm_.1 then ((laws_toSigns.f a0_0 a0_1).bind fun bt1134 => ((laws_toSigns.f a1_0 a1_1).bind fun bt1136 => ((impl_MutationPath.f k bt1134.1 bt1134.2 bt1136.1 bt1136.2).bind fun t1138 => ((laws_eqIntSS.f k t1138 t1121).bind fun t1141 => (if t1141 = true then ((laws_heldIntSS.f k bm_.2 1).bind fun t1142 => (if t1142 < 0 then none else (if t1142 = bm_.1 then (some true) else none))) else none))))) else none))) else none)) else none))))))))))) = some r := H
  have A3 := Aside0.mk A30
  clear A30
  by_cases c4 : t1115 < 0
  · rw [if_pos c4] at H
    have c4b0 : decide (t1115 < 0) = true := decide_eq_true c4
    clear c4
    obtain rfl := Option.some.inj H
    go_enter Try.func7, Try.ntmps7
    go_wp2_with (first | ((with_reducible refine gate_dst (N := 2) rfl ?_); refine box_event ?hg (N := 2) ?hd (cs := #[.int .i64 a0_0, .string a0_1]) (t := 28) ?hr ?_; (case hd => rfl); (case hg => rfl); (case hr => first | (go_simp; done) | (go_simp; rfl)); intro gb1113 hg w5 hbox hb; have n0_ := Aside0.mk (below_step (by repeat (first | (with_reducible first | exact HB.out | apply below_alloc | apply pw_below_drewN | apply below_drew1) | exact HB.out)) hb); have n1_ := Aside0.mk (hbox); have n2_ := Aside0.mk ((by rw [hg]; exact (below_size (by repeat (first | (with_reducible first | exact HB.out | apply below_alloc | apply pw_below_drewN | apply below_drew1) | exact HB.out))) : w.heap.size ≤ gb1113)); have n3_ := Aside0.mk ((by rw [hg]; exact (below_size (by repeat (first | (with_reducible first | exact HB.out | apply below_alloc | apply pw_below_drewN | apply below_drew1) | exact HB.out))) : w.heap.size ≤ gb1113)); clear HB; have HB := n0_; have BK1113 := n1_; have GW1113 := n2_; have GE1113 := n3_; clear n0_ n1_ n2_ n3_; clear hb hbox hg) | ((with_reducible refine gate_dst (N := 3) rfl ?_); refine box_event ?hg (N := 3) ?hd (cs := #[.int .i64 a1_0, .string a1_1]) (t := 28) ?hr ?_; (case hd => rfl); (case hg => rfl); (case hr => first | (go_simp; done) | (go_simp; rfl)); intro gb1114 hg w6 hbox hb; have n0_ := Aside0.mk (blk_below (g := gb1113) (o := .cells #[.int .i64 a0_0, .string a0_1] 28 (0, 0)) (by (with_reducible repeat (first | refine blk_drewN ?_ _ | refine blk_drew ?_ | refine blk_alloc ?_ _)); exact BK1113.out) hb); have n1_ := Aside0.mk (below_step (by repeat (first | (with_reducible first | exact HB.out | apply below_alloc | apply pw_below_drewN | apply below_drew1 | refine below_set ?_ GE1113.out) | exact HB.out)) hb); have n2_ := Aside0.mk (hbox); have n3_ := Aside0.mk ((by rw [hg]; exact (below_size (by repeat (first | (with_reducible first | exact HB.out | apply below_alloc | apply pw_below_drewN | apply below_drew1 | refine below_set ?_ GE1113.out) | exact HB.out))) : w.heap.size ≤ gb1114)); have n4_ := Aside0.mk ((by rw [hg]; exact (below_size (by repeat (first | (with_reducible first | exact HB.out | apply below_alloc | apply pw_below_drewN | apply below_drew1 | refine below_set ?_ GE1113.out) | exact HB.out))) : w.heap.size ≤ gb1114)); have n5_ := Aside0.mk ((by rw [hg]; exact Nat.ne_of_lt (blk_lt (g := gb1113) (o := .cells #[.int .i64 a0_0, .string a0_1] 28 (0, 0)) (by (with_reducible repeat (first | refine blk_drewN ?_ _ | refine blk_drew ?_ | refine blk_alloc ?_ _)); exact BK1113.out)) : gb1113 ≠ gb1114)); have n6_ := Aside0.mk ((by rw [hg]; exact Nat.ne_of_gt (blk_lt (g := gb1113) (o := .cells #[.int .i64 a0_0, .string a0_1] 28 (0, 0)) (by (with_reducible repeat (first | refine blk_drewN ?_ _ | refine blk_drew ?_ | refine blk_alloc ?_ _)); exact BK1113.out)) : gb1114 ≠ gb1113)); clear BK1113; clear HB; have BK1113 := n0_; have HB := n1_; have BK1114 := n2_; have GW1114 := n3_; have GE1114 := n4_; have NB1113_1114 := n5_; have NB1114_1113 := n6_; clear n0_ n1_ n2_ n3_ n4_ n5_ n6_; clear hb hbox hg; have hnb7 := NB1113_1114.out; have hnc7 := NB1114_1113.out; have hcz8_0 : w6.cell? ⟨gb1113, 0, none⟩ = some (.int .i64 a0_0) := (blk_cell BK1113.out 0).trans rfl; have hcz8_1 : w6.cell? ⟨gb1113, 1, none⟩ = some (.string a0_1) := (blk_cell BK1113.out 1).trans rfl; have hfz8_0 := blk_frozen BK1113.out 0; have hfz8_1 := blk_frozen BK1113.out 1) | ((with_reducible refine gate_callee (f := 16) rfl ?_); refine goesL_ (some 13) rfl rfl Try.func16 (by kernel_rfl) rfl #[.agg #[.int .i64 a0_0, .string a0_1], .int .i64 1048576] rfl (by (try simp only [List.map_toArray, List.map_cons, List.map_nil]); first | done | rfl | (simp only [List.length_drop, List.length_take]; rfl)) ?_; (with_reducible refine (laws_szSigns.calls a0_0 a0_1 1048576 t1115 _ A3.out).mono ?_); rintro e w9 ⟨rfl, hb⟩; refine ⟨_, rfl, ?_⟩; have n0_ := Aside0.mk (blk_below (g := gb1113) (o := .cells #[.int .i64 a0_0, .string a0_1] 28 (0, 0)) (by (with_reducible repeat (first | refine blk_drewN ?_ _ | refine blk_drew ?_ | refine blk_alloc ?_ _)); exact BK1113.out) hb); have n1_ := Aside0.mk (blk_below (g := gb1114) (o := .cells #[.int .i64 a1_0, .string a1_1] 28 (0, 0)) (by (with_reducible repeat (first | refine blk_drewN ?_ _ | refine blk_drew ?_ | refine blk_alloc ?_ _)); exact BK1114.out) hb); have n2_ := Aside0.mk (below_step (by repeat (first | (with_reducible first | exact HB.out | apply below_alloc | apply pw_below_drewN | apply below_drew1 | refine below_set ?_ GE1113.out | refine below_set ?_ GE1114.out) | exact HB.out)) hb); clear BK1113; clear BK1114; clear HB; have BK1113 := n0_; have BK1114 := n1_; have HB := n2_; clear n0_ n1_ n2_; (try clear hb); (try clear hb2); (try clear hk); (try clear hi)))
    go_ret
    exact ⟨by first | rfl | (simp [errW_none, errW_some] <;> rfl) | (simp [*, errW_none, errW_some] <;> rfl), by repeat (first | (with_reducible first | exact HB.out | apply below_alloc | apply pw_below_drewN | apply below_drew1 | refine below_set ?_ GE1113.out | refine below_set ?_ GE1114.out) | exact HB.out)⟩
  · rw [if_neg c4] at H
    have c4b0 : decide (t1115 < 0) = false := decide_eq_false c4
    clear c4
    replace H := Option.bind_eq_some_iff.mp H
    obtain ⟨t1116, A100, H⟩ := H
    replace H : (if t1116 < 0 then (some true) else ((laws_toSigns.f a0_0 a0_1).bind fun bt1117 => ((laws_toSigns.f a1_0 a1_1).bind fun bt1119 => ((spec_MutationPath.f k bt1117.1 bt1117.2 bt1119.1 bt1119.2).bind fun t1121 => ((laws_toSigns.f a0_0 a0_1).bind fun bt1124 => ((laws_toSigns.f a1_0 a1_1).bind fun bt1126 => ((impl_MutationPath.f k bt1124.1 bt1124.2 bt1126.1 bt1126.2).bind fun t1128 => ((laws_eqIntSS.f k t1128 t1121).bind fun t1131 => (if t1131 = true then ((laws_markIntSS.f k t1128 1).bind fun bm_ => (if t1128.length = bm_.2.length then ((laws_heldIntSS.f k bm_.2 1).bind fun t1133 => (if t1133 < 0 then none else (if t1133 = bm_.1 then ((laws_toSigns.f a0_0 a0_1).bind fun bt1134 => ((laws_toSigns.f a1_0 a1_1).bind fun bt1136 => ((impl_MutationPath.f k bt1134.1 bt1134.2 bt1136.1 bt1136.2).bind fun t1138 => ((laws_eqIntSS.f k t1138 t1121).bind fun t1141 => (if t1141 = true then ((laws_heldIntSS.f k bm_.2 1).bind fun t1142 => (if t1142 < 0 then none else (if t1142 = bm_.1 then (some true) else none))) else none))))) else none))) else none)) else none))))))))) = some r := H
    have A10 := Aside0.mk A100
    clear A100
    by_cases c11 : t1116 < 0
    · rw [if_pos c11] at H
      have c11b0 : decide (t1116 < 0) = true := decide_eq_true c11
      clear c11
      obtain rfl := Option.some.inj H
      go_enter Try.func7, Try.ntmps7
      go_wp2_with (first | ((with_reducible refine gate_dst (N := 2) rfl ?_); refine box_event ?hg (N := 2) ?hd (cs := #[.int .i64 a0_0, .string a0_1]) (t := 28) ?hr ?_; (case hd => rfl); (case hg => rfl); (case hr => first | (go_simp; done) | (go_simp; rfl)); intro gb1113 hg w12 hbox hb; have n0_ := Aside0.mk (below_step (by repeat (first | (with_reducible first | exact HB.out | apply below_alloc | apply pw_below_drewN | apply below_drew1) | exact HB.out)) hb); have n1_ := Aside0.mk (hbox); have n2_ := Aside0.mk ((by rw [hg]; exact (below_size (by repeat (first | (with_reducible first | exact HB.out | apply below_alloc | apply pw_below_drewN | apply below_drew1) | exact HB.out))) : w.heap.size ≤ gb1113)); have n3_ := Aside0.mk ((by rw [hg]; exact (below_size (by repeat (first | (with_reducible first | exact HB.out | apply below_alloc | apply pw_below_drewN | apply below_drew1) | exact HB.out))) : w.heap.size ≤ gb1113)); clear HB; have HB := n0_; have BK1113 := n1_; have GW1113 := n2_; have GE1113 := n3_; clear n0_ n1_ n2_ n3_; clear hb hbox hg) | ((with_reducible refine gate_dst (N := 3) rfl ?_); refine box_event ?hg (N := 3) ?hd (cs := #[.int .i64 a1_0, .string a1_1]) (t := 28) ?hr ?_; (case hd => rfl); (case hg => rfl); (case hr => first | (go_simp; done) | (go_simp; rfl)); intro gb1114 hg w13 hbox hb; have n0_ := Aside0.mk (blk_below (g := gb1113) (o := .cells #[.int .i64 a0_0, .string a0_1] 28 (0, 0)) (by (with_reducible repeat (first | refine blk_drewN ?_ _ | refine blk_drew ?_ | refine blk_alloc ?_ _)); exact BK1113.out) hb); have n1_ := Aside0.mk (below_step (by repeat (first | (with_reducible first | exact HB.out | apply below_alloc | apply pw_below_drewN | apply below_drew1 | refine below_set ?_ GE1113.out) | exact HB.out)) hb); have n2_ := Aside0.mk (hbox); have n3_ := Aside0.mk ((by rw [hg]; exact (below_size (by repeat (first | (with_reducible first | exact HB.out | apply below_alloc | apply pw_below_drewN | apply below_drew1 | refine below_set ?_ GE1113.out) | exact HB.out))) : w.heap.size ≤ gb1114)); have n4_ := Aside0.mk ((by rw [hg]; exact (below_size (by repeat (first | (with_reducible first | exact HB.out | apply below_alloc | apply pw_below_drewN | apply below_drew1 | refine below_set ?_ GE1113.out) | exact HB.out))) : w.heap.size ≤ gb1114)); have n5_ := Aside0.mk ((by rw [hg]; exact Nat.ne_of_lt (blk_lt (g := gb1113) (o := .cells #[.int .i64 a0_0, .string a0_1] 28 (0, 0)) (by (with_reducible repeat (first | refine blk_drewN ?_ _ | refine blk_drew ?_ | refine blk_alloc ?_ _)); exact BK1113.out)) : gb1113 ≠ gb1114)); have n6_ := Aside0.mk ((by rw [hg]; exact Nat.ne_of_gt (blk_lt (g := gb1113) (o := .cells #[.int .i64 a0_0, .string a0_1] 28 (0, 0)) (by (with_reducible repeat (first | refine blk_drewN ?_ _ | refine blk_drew ?_ | refine blk_alloc ?_ _)); exact BK1113.out)) : gb1114 ≠ gb1113)); clear BK1113; clear HB; have BK1113 := n0_; have HB := n1_; have BK1114 := n2_; have GW1114 := n3_; have GE1114 := n4_; have NB1113_1114 := n5_; have NB1114_1113 := n6_; clear n0_ n1_ n2_ n3_ n4_ n5_ n6_; clear hb hbox hg; have hnb14 := NB1113_1114.out; have hnc14 := NB1114_1113.out; have hcz15_0 : w13.cell? ⟨gb1113, 0, none⟩ = some (.int .i64 a0_0) := (blk_cell BK1113.out 0).trans rfl; have hcz15_1 : w13.cell? ⟨gb1113, 1, none⟩ = some (.string a0_1) := (blk_cell BK1113.out 1).trans rfl; have hfz15_0 := blk_frozen BK1113.out 0; have hfz15_1 := blk_frozen BK1113.out 1) | ((with_reducible refine gate_callee (f := 16) rfl ?_); refine goesL_ (some 13) rfl rfl Try.func16 (by kernel_rfl) rfl #[.agg #[.int .i64 a0_0, .string a0_1], .int .i64 1048576] rfl (by (try simp only [List.map_toArray, List.map_cons, List.map_nil]); first | done | rfl | (simp only [List.length_drop, List.length_take]; rfl)) ?_; (with_reducible refine (laws_szSigns.calls a0_0 a0_1 1048576 t1115 _ A3.out).mono ?_); rintro e w16 ⟨rfl, hb⟩; refine ⟨_, rfl, ?_⟩; have n0_ := Aside0.mk (blk_below (g := gb1113) (o := .cells #[.int .i64 a0_0, .string a0_1] 28 (0, 0)) (by (with_reducible repeat (first | refine blk_drewN ?_ _ | refine blk_drew ?_ | refine blk_alloc ?_ _)); exact BK1113.out) hb); have n1_ := Aside0.mk (blk_below (g := gb1114) (o := .cells #[.int .i64 a1_0, .string a1_1] 28 (0, 0)) (by (with_reducible repeat (first | refine blk_drewN ?_ _ | refine blk_drew ?_ | refine blk_alloc ?_ _)); exact BK1114.out) hb); have n2_ := Aside0.mk (below_step (by repeat (first | (with_reducible first | exact HB.out | apply below_alloc | apply pw_below_drewN | apply below_drew1 | refine below_set ?_ GE1113.out | refine below_set ?_ GE1114.out) | exact HB.out)) hb); clear BK1113; clear BK1114; clear HB; have BK1113 := n0_; have BK1114 := n1_; have HB := n2_; clear n0_ n1_ n2_; (try clear hb); (try clear hb2); (try clear hk); (try clear hi); have hcz17_0 : w16.cell? ⟨gb1114, 0, none⟩ = some (.int .i64 a1_0) := (blk_cell BK1114.out 0).trans rfl; have hcz17_1 : w16.cell? ⟨gb1114, 1, none⟩ = some (.string a1_1) := (blk_cell BK1114.out 1).trans rfl; have hfz17_0 := blk_frozen BK1114.out 0; have hfz17_1 := blk_frozen BK1114.out 1) | ((with_reducible refine gate_callee (f := 16) rfl ?_); refine goesL_ (some 18) rfl rfl Try.func16 (by kernel_rfl) rfl #[.agg #[.int .i64 a1_0, .string a1_1], .int .i64 t1115] rfl (by (try simp only [List.map_toArray, List.map_cons, List.map_nil]); first | done | rfl | (simp only [List.length_drop, List.length_take]; rfl)) ?_; (with_reducible refine (laws_szSigns.calls a1_0 a1_1 t1115 t1116 _ A10.out).mono ?_); rintro e w18 ⟨rfl, hb⟩; refine ⟨_, rfl, ?_⟩; have n0_ := Aside0.mk (blk_below (g := gb1113) (o := .cells #[.int .i64 a0_0, .string a0_1] 28 (0, 0)) (by (with_reducible repeat (first | refine blk_drewN ?_ _ | refine blk_drew ?_ | refine blk_alloc ?_ _)); exact BK1113.out) hb); have n1_ := Aside0.mk (blk_below (g := gb1114) (o := .cells #[.int .i64 a1_0, .string a1_1] 28 (0, 0)) (by (with_reducible repeat (first | refine blk_drewN ?_ _ | refine blk_drew ?_ | refine blk_alloc ?_ _)); exact BK1114.out) hb); have n2_ := Aside0.mk (below_step (by repeat (first | (with_reducible first | exact HB.out | apply below_alloc | apply pw_below_drewN | apply below_drew1 | refine below_set ?_ GE1113.out | refine below_set ?_ GE1114.out) | exact HB.out)) hb); clear BK1113; clear BK1114; clear HB; have BK1113 := n0_; have BK1114 := n1_; have HB := n2_; clear n0_ n1_ n2_; (try clear hb); (try clear hb2); (try clear hk); (try clear hi)))
      go_ret
      exact ⟨by first | rfl | (simp [errW_none, errW_some] <;> rfl) | (simp [*, errW_none, errW_some] <;> rfl), by repeat (first | (with_reducible first | exact HB.out | apply below_alloc | apply pw_below_drewN | apply below_drew1 | refine below_set ?_ GE1113.out | refine below_set ?_ GE1114.out) | exact HB.out)⟩
    · rw [if_neg c11] at H
      have c11b0 : decide (t1116 < 0) = false := decide_eq_false c11
      clear c11
      replace H := Option.bind_eq_some_iff.mp H
      obtain ⟨⟨t1117, t1118⟩, A190, H⟩ := H
      replace H : ((laws_toSigns.f a1_0 a1_1).bind fun bt1119 => ((spec_MutationPath.f k t1117 t1118 bt1119.1 bt1119.2).bind fun t1121 => ((laws_toSigns.f a0_0 a0_1).bind fun bt1124 => ((laws_toSigns.f a1_0 a1_1).bind fun bt1126 => ((impl_MutationPath.f k bt1124.1 bt1124.2 bt1126.1 bt1126.2).bind fun t1128 => ((laws_eqIntSS.f k t1128 t1121).bind fun t1131 => (if t1131 = true then ((laws_markIntSS.f k t1128 1).bind fun bm_ => (if t1128.length = bm_.2.length then ((laws_heldIntSS.f k bm_.2 1).bind fun t1133 => (if t1133 < 0 then none else (if t1133 = bm_.1 then ((laws_toSigns.f a0_0 a0_1).bind fun bt1134 => ((laws_toSigns.f a1_0 a1_1).bind fun bt1136 => ((impl_MutationPath.f k bt1134.1 bt1134.2 bt1136.1 bt1136.2).bind fun t1138 => ((laws_eqIntSS.f k t1138 t1121).bind fun t1141 => (if t1141 = true then ((laws_heldIntSS.f k bm_.2 1).bind fun t1142 => (if t1142 < 0 then none else (if t1142 = bm_.1 then (some true) else none))) else none))))) else none))) else none)) else none))))))) = some r := H
      have A19 := Aside0.mk A190
      clear A190
      replace H := Option.bind_eq_some_iff.mp H
      obtain ⟨⟨t1119, t1120⟩, A200, H⟩ := H
      replace H : ((spec_MutationPath.f k t1117 t1118 t1119 t1120).bind fun t1121 => ((laws_toSigns.f a0_0 a0_1).bind fun bt1124 => ((laws_toSigns.f a1_0 a1_1).bind fun bt1126 => ((impl_MutationPath.f k bt1124.1 bt1124.2 bt1126.1 bt1126.2).bind fun t1128 => ((laws_eqIntSS.f k t1128 t1121).bind fun t1131 => (if t1131 = true then ((laws_markIntSS.f k t1128 1).bind fun bm_ => (if t1128.length = bm_.2.length then ((laws_heldIntSS.f k bm_.2 1).bind fun t1133 => (if t1133 < 0 then none else (if t1133 = bm_.1 then ((laws_toSigns.f a0_0 a0_1).bind fun bt1134 => ((laws_toSigns.f a1_0 a1_1).bind fun bt1136 => ((impl_MutationPath.f k bt1134.1 bt1134.2 bt1136.1 bt1136.2).bind fun t1138 => ((laws_eqIntSS.f k t1138 t1121).bind fun t1141 => (if t1141 = true then ((laws_heldIntSS.f k bm_.2 1).bind fun t1142 => (if t1142 < 0 then none else (if t1142 = bm_.1 then (some true) else none))) else none))))) else none))) else none)) else none)))))) = some r := H
      have A20 := Aside0.mk A200
      clear A200
      replace H := Option.bind_eq_some_iff.mp H
      obtain ⟨t1121, A210, H⟩ := H
      replace H : ((laws_toSigns.f a0_0 a0_1).bind fun bt1124 => ((laws_toSigns.f a1_0 a1_1).bind fun bt1126 => ((impl_MutationPath.f k bt1124.1 bt1124.2 bt1126.1 bt1126.2).bind fun t1128 => ((laws_eqIntSS.f k t1128 t1121).bind fun t1131 => (if t1131 = true then ((laws_markIntSS.f k t1128 1).bind fun bm_ => (if t1128.length = bm_.2.length then ((laws_heldIntSS.f k bm_.2 1).bind fun t1133 => (if t1133 < 0 then none else (if t1133 = bm_.1 then ((laws_toSigns.f a0_0 a0_1).bind fun bt1134 => ((laws_toSigns.f a1_0 a1_1).bind fun bt1136 => ((impl_MutationPath.f k bt1134.1 bt1134.2 bt1136.1 bt1136.2).bind fun t1138 => ((laws_eqIntSS.f k t1138 t1121).bind fun t1141 => (if t1141 = true then ((laws_heldIntSS.f k bm_.2 1).bind fun t1142 => (if t1142 < 0 then none else (if t1142 = bm_.1 then (some true) else none))) else none))))) else none))) else none)) else none))))) = some r := H
      have A21 := Aside0.mk A210
      clear A210
      replace H := Option.bind_eq_some_iff.mp H
      obtain ⟨⟨t1124, t1125⟩, A220, H⟩ := H
      replace H : ((laws_toSigns.f a1_0 a1_1).bind fun bt1126 => ((impl_MutationPath.f k t1124 t1125 bt1126.1 bt1126.2).bind fun t1128 => ((laws_eqIntSS.f k t1128 t1121).bind fun t1131 => (if t1131 = true then ((laws_markIntSS.f k t1128 1).bind fun bm_ => (if t1128.length = bm_.2.length then ((laws_heldIntSS.f k bm_.2 1).bind fun t1133 => (if t1133 < 0 then none else (if t1133 = bm_.1 then ((laws_toSigns.f a0_0 a0_1).bind fun bt1134 => ((laws_toSigns.f a1_0 a1_1).bind fun bt1136 => ((impl_MutationPath.f k bt1134.1 bt1134.2 bt1136.1 bt1136.2).bind fun t1138 => ((laws_eqIntSS.f k t1138 t1121).bind fun t1141 => (if t1141 = true then ((laws_heldIntSS.f k bm_.2 1).bind fun t1142 => (if t1142 < 0 then none else (if t1142 = bm_.1 then (some true) else none))) else none))))) else none))) else none)) else none)))) = some r := H
      have A22 := Aside0.mk A220
      clear A220
      replace H := Option.bind_eq_some_iff.mp H
      obtain ⟨⟨t1126, t1127⟩, A230, H⟩ := H
      replace H : ((impl_MutationPath.f k t1124 t1125 t1126 t1127).bind fun t1128 => ((laws_eqIntSS.f k t1128 t1121).bind fun t1131 => (if t1131 = true then ((laws_markIntSS.f k t1128 1).bind fun bm_ => (if t1128.length = bm_.2.length then ((laws_heldIntSS.f k bm_.2 1).bind fun t1133 => (if t1133 < 0 then none else (if t1133 = bm_.1 then ((laws_toSigns.f a0_0 a0_1).bind fun bt1134 => ((laws_toSigns.f a1_0 a1_1).bind fun bt1136 => ((impl_MutationPath.f k bt1134.1 bt1134.2 bt1136.1 bt1136.2).bind fun t1138 => ((laws_eqIntSS.f k t1138 t1121).bind fun t1141 => (if t1141 = true then ((laws_heldIntSS.f k bm_.2 1).bind fun t1142 => (if t1142 < 0 then none else (if t1142 = bm_.1 then (some true) else none))) else none))))) else none))) else none)) else none))) = some r := H
      have A23 := Aside0.mk A230
      clear A230
      replace H := Option.bind_eq_some_iff.mp H
      obtain ⟨t1128, A240, H⟩ := H
      replace H : ((laws_eqIntSS.f k t1128 t1121).bind fun t1131 => (if t1131 = true then ((laws_markIntSS.f k t1128 1).bind fun bm_ => (if t1128.length = bm_.2.length then ((laws_heldIntSS.f k bm_.2 1).bind fun t1133 => (if t1133 < 0 then none else (if t1133 = bm_.1 then ((laws_toSigns.f a0_0 a0_1).bind fun bt1134 => ((laws_toSigns.f a1_0 a1_1).bind fun bt1136 => ((impl_MutationPath.f k bt1134.1 bt1134.2 bt1136.1 bt1136.2).bind fun t1138 => ((laws_eqIntSS.f k t1138 t1121).bind fun t1141 => (if t1141 = true then ((laws_heldIntSS.f k bm_.2 1).bind fun t1142 => (if t1142 < 0 then none else (if t1142 = bm_.1 then (some true) else none))) else none))))) else none))) else none)) else none)) = some r := H
      have A24 := Aside0.mk A240
      clear A240
      replace H := Option.bind_eq_some_iff.mp H
      obtain ⟨t1131, A250, H⟩ := H
      replace H : (if t1131 = true then ((laws_markIntSS.f k t1128 1).bind fun bm_ => (if t1128.length = bm_.2.length then ((laws_heldIntSS.f k bm_.2 1).bind fun t1133 => (if t1133 < 0 then none else (if t1133 = bm_.1 then ((laws_toSigns.f a0_0 a0_1).bind fun bt1134 => ((laws_toSigns.f a1_0 a1_1).bind fun bt1136 => ((impl_MutationPath.f k bt1134.1 bt1134.2 bt1136.1 bt1136.2).bind fun t1138 => ((laws_eqIntSS.f k t1138 t1121).bind fun t1141 => (if t1141 = true then ((laws_heldIntSS.f k bm_.2 1).bind fun t1142 => (if t1142 < 0 then none else (if t1142 = bm_.1 then (some true) else none))) else none))))) else none))) else none)) else none) = some r := H
      have A25 := Aside0.mk A250
      clear A250
      by_cases c26 : t1131 = true
      · subst c26
        have H1 : ((laws_markIntSS.f k t1128 1).bind fun bm_ => (if t1128.length = bm_.2.length then ((laws_heldIntSS.f k bm_.2 1).bind fun t1133 => (if t1133 < 0 then none else (if t1133 = bm_.1 then ((laws_toSigns.f a0_0 a0_1).bind fun bt1134 => ((laws_toSigns.f a1_0 a1_1).bind fun bt1136 => ((impl_MutationPath.f k bt1134.1 bt1134.2 bt1136.1 bt1136.2).bind fun t1138 => ((laws_eqIntSS.f k t1138 t1121).bind fun t1141 => (if t1141 = true then ((laws_heldIntSS.f k bm_.2 1).bind fun t1142 => (if t1142 < 0 then none else (if t1142 = bm_.1 then (some true) else none))) else none))))) else none))) else none)) = some r := by rw [if_pos rfl] at H; exact H
        clear H
        have H := H1
        clear H1
        replace H := Option.bind_eq_some_iff.mp H
        obtain ⟨⟨t1132, tM_⟩, A270, H⟩ := H
        replace H : (if t1128.length = tM_.length then ((laws_heldIntSS.f k tM_ 1).bind fun t1133 => (if t1133 < 0 then none else (if t1133 = t1132 then ((laws_toSigns.f a0_0 a0_1).bind fun bt1134 => ((laws_toSigns.f a1_0 a1_1).bind fun bt1136 => ((impl_MutationPath.f k bt1134.1 bt1134.2 bt1136.1 bt1136.2).bind fun t1138 => ((laws_eqIntSS.f k t1138 t1121).bind fun t1141 => (if t1141 = true then ((laws_heldIntSS.f k tM_ 1).bind fun t1142 => (if t1142 < 0 then none else (if t1142 = t1132 then (some true) else none))) else none))))) else none))) else none) = some r := H
        by_cases cL : t1128.length = tM_.length
        case neg => rw [if_neg cL] at H; cases H
        rw [if_pos cL] at H
        have HLN := Aside0.mk cL
        clear cL
        replace H : ((laws_heldIntSS.f k tM_ 1).bind fun t1133 => (if t1133 < 0 then none else (if t1133 = t1132 then ((laws_toSigns.f a0_0 a0_1).bind fun bt1134 => ((laws_toSigns.f a1_0 a1_1).bind fun bt1136 => ((impl_MutationPath.f k bt1134.1 bt1134.2 bt1136.1 bt1136.2).bind fun t1138 => ((laws_eqIntSS.f k t1138 t1121).bind fun t1141 => (if t1141 = true then ((laws_heldIntSS.f k tM_ 1).bind fun t1142 => (if t1142 < 0 then none else (if t1142 = t1132 then (some true) else none))) else none))))) else none))) = some r := H
        have A27 := Aside0.mk A270
        clear A270
        replace H := Option.bind_eq_some_iff.mp H
        obtain ⟨t1133, A280, H⟩ := H
        replace H : (if t1133 < 0 then none else (if t1133 = t1132 then ((laws_toSigns.f a0_0 a0_1).bind fun bt1134 => ((laws_toSigns.f a1_0 a1_1).bind fun bt1136 => ((impl_MutationPath.f k bt1134.1 bt1134.2 bt1136.1 bt1136.2).bind fun t1138 => ((laws_eqIntSS.f k t1138 t1121).bind fun t1141 => (if t1141 = true then ((laws_heldIntSS.f k tM_ 1).bind fun t1142 => (if t1142 < 0 then none else (if t1142 = t1132 then (some true) else none))) else none))))) else none)) = some r := H
        have A28 := Aside0.mk A280
        clear A280
        by_cases c29 : t1133 < 0
        · rw [if_pos c29] at H
          cases H
        · rw [if_neg c29] at H
          have c29b0 : decide (t1133 < 0) = false := decide_eq_false c29
          clear c29
          by_cases c47 : t1133 = t1132
          · rw [if_pos c47] at H
            have c47b0 : (t1133 == t1132) = true := beq_iff_eq.mpr c47
            have c47b1 : (t1133 != t1132) = false := bne_eq_false_iff_eq.mpr c47
            clear c47
            replace H := Option.bind_eq_some_iff.mp H
            obtain ⟨⟨t1134, t1135⟩, A480, H⟩ := H
            replace H : ((laws_toSigns.f a1_0 a1_1).bind fun bt1136 => ((impl_MutationPath.f k t1134 t1135 bt1136.1 bt1136.2).bind fun t1138 => ((laws_eqIntSS.f k t1138 t1121).bind fun t1141 => (if t1141 = true then ((laws_heldIntSS.f k tM_ 1).bind fun t1142 => (if t1142 < 0 then none else (if t1142 = t1132 then (some true) else none))) else none)))) = some r := H
            have A48 := Aside0.mk A480
            clear A480
            replace H := Option.bind_eq_some_iff.mp H
            obtain ⟨⟨t1136, t1137⟩, A490, H⟩ := H
            replace H : ((impl_MutationPath.f k t1134 t1135 t1136 t1137).bind fun t1138 => ((laws_eqIntSS.f k t1138 t1121).bind fun t1141 => (if t1141 = true then ((laws_heldIntSS.f k tM_ 1).bind fun t1142 => (if t1142 < 0 then none else (if t1142 = t1132 then (some true) else none))) else none))) = some r := H
            have A49 := Aside0.mk A490
            clear A490
            replace H := Option.bind_eq_some_iff.mp H
            obtain ⟨t1138, A500, H⟩ := H
            replace H : ((laws_eqIntSS.f k t1138 t1121).bind fun t1141 => (if t1141 = true then ((laws_heldIntSS.f k tM_ 1).bind fun t1142 => (if t1142 < 0 then none else (if t1142 = t1132 then (some true) else none))) else none)) = some r := H
            have A50 := Aside0.mk A500
            clear A500
            replace H := Option.bind_eq_some_iff.mp H
            obtain ⟨t1141, A510, H⟩ := H
            replace H : (if t1141 = true then ((laws_heldIntSS.f k tM_ 1).bind fun t1142 => (if t1142 < 0 then none else (if t1142 = t1132 then (some true) else none))) else none) = some r := H
            have A51 := Aside0.mk A510
            clear A510
            by_cases c52 : t1141 = true
            · subst c52
              have H1 : ((laws_heldIntSS.f k tM_ 1).bind fun t1142 => (if t1142 < 0 then none else (if t1142 = t1132 then (some true) else none))) = some r := by rw [if_pos rfl] at H; exact H
              clear H
              have H := H1
              clear H1
              replace H := Option.bind_eq_some_iff.mp H
              obtain ⟨t1142, A530, H⟩ := H
              replace H : (if t1142 < 0 then none else (if t1142 = t1132 then (some true) else none)) = some r := H
              have A53 := Aside0.mk A530
              clear A530
              by_cases c54 : t1142 < 0
              · rw [if_pos c54] at H
                cases H
              · rw [if_neg c54] at H
                have c54b0 : decide (t1142 < 0) = false := decide_eq_false c54
                clear c54
                by_cases c77 : t1142 = t1132
                · rw [if_pos c77] at H
                  have c77b0 : (t1142 == t1132) = true := beq_iff_eq.mpr c77
                  have c77b1 : (t1142 != t1132) = false := bne_eq_false_iff_eq.mpr c77
                  clear c77
                  obtain rfl := Option.some.inj H
                  go_enter Try.func7, Try.ntmps7
                  try go_wp2_with (first | ((with_reducible refine gate_dst (N := 2) rfl ?_); refine box_event ?hg (N := 2) ?hd (cs := #[.int .i64 a0_0, .string a0_1]) (t := 28) ?hr ?_; (case hd => rfl); (case hg => rfl); (case hr => first | (go_simp; done) | (go_simp; rfl)); intro gb1113 hg w78 hbox hb; have n0_ := Aside0.mk (below_step (by repeat (first | (with_reducible first | exact HB.out | apply below_alloc | apply pw_below_drewN | apply below_drew1) | exact HB.out)) hb); have n1_ := Aside0.mk (hbox); have n2_ := Aside0.mk ((by rw [hg]; exact (below_size (by repeat (first | (with_reducible first | exact HB.out | apply below_alloc | apply pw_below_drewN | apply below_drew1) | exact HB.out))) : w.heap.size ≤ gb1113)); have n3_ := Aside0.mk ((by rw [hg]; exact (below_size (by repeat (first | (with_reducible first | exact HB.out | apply below_alloc | apply pw_below_drewN | apply below_drew1) | exact HB.out))) : w.heap.size ≤ gb1113)); clear HB; have HB := n0_; have BK1113 := n1_; have GW1113 := n2_; have GE1113 := n3_; clear n0_ n1_ n2_ n3_; clear hb hbox hg) | ((with_reducible refine gate_dst (N := 3) rfl ?_); refine box_event ?hg (N := 3) ?hd (cs := #[.int .i64 a1_0, .string a1_1]) (t := 28) ?hr ?_; (case hd => rfl); (case hg => rfl); (case hr => first | (go_simp; done) | (go_simp; rfl)); intro gb1114 hg w79 hbox hb; have n0_ := Aside0.mk (blk_below (g := gb1113) (o := .cells #[.int .i64 a0_0, .string a0_1] 28 (0, 0)) (by (with_reducible repeat (first | refine blk_drewN ?_ _ | refine blk_drew ?_ | refine blk_alloc ?_ _)); exact BK1113.out) hb); have n1_ := Aside0.mk (below_step (by repeat (first | (with_reducible first | exact HB.out | apply below_alloc | apply pw_below_drewN | apply below_drew1 | refine below_set ?_ GE1113.out) | exact HB.out)) hb); have n2_ := Aside0.mk (hbox); have n3_ := Aside0.mk ((by rw [hg]; exact (below_size (by repeat (first | (with_reducible first | exact HB.out | apply below_alloc | apply pw_below_drewN | apply below_drew1 | refine below_set ?_ GE1113.out) | exact HB.out))) : w.heap.size ≤ gb1114)); have n4_ := Aside0.mk ((by rw [hg]; exact (below_size (by repeat (first | (with_reducible first | exact HB.out | apply below_alloc | apply pw_below_drewN | apply below_drew1 | refine below_set ?_ GE1113.out) | exact HB.out))) : w.heap.size ≤ gb1114)); have n5_ := Aside0.mk ((by rw [hg]; exact Nat.ne_of_lt (blk_lt (g := gb1113) (o := .cells #[.int .i64 a0_0, .string a0_1] 28 (0, 0)) (by (with_reducible repeat (first | refine blk_drewN ?_ _ | refine blk_drew ?_ | refine blk_alloc ?_ _)); exact BK1113.out)) : gb1113 ≠ gb1114)); have n6_ := Aside0.mk ((by rw [hg]; exact Nat.ne_of_gt (blk_lt (g := gb1113) (o := .cells #[.int .i64 a0_0, .string a0_1] 28 (0, 0)) (by (with_reducible repeat (first | refine blk_drewN ?_ _ | refine blk_drew ?_ | refine blk_alloc ?_ _)); exact BK1113.out)) : gb1114 ≠ gb1113)); clear BK1113; clear HB; have BK1113 := n0_; have HB := n1_; have BK1114 := n2_; have GW1114 := n3_; have GE1114 := n4_; have NB1113_1114 := n5_; have NB1114_1113 := n6_; clear n0_ n1_ n2_ n3_ n4_ n5_ n6_; clear hb hbox hg; have hnb80 := NB1113_1114.out; have hnc80 := NB1114_1113.out; have hcz81_0 : w79.cell? ⟨gb1113, 0, none⟩ = some (.int .i64 a0_0) := (blk_cell BK1113.out 0).trans rfl; have hcz81_1 : w79.cell? ⟨gb1113, 1, none⟩ = some (.string a0_1) := (blk_cell BK1113.out 1).trans rfl; have hfz81_0 := blk_frozen BK1113.out 0; have hfz81_1 := blk_frozen BK1113.out 1) | ((with_reducible refine gate_callee (f := 16) rfl ?_); refine goesL_ (some 13) rfl rfl Try.func16 (by kernel_rfl) rfl #[.agg #[.int .i64 a0_0, .string a0_1], .int .i64 1048576] rfl (by (try simp only [List.map_toArray, List.map_cons, List.map_nil]); first | done | rfl | (simp only [List.length_drop, List.length_take]; rfl)) ?_; (with_reducible refine (laws_szSigns.calls a0_0 a0_1 1048576 t1115 _ A3.out).mono ?_); rintro e w82 ⟨rfl, hb⟩; refine ⟨_, rfl, ?_⟩; have n0_ := Aside0.mk (blk_below (g := gb1113) (o := .cells #[.int .i64 a0_0, .string a0_1] 28 (0, 0)) (by (with_reducible repeat (first | refine blk_drewN ?_ _ | refine blk_drew ?_ | refine blk_alloc ?_ _)); exact BK1113.out) hb); have n1_ := Aside0.mk (blk_below (g := gb1114) (o := .cells #[.int .i64 a1_0, .string a1_1] 28 (0, 0)) (by (with_reducible repeat (first | refine blk_drewN ?_ _ | refine blk_drew ?_ | refine blk_alloc ?_ _)); exact BK1114.out) hb); have n2_ := Aside0.mk (below_step (by repeat (first | (with_reducible first | exact HB.out | apply below_alloc | apply pw_below_drewN | apply below_drew1 | refine below_set ?_ GE1113.out | refine below_set ?_ GE1114.out) | exact HB.out)) hb); clear BK1113; clear BK1114; clear HB; have BK1113 := n0_; have BK1114 := n1_; have HB := n2_; clear n0_ n1_ n2_; (try clear hb); (try clear hb2); (try clear hk); (try clear hi); have hcz83_0 : w82.cell? ⟨gb1114, 0, none⟩ = some (.int .i64 a1_0) := (blk_cell BK1114.out 0).trans rfl; have hcz83_1 : w82.cell? ⟨gb1114, 1, none⟩ = some (.string a1_1) := (blk_cell BK1114.out 1).trans rfl; have hfz83_0 := blk_frozen BK1114.out 0; have hfz83_1 := blk_frozen BK1114.out 1) | ((with_reducible refine gate_callee (f := 16) rfl ?_); refine goesL_ (some 18) rfl rfl Try.func16 (by kernel_rfl) rfl #[.agg #[.int .i64 a1_0, .string a1_1], .int .i64 t1115] rfl (by (try simp only [List.map_toArray, List.map_cons, List.map_nil]); first | done | rfl | (simp only [List.length_drop, List.length_take]; rfl)) ?_; (with_reducible refine (laws_szSigns.calls a1_0 a1_1 t1115 t1116 _ A10.out).mono ?_); rintro e w84 ⟨rfl, hb⟩; refine ⟨_, rfl, ?_⟩; have n0_ := Aside0.mk (blk_below (g := gb1113) (o := .cells #[.int .i64 a0_0, .string a0_1] 28 (0, 0)) (by (with_reducible repeat (first | refine blk_drewN ?_ _ | refine blk_drew ?_ | refine blk_alloc ?_ _)); exact BK1113.out) hb); have n1_ := Aside0.mk (blk_below (g := gb1114) (o := .cells #[.int .i64 a1_0, .string a1_1] 28 (0, 0)) (by (with_reducible repeat (first | refine blk_drewN ?_ _ | refine blk_drew ?_ | refine blk_alloc ?_ _)); exact BK1114.out) hb); have n2_ := Aside0.mk (below_step (by repeat (first | (with_reducible first | exact HB.out | apply below_alloc | apply pw_below_drewN | apply below_drew1 | refine below_set ?_ GE1113.out | refine below_set ?_ GE1114.out) | exact HB.out)) hb); clear BK1113; clear BK1114; clear HB; have BK1113 := n0_; have BK1114 := n1_; have HB := n2_; clear n0_ n1_ n2_; (try clear hb); (try clear hb2); (try clear hk); (try clear hi)))
                  have n0_ := Aside0.mk (blk_drew BK1113.out)
                  have n1_ := Aside0.mk (blk_drew BK1114.out)
                  have n2_ := Aside0.mk (below_drew1 HB.out)
                  clear BK1113
                  clear BK1114
                  clear HB
                  have BK1113 := n0_
                  have BK1114 := n1_
                  have HB := n2_
                  clear n0_ n1_ n2_
                  refine start_ (n := 6) (S := fun w' => w'.cell? ⟨gb1113, 0, none⟩ = some (.int .i64 a0_0) ∧ w'.cell? ⟨gb1113, 1, none⟩ = some (.string a0_1) ∧ w'.cell? ⟨gb1114, 0, none⟩ = some (.int .i64 a1_0) ∧ w'.cell? ⟨gb1114, 1, none⟩ = some (.string a1_1)) (ds := []) #[false, false, false, false, false, false] (by kernel_rfl) rfl rfl ⟨(blk_cell BK1113.out 0).trans rfl, (blk_cell BK1113.out 1).trans rfl, (blk_cell BK1114.out 0).trans rfl, (blk_cell BK1114.out 1).trans rfl⟩ (fun hHeld => ?_)
                  generalize w84.drew = w85 at BK1113 BK1114 HB hHeld ⊢
                  refine take_ (i := 0) (N := some 21) (v := ?_) (a' := ?_) #[true, false, false, false, false, false] rfl rfl (by kernel_rfl) (fun _ _ _ h => h) (Or.inl ⟨by rfl, ?_⟩) hHeld ?_ ?_
                  rotate_left
                  · rintro w' ⟨s0, s1, s2, s3⟩
                    go_simp
                    with_reducible rfl
                  rotate_left
                  · simp only [Act.put, List.setIfInBounds_toArray, List.set_cons_zero, List.set_cons_succ, i64_w, i32_w]
                    rfl
                  refine take_ (i := 2) (N := some 23) (v := ?_) (a' := ?_) #[true, false, true, false, false, false] rfl rfl (by kernel_rfl) (fun _ _ _ h => h) (Or.inl ⟨by rfl, ?_⟩) hHeld ?_ ?_
                  rotate_left
                  · rintro w' ⟨s0, s1, s2, s3⟩
                    go_simp
                    with_reducible rfl
                  rotate_left
                  · simp only [Act.put, List.setIfInBounds_toArray, List.set_cons_zero, List.set_cons_succ, i64_w, i32_w]
                    rfl
                  refine one_ (i := 1) (N := some 22) #[true, true, true, false, false, false] rfl rfl (by kernel_rfl) (by decide) (fun K hK => ?_)
                  refine goes_ Try.func18 (by kernel_rfl) rfl #[.agg #[.int .i64 a0_0, .string a0_1]] (by rfl) rfl rfl (by (try simp only [List.map_toArray, List.map_cons, List.map_nil]); first | done | rfl | (simp only [List.length_drop, List.length_take]; rfl)) ?_
                  with_reducible refine (laws_toSigns.calls a0_0 a0_1 t1117 t1118 _ A19.out).mono ?_
                  rintro e w86 ⟨rfl, hb⟩
                  refine ⟨_, rfl, ?_⟩
                  have n0_ := Aside0.mk (blk_below (g := gb1113) (o := .cells #[.int .i64 a0_0, .string a0_1] 28 (0, 0)) (by (with_reducible repeat (first | refine blk_drewN ?_ _ | refine blk_drew ?_ | refine blk_alloc ?_ _)); exact BK1113.out) hb)
                  have n1_ := Aside0.mk (blk_below (g := gb1114) (o := .cells #[.int .i64 a1_0, .string a1_1] 28 (0, 0)) (by (with_reducible repeat (first | refine blk_drewN ?_ _ | refine blk_drew ?_ | refine blk_alloc ?_ _)); exact BK1114.out) hb)
                  have n2_ := Aside0.mk (below_step (by repeat (first | (with_reducible first | exact HB.out | apply below_alloc | apply pw_below_drewN | apply below_drew1 | refine below_set ?_ GE1113.out | refine below_set ?_ GE1114.out) | exact HB.out)) hb)
                  clear BK1113
                  clear BK1114
                  clear HB
                  have BK1113 := n0_
                  have BK1114 := n1_
                  have HB := n2_
                  clear n0_ n1_ n2_
                  (try clear hb)
                  (try clear hb2)
                  (try clear hk)
                  (try clear hi)
                  refine hK.out _ _ ⟨(blk_cell BK1113.out 0).trans rfl, (blk_cell BK1113.out 1).trans rfl, (blk_cell BK1114.out 0).trans rfl, (blk_cell BK1114.out 1).trans rfl⟩ (fun hHeld => ?_)
                  clear hK K
                  refine norm_ (a' := ?_) ?_ ?_
                  rotate_left
                  · show Act.put _ (some 22) _ = _
                    simp only [Act.put, List.setIfInBounds_toArray, List.set_cons_zero, List.set_cons_succ, i64_w, i32_w]
                    rfl
                  refine one_ (i := 3) (N := some 24) #[true, true, true, true, false, false] rfl rfl (by kernel_rfl) (by decide) (fun K hK => ?_)
                  refine goes_ Try.func18 (by kernel_rfl) rfl #[.agg #[.int .i64 a1_0, .string a1_1]] (by rfl) rfl rfl (by (try simp only [List.map_toArray, List.map_cons, List.map_nil]); first | done | rfl | (simp only [List.length_drop, List.length_take]; rfl)) ?_
                  with_reducible refine (laws_toSigns.calls a1_0 a1_1 t1119 t1120 _ A20.out).mono ?_
                  rintro e w87 ⟨rfl, hb⟩
                  refine ⟨_, rfl, ?_⟩
                  have n0_ := Aside0.mk (blk_below (g := gb1113) (o := .cells #[.int .i64 a0_0, .string a0_1] 28 (0, 0)) (by (with_reducible repeat (first | refine blk_drewN ?_ _ | refine blk_drew ?_ | refine blk_alloc ?_ _)); exact BK1113.out) hb)
                  have n1_ := Aside0.mk (blk_below (g := gb1114) (o := .cells #[.int .i64 a1_0, .string a1_1] 28 (0, 0)) (by (with_reducible repeat (first | refine blk_drewN ?_ _ | refine blk_drew ?_ | refine blk_alloc ?_ _)); exact BK1114.out) hb)
                  have n2_ := Aside0.mk (below_step (by repeat (first | (with_reducible first | exact HB.out | apply below_alloc | apply pw_below_drewN | apply below_drew1 | refine below_set ?_ GE1113.out | refine below_set ?_ GE1114.out) | exact HB.out)) hb)
                  clear BK1113
                  clear BK1114
                  clear HB
                  have BK1113 := n0_
                  have BK1114 := n1_
                  have HB := n2_
                  clear n0_ n1_ n2_
                  (try clear hb)
                  (try clear hb2)
                  (try clear hk)
                  (try clear hi)
                  refine hK.out _ _ ⟨(blk_cell BK1113.out 0).trans rfl, (blk_cell BK1113.out 1).trans rfl, (blk_cell BK1114.out 0).trans rfl, (blk_cell BK1114.out 1).trans rfl⟩ (fun hHeld => ?_)
                  clear hK K
                  refine norm_ (a' := ?_) ?_ ?_
                  rotate_left
                  · show Act.put _ (some 24) _ = _
                    simp only [Act.put, List.setIfInBounds_toArray, List.set_cons_zero, List.set_cons_succ, i64_w, i32_w]
                    rfl
                  refine one_ (i := 4) (N := some 25) #[true, true, true, true, true, false] rfl rfl (by kernel_rfl) (by decide) (fun K hK => ?_)
                  refine goes_ Try.func30 (by kernel_rfl) rfl #[.agg #[.int .i64 t1117, .string t1118], .agg #[.int .i64 t1119, .string t1120]] (by rfl) rfl rfl (by (try simp only [List.map_toArray, List.map_cons, List.map_nil]); first | done | rfl | (simp only [List.length_drop, List.length_take]; rfl)) ?_
                  with_reducible refine (spec_MutationPath.calls k t1117 t1118 t1119 t1120 t1121 _ A21.out).mono ?_
                  rintro e w88 ⟨v1122, rfl, ho0, hb⟩
                  refine ⟨_, rfl, ?_⟩
                  have n0_ := Aside0.mk (Kd.S_lower ho0 (below_size (by repeat (first | (with_reducible first | exact HB.out | apply below_alloc | apply pw_below_drewN | apply below_drew1 | refine below_set ?_ GE1113.out | refine below_set ?_ GE1114.out) | exact HB.out))))
                  have n1_ := Aside0.mk (blk_below (g := gb1113) (o := .cells #[.int .i64 a0_0, .string a0_1] 28 (0, 0)) (by (with_reducible repeat (first | refine blk_drewN ?_ _ | refine blk_drew ?_ | refine blk_alloc ?_ _)); exact BK1113.out) hb)
                  have n2_ := Aside0.mk (blk_below (g := gb1114) (o := .cells #[.int .i64 a1_0, .string a1_1] 28 (0, 0)) (by (with_reducible repeat (first | refine blk_drewN ?_ _ | refine blk_drew ?_ | refine blk_alloc ?_ _)); exact BK1114.out) hb)
                  have n3_ := Aside0.mk (below_step (by repeat (first | (with_reducible first | exact HB.out | apply below_alloc | apply pw_below_drewN | apply below_drew1 | refine below_set ?_ GE1113.out | refine below_set ?_ GE1114.out) | exact HB.out)) hb)
                  clear BK1113
                  clear BK1114
                  clear HB
                  have HO1123 := n0_
                  have BK1113 := n1_
                  have BK1114 := n2_
                  have HB := n3_
                  clear n0_ n1_ n2_ n3_
                  (try clear hb)
                  (try clear hb2)
                  (try clear hk)
                  (try clear hi)
                  (try clear ho0)
                  refine hK.out _ _ ⟨(blk_cell BK1113.out 0).trans rfl, (blk_cell BK1113.out 1).trans rfl, (blk_cell BK1114.out 0).trans rfl, (blk_cell BK1114.out 1).trans rfl⟩ (fun hHeld => ?_)
                  clear hK K
                  refine norm_ (a' := ?_) ?_ ?_
                  rotate_left
                  · show Act.put _ (some 25) _ = _
                    simp only [Act.put, List.setIfInBounds_toArray, List.set_cons_zero, List.set_cons_succ, i64_w, i32_w]
                    rfl
                  refine pure_ (i := 5) (N := some 6) (v := ?_) (a' := ?_) #[true, true, true, true, true, true] rfl rfl (by kernel_rfl) (fun _ _ _ h => h) (Or.inl ⟨by rfl, ?_⟩) ?_ ?_
                  rotate_left
                  · intro w'
                    go_simp
                    with_reducible rfl
                  rotate_left
                  · simp only [Act.put, List.setIfInBounds_toArray, List.set_cons_zero, List.set_cons_succ, i64_w, i32_w]
                    rfl
                  refine done_ (by kernel_rfl) ?_
                  try go_wp2
                  have n0_ := Aside0.mk (Kd.S_drew HO1123.out)
                  have n1_ := Aside0.mk (blk_drew BK1113.out)
                  have n2_ := Aside0.mk (blk_drew BK1114.out)
                  have n3_ := Aside0.mk (below_drew1 HB.out)
                  clear HO1123
                  clear BK1113
                  clear BK1114
                  clear HB
                  have HO1123 := n0_
                  have BK1113 := n1_
                  have BK1114 := n2_
                  have HB := n3_
                  clear n0_ n1_ n2_ n3_
                  refine start_ (n := 6) (S := fun w' => w'.cell? ⟨gb1113, 0, none⟩ = some (.int .i64 a0_0) ∧ w'.cell? ⟨gb1113, 1, none⟩ = some (.string a0_1) ∧ w'.cell? ⟨gb1114, 0, none⟩ = some (.int .i64 a1_0) ∧ w'.cell? ⟨gb1114, 1, none⟩ = some (.string a1_1)) (ds := []) #[false, false, false, false, false, false] (by kernel_rfl) rfl rfl ⟨(blk_cell BK1113.out 0).trans rfl, (blk_cell BK1113.out 1).trans rfl, (blk_cell BK1114.out 0).trans rfl, (blk_cell BK1114.out 1).trans rfl⟩ (fun hHeld => ?_)
                  generalize w88.drew = w89 at HO1123 BK1113 BK1114 HB hHeld ⊢
                  refine take_ (i := 0) (N := some 26) (v := ?_) (a' := ?_) #[true, false, false, false, false, false] rfl rfl (by kernel_rfl) (fun _ _ _ h => h) (Or.inl ⟨by rfl, ?_⟩) hHeld ?_ ?_
                  rotate_left
                  · rintro w' ⟨s0, s1, s2, s3⟩
                    go_simp
                    with_reducible rfl
                  rotate_left
                  · simp only [Act.put, List.setIfInBounds_toArray, List.set_cons_zero, List.set_cons_succ, i64_w, i32_w]
                    rfl
                  refine take_ (i := 2) (N := some 28) (v := ?_) (a' := ?_) #[true, false, true, false, false, false] rfl rfl (by kernel_rfl) (fun _ _ _ h => h) (Or.inl ⟨by rfl, ?_⟩) hHeld ?_ ?_
                  rotate_left
                  · rintro w' ⟨s0, s1, s2, s3⟩
                    go_simp
                    with_reducible rfl
                  rotate_left
                  · simp only [Act.put, List.setIfInBounds_toArray, List.set_cons_zero, List.set_cons_succ, i64_w, i32_w]
                    rfl
                  refine one_ (i := 1) (N := some 27) #[true, true, true, false, false, false] rfl rfl (by kernel_rfl) (by decide) (fun K hK => ?_)
                  refine goes_ Try.func18 (by kernel_rfl) rfl #[.agg #[.int .i64 a0_0, .string a0_1]] (by rfl) rfl rfl (by (try simp only [List.map_toArray, List.map_cons, List.map_nil]); first | done | rfl | (simp only [List.length_drop, List.length_take]; rfl)) ?_
                  with_reducible refine (laws_toSigns.calls a0_0 a0_1 t1124 t1125 _ A22.out).mono ?_
                  rintro e w90 ⟨rfl, hb⟩
                  refine ⟨_, rfl, ?_⟩
                  have n0_ := Aside0.mk (Kd.S_below (by (with_reducible repeat (first | apply Kd.S_alloc | apply Kd.S_drewN | apply Kd.S_drew)); exact HO1123.out) hb)
                  have n1_ := Aside0.mk (blk_below (g := gb1113) (o := .cells #[.int .i64 a0_0, .string a0_1] 28 (0, 0)) (by (with_reducible repeat (first | refine blk_drewN ?_ _ | refine blk_drew ?_ | refine blk_alloc ?_ _)); exact BK1113.out) hb)
                  have n2_ := Aside0.mk (blk_below (g := gb1114) (o := .cells #[.int .i64 a1_0, .string a1_1] 28 (0, 0)) (by (with_reducible repeat (first | refine blk_drewN ?_ _ | refine blk_drew ?_ | refine blk_alloc ?_ _)); exact BK1114.out) hb)
                  have n3_ := Aside0.mk (below_step (by repeat (first | (with_reducible first | exact HB.out | apply below_alloc | apply pw_below_drewN | apply below_drew1 | refine below_set ?_ GE1113.out | refine below_set ?_ GE1114.out) | exact HB.out)) hb)
                  clear HO1123
                  clear BK1113
                  clear BK1114
                  clear HB
                  have HO1123 := n0_
                  have BK1113 := n1_
                  have BK1114 := n2_
                  have HB := n3_
                  clear n0_ n1_ n2_ n3_
                  (try clear hb)
                  (try clear hb2)
                  (try clear hk)
                  (try clear hi)
                  refine hK.out _ _ ⟨(blk_cell BK1113.out 0).trans rfl, (blk_cell BK1113.out 1).trans rfl, (blk_cell BK1114.out 0).trans rfl, (blk_cell BK1114.out 1).trans rfl⟩ (fun hHeld => ?_)
                  clear hK K
                  refine norm_ (a' := ?_) ?_ ?_
                  rotate_left
                  · show Act.put _ (some 27) _ = _
                    simp only [Act.put, List.setIfInBounds_toArray, List.set_cons_zero, List.set_cons_succ, i64_w, i32_w]
                    rfl
                  refine one_ (i := 3) (N := some 29) #[true, true, true, true, false, false] rfl rfl (by kernel_rfl) (by decide) (fun K hK => ?_)
                  refine goes_ Try.func18 (by kernel_rfl) rfl #[.agg #[.int .i64 a1_0, .string a1_1]] (by rfl) rfl rfl (by (try simp only [List.map_toArray, List.map_cons, List.map_nil]); first | done | rfl | (simp only [List.length_drop, List.length_take]; rfl)) ?_
                  with_reducible refine (laws_toSigns.calls a1_0 a1_1 t1126 t1127 _ A23.out).mono ?_
                  rintro e w91 ⟨rfl, hb⟩
                  refine ⟨_, rfl, ?_⟩
                  have n0_ := Aside0.mk (Kd.S_below (by (with_reducible repeat (first | apply Kd.S_alloc | apply Kd.S_drewN | apply Kd.S_drew)); exact HO1123.out) hb)
                  have n1_ := Aside0.mk (blk_below (g := gb1113) (o := .cells #[.int .i64 a0_0, .string a0_1] 28 (0, 0)) (by (with_reducible repeat (first | refine blk_drewN ?_ _ | refine blk_drew ?_ | refine blk_alloc ?_ _)); exact BK1113.out) hb)
                  have n2_ := Aside0.mk (blk_below (g := gb1114) (o := .cells #[.int .i64 a1_0, .string a1_1] 28 (0, 0)) (by (with_reducible repeat (first | refine blk_drewN ?_ _ | refine blk_drew ?_ | refine blk_alloc ?_ _)); exact BK1114.out) hb)
                  have n3_ := Aside0.mk (below_step (by repeat (first | (with_reducible first | exact HB.out | apply below_alloc | apply pw_below_drewN | apply below_drew1 | refine below_set ?_ GE1113.out | refine below_set ?_ GE1114.out) | exact HB.out)) hb)
                  clear HO1123
                  clear BK1113
                  clear BK1114
                  clear HB
                  have HO1123 := n0_
                  have BK1113 := n1_
                  have BK1114 := n2_
                  have HB := n3_
                  clear n0_ n1_ n2_ n3_
                  (try clear hb)
                  (try clear hb2)
                  (try clear hk)
                  (try clear hi)
                  refine hK.out _ _ ⟨(blk_cell BK1113.out 0).trans rfl, (blk_cell BK1113.out 1).trans rfl, (blk_cell BK1114.out 0).trans rfl, (blk_cell BK1114.out 1).trans rfl⟩ (fun hHeld => ?_)
                  clear hK K
                  refine norm_ (a' := ?_) ?_ ?_
                  rotate_left
                  · show Act.put _ (some 29) _ = _
                    simp only [Act.put, List.setIfInBounds_toArray, List.set_cons_zero, List.set_cons_succ, i64_w, i32_w]
                    rfl
                  refine one_ (i := 4) (N := some 30) #[true, true, true, true, true, false] rfl rfl (by kernel_rfl) (by decide) (fun K hK => ?_)
                  refine goes_ Try.func31 (by kernel_rfl) rfl #[.agg #[.int .i64 t1124, .string t1125], .agg #[.int .i64 t1126, .string t1127]] (by rfl) rfl rfl (by (try simp only [List.map_toArray, List.map_cons, List.map_nil]); first | done | rfl | (simp only [List.length_drop, List.length_take]; rfl)) ?_
                  with_reducible refine (impl_MutationPath.calls k t1124 t1125 t1126 t1127 t1128 _ A24.out).mono ?_
                  rintro e w92 ⟨v1129, rfl, ho0, hb⟩
                  refine ⟨_, rfl, ?_⟩
                  obtain ⟨NN_, xx_, yy_, zz_, zu_⟩ : ∃ N_ : Nat, Kd.S (Kd.slice 3 (Kd.int .i64)) 34 w92 w.heap.size (fun k_ => k_ < N_) v1122 t1121 ∧ Kd.S (Kd.slice 3 (Kd.int .i64)) 34 w92 w.heap.size (fun k_ => N_ ≤ k_) v1129 t1128 ∧ gb1113 < N_ ∧ gb1114 < N_ := ⟨_, Kd.S_mono (Kd.S_old (by (with_reducible repeat (first | apply Kd.S_alloc | apply Kd.S_drewN | apply Kd.S_drew)); exact HO1123.out) hb) (fun _ h_ => h_.2), Kd.S_lower (Kd.S_mono (Kd.S_bound ho0) (fun _ h_ => h_.2.1)) (below_size (by repeat (first | (with_reducible first | exact HB.out | apply below_alloc | apply pw_below_drewN | apply below_drew1 | refine below_set ?_ GE1113.out | refine below_set ?_ GE1114.out) | exact HB.out))), blk_lt (by (with_reducible repeat (first | refine blk_drewN ?_ _ | refine blk_drew ?_ | refine blk_alloc ?_ _)); exact BK1113.out), blk_lt (by (with_reducible repeat (first | refine blk_drewN ?_ _ | refine blk_drew ?_ | refine blk_alloc ?_ _)); exact BK1114.out)⟩
                  have HGB := Aside0.mk zz_
                  have HGC := Aside0.mk zu_
                  clear zz_ zu_
                  have n0_ := Aside0.mk xx_
                  have n1_ := Aside0.mk yy_
                  clear xx_ yy_
                  have n2_ := Aside0.mk (blk_below (g := gb1113) (o := .cells #[.int .i64 a0_0, .string a0_1] 28 (0, 0)) (by (with_reducible repeat (first | refine blk_drewN ?_ _ | refine blk_drew ?_ | refine blk_alloc ?_ _)); exact BK1113.out) hb)
                  have n3_ := Aside0.mk (blk_below (g := gb1114) (o := .cells #[.int .i64 a1_0, .string a1_1] 28 (0, 0)) (by (with_reducible repeat (first | refine blk_drewN ?_ _ | refine blk_drew ?_ | refine blk_alloc ?_ _)); exact BK1114.out) hb)
                  have n4_ := Aside0.mk (below_step (by repeat (first | (with_reducible first | exact HB.out | apply below_alloc | apply pw_below_drewN | apply below_drew1 | refine below_set ?_ GE1113.out | refine below_set ?_ GE1114.out) | exact HB.out)) hb)
                  clear HO1123
                  clear BK1113
                  clear BK1114
                  clear HB
                  have HO1123 := n0_
                  have HO1130 := n1_
                  have BK1113 := n2_
                  have BK1114 := n3_
                  have HB := n4_
                  clear n0_ n1_ n2_ n3_ n4_
                  (try clear hb)
                  (try clear hb2)
                  (try clear hk)
                  (try clear hi)
                  (try clear ho0)
                  refine hK.out _ _ ⟨(blk_cell BK1113.out 0).trans rfl, (blk_cell BK1113.out 1).trans rfl, (blk_cell BK1114.out 0).trans rfl, (blk_cell BK1114.out 1).trans rfl⟩ (fun hHeld => ?_)
                  clear hK K
                  refine norm_ (a' := ?_) ?_ ?_
                  rotate_left
                  · show Act.put _ (some 30) _ = _
                    simp only [Act.put, List.setIfInBounds_toArray, List.set_cons_zero, List.set_cons_succ, i64_w, i32_w]
                    rfl
                  refine pure_ (i := 5) (N := some 7) (v := ?_) (a' := ?_) #[true, true, true, true, true, true] rfl rfl (by kernel_rfl) (fun _ _ _ h => h) (Or.inl ⟨by rfl, ?_⟩) ?_ ?_
                  rotate_left
                  · intro w'
                    go_simp
                    with_reducible rfl
                  rotate_left
                  · simp only [Act.put, List.setIfInBounds_toArray, List.set_cons_zero, List.set_cons_succ, i64_w, i32_w]
                    rfl
                  refine done_ (by kernel_rfl) ?_
                  obtain ⟨Ao93, co93, eo93⟩ := Kd.S_slice HO1130.out
                  subst eo93
                  obtain ⟨Ao94, co94, eo94⟩ := Kd.S_slice HO1123.out
                  subst eo94
                  try go_wp2_with (first | ((with_reducible refine gate_callee (f := 26) rfl ?_); refine goesL_ (some 33) rfl rfl Try.func26 (by kernel_rfl) rfl #[.slice Ao93 t1128.length co93, .slice Ao94 t1121.length co94] rfl (by (try simp only [List.map_toArray, List.map_cons, List.map_nil]); first | done | rfl | (simp only [List.length_drop, List.length_take]; rfl)) ?_; (with_reducible refine (laws_eqIntSS.calls k _ _ t1128 _ _ t1121 true _ ?side1 ?side2 ?side3 ?side4 A25.out).mono ?_); (case side1 => repeat (first | exact (Kd.S_reads' HO1130.out).2.2 | (with_reducible refine Kd.C_alloc ?_ _) | (with_reducible refine Kd.C_drewN ?_ _) | (with_reducible refine Kd.C_drew ?_))); (case side2 => exact (Kd.S_reads' HO1130.out).2.1); (case side3 => repeat (first | exact (Kd.S_reads' HO1123.out).2.2 | (with_reducible refine Kd.C_alloc ?_ _) | (with_reducible refine Kd.C_drewN ?_ _) | (with_reducible refine Kd.C_drew ?_))); (case side4 => exact (Kd.S_reads' HO1123.out).2.1); rintro e w' ⟨rfl, ⟨nd, rfl⟩⟩; refine ⟨_, rfl, ?_⟩) | ((with_reducible refine gate_callee (f := 28) rfl ?_); refine goesL_ (some 37) rfl rfl Try.func28 (by kernel_rfl) rfl #[.slice Ao93 t1128.length co93, .int .i64 1] rfl (by (try simp only [List.map_toArray, List.map_cons, List.map_nil]); first | done | rfl | (simp only [List.length_drop, List.length_take]; rfl)) ?_; rw [drewN_self w92]; generalize hq_ : World.drewN w92 _ = w92; have n0_ : Aside0 (Kd.S (Kd.slice 3 (Kd.int .i64)) 34 w92 w.heap.size (fun k_ => k_ < NN_) (.slice Ao94 t1121.length co94) t1121) := ⟨by rw [← hq_]; exact (by (with_reducible repeat (first | apply Kd.S_alloc | apply Kd.S_drewN | apply Kd.S_drew)); exact HO1123.out)⟩; have n1_ : Aside0 (Kd.S (Kd.slice 3 (Kd.int .i64)) 34 w92 w.heap.size (fun k_ => NN_ ≤ k_) (.slice Ao93 t1128.length co93) t1128) := ⟨by rw [← hq_]; exact (by (with_reducible repeat (first | apply Kd.S_alloc | apply Kd.S_drewN | apply Kd.S_drew)); exact HO1130.out)⟩; have n2_ : Aside0 (w92.heap[gb1113]? = some (.cells #[.int .i64 a0_0, .string a0_1] 28 (0, 0))) := ⟨by rw [← hq_]; exact (by (with_reducible repeat (first | refine blk_drewN ?_ _ | refine blk_drew ?_ | refine blk_alloc ?_ _)); exact BK1113.out)⟩; have n3_ : Aside0 (w92.heap[gb1114]? = some (.cells #[.int .i64 a1_0, .string a1_1] 28 (0, 0))) := ⟨by rw [← hq_]; exact (by (with_reducible repeat (first | refine blk_drewN ?_ _ | refine blk_drew ?_ | refine blk_alloc ?_ _)); exact BK1114.out)⟩; have n4_ : Aside0 (Below w.heap.size w w92) := ⟨by rw [← hq_]; exact (by repeat (first | (with_reducible first | exact HB.out | apply below_alloc | apply pw_below_drewN | apply below_drew1 | refine below_set ?_ GE1113.out | refine below_set ?_ GE1114.out) | exact HB.out))⟩; clear HO1123 HO1130 BK1113 BK1114 HB hq_; have HO1123 := n0_; have HO1130 := n1_; have BK1113 := n2_; have BK1114 := n3_; have HB := n4_; clear n0_ n1_ n2_ n3_ n4_; (with_reducible refine (laws_markIntSS.calls k _ _ t1128 1 t1132 tM_ w _ HB.out HO1130.out A27.out).mono ?_); rintro e wd ⟨rfl, hs, hbw, hk⟩; refine ⟨_, rfl, ?_⟩; have n0_ := Aside0.mk ((hk.2 gb1113 (blk_lt BK1113.out) (fun h_ => Nat.not_le.2 HGB.out h_)).trans BK1113.out); have n1_ := Aside0.mk ((hk.2 gb1114 (blk_lt BK1114.out) (fun h_ => Nat.not_le.2 HGC.out h_)).trans BK1114.out); have n2_ := Aside0.mk hbw; have n3_ := Aside0.mk (Kd.S_step HO1123.out (fun k_ hk_ hlt_ => hk.2 k_ hlt_ (fun h_ => Nat.not_le.2 hk_ h_))); have n4_ : Aside0 (Kd.S (Kd.slice 3 (Kd.int .i64)) 34 wd w.heap.size (fun _ => True) (.slice Ao93 t1128.length co93) tM_) := ⟨Kd.S_mono hs (fun _ _ => trivial)⟩; clear BK1113 BK1114 HB HO1123 HO1130 hs hbw hk; have BK1113 := n0_; have BK1114 := n1_; have HB := n2_; have HO1123 := n3_; have HO1130 := n4_; clear n0_ n1_ n2_ n3_ n4_) | ((with_reducible refine gate_callee (f := 29) rfl ?_); refine goesL_ (some 40) rfl rfl Try.func29 (by kernel_rfl) rfl #[.slice Ao93 t1128.length co93, .int .i64 1] rfl (by (try simp only [List.map_toArray, List.map_cons, List.map_nil]); first | done | rfl | (simp only [List.length_drop, List.length_take]; rfl)) ?_; refine calls_of_args (args' := #[.slice Ao93 tM_.length co93, .int .i64 1]) (by rw [HLN.out]) ?_; (with_reducible refine (laws_heldIntSS.calls k _ _ tM_ 1 t1133 _ ?side1 ?side2 A28.out).mono ?_); (case side1 => repeat (first | exact (Kd.S_reads' HO1130.out).2.2 | (with_reducible refine Kd.C_alloc ?_ _) | (with_reducible refine Kd.C_drewN ?_ _) | (with_reducible refine Kd.C_drew ?_))); (case side2 => exact (by have h_ := (Kd.S_reads' HO1130.out).2.1; have h2_ := HLN.out; omega)); rintro e w' ⟨rfl, ⟨nd, rfl⟩⟩; refine ⟨_, rfl, ?_⟩))
                  (try (rw [drewN_self wd]; generalize hq_ : World.drewN wd _ = wd; have n0_ : Aside0 (Kd.S (Kd.slice 3 (Kd.int .i64)) 34 wd w.heap.size (fun k_ => k_ < NN_) (.slice Ao94 t1121.length co94) t1121) := ⟨by rw [← hq_]; exact (by (with_reducible repeat (first | apply Kd.S_alloc | apply Kd.S_drewN | apply Kd.S_drew)); exact HO1123.out)⟩; have n1_ : Aside0 (Kd.S (Kd.slice 3 (Kd.int .i64)) 34 wd w.heap.size (fun _ => True) (.slice Ao93 t1128.length co93) tM_) := ⟨by rw [← hq_]; exact (by (with_reducible repeat (first | apply Kd.S_alloc | apply Kd.S_drewN | apply Kd.S_drew)); exact HO1130.out)⟩; have n2_ : Aside0 (wd.heap[gb1113]? = some (.cells #[.int .i64 a0_0, .string a0_1] 28 (0, 0))) := ⟨by rw [← hq_]; exact (by (with_reducible repeat (first | refine blk_drewN ?_ _ | refine blk_drew ?_ | refine blk_alloc ?_ _)); exact BK1113.out)⟩; have n3_ : Aside0 (wd.heap[gb1114]? = some (.cells #[.int .i64 a1_0, .string a1_1] 28 (0, 0))) := ⟨by rw [← hq_]; exact (by (with_reducible repeat (first | refine blk_drewN ?_ _ | refine blk_drew ?_ | refine blk_alloc ?_ _)); exact BK1114.out)⟩; have n4_ : Aside0 (Below w.heap.size w wd) := ⟨by rw [← hq_]; exact (by repeat (first | (with_reducible first | exact HB.out | apply below_alloc | apply pw_below_drewN | apply below_drew1 | refine below_set ?_ GE1113.out | refine below_set ?_ GE1114.out) | exact HB.out))⟩; clear HO1123 HO1130 BK1113 BK1114 HB hq_; have HO1123 := n0_; have HO1130 := n1_; have BK1113 := n2_; have BK1114 := n3_; have HB := n4_; clear n0_ n1_ n2_ n3_ n4_))
                  have n0_ := Aside0.mk (Kd.S_drew HO1123.out)
                  have n1_ := Aside0.mk (Kd.S_drew HO1130.out)
                  have n2_ := Aside0.mk (blk_drew BK1113.out)
                  have n3_ := Aside0.mk (blk_drew BK1114.out)
                  have n4_ := Aside0.mk (below_drew1 HB.out)
                  clear HO1123
                  clear HO1130
                  clear BK1113
                  clear BK1114
                  clear HB
                  have HO1123 := n0_
                  have HO1130 := n1_
                  have BK1113 := n2_
                  have BK1114 := n3_
                  have HB := n4_
                  clear n0_ n1_ n2_ n3_ n4_
                  refine start_ (n := 6) (S := fun w' => w'.cell? ⟨gb1113, 0, none⟩ = some (.int .i64 a0_0) ∧ w'.cell? ⟨gb1113, 1, none⟩ = some (.string a0_1) ∧ w'.cell? ⟨gb1114, 0, none⟩ = some (.int .i64 a1_0) ∧ w'.cell? ⟨gb1114, 1, none⟩ = some (.string a1_1)) (ds := []) #[false, false, false, false, false, false] (by kernel_rfl) rfl rfl ⟨(blk_cell BK1113.out 0).trans rfl, (blk_cell BK1113.out 1).trans rfl, (blk_cell BK1114.out 0).trans rfl, (blk_cell BK1114.out 1).trans rfl⟩ (fun hHeld => ?_)
                  generalize wd.drew = w95 at HO1123 HO1130 BK1113 BK1114 HB hHeld ⊢
                  refine take_ (i := 0) (N := some 46) (v := ?_) (a' := ?_) #[true, false, false, false, false, false] rfl rfl (by kernel_rfl) (fun _ _ _ h => h) (Or.inl ⟨by rfl, ?_⟩) hHeld ?_ ?_
                  rotate_left
                  · rintro w' ⟨s0, s1, s2, s3⟩
                    go_simp
                    with_reducible rfl
                  rotate_left
                  · simp only [Act.put, List.setIfInBounds_toArray, List.set_cons_zero, List.set_cons_succ, i64_w, i32_w]
                    rfl
                  refine take_ (i := 2) (N := some 48) (v := ?_) (a' := ?_) #[true, false, true, false, false, false] rfl rfl (by kernel_rfl) (fun _ _ _ h => h) (Or.inl ⟨by rfl, ?_⟩) hHeld ?_ ?_
                  rotate_left
                  · rintro w' ⟨s0, s1, s2, s3⟩
                    go_simp
                    with_reducible rfl
                  rotate_left
                  · simp only [Act.put, List.setIfInBounds_toArray, List.set_cons_zero, List.set_cons_succ, i64_w, i32_w]
                    rfl
                  refine one_ (i := 1) (N := some 47) #[true, true, true, false, false, false] rfl rfl (by kernel_rfl) (by decide) (fun K hK => ?_)
                  refine goes_ Try.func18 (by kernel_rfl) rfl #[.agg #[.int .i64 a0_0, .string a0_1]] (by rfl) rfl rfl (by (try simp only [List.map_toArray, List.map_cons, List.map_nil]); first | done | rfl | (simp only [List.length_drop, List.length_take]; rfl)) ?_
                  with_reducible refine (laws_toSigns.calls a0_0 a0_1 t1134 t1135 _ A48.out).mono ?_
                  rintro e w96 ⟨rfl, hb⟩
                  refine ⟨_, rfl, ?_⟩
                  have n0_ := Aside0.mk (Kd.S_below (by (with_reducible repeat (first | apply Kd.S_alloc | apply Kd.S_drewN | apply Kd.S_drew)); exact HO1123.out) hb)
                  have n1_ := Aside0.mk (Kd.S_below (by (with_reducible repeat (first | apply Kd.S_alloc | apply Kd.S_drewN | apply Kd.S_drew)); exact HO1130.out) hb)
                  have n2_ := Aside0.mk (blk_below (g := gb1113) (o := .cells #[.int .i64 a0_0, .string a0_1] 28 (0, 0)) (by (with_reducible repeat (first | refine blk_drewN ?_ _ | refine blk_drew ?_ | refine blk_alloc ?_ _)); exact BK1113.out) hb)
                  have n3_ := Aside0.mk (blk_below (g := gb1114) (o := .cells #[.int .i64 a1_0, .string a1_1] 28 (0, 0)) (by (with_reducible repeat (first | refine blk_drewN ?_ _ | refine blk_drew ?_ | refine blk_alloc ?_ _)); exact BK1114.out) hb)
                  have n4_ := Aside0.mk (below_step (by repeat (first | (with_reducible first | exact HB.out | apply below_alloc | apply pw_below_drewN | apply below_drew1 | refine below_set ?_ GE1113.out | refine below_set ?_ GE1114.out) | exact HB.out)) hb)
                  clear HO1123
                  clear HO1130
                  clear BK1113
                  clear BK1114
                  clear HB
                  have HO1123 := n0_
                  have HO1130 := n1_
                  have BK1113 := n2_
                  have BK1114 := n3_
                  have HB := n4_
                  clear n0_ n1_ n2_ n3_ n4_
                  (try clear hb)
                  (try clear hb2)
                  (try clear hk)
                  (try clear hi)
                  refine hK.out _ _ ⟨(blk_cell BK1113.out 0).trans rfl, (blk_cell BK1113.out 1).trans rfl, (blk_cell BK1114.out 0).trans rfl, (blk_cell BK1114.out 1).trans rfl⟩ (fun hHeld => ?_)
                  clear hK K
                  refine norm_ (a' := ?_) ?_ ?_
                  rotate_left
                  · show Act.put _ (some 47) _ = _
                    simp only [Act.put, List.setIfInBounds_toArray, List.set_cons_zero, List.set_cons_succ, i64_w, i32_w]
                    rfl
                  refine one_ (i := 3) (N := some 49) #[true, true, true, true, false, false] rfl rfl (by kernel_rfl) (by decide) (fun K hK => ?_)
                  refine goes_ Try.func18 (by kernel_rfl) rfl #[.agg #[.int .i64 a1_0, .string a1_1]] (by rfl) rfl rfl (by (try simp only [List.map_toArray, List.map_cons, List.map_nil]); first | done | rfl | (simp only [List.length_drop, List.length_take]; rfl)) ?_
                  with_reducible refine (laws_toSigns.calls a1_0 a1_1 t1136 t1137 _ A49.out).mono ?_
                  rintro e w97 ⟨rfl, hb⟩
                  refine ⟨_, rfl, ?_⟩
                  have n0_ := Aside0.mk (Kd.S_below (by (with_reducible repeat (first | apply Kd.S_alloc | apply Kd.S_drewN | apply Kd.S_drew)); exact HO1123.out) hb)
                  have n1_ := Aside0.mk (Kd.S_below (by (with_reducible repeat (first | apply Kd.S_alloc | apply Kd.S_drewN | apply Kd.S_drew)); exact HO1130.out) hb)
                  have n2_ := Aside0.mk (blk_below (g := gb1113) (o := .cells #[.int .i64 a0_0, .string a0_1] 28 (0, 0)) (by (with_reducible repeat (first | refine blk_drewN ?_ _ | refine blk_drew ?_ | refine blk_alloc ?_ _)); exact BK1113.out) hb)
                  have n3_ := Aside0.mk (blk_below (g := gb1114) (o := .cells #[.int .i64 a1_0, .string a1_1] 28 (0, 0)) (by (with_reducible repeat (first | refine blk_drewN ?_ _ | refine blk_drew ?_ | refine blk_alloc ?_ _)); exact BK1114.out) hb)
                  have n4_ := Aside0.mk (below_step (by repeat (first | (with_reducible first | exact HB.out | apply below_alloc | apply pw_below_drewN | apply below_drew1 | refine below_set ?_ GE1113.out | refine below_set ?_ GE1114.out) | exact HB.out)) hb)
                  clear HO1123
                  clear HO1130
                  clear BK1113
                  clear BK1114
                  clear HB
                  have HO1123 := n0_
                  have HO1130 := n1_
                  have BK1113 := n2_
                  have BK1114 := n3_
                  have HB := n4_
                  clear n0_ n1_ n2_ n3_ n4_
                  (try clear hb)
                  (try clear hb2)
                  (try clear hk)
                  (try clear hi)
                  refine hK.out _ _ ⟨(blk_cell BK1113.out 0).trans rfl, (blk_cell BK1113.out 1).trans rfl, (blk_cell BK1114.out 0).trans rfl, (blk_cell BK1114.out 1).trans rfl⟩ (fun hHeld => ?_)
                  clear hK K
                  refine norm_ (a' := ?_) ?_ ?_
                  rotate_left
                  · show Act.put _ (some 49) _ = _
                    simp only [Act.put, List.setIfInBounds_toArray, List.set_cons_zero, List.set_cons_succ, i64_w, i32_w]
                    rfl
                  refine one_ (i := 4) (N := some 50) #[true, true, true, true, true, false] rfl rfl (by kernel_rfl) (by decide) (fun K hK => ?_)
                  refine goes_ Try.func31 (by kernel_rfl) rfl #[.agg #[.int .i64 t1134, .string t1135], .agg #[.int .i64 t1136, .string t1137]] (by rfl) rfl rfl (by (try simp only [List.map_toArray, List.map_cons, List.map_nil]); first | done | rfl | (simp only [List.length_drop, List.length_take]; rfl)) ?_
                  with_reducible refine (impl_MutationPath.calls k t1134 t1135 t1136 t1137 t1138 _ A50.out).mono ?_
                  rintro e w98 ⟨v1139, rfl, ho0, hb⟩
                  refine ⟨_, rfl, ?_⟩
                  have n0_ := Aside0.mk (Kd.S_elder' (by (with_reducible repeat (first | apply Kd.S_alloc | apply Kd.S_drewN | apply Kd.S_drew)); exact HO1123.out) (Kd.S_base ho0) hb)
                  have n1_ := Aside0.mk (Kd.S_elder' (by (with_reducible repeat (first | apply Kd.S_alloc | apply Kd.S_drewN | apply Kd.S_drew)); exact HO1130.out) (Kd.S_base ho0) hb)
                  have n2_ := Aside0.mk (Kd.S_lower (Kd.S_new' (Kd.S_new' ho0 (Kd.S_lt (by (with_reducible repeat (first | apply Kd.S_alloc | apply Kd.S_drewN | apply Kd.S_drew)); exact HO1123.out))) (Kd.S_lt (by (with_reducible repeat (first | apply Kd.S_alloc | apply Kd.S_drewN | apply Kd.S_drew)); exact HO1130.out))) (below_size (by repeat (first | (with_reducible first | exact HB.out | apply below_alloc | apply pw_below_drewN | apply below_drew1 | refine below_set ?_ GE1113.out | refine below_set ?_ GE1114.out) | exact HB.out))))
                  have n3_ := Aside0.mk (blk_below (g := gb1113) (o := .cells #[.int .i64 a0_0, .string a0_1] 28 (0, 0)) (by (with_reducible repeat (first | refine blk_drewN ?_ _ | refine blk_drew ?_ | refine blk_alloc ?_ _)); exact BK1113.out) hb)
                  have n4_ := Aside0.mk (blk_below (g := gb1114) (o := .cells #[.int .i64 a1_0, .string a1_1] 28 (0, 0)) (by (with_reducible repeat (first | refine blk_drewN ?_ _ | refine blk_drew ?_ | refine blk_alloc ?_ _)); exact BK1114.out) hb)
                  have n5_ := Aside0.mk (below_step (by repeat (first | (with_reducible first | exact HB.out | apply below_alloc | apply pw_below_drewN | apply below_drew1 | refine below_set ?_ GE1113.out | refine below_set ?_ GE1114.out) | exact HB.out)) hb)
                  clear HO1123
                  clear HO1130
                  clear BK1113
                  clear BK1114
                  clear HB
                  have HO1123 := n0_
                  have HO1130 := n1_
                  have HO1140 := n2_
                  have BK1113 := n3_
                  have BK1114 := n4_
                  have HB := n5_
                  clear n0_ n1_ n2_ n3_ n4_ n5_
                  (try clear hb)
                  (try clear hb2)
                  (try clear hk)
                  (try clear hi)
                  (try clear ho0)
                  refine hK.out _ _ ⟨(blk_cell BK1113.out 0).trans rfl, (blk_cell BK1113.out 1).trans rfl, (blk_cell BK1114.out 0).trans rfl, (blk_cell BK1114.out 1).trans rfl⟩ (fun hHeld => ?_)
                  clear hK K
                  refine norm_ (a' := ?_) ?_ ?_
                  rotate_left
                  · show Act.put _ (some 50) _ = _
                    simp only [Act.put, List.setIfInBounds_toArray, List.set_cons_zero, List.set_cons_succ, i64_w, i32_w]
                    rfl
                  refine pure_ (i := 5) (N := some 10) (v := ?_) (a' := ?_) #[true, true, true, true, true, true] rfl rfl (by kernel_rfl) (fun _ _ _ h => h) (Or.inl ⟨by rfl, ?_⟩) ?_ ?_
                  rotate_left
                  · intro w'
                    go_simp
                    with_reducible rfl
                  rotate_left
                  · simp only [Act.put, List.setIfInBounds_toArray, List.set_cons_zero, List.set_cons_succ, i64_w, i32_w]
                    rfl
                  refine done_ (by kernel_rfl) ?_
                  obtain ⟨Ao99, co99, eo99⟩ := Kd.S_slice HO1140.out
                  subst eo99
                  try go_wp2_with (first | ((with_reducible refine gate_callee (f := 26) rfl ?_); refine goesL_ (some 53) rfl rfl Try.func26 (by kernel_rfl) rfl #[.slice Ao99 t1138.length co99, .slice Ao94 t1121.length co94] rfl (by (try simp only [List.map_toArray, List.map_cons, List.map_nil]); first | done | rfl | (simp only [List.length_drop, List.length_take]; rfl)) ?_; (with_reducible refine (laws_eqIntSS.calls k _ _ t1138 _ _ t1121 true _ ?side1 ?side2 ?side3 ?side4 A51.out).mono ?_); (case side1 => repeat (first | exact (Kd.S_reads' HO1140.out).2.2 | (with_reducible refine Kd.C_alloc ?_ _) | (with_reducible refine Kd.C_drewN ?_ _) | (with_reducible refine Kd.C_drew ?_))); (case side2 => exact (Kd.S_reads' HO1140.out).2.1); (case side3 => repeat (first | exact (Kd.S_reads' HO1123.out).2.2 | (with_reducible refine Kd.C_alloc ?_ _) | (with_reducible refine Kd.C_drewN ?_ _) | (with_reducible refine Kd.C_drew ?_))); (case side4 => exact (Kd.S_reads' HO1123.out).2.1); rintro e w' ⟨rfl, ⟨nd, rfl⟩⟩; refine ⟨_, rfl, ?_⟩) | ((with_reducible refine gate_callee (f := 29) rfl ?_); refine goesL_ (some 57) rfl rfl Try.func29 (by kernel_rfl) rfl #[.slice Ao93 t1128.length co93, .int .i64 1] rfl (by (try simp only [List.map_toArray, List.map_cons, List.map_nil]); first | done | rfl | (simp only [List.length_drop, List.length_take]; rfl)) ?_; refine calls_of_args (args' := #[.slice Ao93 tM_.length co93, .int .i64 1]) (by rw [HLN.out]) ?_; (with_reducible refine (laws_heldIntSS.calls k _ _ tM_ 1 t1142 _ ?side1 ?side2 A53.out).mono ?_); (case side1 => repeat (first | exact (Kd.S_reads' HO1130.out).2.2 | (with_reducible refine Kd.C_alloc ?_ _) | (with_reducible refine Kd.C_drewN ?_ _) | (with_reducible refine Kd.C_drew ?_))); (case side2 => exact (by have h_ := (Kd.S_reads' HO1130.out).2.1; have h2_ := HLN.out; omega)); rintro e w' ⟨rfl, ⟨nd, rfl⟩⟩; refine ⟨_, rfl, ?_⟩))
                  go_ret
                  exact ⟨by first | rfl | (simp [errW_none, errW_some] <;> rfl) | (simp [*, errW_none, errW_some] <;> rfl), by repeat (first | (with_reducible first | exact HB.out | apply below_alloc | apply pw_below_drewN | apply below_drew1 | refine below_set ?_ GE1113.out | refine below_set ?_ GE1114.out) | exact HB.out)⟩
                · rw [if_neg c77] at H
                  cases H
            · rw [if_neg c52] at H
              cases H
          · rw [if_neg c47] at H
            cases H
      · rw [if_neg c26] at H
        cases H
end Go.Proofs.Ytoajlmlobaccdaa.P
namespace Go.Proofs.Ytoajlmlobaccdaa.Rk
open Go.RowKit Go.ChangeShapes Go.WideShapes Go.Deep Go.Proofs.YtoajlmlobaccdaaW.PrintWords
def I64 (n : Int) : Prop := -9223372036854775808 ≤ n ∧ n ≤ 9223372036854775807
theorem I64_of {n : Int} (h : (Lit.int .i64 n).wf = true) : I64 n := by
  have e1 : IntKind.i64.min = -9223372036854775808 := by decide
  have e2 : IntKind.i64.max = 9223372036854775807 := by decide
  simp [Lit.wf, e1, e2] at h
  unfold I64
  omega
section
variable {H : Type} {enc : TypeId × Value → H} {P : Program} {w : World} {base : Nat} {spare : Nat → Bool} {held : Bool} {α : Type}
def Elem (enc : TypeId × Value → H) (P : Program) (w : World) (base : Nat) (spare : Nat → Bool) (held : Bool) (e : TypeId) (d : Kd α) (Q : α → Prop) : Prop :=
  ∀ (fuel : Nat) (cs : List Value) (x : DataW H × List MemPlace), DataW.trod enc P w base spare held fuel e cs = some x → ∃ y, d.K w y cs ∧ Q y
end
end Go.Proofs.Ytoajlmlobaccdaa.Rk
namespace Go.Proofs.Ytoajlmlobaccdaa.P
open Go.RowKit Go.ChangeShapes Go.WideShapes Go.Deep Go.Proofs.Ytoajlmlobaccdaa.Rk Go.Proofs.YtoajlmlobaccdaaW.PrintWords
theorem cells_3 : Try.prog.cellsOf 3 = 1 := by kernel_rfl
theorem cells_9 : Try.prog.cellsOf 9 = 1 := by kernel_rfl
def Q101 (x : S101) : Prop := I64 x.f0 ∧ I64 x.f1 ∧ I64 x.f2 ∧ I64 x.f3 ∧ I64 x.f4
instance : Inhabited S101 := ⟨z101⟩
def Q31 (x : S31) : Prop := I64 x.f0 ∧ x.f1.size ≤ 9223372036854775807
instance : Inhabited S31 := ⟨z31⟩
def Q56 (x : S56) : Prop := I64 x.f0 ∧ I64 x.f1
instance : Inhabited S56 := ⟨z56⟩
def Q28 (x : S28) : Prop := I64 x.f0 ∧ x.f1.size ≤ 9223372036854775807
instance : Inhabited S28 := ⟨z28⟩
theorem cells_28 : Try.prog.cellsOf 28 = 2 := by kernel_rfl
set_option maxRecDepth 100000 in
theorem elem28 {H : Type} {enc : TypeId × Value → H} {w : World} {base : Nat} {spare : Nat → Bool} {held : Bool} : Elem enc Try.prog w base spare held 28 k28 Q28 := by
  intro fuel cs x h
  obtain ⟨xs, n, _, _, hlen, hxl, hf⟩ := DataW.trod_struct Try.underlying28 h
  rw [cells_28] at hlen
  match cs, hlen with
  | [c0, c1], _ =>
    have h0 : DataW.trod enc Try.prog w base spare held n 3 (List.take (Try.prog.cellsOf 3) (List.drop 0 [c0, c1])) = xs[0]? := hf 0 _ rfl
    rw [cells_3] at h0
    have y0 : xs[0]? = some (xs[0]'(by rw [hxl]; decide)) := List.getElem?_eq_getElem _
    rw [y0] at h0
    obtain ⟨n0, e0, _, w0⟩ := DataW.trod_int Try.underlying3 h0
    have e0' : c0 = .int .i64 n0 := by simpa using e0
    have h1 : DataW.trod enc Try.prog w base spare held n 9 (List.take (Try.prog.cellsOf 9) (List.drop 1 [c0, c1])) = xs[1]? := hf 1 _ rfl
    rw [cells_9] at h1
    have y1 : xs[1]? = some (xs[1]'(by rw [hxl]; decide)) := List.getElem?_eq_getElem _
    rw [y1] at h1
    obtain ⟨n1, e1, _, w1⟩ := DataW.trod_string Try.underlying9 h1
    unfold maxLen at w1
    have e1' : c1 = .string n1 := by simpa using e1
    subst e0' e1'
    exact ⟨⟨n0, n1⟩, k28_mk w ⟨n0, n1⟩, I64_of w0, w1⟩
end Go.Proofs.Ytoajlmlobaccdaa.P
namespace Go.Proofs.Ytoajlmlobaccdaa.Pl
set_option linter.unusedSimpArgs false
set_option linter.unusedVariables false
open Go.RowKit Go.Proofs.YtoajlmlobaccdaaW.PrintWords
theorem wrap_in {n : Int} (h0 : -9223372036854775808 ≤ n) (h1 : n ≤ 9223372036854775807) : wrap64 n = n := by
  unfold wrap64
  omega
theorem wrap_nat (i : Nat) (h : i < 9223372036854775807) : wrap64 ((i : Int) + 1) = ((i + 1 : Nat) : Int) := by
  unfold wrap64
  omega
theorem Ev.const {α : Type} {x : Option α} {r : α} (h : x = some r) : Ev (fun _ => x) r := ⟨0, fun _ _ => h⟩
theorem Ev.ite_pos {α : Type} {c : Prop} [Decidable c] {g f : Nat → Option α} {r : α} (h : c) (k : Ev g r) : Ev (fun n => if c then g n else f n) r := by
  simpa only [if_pos h] using k
theorem Ev.ite_neg {α : Type} {c : Prop} [Decidable c] {g f : Nat → Option α} {r : α} (h : ¬ c) (k : Ev f r) : Ev (fun n => if c then g n else f n) r := by
  simpa only [if_neg h] using k
theorem Ev.bind0 {α β : Type} {x : Option α} {f : Nat → α → Option β} {a : α} {r : β} (h : x = some a) (k : Ev (fun n => f n a) r) : Ev (fun n => x.bind (f n)) r := by
  subst h
  exact k
theorem Ev.loop {ρ : Type} (g : Nat → Nat → Option ρ) (n : Nat) (r : ρ) (hend : Ev (g n) r) (hstep : ∀ i, i < n → Ev (g (i + 1)) r → Ev (g i) r) : ∀ i, i ≤ n → Ev (g i) r := by
  have key : ∀ d i, i + d = n → Ev (g i) r := by
    intro d
    induction d with
    | zero => intro i hi; obtain rfl : i = n := by omega
              exact hend
    | succ d ih => intro i hi; exact hstep i (by omega) (ih (i + 1) (by omega))
  intro i hi
  exact key (n - i) i (by omega)
theorem Ev.loop_to {ρ : Type} (g : Nat → Nat → Option ρ) (n : Nat) (R : Nat → ρ) (hend : Ev (g n) (R n)) (hstep : ∀ i, i < n → Ev (g (i + 1)) (R (i + 1)) → Ev (g i) (R i)) : ∀ i, i ≤ n → Ev (g i) (R i) := by
  have key : ∀ d i, i + d = n → Ev (g i) (R i) := by
    intro d
    induction d with
    | zero => intro i hi; obtain rfl : i = n := by omega
              exact hend
    | succ d ih => intro i hi; exact hstep i (by omega) (ih (i + 1) (by omega))
  intro i hi
  exact key (n - i) i (by omega)
theorem getD_lt {α : Type} (l : List α) (d : α) (i : Nat) (h : i < l.length) : l.getD i d = l[i] := by
  rw [List.getD_eq_getElem?_getD, List.getElem?_eq_getElem h]
  rfl
end Go.Proofs.Ytoajlmlobaccdaa.Pl
