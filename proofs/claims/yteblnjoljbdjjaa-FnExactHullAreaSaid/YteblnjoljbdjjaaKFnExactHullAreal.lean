/- What the law FnExactHullArea reaches, part 12: functions as plain Lean functions with the proofs that their calls come to them, and plain lemmas over these. Put together by a program (wip/pack.py). -/
import Derived.Test.YteblnjoljbdjjaaKFnExactHullAreac
import Derived.Test.YteblnjoljbdjjaaKFnExactHullAreaj
import Derived.Test.YteblnjoljbdjjaaKFnExactHullAreak
namespace Go.Proofs.Yteblnjoljbdjjaa.P
open Go.RowKit Go.Proofs.YteblnjoljbdjjaaW.PrintWords Go.Proofs.YteblnjoljbdjjaaW.PrintLast Go.Proofs.YteblnjoljbdjjaaW.PrintMore
attribute [local go_sem] ptrOf_slice
attribute [local go_sem] min2_str max2_int min2_int max_two min_two max_three min_three max_four min_four
set_option linter.unusedVariables false
set_option linter.unusedSimpArgs false
def impl_tableOf.l0 : Nat → List Int → List (S122) → Int → Int → Int → ByteArray → Option (List Int)
 | 0, _, _, _, _, _, _ => none
 | k + 1, x3, x13, x14, x15, x175000, x175001 => if x15 < x14 then (if 0 ≤ x15 then (if x15 < (x13.length : Int) then (if x15 < (x175001.size : Int) then (if (bt x175001 x15) = 45 then ((impl_chi_set.f x3 ((rd_T122 x13 x15).f0) ((rd_T122 x13 x15).f1) ((rd_T122 x13 x15).f2) (-1)).bind fun t183 => (impl_tableOf.l0 k t183 x13 x14 (wrap64 (x15 + 1)) x175000 x175001)) else ((impl_chi_set.f x3 ((rd_T122 x13 x15).f0) ((rd_T122 x13 x15).f1) ((rd_T122 x13 x15).f2) 1).bind fun t184 => (impl_tableOf.l0 k t184 x13 x14 (wrap64 (x15 + 1)) x175000 x175001))) else (none)) else (none)) else (none)) else (some x3)
def impl_tableOf.f (k : Nat) (a0_0 : Int) (a0_1 : ByteArray) : Option (List Int) := (impl_triplesOf.f k a0_0).bind fun t178 => (impl_tableOf.l0 k (chiNew a0_0) t178 (t178.length : Int) 0 a0_0 a0_1)
set_option maxHeartbeats 8000000 in
set_option maxRecDepth 100000 in
theorem impl_tableOf.calls (k : Nat) (a0_0 : Int) (a0_1 : ByteArray) (r : List Int) (w : World) (h : impl_tableOf.f k a0_0 a0_1 = some r) :
  Calls Try.prog 93 #[.agg #[.int .i64 a0_0, .string a0_1]] w fun e w' => ∃ v0_ : Value, e = .returned (ptrOf v0_) ∧ Kd.R (Kd.int .i64) 93 w' w.heap.size (fun _ => True) v0_ r ∧ Below w.heap.size w w' := by
 have hu25 := Try.underlying25
 have hu122 := Try.underlying122
 have HB := am_ (Below.refl w.heap.size w)
 have H : ((impl_triplesOf.f k a0_0).bind fun t178 => (impl_tableOf.l0 k (chiNew a0_0) t178 (t178.length : Int) 0 a0_0 a0_1)) = some r := h
 clear h
 obtain ⟨y175, hy175⟩ : ∃ y_ : List Int, y_ = (chiNew a0_0) := ⟨_, rfl⟩
 replace H : ((impl_triplesOf.f k a0_0).bind fun t178 => (impl_tableOf.l0 k y175 t178 (t178.length : Int) 0 a0_0 a0_1)) = some r := by first | (rw [hy175]; with_reducible exact H) | (have H2_ := (Option.bind_some _ _).symm.trans H; rw [hy175]; with_reducible exact H2_) | (have H2_ := (Option.bind_some _ _).symm.trans H; with_reducible exact H2_) | with_reducible exact H | (rw [hy175]; exact H) | exact H
 have Ny175 := am_ hy175
 clear hy175
 replace H := Option.bind_eq_some_iff.mp H
 obtain ⟨t178, A20, H⟩ := H
 replace H : (impl_tableOf.l0 k y175 t178 (t178.length : Int) 0 a0_0 a0_1) = some r := H
 have A2 := am_ A20
 clear A20
 have H' := am_ H
 clear H
 go_enter Try.func93, Try.ntmps93
 go_wp2_with (first | ((with_reducible refine gate_dst (N := 1) rfl ?_); refine box_event ?hg (N := 1) ?hd (cs := #[.int .i64 a0_0, .string a0_1]) (t := 25) ?hr ?_; (case hd => rfl); (case hg => rfl); (case hr => first | (go_simp; done) | (go_simp; rfl)); intro gb174 hg w3 hbox hb; have n0_ := am_ (below_step (bx0 HB.out) hb); have n1_ := am_ (hbox); have n2_ := am_ ((by rw [hg]; exact (below_size (bx0 HB.out)) : w.heap.size ≤ gb174)); have n3_ := am_ ((by rw [hg]; exact (below_size (bx0 HB.out)) : w.heap.size ≤ gb174)); clear HB; have HB := n0_; have BK174 := n1_; have GW174 := n2_; have GE174 := n3_; clear n0_ n1_ n2_ n3_; clear hb hbox hg; have hcz4_0 : w3.cell? ⟨gb174, 0, none⟩ = some (.int .i64 a0_0) := (blk_cell BK174.out 0).trans rfl; have hcz4_1 : w3.cell? ⟨gb174, 1, none⟩ = some (.string a0_1) := (blk_cell BK174.out 1).trans rfl; have hfz4_0 := blk_frozen BK174.out 0; have hfz4_1 := blk_frozen BK174.out 1) | ((with_reducible refine gate_dst (N := 9) rfl ?_); refine chi_build (N := 9) ?hg ?hd (n := a0_0) ?hr ?_; (case hd => rfl); (case hg => rfl); (case hr => first | (go_simp; done) | (go_simp; rfl))) | ((with_reducible refine gate_dst (N := 10) rfl ?_); refine chi_make _ 93 ?hg (N := 10) ?hd (n := a0_0) (ok := fun _ => True) ?hr trivial (Below.refl _ _) (Nat.le_refl _) ?_; (case hd => rfl); (case hg => rfl); (case hr => first | (go_simp; done) | (go_simp; rfl)); intro v176 w5 ho6 hb hg_ hnew_; clear hg_ hnew_; (first | rw [← Ny175.out] at ho6 | (simp only [Int.reduceToNat] at ho6; rw [← Ny175.out] at ho6)); have n0_ := am_ (Kd.R_lower ho6 (below_size (bx1 HB.out GE174.out))); have n1_ := am_ (blk_below (g := gb174) (o := .cells #[.int .i64 a0_0, .string a0_1] 25 (0, 0)) (kx_ BK174.out) hb); have n2_ := am_ (below_step (bx1 HB.out GE174.out) hb); clear BK174; clear HB; have HO177 := n0_; have BK174 := n1_; have HB := n2_; clear n0_ n1_ n2_; clear hb ho6; have hcz7_0 : w5.cell? ⟨gb174, 0, none⟩ = some (.int .i64 a0_0) := (blk_cell BK174.out 0).trans rfl; have hcz7_1 : w5.cell? ⟨gb174, 1, none⟩ = some (.string a0_1) := (blk_cell BK174.out 1).trans rfl; have hfz7_0 := blk_frozen BK174.out 0; have hfz7_1 := blk_frozen BK174.out 1) | ((with_reducible refine gate_callee (f := 114) rfl ?_); refine goesL_ (some 13) rfl rfl Try.func114 (by kernel_rfl) rfl #[.int .i64 a0_0] rfl (by (try simp only [List.map_toArray, List.map_cons, List.map_nil]); first | done | rfl | (simp only [List.length_drop, List.length_take]; rfl)) ?_; (with_reducible refine (impl_triplesOf.calls k a0_0 t178 _ A2.out).mono ?_); rintro e w8 ⟨v179, rfl, ho0, hb⟩; refine ⟨_, rfl, ?_⟩; have n0_ := am_ (Kd.R_below (rx_ HO177.out) hb); have n1_ := am_ (Kd.R_lower ho0 (below_size (bx1 HB.out GE174.out))); have n2_ := am_ (blk_below (g := gb174) (o := .cells #[.int .i64 a0_0, .string a0_1] 25 (0, 0)) (kx_ BK174.out) hb); have n3_ := am_ (below_step (bx1 HB.out GE174.out) hb); clear HO177; clear BK174; clear HB; have HO177 := n0_; have HO180 := n1_; have BK174 := n2_; have HB := n3_; clear n0_ n1_ n2_ n3_; (try clear hb); (try clear hb2); (try clear hk); (try clear hi); (try clear ho0); obtain ⟨Ao9, co9, eo9⟩ := Kd.R_slice HO180.out; subst eo9))
 go_loopg [15] k (fun kq v15 w' => ∃ (x3_1 : List Int) (x15_1 : Int), v15 = .int .i64 x15_1 ∧ Aside0 (impl_tableOf.l0 kq x3_1 t178 (t178.length : Int) x15_1 a0_0 a0_1 = some r) ∧ Aside0 (kq ≤ k) ∧ Aside0 (Kd.R (Kd.int .i64) 93 w' w.heap.size (fun _ => True) v176 x3_1) ∧ Aside0 (Kd.R k122 122 w' w.heap.size (fun _ => True) (.slice Ao9 t178.length co9) t178) ∧ Aside0 (w'.heap[gb174]? = some (.cells #[.int .i64 a0_0, .string a0_1] 25 (0, 0))) ∧ Aside0 (Below w.heap.size w w'))
 case atStart => exact ⟨(y175), (0), (by first | rfl | (simp; done) | (simp [*]; done)), H', ⟨Nat.le_refl _⟩, ⟨rx_ HO177.out⟩, ⟨rx_ HO180.out⟩, ⟨kx_ BK174.out⟩, ⟨bx1 HB.out GE174.out⟩⟩
 case round =>
  clear H'
  try clear c1
  try clear p2
  try clear c9
  try clear hcz4_0
  try clear hcz4_1
  try clear hcz7_0
  try clear hcz7_1
  try clear hfz4_0
  try clear hfz4_1
  try clear hfz7_0
  try clear hfz7_1
  obtain ⟨x3_1, x15_1, rfl, HA, HK1, HO_3, HO_13, BK174, HB⟩ := hrel
  cases gk with
  | zero => exact absurd HA.out (by simp [impl_tableOf.l0])
  | succ k1 =>
   have H := HA.out
   clear HA
   simp only [impl_tableOf.l0] at H
   by_cases c10 : x15_1 < (t178.length : Int)
   ·rw [if_pos c10] at H
    have c10b0 : decide (x15_1 < (t178.length : Int)) = true := decide_eq_true c10
    clear c10
    by_cases c11 : 0 ≤ x15_1
    ·rw [if_pos c11] at H
     have c11b0 : decide (0 ≤ x15_1) = true := decide_eq_true c11
     clear c11
     by_cases c12 : x15_1 < (t178.length : Int)
     ·rw [if_pos c12] at H
      have c12b0 : decide (x15_1 < (t178.length : Int)) = true := decide_eq_true c12
      clear c12
      by_cases c13 : x15_1 < (a0_1.size : Int)
      ·rw [if_pos c13] at H
       have c13b0 : decide (x15_1 < (a0_1.size : Int)) = true := decide_eq_true c13
       clear c13
       by_cases c15 : (bt a0_1 x15_1) = 45
       ·rw [if_pos c15] at H
        have c15b0 : ((bt a0_1 x15_1) == 45) = true := beq_iff_eq.mpr c15
        have c15b1 : ((bt a0_1 x15_1) != 45) = false := bne_eq_false_iff_eq.mpr c15
        clear c15
        replace H := Option.bind_eq_some_iff.mp H
        obtain ⟨t183, A160, H⟩ := H
        replace H : (impl_tableOf.l0 k1 t183 t178 (t178.length : Int) (wrap64 (x15_1 + 1)) a0_0 a0_1) = some r := H
        have A16 := am_ A160
        clear A160
        have H' := am_ H
        clear H
        have p181 : 0 ≤ (x15_1 : Int) := of_decide_eq_true (by first | (with_reducible assumption) | assumption)
        have q181 : x15_1 < (t178.length : Int) := of_decide_eq_true (by first | (with_reducible assumption) | assumption)
        obtain ⟨ad181, e181, hx181_0, hx181_1, hx181_2⟩ := at_T122 (Kd.R_reads' HO_13.out).2.2 x15_1 p181 q181
        cases e181
        replace p181 := eq_true p181
        replace q181 := eq_true q181
        go_wp2_with (first | ((with_reducible refine gate_dst (N := 5) rfl ?_); refine box_event ?hg (N := 5) ?hd (cs := #[.int .i64 0, .int .i64 0, .int .i64 0]) (t := 122) ?hr ?_; (case hd => rfl); (case hg => rfl); (case hr => first | (go_simp; done) | (go_simp; rfl)); intro gb182 hg w17 hbox hb; have n0_ := am_ (Kd.R_below (rx_ HO_3.out) hb); have n1_ := am_ (Kd.R_below (Kd.R_elderB (rx_ HO_13.out) gb182 (Nat.le_of_eq hg.symm)) hb); have n2_ := am_ (blk_below (g := gb174) (o := .cells #[.int .i64 a0_0, .string a0_1] 25 (0, 0)) (kx_ BK174.out) hb); have n3_ := am_ (below_step (bx1 HB.out GE174.out) hb); have n4_ := am_ (hbox); have n5_ := am_ ((by rw [hg]; exact (below_size (bx1 HB.out GE174.out)) : w.heap.size ≤ gb182)); have n6_ := am_ ((by rw [hg]; exact (below_size (bx1 HB.out GE174.out)) : w.heap.size ≤ gb182)); have n7_ := am_ ((by rw [hg]; exact Nat.ne_of_lt (blk_lt (g := gb174) (o := .cells #[.int .i64 a0_0, .string a0_1] 25 (0, 0)) (kx_ BK174.out)) : gb174 ≠ gb182)); have n8_ := am_ ((by rw [hg]; exact Nat.ne_of_gt (blk_lt (g := gb174) (o := .cells #[.int .i64 a0_0, .string a0_1] 25 (0, 0)) (kx_ BK174.out)) : gb182 ≠ gb174)); clear HO_3; clear HO_13; clear BK174; clear HB; have HO_3 := n0_; have HO_13 := n1_; have BK174 := n2_; have HB := n3_; have BK182 := n4_; have GW182 := n5_; have GE182 := n6_; have NB174_182 := n7_; have NB182_174 := n8_; clear n0_ n1_ n2_ n3_ n4_ n5_ n6_ n7_ n8_; clear hb hbox hg; have hnb18 := NB182_174.out; have hnc18 := NB174_182.out; have hcz19_0 : w17.cell? ⟨gb182, 0, none⟩ = some (.int .i64 0) := (blk_cell BK182.out 0).trans rfl; have hcz19_1 : w17.cell? ⟨gb182, 1, none⟩ = some (.int .i64 0) := (blk_cell BK182.out 1).trans rfl; have hcz19_2 : w17.cell? ⟨gb182, 2, none⟩ = some (.int .i64 0) := (blk_cell BK182.out 2).trans rfl; have hfz19_0 := blk_frozen BK182.out 0; have hfz19_1 := blk_frozen BK182.out 1; have hfz19_2 := blk_frozen BK182.out 2) | ((with_reducible refine gate_store (t := 122) (p := 5) rfl ?_); refine store_event (t := 122) (p := 5) (v := ?vo_w20) (w1 := (((w17.setCell ⟨gb182, 0, none⟩ (.int .i64 ((rd_T122 t178 x15_1).f0))).setCell ⟨gb182, 1, none⟩ (.int .i64 ((rd_T122 t178 x15_1).f1))).setCell ⟨gb182, 2, none⟩ (.int .i64 ((rd_T122 t178 x15_1).f2)))) ?hg ?ho ?hn ?hr ?_; (case ho => rfl); (case hg => rfl); (case hn => rfl); (case hr => first | (go_simp; done) | (go_simp; rfl)); intro w20 hw; have n0_ : Aside0 (Kd.R (Kd.int .i64) 93 w20 w.heap.size (fun _ => True) v176 x3_1) := ⟨(by rw [hw]; exact (by (with_reducible repeat (first | apply Kd.R_alloc | apply Kd.R_drewN | apply Kd.R_drew)); exact Kd.R_mono (Kd.R_far (p := ⟨gb182, 2, none⟩) (Kd.R_far (p := ⟨gb182, 1, none⟩) (Kd.R_far (p := ⟨gb182, 0, none⟩) (Kd.R_types HO_3.out BK182.out (by decide)) (fun _ hk => hk.2) (.int .i64 ((rd_T122 t178 x15_1).f0))) (fun _ hk => hk.2) (.int .i64 ((rd_T122 t178 x15_1).f1))) (fun _ hk => hk.2) (.int .i64 ((rd_T122 t178 x15_1).f2))) (fun _ hk => trivial)))⟩; have n1_ : Aside0 (Kd.R k122 122 w20 w.heap.size (fun k_ => k_ ≠ gb182) (.slice (some ad181) t178.length co9) t178) := ⟨(by rw [hw]; exact (by (with_reducible repeat (first | apply Kd.R_alloc | apply Kd.R_drewN | apply Kd.R_drew)); exact Kd.R_mono (Kd.R_far (p := ⟨gb182, 2, none⟩) (Kd.R_far (p := ⟨gb182, 1, none⟩) (Kd.R_far (p := ⟨gb182, 0, none⟩) (Kd.R_mono HO_13.out (fun k_ hk => (⟨hk, hk.2⟩ : _ ∧ k_ ≠ gb182))) (fun _ hk => hk.2) (.int .i64 ((rd_T122 t178 x15_1).f0))) (fun _ hk => hk.2) (.int .i64 ((rd_T122 t178 x15_1).f1))) (fun _ hk => hk.2) (.int .i64 ((rd_T122 t178 x15_1).f2))) (fun _ hk => hk.1.2)))⟩; have n2_ : Aside0 (w20.heap[gb174]? = some (.cells #[.int .i64 a0_0, .string a0_1] 25 (0, 0))) := ⟨(by rw [hw]; exact (by (with_reducible repeat (first | refine blk_drewN ?_ _ | refine blk_drew ?_ | refine blk_alloc ?_ _)); refine blk_far ?_ NB174_182.out _; (with_reducible repeat (first | refine blk_drewN ?_ _ | refine blk_drew ?_ | refine blk_alloc ?_ _)); refine blk_far ?_ NB174_182.out _; (with_reducible repeat (first | refine blk_drewN ?_ _ | refine blk_drew ?_ | refine blk_alloc ?_ _)); refine blk_far ?_ NB174_182.out _; (with_reducible repeat (first | refine blk_drewN ?_ _ | refine blk_drew ?_ | refine blk_alloc ?_ _)); exact BK174.out))⟩; have n3_ : Aside0 (w20.heap[gb182]? = some (.cells #[.int .i64 ((rd_T122 t178 x15_1).f0), .int .i64 ((rd_T122 t178 x15_1).f1), .int .i64 ((rd_T122 t178 x15_1).f2)] 122 (0, 0))) := ⟨(by rw [hw]; exact (by (with_reducible repeat (first | refine blk_drewN ?_ _ | refine blk_drew ?_ | refine blk_alloc ?_ _)); refine blk_put (cs := #[.int .i64 ((rd_T122 t178 x15_1).f0), .int .i64 ((rd_T122 t178 x15_1).f1), .int .i64 0]) ?_ 2 _ rfl; (with_reducible repeat (first | refine blk_drewN ?_ _ | refine blk_drew ?_ | refine blk_alloc ?_ _)); refine blk_put (cs := #[.int .i64 ((rd_T122 t178 x15_1).f0), .int .i64 0, .int .i64 0]) ?_ 1 _ rfl; (with_reducible repeat (first | refine blk_drewN ?_ _ | refine blk_drew ?_ | refine blk_alloc ?_ _)); refine blk_put (cs := #[.int .i64 0, .int .i64 0, .int .i64 0]) ?_ 0 _ rfl; (with_reducible repeat (first | refine blk_drewN ?_ _ | refine blk_drew ?_ | refine blk_alloc ?_ _)); exact BK182.out))⟩; have n4_ : Aside0 (Below w.heap.size w w20) := ⟨(by rw [hw]; exact (bx2 HB.out GE174.out GE182.out))⟩; clear hw; clear HO_3; clear HO_13; clear BK174; clear BK182; clear HB; have HO_3 := n0_; have HO_13 := n1_; have BK174 := n2_; have BK182 := n3_; have HB := n4_; clear n0_ n1_ n2_ n3_ n4_; have hcz21_0 : w20.cell? ⟨gb174, 0, none⟩ = some (.int .i64 a0_0) := (blk_cell BK174.out 0).trans rfl; have hcz21_1 : w20.cell? ⟨gb174, 1, none⟩ = some (.string a0_1) := (blk_cell BK174.out 1).trans rfl; have hfz21_0 := blk_frozen BK174.out 0; have hfz21_1 := blk_frozen BK174.out 1; have p14 : 0 ≤ (x15_1 : Int) := of_decide_eq_true (by first | (with_reducible assumption) | assumption); have q14 : x15_1 < (a0_1.size : Int) := of_decide_eq_true (by first | (with_reducible assumption) | assumption); have hx14 := bt_at a0_1 x15_1; replace p14 := eq_true p14; replace q14 := eq_true q14; have hcz22_0 : w20.cell? ⟨gb182, 0, none⟩ = some (.int .i64 ((rd_T122 t178 x15_1).f0)) := (blk_cell BK182.out 0).trans rfl; have hcz22_1 : w20.cell? ⟨gb182, 1, none⟩ = some (.int .i64 ((rd_T122 t178 x15_1).f1)) := (blk_cell BK182.out 1).trans rfl; have hcz22_2 : w20.cell? ⟨gb182, 2, none⟩ = some (.int .i64 ((rd_T122 t178 x15_1).f2)) := (blk_cell BK182.out 2).trans rfl; have hfz22_0 := blk_frozen BK182.out 0; have hfz22_1 := blk_frozen BK182.out 1; have hfz22_2 := blk_frozen BK182.out 2; obtain ⟨Ao23, co23, eo23⟩ := Kd.R_slice HO_3.out; subst eo23) | ((with_reducible refine gate_callee (f := 134) rfl ?_); refine goesL_ (some 33) rfl rfl Try.func134 (by kernel_rfl) rfl #[.pointer Ao23, .int .i64 ((rd_T122 t178 x15_1).f0), .int .i64 ((rd_T122 t178 x15_1).f1), .int .i64 ((rd_T122 t178 x15_1).f2), .int .i64 (-1)] rfl (by (try simp only [List.map_toArray, List.map_cons, List.map_nil]); first | done | rfl | (simp only [List.length_drop, List.length_take]; rfl)) ?_; (refine (impl_chi_set.calls (fun k_ => some k_ = (.slice Ao23 x3_1.length co23 : Value).ownBlock) (.slice Ao23 x3_1.length co23) x3_1 ((rd_T122 t178 x15_1).f0) ((rd_T122 t178 x15_1).f1) ((rd_T122 t178 x15_1).f2) (-1) t183 w _ ?side1 ?side2 A16.out).mono ?_); (case side1 => repeat (first | (with_reducible first | exact HB.out | apply below_alloc | apply pw_below_drewN | apply below_drew1 | refine below_set ?_ GE174.out | refine below_set ?_ GE182.out) | exact HB.out)); (case side2 => exact Kd.R_tight rfl HO_3.out); rintro e w24 ⟨rfl, hy0, hb, hkp⟩; refine ⟨_, rfl, ?_⟩; have n0_ := am_ (Kd.R_reok rfl hy0 (fun k_ e_ => HO_3.out.1 k_ e_)); have n1_ := am_ (Kd.R_mono (ok' := fun k_ => k_ ≠ gb182) (Kd.R_keptB ((Kd.R_apart' HO_13.out (Kd.R_typed HO_3.out) (by decide))) hkp (fun k_ hk_ hs_ => (hk_.2) hs_)) (fun k_ hk_ => hk_.1.1)); have n2_ := am_ (blk_kept (kx_ BK174.out) hkp (fun hs_ => (fun e_ => (Kd.R_ne HO_3.out BK174.out (by decide)) e_) hs_)); have n3_ := am_ (blk_kept (kx_ BK182.out) hkp (fun hs_ => (fun e_ => (Kd.R_ne HO_3.out BK182.out (by decide)) e_) hs_)); have n4_ := am_ (hb); clear HO_3; clear HO_13; clear BK174; clear BK182; clear HB; have HO_3 := n0_; have HO_13 := n1_; have BK174 := n2_; have BK182 := n3_; have HB := n4_; clear n0_ n1_ n2_ n3_ n4_; (try clear hb); (try clear hkp); (try clear hy0)))
        go_roundg k1
        case measure => have := HK1.out; omega
        case rel => exact ⟨(t183), (wrap64 (x15_1 + 1)), (by first | rfl | (simp; done) | (simp [*]; done)), H', ⟨by have := HK1.out; omega⟩, ⟨rx_ HO_3.out⟩, ⟨by (with_reducible repeat (first | apply Kd.R_alloc | apply Kd.R_drewN | apply Kd.R_drew)); exact Kd.R_mono HO_13.out (fun _ hk => trivial)⟩, ⟨kx_ BK174.out⟩, ⟨bx2 HB.out GE174.out GE182.out⟩⟩
       ·rw [if_neg c15] at H
        have c15b0 : ((bt a0_1 x15_1) == 45) = false := beq_eq_false_iff_ne.mpr c15
        have c15b1 : ((bt a0_1 x15_1) != 45) = true := bne_iff_ne.mpr c15
        replace H := Option.bind_eq_some_iff.mp H
        obtain ⟨t184, A250, H⟩ := H
        replace H : (impl_tableOf.l0 k1 t184 t178 (t178.length : Int) (wrap64 (x15_1 + 1)) a0_0 a0_1) = some r := H
        have A25 := am_ A250
        clear A250
        have H' := am_ H
        clear H
        have p181 : 0 ≤ (x15_1 : Int) := of_decide_eq_true (by first | (with_reducible assumption) | assumption)
        have q181 : x15_1 < (t178.length : Int) := of_decide_eq_true (by first | (with_reducible assumption) | assumption)
        obtain ⟨ad181, e181, hx181_0, hx181_1, hx181_2⟩ := at_T122 (Kd.R_reads' HO_13.out).2.2 x15_1 p181 q181
        cases e181
        replace p181 := eq_true p181
        replace q181 := eq_true q181
        go_wp2_with (first | ((with_reducible refine gate_dst (N := 5) rfl ?_); refine box_event ?hg (N := 5) ?hd (cs := #[.int .i64 0, .int .i64 0, .int .i64 0]) (t := 122) ?hr ?_; (case hd => rfl); (case hg => rfl); (case hr => first | (go_simp; done) | (go_simp; rfl)); intro gb182 hg w26 hbox hb; have n0_ := am_ (Kd.R_below (rx_ HO_3.out) hb); have n1_ := am_ (Kd.R_below (Kd.R_elderB (rx_ HO_13.out) gb182 (Nat.le_of_eq hg.symm)) hb); have n2_ := am_ (blk_below (g := gb174) (o := .cells #[.int .i64 a0_0, .string a0_1] 25 (0, 0)) (kx_ BK174.out) hb); have n3_ := am_ (below_step (bx1 HB.out GE174.out) hb); have n4_ := am_ (hbox); have n5_ := am_ ((by rw [hg]; exact (below_size (bx1 HB.out GE174.out)) : w.heap.size ≤ gb182)); have n6_ := am_ ((by rw [hg]; exact (below_size (bx1 HB.out GE174.out)) : w.heap.size ≤ gb182)); have n7_ := am_ ((by rw [hg]; exact Nat.ne_of_lt (blk_lt (g := gb174) (o := .cells #[.int .i64 a0_0, .string a0_1] 25 (0, 0)) (kx_ BK174.out)) : gb174 ≠ gb182)); have n8_ := am_ ((by rw [hg]; exact Nat.ne_of_gt (blk_lt (g := gb174) (o := .cells #[.int .i64 a0_0, .string a0_1] 25 (0, 0)) (kx_ BK174.out)) : gb182 ≠ gb174)); clear HO_3; clear HO_13; clear BK174; clear HB; have HO_3 := n0_; have HO_13 := n1_; have BK174 := n2_; have HB := n3_; have BK182 := n4_; have GW182 := n5_; have GE182 := n6_; have NB174_182 := n7_; have NB182_174 := n8_; clear n0_ n1_ n2_ n3_ n4_ n5_ n6_ n7_ n8_; clear hb hbox hg; have hnb27 := NB182_174.out; have hnc27 := NB174_182.out; have hcz28_0 : w26.cell? ⟨gb182, 0, none⟩ = some (.int .i64 0) := (blk_cell BK182.out 0).trans rfl; have hcz28_1 : w26.cell? ⟨gb182, 1, none⟩ = some (.int .i64 0) := (blk_cell BK182.out 1).trans rfl; have hcz28_2 : w26.cell? ⟨gb182, 2, none⟩ = some (.int .i64 0) := (blk_cell BK182.out 2).trans rfl; have hfz28_0 := blk_frozen BK182.out 0; have hfz28_1 := blk_frozen BK182.out 1; have hfz28_2 := blk_frozen BK182.out 2) | ((with_reducible refine gate_store (t := 122) (p := 5) rfl ?_); refine store_event (t := 122) (p := 5) (v := ?vo_w29) (w1 := (((w26.setCell ⟨gb182, 0, none⟩ (.int .i64 ((rd_T122 t178 x15_1).f0))).setCell ⟨gb182, 1, none⟩ (.int .i64 ((rd_T122 t178 x15_1).f1))).setCell ⟨gb182, 2, none⟩ (.int .i64 ((rd_T122 t178 x15_1).f2)))) ?hg ?ho ?hn ?hr ?_; (case ho => rfl); (case hg => rfl); (case hn => rfl); (case hr => first | (go_simp; done) | (go_simp; rfl)); intro w29 hw; have n0_ : Aside0 (Kd.R (Kd.int .i64) 93 w29 w.heap.size (fun _ => True) v176 x3_1) := ⟨(by rw [hw]; exact (by (with_reducible repeat (first | apply Kd.R_alloc | apply Kd.R_drewN | apply Kd.R_drew)); exact Kd.R_mono (Kd.R_far (p := ⟨gb182, 2, none⟩) (Kd.R_far (p := ⟨gb182, 1, none⟩) (Kd.R_far (p := ⟨gb182, 0, none⟩) (Kd.R_types HO_3.out BK182.out (by decide)) (fun _ hk => hk.2) (.int .i64 ((rd_T122 t178 x15_1).f0))) (fun _ hk => hk.2) (.int .i64 ((rd_T122 t178 x15_1).f1))) (fun _ hk => hk.2) (.int .i64 ((rd_T122 t178 x15_1).f2))) (fun _ hk => trivial)))⟩; have n1_ : Aside0 (Kd.R k122 122 w29 w.heap.size (fun k_ => k_ ≠ gb182) (.slice (some ad181) t178.length co9) t178) := ⟨(by rw [hw]; exact (by (with_reducible repeat (first | apply Kd.R_alloc | apply Kd.R_drewN | apply Kd.R_drew)); exact Kd.R_mono (Kd.R_far (p := ⟨gb182, 2, none⟩) (Kd.R_far (p := ⟨gb182, 1, none⟩) (Kd.R_far (p := ⟨gb182, 0, none⟩) (Kd.R_mono HO_13.out (fun k_ hk => (⟨hk, hk.2⟩ : _ ∧ k_ ≠ gb182))) (fun _ hk => hk.2) (.int .i64 ((rd_T122 t178 x15_1).f0))) (fun _ hk => hk.2) (.int .i64 ((rd_T122 t178 x15_1).f1))) (fun _ hk => hk.2) (.int .i64 ((rd_T122 t178 x15_1).f2))) (fun _ hk => hk.1.2)))⟩; have n2_ : Aside0 (w29.heap[gb174]? = some (.cells #[.int .i64 a0_0, .string a0_1] 25 (0, 0))) := ⟨(by rw [hw]; exact (by (with_reducible repeat (first | refine blk_drewN ?_ _ | refine blk_drew ?_ | refine blk_alloc ?_ _)); refine blk_far ?_ NB174_182.out _; (with_reducible repeat (first | refine blk_drewN ?_ _ | refine blk_drew ?_ | refine blk_alloc ?_ _)); refine blk_far ?_ NB174_182.out _; (with_reducible repeat (first | refine blk_drewN ?_ _ | refine blk_drew ?_ | refine blk_alloc ?_ _)); refine blk_far ?_ NB174_182.out _; (with_reducible repeat (first | refine blk_drewN ?_ _ | refine blk_drew ?_ | refine blk_alloc ?_ _)); exact BK174.out))⟩; have n3_ : Aside0 (w29.heap[gb182]? = some (.cells #[.int .i64 ((rd_T122 t178 x15_1).f0), .int .i64 ((rd_T122 t178 x15_1).f1), .int .i64 ((rd_T122 t178 x15_1).f2)] 122 (0, 0))) := ⟨(by rw [hw]; exact (by (with_reducible repeat (first | refine blk_drewN ?_ _ | refine blk_drew ?_ | refine blk_alloc ?_ _)); refine blk_put (cs := #[.int .i64 ((rd_T122 t178 x15_1).f0), .int .i64 ((rd_T122 t178 x15_1).f1), .int .i64 0]) ?_ 2 _ rfl; (with_reducible repeat (first | refine blk_drewN ?_ _ | refine blk_drew ?_ | refine blk_alloc ?_ _)); refine blk_put (cs := #[.int .i64 ((rd_T122 t178 x15_1).f0), .int .i64 0, .int .i64 0]) ?_ 1 _ rfl; (with_reducible repeat (first | refine blk_drewN ?_ _ | refine blk_drew ?_ | refine blk_alloc ?_ _)); refine blk_put (cs := #[.int .i64 0, .int .i64 0, .int .i64 0]) ?_ 0 _ rfl; (with_reducible repeat (first | refine blk_drewN ?_ _ | refine blk_drew ?_ | refine blk_alloc ?_ _)); exact BK182.out))⟩; have n4_ : Aside0 (Below w.heap.size w w29) := ⟨(by rw [hw]; exact (bx2 HB.out GE174.out GE182.out))⟩; clear hw; clear HO_3; clear HO_13; clear BK174; clear BK182; clear HB; have HO_3 := n0_; have HO_13 := n1_; have BK174 := n2_; have BK182 := n3_; have HB := n4_; clear n0_ n1_ n2_ n3_ n4_; have hcz30_0 : w29.cell? ⟨gb174, 0, none⟩ = some (.int .i64 a0_0) := (blk_cell BK174.out 0).trans rfl; have hcz30_1 : w29.cell? ⟨gb174, 1, none⟩ = some (.string a0_1) := (blk_cell BK174.out 1).trans rfl; have hfz30_0 := blk_frozen BK174.out 0; have hfz30_1 := blk_frozen BK174.out 1; have p14 : 0 ≤ (x15_1 : Int) := of_decide_eq_true (by first | (with_reducible assumption) | assumption); have q14 : x15_1 < (a0_1.size : Int) := of_decide_eq_true (by first | (with_reducible assumption) | assumption); have hx14 := bt_at a0_1 x15_1; replace p14 := eq_true p14; replace q14 := eq_true q14; have hcz31_0 : w29.cell? ⟨gb182, 0, none⟩ = some (.int .i64 ((rd_T122 t178 x15_1).f0)) := (blk_cell BK182.out 0).trans rfl; have hcz31_1 : w29.cell? ⟨gb182, 1, none⟩ = some (.int .i64 ((rd_T122 t178 x15_1).f1)) := (blk_cell BK182.out 1).trans rfl; have hcz31_2 : w29.cell? ⟨gb182, 2, none⟩ = some (.int .i64 ((rd_T122 t178 x15_1).f2)) := (blk_cell BK182.out 2).trans rfl; have hfz31_0 := blk_frozen BK182.out 0; have hfz31_1 := blk_frozen BK182.out 1; have hfz31_2 := blk_frozen BK182.out 2; obtain ⟨Ao32, co32, eo32⟩ := Kd.R_slice HO_3.out; subst eo32) | ((with_reducible refine gate_callee (f := 134) rfl ?_); refine goesL_ (some 33) rfl rfl Try.func134 (by kernel_rfl) rfl #[.pointer Ao32, .int .i64 ((rd_T122 t178 x15_1).f0), .int .i64 ((rd_T122 t178 x15_1).f1), .int .i64 ((rd_T122 t178 x15_1).f2), .int .i64 1] rfl (by (try simp only [List.map_toArray, List.map_cons, List.map_nil]); first | done | rfl | (simp only [List.length_drop, List.length_take]; rfl)) ?_; (refine (impl_chi_set.calls (fun k_ => some k_ = (.slice Ao32 x3_1.length co32 : Value).ownBlock) (.slice Ao32 x3_1.length co32) x3_1 ((rd_T122 t178 x15_1).f0) ((rd_T122 t178 x15_1).f1) ((rd_T122 t178 x15_1).f2) 1 t184 w _ ?side1 ?side2 A25.out).mono ?_); (case side1 => repeat (first | (with_reducible first | exact HB.out | apply below_alloc | apply pw_below_drewN | apply below_drew1 | refine below_set ?_ GE174.out | refine below_set ?_ GE182.out) | exact HB.out)); (case side2 => exact Kd.R_tight rfl HO_3.out); rintro e w33 ⟨rfl, hy0, hb, hkp⟩; refine ⟨_, rfl, ?_⟩; have n0_ := am_ (Kd.R_reok rfl hy0 (fun k_ e_ => HO_3.out.1 k_ e_)); have n1_ := am_ (Kd.R_mono (ok' := fun k_ => k_ ≠ gb182) (Kd.R_keptB ((Kd.R_apart' HO_13.out (Kd.R_typed HO_3.out) (by decide))) hkp (fun k_ hk_ hs_ => (hk_.2) hs_)) (fun k_ hk_ => hk_.1.1)); have n2_ := am_ (blk_kept (kx_ BK174.out) hkp (fun hs_ => (fun e_ => (Kd.R_ne HO_3.out BK174.out (by decide)) e_) hs_)); have n3_ := am_ (blk_kept (kx_ BK182.out) hkp (fun hs_ => (fun e_ => (Kd.R_ne HO_3.out BK182.out (by decide)) e_) hs_)); have n4_ := am_ (hb); clear HO_3; clear HO_13; clear BK174; clear BK182; clear HB; have HO_3 := n0_; have HO_13 := n1_; have BK174 := n2_; have BK182 := n3_; have HB := n4_; clear n0_ n1_ n2_ n3_ n4_; (try clear hb); (try clear hkp); (try clear hy0)))
        go_roundg k1
        case measure => have := HK1.out; omega
        case rel => exact ⟨(t184), (wrap64 (x15_1 + 1)), (by first | rfl | (simp; done) | (simp [*]; done)), H', ⟨by have := HK1.out; omega⟩, ⟨rx_ HO_3.out⟩, ⟨by (with_reducible repeat (first | apply Kd.R_alloc | apply Kd.R_drewN | apply Kd.R_drew)); exact Kd.R_mono HO_13.out (fun _ hk => trivial)⟩, ⟨kx_ BK174.out⟩, ⟨bx2 HB.out GE174.out GE182.out⟩⟩
      ·rw [if_neg c13] at H
       exact absurd H (by simp)
     ·rw [if_neg c12] at H
      exact absurd H (by simp)
    ·rw [if_neg c11] at H
     exact absurd H (by simp)
   ·rw [if_neg c10] at H
    have c10b0 : decide (x15_1 < (t178.length : Int)) = false := decide_eq_false c10
    clear c10
    obtain rfl := Option.some.inj H
    go_wp2
    go_ret
    exact ⟨(v176), by first | rfl | (simp [errW_none, errW_some] <;> rfl) | (simp [*, errW_none, errW_some] <;> rfl), rx_ HO_3.out, bx1 HB.out GE174.out⟩
def impl_chi_signs.l0 : Nat → List Int → List Int → List (S122) → Int → Int → Option (Int × ByteArray)
 | 0, _, _, _, _, _ => none
 | k + 1, x0, x3, x10, x11, x12 => if x12 < x11 then (if 0 ≤ x12 then (if x12 < (x10.length : Int) then (if 344 ≤ (x0.length : Int) then (if 0 ≤ ((rd_T122 x10 x12).f0) then (if ((rd_T122 x10 x12).f0) < 7 then (if 0 ≤ ((rd_T122 x10 x12).f1) then (if ((rd_T122 x10 x12).f1) < 7 then (if 0 ≤ ((rd_T122 x10 x12).f2) then (if ((rd_T122 x10 x12).f2) < 7 then (if (chiA x0 ((rd_T122 x10 x12).f0) ((rd_T122 x10 x12).f1) ((rd_T122 x10 x12).f2)) > 0 then (if x3.length < 140737488355328 then (impl_chi_signs.l0 k x0 (x3 ++ [43]) x10 x11 (wrap64 (x12 + 1))) else (none)) else (if x3.length < 140737488355328 then (impl_chi_signs.l0 k x0 (x3 ++ [45]) x10 x11 (wrap64 (x12 + 1))) else (none))) else (none)) else (none)) else (none)) else (none)) else (none)) else (none)) else (none)) else (none)) else (none)) else (if 344 ≤ (x0.length : Int) then (some (chiN x0, strOfNums x3)) else (none))
def impl_chi_signs.f (k : Nat) (l0 : List Int) : Option (Int × ByteArray) := if 344 ≤ (l0.length : Int) then ((impl_triplesOf.f k (chiN l0)).bind fun t209 => (impl_chi_signs.l0 k l0 ([] : List Int) t209 (t209.length : Int) 0)) else (none)
def impl_chi_signs.T5 : Bool × List (List Nat × List Nat) := (true, [([], []), ([], []), ([1], [1]), ([], []), ([3], [3]), ([], []), ([5], [5]), ([0], [0]), ([7], [7]), ([8, 2], [2, 8]), ([9, 4], [4, 9]), ([10, 6], [6, 10]), ([11], [11]), ([12], [12])])
def impl_chi_signs.B5 : List Nat := [0, 0, 2, 0, 8, 0, 32, 1, 129, 391, 927, 2047, 4095, 8191]
theorem impl_chi_signs.tab5 : rtab .any (opsOf Try.f145 5) = impl_chi_signs.T5 := by kernel_rfl
theorem impl_chi_signs.bits5 : waitsOk impl_chi_signs.T5.2 impl_chi_signs.B5 = true := by kernel_rfl
def impl_chi_signs.T9 : Bool × List (List Nat × List Nat) := (true, [([], []), ([0], [0]), ([1], [1]), ([2], [2]), ([], []), ([4], [4]), ([3, 5], [3, 5]), ([6, 0, 1, 2, 3, 4, 5, 6], [6])])
def impl_chi_signs.B9 : List Nat := [0, 1, 3, 7, 0, 16, 63, 127]
theorem impl_chi_signs.tab9 : rtab .any (opsOf Try.f145 9) = impl_chi_signs.T9 := by kernel_rfl
theorem impl_chi_signs.bits9 : waitsOk impl_chi_signs.T9.2 impl_chi_signs.B9 = true := by kernel_rfl
set_option maxHeartbeats 8000000 in
set_option maxRecDepth 100000 in
theorem impl_chi_signs.calls (k : Nat) (A0 : Option Addr) (c0 : Nat) (l0 : List Int) (r1 : Int) (r2 : ByteArray) (w : World) (hr0 : Kd.C (Kd.int .i64) w A0 l0.length l0) (hc0 : l0.length ≤ c0) (h : impl_chi_signs.f k l0 = some (r1, r2)) :
  Calls Try.prog 145 #[.pointer A0] w fun e w' => e = .returned (.agg #[.int .i64 r1, .string r2]) ∧ Below w.heap.size w w' := by
 have hu25 := Try.underlying25
 have hu122 := Try.underlying122
 have HR0 := am_ hr0
 have HC0 := am_ hc0
 clear hr0 hc0
 have HB := am_ (Below.refl w.heap.size w)
 have H : (if 344 ≤ (l0.length : Int) then ((impl_triplesOf.f k (chiN l0)).bind fun t209 => (impl_chi_signs.l0 k l0 ([] : List Int) t209 (t209.length : Int) 0)) else (none)) = some (r1, r2) := h
 clear h
 by_cases c2 : 344 ≤ (l0.length : Int)
 ·rw [if_pos c2] at H
  have c2b0 := eq_true c2
  have c2b1 : decide (344 ≤ (l0.length : Int)) = true := decide_eq_true c2
  clear c2
  replace H := Option.bind_eq_some_iff.mp H
  obtain ⟨t209, A30, H⟩ := H
  replace H : (impl_chi_signs.l0 k l0 ([] : List Int) t209 (t209.length : Int) 0) = some (r1, r2) := H
  have A3 := am_ A30
  clear A30
  have H' := am_ H
  clear H
  go_enter Try.func145, Try.ntmps145
  go_wp2_with (first | ((with_reducible refine gate_dst (N := 2) rfl ?_); refine box_event ?hg (N := 2) ?hd (cs := #[.int .i64 0, .string (⟨#[]⟩ : ByteArray)]) (t := 25) ?hr ?_; (case hd => rfl); (case hg => rfl); (case hr => first | (go_simp; done) | (go_simp; rfl)); intro gb207 hg w4 hbox hb; have n0_ := am_ (below_step (bx0 HB.out) hb); have n1_ := am_ (hbox); have n2_ := am_ ((by rw [hg]; exact (below_size (bx0 HB.out)) : w.heap.size ≤ gb207)); have n3_ := am_ ((by rw [hg]; exact (below_size (bx0 HB.out)) : w.heap.size ≤ gb207)); clear HB; have HB := n0_; have BK207 := n1_; have GW207 := n2_; have GE207 := n3_; clear n0_ n1_ n2_ n3_; clear hb hbox hg; have q208 : 344 ≤ (l0.length : Int) := of_decide_eq_true (by first | (with_reducible assumption) | assumption); obtain ⟨ad208, e208, hx208_0⟩ := chi_n HR0.out q208; cases e208; replace hx208_0 := (HB.out.cell (World.block_lt_of_cell? w _ hx208_0)).trans hx208_0) | ((with_reducible refine gate_callee (f := 114) rfl ?_); refine goesL_ (some 10) rfl rfl Try.func114 (by kernel_rfl) rfl #[.int .i64 (chiN l0)] rfl (by (try simp only [List.map_toArray, List.map_cons, List.map_nil]); first | done | rfl | (simp only [List.length_drop, List.length_take]; rfl)) ?_; (with_reducible refine (impl_triplesOf.calls k (chiN l0) t209 _ A3.out).mono ?_); rintro e w5 ⟨v210, rfl, ho0, hb⟩; refine ⟨_, rfl, ?_⟩; have n0_ := am_ (Kd.R_lower ho0 (below_size (bx1 HB.out GE207.out))); have n1_ := am_ (blk_below (g := gb207) (o := .cells #[.int .i64 0, .string (⟨#[]⟩ : ByteArray)] 25 (0, 0)) (kx_ BK207.out) hb); have n2_ := am_ (below_step (bx1 HB.out GE207.out) hb); clear BK207; clear HB; have HO211 := n0_; have BK207 := n1_; have HB := n2_; clear n0_ n1_ n2_; (try clear hb); (try clear hb2); (try clear hk); (try clear hi); (try clear ho0); obtain ⟨Ao6, co6, eo6⟩ := Kd.R_slice HO211.out; subst eo6))
  go_loopg [3, 12] k (fun kq v3 v12 w' => ∃ (x3_1 : List Int) (x12_1 : Int), v12 = .int .i64 x12_1 ∧ Aside0 (impl_chi_signs.l0 kq l0 x3_1 t209 (t209.length : Int) x12_1 = some (r1, r2)) ∧ Aside0 (kq ≤ k) ∧ Aside0 (Kd.R (Kd.int .u8) 5 w' w.heap.size (fun _ => True) v3 x3_1) ∧ Aside0 (Kd.R k122 122 w' w.heap.size (fun _ => True) (.slice Ao6 t209.length co6) t209) ∧ Aside0 (w'.heap[gb207]? = some (.cells #[.int .i64 0, .string (⟨#[]⟩ : ByteArray)] 25 (0, 0))) ∧ Aside0 (Below w.heap.size w w'))
  case atStart => exact ⟨(([] : List Int)), (0), (by first | rfl | (simp; done) | (simp [*]; done)), H', ⟨Nat.le_refl _⟩, ⟨by first | exact Kd.R_nil _ _ _ _ _ | exact Kd.N_nil _ _ _ _ _ | exact Kd.V_nil _ _ _ _ _ | exact Kd.Q_nil _ _ _ _ _ | exact Kd.S_nil _ _ _ _ _⟩, ⟨rx_ HO211.out⟩, ⟨kx_ BK207.out⟩, ⟨bx1 HB.out GE207.out⟩⟩
  case round =>
   clear H'
   try clear c1
   try clear c2
   try clear c2b0
   try clear c2b1
   try clear p2
   try clear q2
   try clear hx2
   try clear hx208_0
   try clear q208
   obtain ⟨x3_1, x12_1, rfl, HA, HK1, HO_3, HO_10, BK207, HB⟩ := hrel
   cases gk with
   | zero => exact absurd HA.out (by simp [impl_chi_signs.l0])
   | succ k1 =>
    have H := HA.out
    clear HA
    simp only [impl_chi_signs.l0] at H
    by_cases c7 : x12_1 < (t209.length : Int)
    ·rw [if_pos c7] at H
     have c7b0 : decide (x12_1 < (t209.length : Int)) = true := decide_eq_true c7
     clear c7
     by_cases c8 : 0 ≤ x12_1
     ·rw [if_pos c8] at H
      have c8b0 : decide (0 ≤ x12_1) = true := decide_eq_true c8
      clear c8
      by_cases c9 : x12_1 < (t209.length : Int)
      ·rw [if_pos c9] at H
       have c9b0 : decide (x12_1 < (t209.length : Int)) = true := decide_eq_true c9
       clear c9
       by_cases c10 : 344 ≤ (l0.length : Int)
       ·rw [if_pos c10] at H
        have c10b0 := eq_true c10
        have c10b1 : decide (344 ≤ (l0.length : Int)) = true := decide_eq_true c10
        clear c10
        by_cases c11 : 0 ≤ ((rd_T122 t209 x12_1).f0)
        ·rw [if_pos c11] at H
         have c11b0 : decide (0 ≤ ((rd_T122 t209 x12_1).f0)) = true := decide_eq_true c11
         clear c11
         by_cases c12 : ((rd_T122 t209 x12_1).f0) < 7
         ·rw [if_pos c12] at H
          have c12b0 : decide (((rd_T122 t209 x12_1).f0) < 7) = true := decide_eq_true c12
          clear c12
          by_cases c13 : 0 ≤ ((rd_T122 t209 x12_1).f1)
          ·rw [if_pos c13] at H
           have c13b0 : decide (0 ≤ ((rd_T122 t209 x12_1).f1)) = true := decide_eq_true c13
           clear c13
           by_cases c14 : ((rd_T122 t209 x12_1).f1) < 7
           ·rw [if_pos c14] at H
            have c14b0 : decide (((rd_T122 t209 x12_1).f1) < 7) = true := decide_eq_true c14
            clear c14
            by_cases c15 : 0 ≤ ((rd_T122 t209 x12_1).f2)
            ·rw [if_pos c15] at H
             have c15b0 : decide (0 ≤ ((rd_T122 t209 x12_1).f2)) = true := decide_eq_true c15
             clear c15
             by_cases c16 : ((rd_T122 t209 x12_1).f2) < 7
             ·rw [if_pos c16] at H
              have c16b0 : decide (((rd_T122 t209 x12_1).f2) < 7) = true := decide_eq_true c16
              clear c16
              by_cases c17 : (chiA l0 ((rd_T122 t209 x12_1).f0) ((rd_T122 t209 x12_1).f1) ((rd_T122 t209 x12_1).f2)) > 0
              ·rw [if_pos c17] at H
               have c17b0 : decide (0 < (chiA l0 ((rd_T122 t209 x12_1).f0) ((rd_T122 t209 x12_1).f1) ((rd_T122 t209 x12_1).f2))) = true := decide_eq_true c17
               clear c17
               by_cases c18 : x3_1.length < 140737488355328
               ·rw [if_pos c18] at H
                have LMc18 := am_ c18
                clear c18
                obtain ⟨y215, hy215⟩ : ∃ y_ : List Int, y_ = (x3_1 ++ [43]) := ⟨_, rfl⟩
                replace H : (impl_chi_signs.l0 k1 l0 y215 t209 (t209.length : Int) (wrap64 (x12_1 + 1))) = some (r1, r2) := by first | (rw [hy215]; with_reducible exact H) | (have H2_ := (Option.bind_some _ _).symm.trans H; rw [hy215]; with_reducible exact H2_) | (have H2_ := (Option.bind_some _ _).symm.trans H; with_reducible exact H2_) | with_reducible exact H | (rw [hy215]; exact H) | exact H
                have Ny215 := am_ hy215
                clear hy215
                have H' := am_ H
                clear H
                have p212 : 0 ≤ (x12_1 : Int) := of_decide_eq_true (by first | (with_reducible assumption) | assumption)
                have q212 : x12_1 < (t209.length : Int) := of_decide_eq_true (by first | (with_reducible assumption) | assumption)
                obtain ⟨ad212, e212, hx212_0, hx212_1, hx212_2⟩ := at_T122 (Kd.R_reads' HO_10.out).2.2 x12_1 p212 q212
                cases e212
                replace p212 := eq_true p212
                replace q212 := eq_true q212
                try go_wp2_with (first | ((with_reducible refine gate_dst (N := 5) rfl ?_); refine box_event ?hg (N := 5) ?hd (cs := #[.int .i64 0, .int .i64 0, .int .i64 0]) (t := 122) ?hr ?_; (case hd => rfl); (case hg => rfl); (case hr => first | (go_simp; done) | (go_simp; rfl)); intro gb213 hg w19 hbox hb; have n0_ := am_ (Kd.R_below (rx_ HO_3.out) hb); have n1_ := am_ (Kd.R_below (Kd.R_elderB (rx_ HO_10.out) gb213 (Nat.le_of_eq hg.symm)) hb); have n2_ := am_ (blk_below (g := gb207) (o := .cells #[.int .i64 0, .string (⟨#[]⟩ : ByteArray)] 25 (0, 0)) (kx_ BK207.out) hb); have n3_ := am_ (below_step (bx1 HB.out GE207.out) hb); have n4_ := am_ (hbox); have n5_ := am_ ((by rw [hg]; exact (below_size (bx1 HB.out GE207.out)) : w.heap.size ≤ gb213)); have n6_ := am_ ((by rw [hg]; exact (below_size (bx1 HB.out GE207.out)) : w.heap.size ≤ gb213)); have n7_ := am_ ((by rw [hg]; exact Nat.ne_of_lt (blk_lt (g := gb207) (o := .cells #[.int .i64 0, .string (⟨#[]⟩ : ByteArray)] 25 (0, 0)) (kx_ BK207.out)) : gb207 ≠ gb213)); have n8_ := am_ ((by rw [hg]; exact Nat.ne_of_gt (blk_lt (g := gb207) (o := .cells #[.int .i64 0, .string (⟨#[]⟩ : ByteArray)] 25 (0, 0)) (kx_ BK207.out)) : gb213 ≠ gb207)); clear HO_3; clear HO_10; clear BK207; clear HB; have HO_3 := n0_; have HO_10 := n1_; have BK207 := n2_; have HB := n3_; have BK213 := n4_; have GW213 := n5_; have GE213 := n6_; have NB207_213 := n7_; have NB213_207 := n8_; clear n0_ n1_ n2_ n3_ n4_ n5_ n6_ n7_ n8_; clear hb hbox hg; have hnb20 := NB213_207.out; have hnc20 := NB207_213.out; have hcz21_0 : w19.cell? ⟨gb213, 0, none⟩ = some (.int .i64 0) := (blk_cell BK213.out 0).trans rfl; have hcz21_1 : w19.cell? ⟨gb213, 1, none⟩ = some (.int .i64 0) := (blk_cell BK213.out 1).trans rfl; have hcz21_2 : w19.cell? ⟨gb213, 2, none⟩ = some (.int .i64 0) := (blk_cell BK213.out 2).trans rfl; have hfz21_0 := blk_frozen BK213.out 0; have hfz21_1 := blk_frozen BK213.out 1; have hfz21_2 := blk_frozen BK213.out 2))
                have n0_ : Aside0 (Kd.R (Kd.int .u8) 5 (((w19.setCell ⟨gb213, 0, none⟩ (.int .i64 ((rd_T122 t209 x12_1).f0))).setCell ⟨gb213, 1, none⟩ (.int .i64 ((rd_T122 t209 x12_1).f1))).setCell ⟨gb213, 2, none⟩ (.int .i64 ((rd_T122 t209 x12_1).f2))) w.heap.size (fun _ => True) u3 x3_1) := ⟨by (with_reducible repeat (first | apply Kd.R_alloc | apply Kd.R_drewN | apply Kd.R_drew)); exact Kd.R_mono (Kd.R_far (p := ⟨gb213, 2, none⟩) (Kd.R_far (p := ⟨gb213, 1, none⟩) (Kd.R_far (p := ⟨gb213, 0, none⟩) (Kd.R_types HO_3.out BK213.out (by decide)) (fun _ hk => hk.2) (.int .i64 ((rd_T122 t209 x12_1).f0))) (fun _ hk => hk.2) (.int .i64 ((rd_T122 t209 x12_1).f1))) (fun _ hk => hk.2) (.int .i64 ((rd_T122 t209 x12_1).f2))) (fun _ hk => trivial)⟩
                have n1_ : Aside0 (Kd.R k122 122 (((w19.setCell ⟨gb213, 0, none⟩ (.int .i64 ((rd_T122 t209 x12_1).f0))).setCell ⟨gb213, 1, none⟩ (.int .i64 ((rd_T122 t209 x12_1).f1))).setCell ⟨gb213, 2, none⟩ (.int .i64 ((rd_T122 t209 x12_1).f2))) w.heap.size (fun k_ => k_ ≠ gb213) (.slice (some ad212) t209.length co6) t209) := ⟨by (with_reducible repeat (first | apply Kd.R_alloc | apply Kd.R_drewN | apply Kd.R_drew)); exact Kd.R_mono (Kd.R_far (p := ⟨gb213, 2, none⟩) (Kd.R_far (p := ⟨gb213, 1, none⟩) (Kd.R_far (p := ⟨gb213, 0, none⟩) (Kd.R_mono HO_10.out (fun k_ hk => (⟨hk, hk.2⟩ : _ ∧ k_ ≠ gb213))) (fun _ hk => hk.2) (.int .i64 ((rd_T122 t209 x12_1).f0))) (fun _ hk => hk.2) (.int .i64 ((rd_T122 t209 x12_1).f1))) (fun _ hk => hk.2) (.int .i64 ((rd_T122 t209 x12_1).f2))) (fun _ hk => hk.1.2)⟩
                have n2_ : Aside0 ((((w19.setCell ⟨gb213, 0, none⟩ (.int .i64 ((rd_T122 t209 x12_1).f0))).setCell ⟨gb213, 1, none⟩ (.int .i64 ((rd_T122 t209 x12_1).f1))).setCell ⟨gb213, 2, none⟩ (.int .i64 ((rd_T122 t209 x12_1).f2))).heap[gb207]? = some (.cells #[.int .i64 0, .string (⟨#[]⟩ : ByteArray)] 25 (0, 0))) := ⟨by (with_reducible repeat (first | refine blk_drewN ?_ _ | refine blk_drew ?_ | refine blk_alloc ?_ _)); refine blk_far ?_ NB207_213.out _; (with_reducible repeat (first | refine blk_drewN ?_ _ | refine blk_drew ?_ | refine blk_alloc ?_ _)); refine blk_far ?_ NB207_213.out _; (with_reducible repeat (first | refine blk_drewN ?_ _ | refine blk_drew ?_ | refine blk_alloc ?_ _)); refine blk_far ?_ NB207_213.out _; (with_reducible repeat (first | refine blk_drewN ?_ _ | refine blk_drew ?_ | refine blk_alloc ?_ _)); exact BK207.out⟩
                have n3_ : Aside0 ((((w19.setCell ⟨gb213, 0, none⟩ (.int .i64 ((rd_T122 t209 x12_1).f0))).setCell ⟨gb213, 1, none⟩ (.int .i64 ((rd_T122 t209 x12_1).f1))).setCell ⟨gb213, 2, none⟩ (.int .i64 ((rd_T122 t209 x12_1).f2))).heap[gb213]? = some (.cells #[.int .i64 ((rd_T122 t209 x12_1).f0), .int .i64 ((rd_T122 t209 x12_1).f1), .int .i64 ((rd_T122 t209 x12_1).f2)] 122 (0, 0))) := ⟨by (with_reducible repeat (first | refine blk_drewN ?_ _ | refine blk_drew ?_ | refine blk_alloc ?_ _)); refine blk_put (cs := #[.int .i64 ((rd_T122 t209 x12_1).f0), .int .i64 ((rd_T122 t209 x12_1).f1), .int .i64 0]) ?_ 2 _ rfl; (with_reducible repeat (first | refine blk_drewN ?_ _ | refine blk_drew ?_ | refine blk_alloc ?_ _)); refine blk_put (cs := #[.int .i64 ((rd_T122 t209 x12_1).f0), .int .i64 0, .int .i64 0]) ?_ 1 _ rfl; (with_reducible repeat (first | refine blk_drewN ?_ _ | refine blk_drew ?_ | refine blk_alloc ?_ _)); refine blk_put (cs := #[.int .i64 0, .int .i64 0, .int .i64 0]) ?_ 0 _ rfl; (with_reducible repeat (first | refine blk_drewN ?_ _ | refine blk_drew ?_ | refine blk_alloc ?_ _)); exact BK213.out⟩
                have n4_ : Aside0 (Below w.heap.size w (((w19.setCell ⟨gb213, 0, none⟩ (.int .i64 ((rd_T122 t209 x12_1).f0))).setCell ⟨gb213, 1, none⟩ (.int .i64 ((rd_T122 t209 x12_1).f1))).setCell ⟨gb213, 2, none⟩ (.int .i64 ((rd_T122 t209 x12_1).f2)))) := ⟨bx2 HB.out GE207.out GE213.out⟩
                (try clear HO_3)
                (try clear HO_10)
                (try clear BK207)
                (try clear BK213)
                (try clear HB)
                generalize (((w19.setCell ⟨gb213, 0, none⟩ (.int .i64 ((rd_T122 t209 x12_1).f0))).setCell ⟨gb213, 1, none⟩ (.int .i64 ((rd_T122 t209 x12_1).f1))).setCell ⟨gb213, 2, none⟩ (.int .i64 ((rd_T122 t209 x12_1).f2))) = w22 at n0_ n1_ n2_ n3_ n4_ ⊢
                have HO_3 := n0_
                have HO_10 := n1_
                have BK207 := n2_
                have BK213 := n3_
                have HB := n4_
                clear n0_ n1_ n2_ n3_ n4_
                have n0_ := am_ (Kd.R_drew HO_3.out)
                have n1_ := am_ (Kd.R_drew HO_10.out)
                have n2_ := am_ (blk_drew BK207.out)
                have n3_ := am_ (blk_drew BK213.out)
                have n4_ := am_ (below_drew1 HB.out)
                clear HO_3
                clear HO_10
                clear BK207
                clear BK213
                clear HB
                have HO_3 := n0_
                have HO_10 := n1_
                have BK207 := n2_
                have BK213 := n3_
                have HB := n4_
                clear n0_ n1_ n2_ n3_ n4_
                have q214 : 344 ≤ (l0.length : Int) := of_decide_eq_true (by first | (with_reducible assumption) | assumption)
                have p214_0a : 0 ≤ (((rd_T122 t209 x12_1).f0) : Int) := of_decide_eq_true (by first | (with_reducible assumption) | assumption)
                have p214_0b : (((rd_T122 t209 x12_1).f0) : Int) < 7 := of_decide_eq_true (by first | (with_reducible assumption) | assumption)
                have p214_1a : 0 ≤ (((rd_T122 t209 x12_1).f1) : Int) := of_decide_eq_true (by first | (with_reducible assumption) | assumption)
                have p214_1b : (((rd_T122 t209 x12_1).f1) : Int) < 7 := of_decide_eq_true (by first | (with_reducible assumption) | assumption)
                have p214_2a : 0 ≤ (((rd_T122 t209 x12_1).f2) : Int) := of_decide_eq_true (by first | (with_reducible assumption) | assumption)
                have p214_2b : (((rd_T122 t209 x12_1).f2) : Int) < 7 := of_decide_eq_true (by first | (with_reducible assumption) | assumption)
                obtain ⟨ad214, e214, hx214_0⟩ := chi_at HR0.out q214 p214_0a p214_0b p214_1a p214_1b p214_2a p214_2b
                have hw214_0 := hx214_0
                obtain rfl : ad208 = ad214 := (by injection e214)
                replace hx214_0 := (HB.out.cell (World.block_lt_of_cell? w _ hx214_0)).trans hx214_0
                replace p214_0a := eq_true p214_0a
                replace p214_0b := eq_true p214_0b
                replace p214_1a := eq_true p214_1a
                replace p214_1b := eq_true p214_1b
                replace p214_2a := eq_true p214_2a
                replace p214_2b := eq_true p214_2b
                refine start_ (n := 14) (S := fun w' => w'.cell? ⟨gb213, 0, none⟩ = some (.int .i64 ((rd_T122 t209 x12_1).f0)) ∧ w'.cell? ⟨gb213, 1, none⟩ = some (.int .i64 ((rd_T122 t209 x12_1).f1)) ∧ w'.cell? ⟨gb213, 2, none⟩ = some (.int .i64 ((rd_T122 t209 x12_1).f2)) ∧ w'.cell? ⟨ad208.block, ad208.off + 1 + (((rd_T122 t209 x12_1).f0) : Int).toNat * 49 + (((rd_T122 t209 x12_1).f1) : Int).toNat * 7 + (((rd_T122 t209 x12_1).f2) : Int).toNat, none⟩ = some (.int .i64 (chiA l0 ((rd_T122 t209 x12_1).f0) ((rd_T122 t209 x12_1).f1) ((rd_T122 t209 x12_1).f2)))) (ds := []) #[false, false, false, false, false, false, false, false, false, false, false, false, false, false] (by kernel_rfl) rfl rfl ⟨(blk_cell BK213.out 0).trans rfl, (blk_cell BK213.out 1).trans rfl, (blk_cell BK213.out 2).trans rfl, ((HB.out.cell (World.block_lt_of_cell? w _ hw214_0)).trans hw214_0)⟩ (fun hHeld => ?_); refine with_tabW impl_chi_signs.tab5 impl_chi_signs.bits5 (fun HT_ HW_ => ?_)
                generalize w22.drew = w23 at HO_3 HO_10 BK207 BK213 HB hx214_0 hHeld ⊢
                refine pure_ (i := 0) (N := some 16) (v := ?_) (a' := ?_) #[true, false, false, false, false, false, false, false, false, false, false, false, false, false] rfl rfl (any_of HT_.out (by kernel_rfl)) (fun _ _ _ h => h) (Or.inl ⟨by rfl, ?_⟩) ?_ ?_
                rotate_left
                ·intro w'
                 go_simp
                 with_reducible rfl
                rotate_left
                ·simp only [Act.put, sA_, sZ_, sS_, i64_w, i32_w]
                 rfl
                refine pure_ (i := 1) (N := some 17) (v := ?_) (a' := ?_) #[true, true, false, false, false, false, false, false, false, false, false, false, false, false] rfl rfl (any_of HT_.out (by kernel_rfl)) (fun _ _ _ h => h) (Or.inl ⟨by rfl, ?_⟩) ?_ ?_
                rotate_left
                ·intro w'
                 go_simp
                 with_reducible rfl
                rotate_left
                ·simp only [Act.put, sA_, sZ_, sS_, i64_w, i32_w]
                 rfl
                refine pure_ (i := 3) (N := some 19) (v := ?_) (a' := ?_) #[true, true, false, true, false, false, false, false, false, false, false, false, false, false] rfl rfl (any_of HT_.out (by kernel_rfl)) (fun _ _ _ h => h) (Or.inl ⟨by rfl, ?_⟩) ?_ ?_
                rotate_left
                ·intro w'
                 go_simp
                 with_reducible rfl
                rotate_left
                ·simp only [Act.put, sA_, sZ_, sS_, i64_w, i32_w]
                 rfl
                refine pure_ (i := 5) (N := some 21) (v := ?_) (a' := ?_) #[true, true, false, true, false, true, false, false, false, false, false, false, false, false] rfl rfl (any_of HT_.out (by kernel_rfl)) (fun _ _ _ h => h) (Or.inl ⟨by rfl, ?_⟩) ?_ ?_
                rotate_left
                ·intro w'
                 go_simp
                 with_reducible rfl
                rotate_left
                ·simp only [Act.put, sA_, sZ_, sS_, i64_w, i32_w]
                 rfl
                refine pure_ (i := 7) (N := some 23) (v := ?_) (a' := ?_) #[true, true, false, true, false, true, false, true, false, false, false, false, false, false] rfl rfl (any_of HT_.out (by kernel_rfl)) (fun _ _ _ h => h) (Or.inl ⟨by rfl, ?_⟩) ?_ ?_
                rotate_left
                ·intro w'
                 go_simp
                 with_reducible rfl
                rotate_left
                ·simp only [Act.put, sA_, sZ_, sS_, i64_w, i32_w]
                 rfl
                refine pure_ (i := 8) (N := some 24) (v := ?_) (a' := ?_) #[true, true, false, true, false, true, false, true, true, false, false, false, false, false] rfl rfl (any_of HT_.out (by kernel_rfl)) (fun _ _ _ h => h) (Or.inl ⟨by rfl, ?_⟩) ?_ ?_
                rotate_left
                ·intro w'
                 go_simp
                 with_reducible rfl
                rotate_left
                ·simp only [Act.put, sA_, sZ_, sS_, i64_w, i32_w]
                 rfl
                refine take_ (i := 2) (N := some 18) (v := ?_) (a' := ?_) #[true, true, true, true, false, true, false, true, true, false, false, false, false, false] rfl rfl (take_ofW HT_.out HW_.out (by kernel_rfl)) (fun _ _ _ h => h) (Or.inl ⟨by rfl, ?_⟩) hHeld ?_ ?_
                rotate_left
                ·rintro w' ⟨s0, s1, s2, s3⟩
                 go_simp
                 with_reducible rfl
                rotate_left
                ·simp only [Act.put, sA_, sZ_, sS_, i64_w, i32_w]
                 rfl
                refine pure_ (i := 9) (N := some 25) (v := ?_) (a' := ?_) #[true, true, true, true, false, true, false, true, true, true, false, false, false, false] rfl rfl (any_of HT_.out (by kernel_rfl)) (fun _ _ _ h => h) (Or.inl ⟨by rfl, ?_⟩) ?_ ?_
                rotate_left
                ·intro w'
                 go_simp
                 with_reducible rfl
                rotate_left
                ·simp only [Act.put, sA_, sZ_, sS_, i64_w, i32_w]
                 rfl
                refine take_ (i := 4) (N := some 20) (v := ?_) (a' := ?_) #[true, true, true, true, true, true, false, true, true, true, false, false, false, false] rfl rfl (take_ofW HT_.out HW_.out (by kernel_rfl)) (fun _ _ _ h => h) (Or.inl ⟨by rfl, ?_⟩) hHeld ?_ ?_
                rotate_left
                ·rintro w' ⟨s0, s1, s2, s3⟩
                 go_simp
                 with_reducible rfl
                rotate_left
                ·simp only [Act.put, sA_, sZ_, sS_, i64_w, i32_w]
                 rfl
                refine pure_ (i := 10) (N := some 26) (v := ?_) (a' := ?_) #[true, true, true, true, true, true, false, true, true, true, true, false, false, false] rfl rfl (any_of HT_.out (by kernel_rfl)) (fun _ _ _ h => h) (Or.inl ⟨by rfl, ?_⟩) ?_ ?_
                rotate_left
                ·intro w'
                 go_simp
                 with_reducible rfl
                rotate_left
                ·simp only [Act.put, sA_, sZ_, sS_, i64_w, i32_w]
                 rfl
                refine take_ (i := 6) (N := some 22) (v := ?_) (a' := ?_) #[true, true, true, true, true, true, true, true, true, true, true, false, false, false] rfl rfl (take_ofW HT_.out HW_.out (by kernel_rfl)) (fun _ _ _ h => h) (Or.inl ⟨by rfl, ?_⟩) hHeld ?_ ?_
                rotate_left
                ·rintro w' ⟨s0, s1, s2, s3⟩
                 go_simp
                 with_reducible rfl
                rotate_left
                ·simp only [Act.put, sA_, sZ_, sS_, i64_w, i32_w]
                 rfl
                refine pure_ (i := 11) (N := some 27) (v := ?_) (a' := ?_) #[true, true, true, true, true, true, true, true, true, true, true, true, false, false] rfl rfl (any_of HT_.out (by kernel_rfl)) (fun _ _ _ h => h) (Or.inl ⟨by rfl, ?_⟩) ?_ ?_
                rotate_left
                ·intro w'
                 go_simp
                 with_reducible rfl
                rotate_left
                ·simp only [Act.put, sA_, sZ_, sS_, i64_w, i32_w]
                 rfl
                refine take_ (i := 12) (N := some 28) (v := ?_) (a' := ?_) #[true, true, true, true, true, true, true, true, true, true, true, true, true, false] rfl rfl (take_ofW HT_.out HW_.out (by kernel_rfl)) (fun _ _ _ h => h) (Or.inl ⟨by rfl, ?_⟩) hHeld ?_ ?_
                rotate_left
                ·rintro w' ⟨s0, s1, s2, s3⟩
                 go_simp
                 with_reducible rfl
                rotate_left
                ·simp only [Act.put, sA_, sZ_, sS_, i64_w, i32_w]
                 rfl
                refine pure_ (i := 13) (N := some 29) (v := ?_) (a' := ?_) #[true, true, true, true, true, true, true, true, true, true, true, true, true, true] rfl rfl (any_of HT_.out (by kernel_rfl)) (fun _ _ _ h => h) (Or.inl ⟨by rfl, ?_⟩) ?_ ?_
                rotate_left
                ·intro w'
                 go_simp
                 with_reducible rfl
                rotate_left
                ·simp only [Act.put, sA_, sZ_, sS_, i64_w, i32_w]
                 rfl
                refine done_ (done_of HT_.out (by kernel_rfl)) ?_
                try go_wp2_with (first | ((with_reducible refine gate_builtin (b := .append) (xs := #[.tmp 30, .tmp 31]) rfl ?_); at_builtin; refine Kd.R_append (Kd.int .u8) (w0 := w) w.heap.size rfl (.tmp 30) (.tmp 31) 113 5 (.int .u8 0) 1 rfl Try.underlying113 info5 rfl (by decide) (by omega) u3 x3_1 43 [.int .u8 43] (fun _ => True) (fun _ => False) rfl rfl ?aP (fun _ hk => hk.elim) ?aF ?aO ?aB ?aS ?aL ?_; (case aP => exact rfl); (case aB => exact (bx2 HB.out GE207.out GE213.out)); (case aF => exact (fun _ _ => trivial)); (case aO => exact (rx_ HO_3.out)); (case aS => exact (below_size (bx2 HB.out GE207.out GE213.out))); (case aL => have := LMc18.out; omega); intro v216 w24 ho hb hg hat; rw [← Ny215.out] at ho; have n0_ := am_ (Kd.R_over' (rx_ HO_10.out) (Kd.R_typed (rx_ HO_3.out)) (by decide) hg); have n1_ := am_ (blk_grown (g := gb207) (o := .cells #[.int .i64 0, .string (⟨#[]⟩ : ByteArray)] 25 (0, 0)) (kx_ BK207.out) hg (Kd.R_ne HO_3.out BK207.out (by decide))); have n2_ := am_ (blk_grown (g := gb213) (o := .cells #[.int .i64 ((rd_T122 t209 x12_1).f0), .int .i64 ((rd_T122 t209 x12_1).f1), .int .i64 ((rd_T122 t209 x12_1).f2)] 122 (0, 0)) (kx_ BK213.out) hg (Kd.R_ne HO_3.out BK213.out (by decide))); have n3_ := am_ (hb); have n4_ := am_ (ho); clear HO_10; clear BK207; clear BK213; clear HB; clear HO_3; have HO_10 := n0_; have BK207 := n1_; have BK213 := n2_; have HB := n3_; have HO217 := n4_; clear n0_ n1_ n2_ n3_ n4_; clear ho hb hg hat))
                go_roundg k1
                case measure => have := HK1.out; omega
                case rel => exact ⟨(y215), (wrap64 (x12_1 + 1)), (by first | rfl | (simp; done) | (simp [*]; done)), H', ⟨by have := HK1.out; omega⟩, ⟨rx_ HO217.out⟩, ⟨by (with_reducible repeat (first | apply Kd.R_alloc | apply Kd.R_drewN | apply Kd.R_drew)); exact Kd.R_mono HO_10.out (fun _ hk => trivial)⟩, ⟨kx_ BK207.out⟩, ⟨bx2 HB.out GE207.out GE213.out⟩⟩
               ·rw [if_neg c18] at H
                exact absurd H (by simp)
              ·rw [if_neg c17] at H
               have c17b0 : decide (0 < (chiA l0 ((rd_T122 t209 x12_1).f0) ((rd_T122 t209 x12_1).f1) ((rd_T122 t209 x12_1).f2))) = false := decide_eq_false c17
               clear c17
               by_cases c25 : x3_1.length < 140737488355328
               ·rw [if_pos c25] at H
                have LMc25 := am_ c25
                clear c25
                obtain ⟨y218, hy218⟩ : ∃ y_ : List Int, y_ = (x3_1 ++ [45]) := ⟨_, rfl⟩
                replace H : (impl_chi_signs.l0 k1 l0 y218 t209 (t209.length : Int) (wrap64 (x12_1 + 1))) = some (r1, r2) := by first | (rw [hy218]; with_reducible exact H) | (have H2_ := (Option.bind_some _ _).symm.trans H; rw [hy218]; with_reducible exact H2_) | (have H2_ := (Option.bind_some _ _).symm.trans H; with_reducible exact H2_) | with_reducible exact H | (rw [hy218]; exact H) | exact H
                have Ny218 := am_ hy218
                clear hy218
                have H' := am_ H
                clear H
                have p212 : 0 ≤ (x12_1 : Int) := of_decide_eq_true (by first | (with_reducible assumption) | assumption)
                have q212 : x12_1 < (t209.length : Int) := of_decide_eq_true (by first | (with_reducible assumption) | assumption)
                obtain ⟨ad212, e212, hx212_0, hx212_1, hx212_2⟩ := at_T122 (Kd.R_reads' HO_10.out).2.2 x12_1 p212 q212
                cases e212
                replace p212 := eq_true p212
                replace q212 := eq_true q212
                try go_wp2_with (first | ((with_reducible refine gate_dst (N := 5) rfl ?_); refine box_event ?hg (N := 5) ?hd (cs := #[.int .i64 0, .int .i64 0, .int .i64 0]) (t := 122) ?hr ?_; (case hd => rfl); (case hg => rfl); (case hr => first | (go_simp; done) | (go_simp; rfl)); intro gb213 hg w26 hbox hb; have n0_ := am_ (Kd.R_below (rx_ HO_3.out) hb); have n1_ := am_ (Kd.R_below (Kd.R_elderB (rx_ HO_10.out) gb213 (Nat.le_of_eq hg.symm)) hb); have n2_ := am_ (blk_below (g := gb207) (o := .cells #[.int .i64 0, .string (⟨#[]⟩ : ByteArray)] 25 (0, 0)) (kx_ BK207.out) hb); have n3_ := am_ (below_step (bx1 HB.out GE207.out) hb); have n4_ := am_ (hbox); have n5_ := am_ ((by rw [hg]; exact (below_size (bx1 HB.out GE207.out)) : w.heap.size ≤ gb213)); have n6_ := am_ ((by rw [hg]; exact (below_size (bx1 HB.out GE207.out)) : w.heap.size ≤ gb213)); have n7_ := am_ ((by rw [hg]; exact Nat.ne_of_lt (blk_lt (g := gb207) (o := .cells #[.int .i64 0, .string (⟨#[]⟩ : ByteArray)] 25 (0, 0)) (kx_ BK207.out)) : gb207 ≠ gb213)); have n8_ := am_ ((by rw [hg]; exact Nat.ne_of_gt (blk_lt (g := gb207) (o := .cells #[.int .i64 0, .string (⟨#[]⟩ : ByteArray)] 25 (0, 0)) (kx_ BK207.out)) : gb213 ≠ gb207)); clear HO_3; clear HO_10; clear BK207; clear HB; have HO_3 := n0_; have HO_10 := n1_; have BK207 := n2_; have HB := n3_; have BK213 := n4_; have GW213 := n5_; have GE213 := n6_; have NB207_213 := n7_; have NB213_207 := n8_; clear n0_ n1_ n2_ n3_ n4_ n5_ n6_ n7_ n8_; clear hb hbox hg; have hnb27 := NB213_207.out; have hnc27 := NB207_213.out; have hcz28_0 : w26.cell? ⟨gb213, 0, none⟩ = some (.int .i64 0) := (blk_cell BK213.out 0).trans rfl; have hcz28_1 : w26.cell? ⟨gb213, 1, none⟩ = some (.int .i64 0) := (blk_cell BK213.out 1).trans rfl; have hcz28_2 : w26.cell? ⟨gb213, 2, none⟩ = some (.int .i64 0) := (blk_cell BK213.out 2).trans rfl; have hfz28_0 := blk_frozen BK213.out 0; have hfz28_1 := blk_frozen BK213.out 1; have hfz28_2 := blk_frozen BK213.out 2))
                have n0_ : Aside0 (Kd.R (Kd.int .u8) 5 (((w26.setCell ⟨gb213, 0, none⟩ (.int .i64 ((rd_T122 t209 x12_1).f0))).setCell ⟨gb213, 1, none⟩ (.int .i64 ((rd_T122 t209 x12_1).f1))).setCell ⟨gb213, 2, none⟩ (.int .i64 ((rd_T122 t209 x12_1).f2))) w.heap.size (fun _ => True) u3 x3_1) := ⟨by (with_reducible repeat (first | apply Kd.R_alloc | apply Kd.R_drewN | apply Kd.R_drew)); exact Kd.R_mono (Kd.R_far (p := ⟨gb213, 2, none⟩) (Kd.R_far (p := ⟨gb213, 1, none⟩) (Kd.R_far (p := ⟨gb213, 0, none⟩) (Kd.R_types HO_3.out BK213.out (by decide)) (fun _ hk => hk.2) (.int .i64 ((rd_T122 t209 x12_1).f0))) (fun _ hk => hk.2) (.int .i64 ((rd_T122 t209 x12_1).f1))) (fun _ hk => hk.2) (.int .i64 ((rd_T122 t209 x12_1).f2))) (fun _ hk => trivial)⟩
                have n1_ : Aside0 (Kd.R k122 122 (((w26.setCell ⟨gb213, 0, none⟩ (.int .i64 ((rd_T122 t209 x12_1).f0))).setCell ⟨gb213, 1, none⟩ (.int .i64 ((rd_T122 t209 x12_1).f1))).setCell ⟨gb213, 2, none⟩ (.int .i64 ((rd_T122 t209 x12_1).f2))) w.heap.size (fun k_ => k_ ≠ gb213) (.slice (some ad212) t209.length co6) t209) := ⟨by (with_reducible repeat (first | apply Kd.R_alloc | apply Kd.R_drewN | apply Kd.R_drew)); exact Kd.R_mono (Kd.R_far (p := ⟨gb213, 2, none⟩) (Kd.R_far (p := ⟨gb213, 1, none⟩) (Kd.R_far (p := ⟨gb213, 0, none⟩) (Kd.R_mono HO_10.out (fun k_ hk => (⟨hk, hk.2⟩ : _ ∧ k_ ≠ gb213))) (fun _ hk => hk.2) (.int .i64 ((rd_T122 t209 x12_1).f0))) (fun _ hk => hk.2) (.int .i64 ((rd_T122 t209 x12_1).f1))) (fun _ hk => hk.2) (.int .i64 ((rd_T122 t209 x12_1).f2))) (fun _ hk => hk.1.2)⟩
                have n2_ : Aside0 ((((w26.setCell ⟨gb213, 0, none⟩ (.int .i64 ((rd_T122 t209 x12_1).f0))).setCell ⟨gb213, 1, none⟩ (.int .i64 ((rd_T122 t209 x12_1).f1))).setCell ⟨gb213, 2, none⟩ (.int .i64 ((rd_T122 t209 x12_1).f2))).heap[gb207]? = some (.cells #[.int .i64 0, .string (⟨#[]⟩ : ByteArray)] 25 (0, 0))) := ⟨by (with_reducible repeat (first | refine blk_drewN ?_ _ | refine blk_drew ?_ | refine blk_alloc ?_ _)); refine blk_far ?_ NB207_213.out _; (with_reducible repeat (first | refine blk_drewN ?_ _ | refine blk_drew ?_ | refine blk_alloc ?_ _)); refine blk_far ?_ NB207_213.out _; (with_reducible repeat (first | refine blk_drewN ?_ _ | refine blk_drew ?_ | refine blk_alloc ?_ _)); refine blk_far ?_ NB207_213.out _; (with_reducible repeat (first | refine blk_drewN ?_ _ | refine blk_drew ?_ | refine blk_alloc ?_ _)); exact BK207.out⟩
                have n3_ : Aside0 ((((w26.setCell ⟨gb213, 0, none⟩ (.int .i64 ((rd_T122 t209 x12_1).f0))).setCell ⟨gb213, 1, none⟩ (.int .i64 ((rd_T122 t209 x12_1).f1))).setCell ⟨gb213, 2, none⟩ (.int .i64 ((rd_T122 t209 x12_1).f2))).heap[gb213]? = some (.cells #[.int .i64 ((rd_T122 t209 x12_1).f0), .int .i64 ((rd_T122 t209 x12_1).f1), .int .i64 ((rd_T122 t209 x12_1).f2)] 122 (0, 0))) := ⟨by (with_reducible repeat (first | refine blk_drewN ?_ _ | refine blk_drew ?_ | refine blk_alloc ?_ _)); refine blk_put (cs := #[.int .i64 ((rd_T122 t209 x12_1).f0), .int .i64 ((rd_T122 t209 x12_1).f1), .int .i64 0]) ?_ 2 _ rfl; (with_reducible repeat (first | refine blk_drewN ?_ _ | refine blk_drew ?_ | refine blk_alloc ?_ _)); refine blk_put (cs := #[.int .i64 ((rd_T122 t209 x12_1).f0), .int .i64 0, .int .i64 0]) ?_ 1 _ rfl; (with_reducible repeat (first | refine blk_drewN ?_ _ | refine blk_drew ?_ | refine blk_alloc ?_ _)); refine blk_put (cs := #[.int .i64 0, .int .i64 0, .int .i64 0]) ?_ 0 _ rfl; (with_reducible repeat (first | refine blk_drewN ?_ _ | refine blk_drew ?_ | refine blk_alloc ?_ _)); exact BK213.out⟩
                have n4_ : Aside0 (Below w.heap.size w (((w26.setCell ⟨gb213, 0, none⟩ (.int .i64 ((rd_T122 t209 x12_1).f0))).setCell ⟨gb213, 1, none⟩ (.int .i64 ((rd_T122 t209 x12_1).f1))).setCell ⟨gb213, 2, none⟩ (.int .i64 ((rd_T122 t209 x12_1).f2)))) := ⟨bx2 HB.out GE207.out GE213.out⟩
                (try clear HO_3)
                (try clear HO_10)
                (try clear BK207)
                (try clear BK213)
                (try clear HB)
                generalize (((w26.setCell ⟨gb213, 0, none⟩ (.int .i64 ((rd_T122 t209 x12_1).f0))).setCell ⟨gb213, 1, none⟩ (.int .i64 ((rd_T122 t209 x12_1).f1))).setCell ⟨gb213, 2, none⟩ (.int .i64 ((rd_T122 t209 x12_1).f2))) = w29 at n0_ n1_ n2_ n3_ n4_ ⊢
                have HO_3 := n0_
                have HO_10 := n1_
                have BK207 := n2_
                have BK213 := n3_
                have HB := n4_
                clear n0_ n1_ n2_ n3_ n4_
                have n0_ := am_ (Kd.R_drew HO_3.out)
                have n1_ := am_ (Kd.R_drew HO_10.out)
                have n2_ := am_ (blk_drew BK207.out)
                have n3_ := am_ (blk_drew BK213.out)
                have n4_ := am_ (below_drew1 HB.out)
                clear HO_3
                clear HO_10
                clear BK207
                clear BK213
                clear HB
                have HO_3 := n0_
                have HO_10 := n1_
                have BK207 := n2_
                have BK213 := n3_
                have HB := n4_
                clear n0_ n1_ n2_ n3_ n4_
                have q214 : 344 ≤ (l0.length : Int) := of_decide_eq_true (by first | (with_reducible assumption) | assumption)
                have p214_0a : 0 ≤ (((rd_T122 t209 x12_1).f0) : Int) := of_decide_eq_true (by first | (with_reducible assumption) | assumption)
                have p214_0b : (((rd_T122 t209 x12_1).f0) : Int) < 7 := of_decide_eq_true (by first | (with_reducible assumption) | assumption)
                have p214_1a : 0 ≤ (((rd_T122 t209 x12_1).f1) : Int) := of_decide_eq_true (by first | (with_reducible assumption) | assumption)
                have p214_1b : (((rd_T122 t209 x12_1).f1) : Int) < 7 := of_decide_eq_true (by first | (with_reducible assumption) | assumption)
                have p214_2a : 0 ≤ (((rd_T122 t209 x12_1).f2) : Int) := of_decide_eq_true (by first | (with_reducible assumption) | assumption)
                have p214_2b : (((rd_T122 t209 x12_1).f2) : Int) < 7 := of_decide_eq_true (by first | (with_reducible assumption) | assumption)
                obtain ⟨ad214, e214, hx214_0⟩ := chi_at HR0.out q214 p214_0a p214_0b p214_1a p214_1b p214_2a p214_2b
                have hw214_0 := hx214_0
                obtain rfl : ad208 = ad214 := (by injection e214)
                replace hx214_0 := (HB.out.cell (World.block_lt_of_cell? w _ hx214_0)).trans hx214_0
                replace p214_0a := eq_true p214_0a
                replace p214_0b := eq_true p214_0b
                replace p214_1a := eq_true p214_1a
                replace p214_1b := eq_true p214_1b
                replace p214_2a := eq_true p214_2a
                replace p214_2b := eq_true p214_2b
                refine start_ (n := 14) (S := fun w' => w'.cell? ⟨gb213, 0, none⟩ = some (.int .i64 ((rd_T122 t209 x12_1).f0)) ∧ w'.cell? ⟨gb213, 1, none⟩ = some (.int .i64 ((rd_T122 t209 x12_1).f1)) ∧ w'.cell? ⟨gb213, 2, none⟩ = some (.int .i64 ((rd_T122 t209 x12_1).f2)) ∧ w'.cell? ⟨ad208.block, ad208.off + 1 + (((rd_T122 t209 x12_1).f0) : Int).toNat * 49 + (((rd_T122 t209 x12_1).f1) : Int).toNat * 7 + (((rd_T122 t209 x12_1).f2) : Int).toNat, none⟩ = some (.int .i64 (chiA l0 ((rd_T122 t209 x12_1).f0) ((rd_T122 t209 x12_1).f1) ((rd_T122 t209 x12_1).f2)))) (ds := []) #[false, false, false, false, false, false, false, false, false, false, false, false, false, false] (by kernel_rfl) rfl rfl ⟨(blk_cell BK213.out 0).trans rfl, (blk_cell BK213.out 1).trans rfl, (blk_cell BK213.out 2).trans rfl, ((HB.out.cell (World.block_lt_of_cell? w _ hw214_0)).trans hw214_0)⟩ (fun hHeld => ?_); refine with_tabW impl_chi_signs.tab5 impl_chi_signs.bits5 (fun HT_ HW_ => ?_)
                generalize w29.drew = w30 at HO_3 HO_10 BK207 BK213 HB hx214_0 hHeld ⊢
                refine pure_ (i := 0) (N := some 16) (v := ?_) (a' := ?_) #[true, false, false, false, false, false, false, false, false, false, false, false, false, false] rfl rfl (any_of HT_.out (by kernel_rfl)) (fun _ _ _ h => h) (Or.inl ⟨by rfl, ?_⟩) ?_ ?_
                rotate_left
                ·intro w'
                 go_simp
                 with_reducible rfl
                rotate_left
                ·simp only [Act.put, sA_, sZ_, sS_, i64_w, i32_w]
                 rfl
                refine pure_ (i := 1) (N := some 17) (v := ?_) (a' := ?_) #[true, true, false, false, false, false, false, false, false, false, false, false, false, false] rfl rfl (any_of HT_.out (by kernel_rfl)) (fun _ _ _ h => h) (Or.inl ⟨by rfl, ?_⟩) ?_ ?_
                rotate_left
                ·intro w'
                 go_simp
                 with_reducible rfl
                rotate_left
                ·simp only [Act.put, sA_, sZ_, sS_, i64_w, i32_w]
                 rfl
                refine pure_ (i := 3) (N := some 19) (v := ?_) (a' := ?_) #[true, true, false, true, false, false, false, false, false, false, false, false, false, false] rfl rfl (any_of HT_.out (by kernel_rfl)) (fun _ _ _ h => h) (Or.inl ⟨by rfl, ?_⟩) ?_ ?_
                rotate_left
                ·intro w'
                 go_simp
                 with_reducible rfl
                rotate_left
                ·simp only [Act.put, sA_, sZ_, sS_, i64_w, i32_w]
                 rfl
                refine pure_ (i := 5) (N := some 21) (v := ?_) (a' := ?_) #[true, true, false, true, false, true, false, false, false, false, false, false, false, false] rfl rfl (any_of HT_.out (by kernel_rfl)) (fun _ _ _ h => h) (Or.inl ⟨by rfl, ?_⟩) ?_ ?_
                rotate_left
                ·intro w'
                 go_simp
                 with_reducible rfl
                rotate_left
                ·simp only [Act.put, sA_, sZ_, sS_, i64_w, i32_w]
                 rfl
                refine pure_ (i := 7) (N := some 23) (v := ?_) (a' := ?_) #[true, true, false, true, false, true, false, true, false, false, false, false, false, false] rfl rfl (any_of HT_.out (by kernel_rfl)) (fun _ _ _ h => h) (Or.inl ⟨by rfl, ?_⟩) ?_ ?_
                rotate_left
                ·intro w'
                 go_simp
                 with_reducible rfl
                rotate_left
                ·simp only [Act.put, sA_, sZ_, sS_, i64_w, i32_w]
                 rfl
                refine pure_ (i := 8) (N := some 24) (v := ?_) (a' := ?_) #[true, true, false, true, false, true, false, true, true, false, false, false, false, false] rfl rfl (any_of HT_.out (by kernel_rfl)) (fun _ _ _ h => h) (Or.inl ⟨by rfl, ?_⟩) ?_ ?_
                rotate_left
                ·intro w'
                 go_simp
                 with_reducible rfl
                rotate_left
                ·simp only [Act.put, sA_, sZ_, sS_, i64_w, i32_w]
                 rfl
                refine take_ (i := 2) (N := some 18) (v := ?_) (a' := ?_) #[true, true, true, true, false, true, false, true, true, false, false, false, false, false] rfl rfl (take_ofW HT_.out HW_.out (by kernel_rfl)) (fun _ _ _ h => h) (Or.inl ⟨by rfl, ?_⟩) hHeld ?_ ?_
                rotate_left
                ·rintro w' ⟨s0, s1, s2, s3⟩
                 go_simp
                 with_reducible rfl
                rotate_left
                ·simp only [Act.put, sA_, sZ_, sS_, i64_w, i32_w]
                 rfl
                refine pure_ (i := 9) (N := some 25) (v := ?_) (a' := ?_) #[true, true, true, true, false, true, false, true, true, true, false, false, false, false] rfl rfl (any_of HT_.out (by kernel_rfl)) (fun _ _ _ h => h) (Or.inl ⟨by rfl, ?_⟩) ?_ ?_
                rotate_left
                ·intro w'
                 go_simp
                 with_reducible rfl
                rotate_left
                ·simp only [Act.put, sA_, sZ_, sS_, i64_w, i32_w]
                 rfl
                refine take_ (i := 4) (N := some 20) (v := ?_) (a' := ?_) #[true, true, true, true, true, true, false, true, true, true, false, false, false, false] rfl rfl (take_ofW HT_.out HW_.out (by kernel_rfl)) (fun _ _ _ h => h) (Or.inl ⟨by rfl, ?_⟩) hHeld ?_ ?_
                rotate_left
                ·rintro w' ⟨s0, s1, s2, s3⟩
                 go_simp
                 with_reducible rfl
                rotate_left
                ·simp only [Act.put, sA_, sZ_, sS_, i64_w, i32_w]
                 rfl
                refine pure_ (i := 10) (N := some 26) (v := ?_) (a' := ?_) #[true, true, true, true, true, true, false, true, true, true, true, false, false, false] rfl rfl (any_of HT_.out (by kernel_rfl)) (fun _ _ _ h => h) (Or.inl ⟨by rfl, ?_⟩) ?_ ?_
                rotate_left
                ·intro w'
                 go_simp
                 with_reducible rfl
                rotate_left
                ·simp only [Act.put, sA_, sZ_, sS_, i64_w, i32_w]
                 rfl
                refine take_ (i := 6) (N := some 22) (v := ?_) (a' := ?_) #[true, true, true, true, true, true, true, true, true, true, true, false, false, false] rfl rfl (take_ofW HT_.out HW_.out (by kernel_rfl)) (fun _ _ _ h => h) (Or.inl ⟨by rfl, ?_⟩) hHeld ?_ ?_
                rotate_left
                ·rintro w' ⟨s0, s1, s2, s3⟩
                 go_simp
                 with_reducible rfl
                rotate_left
                ·simp only [Act.put, sA_, sZ_, sS_, i64_w, i32_w]
                 rfl
                refine pure_ (i := 11) (N := some 27) (v := ?_) (a' := ?_) #[true, true, true, true, true, true, true, true, true, true, true, true, false, false] rfl rfl (any_of HT_.out (by kernel_rfl)) (fun _ _ _ h => h) (Or.inl ⟨by rfl, ?_⟩) ?_ ?_
                rotate_left
                ·intro w'
                 go_simp
                 with_reducible rfl
                rotate_left
                ·simp only [Act.put, sA_, sZ_, sS_, i64_w, i32_w]
                 rfl
                refine take_ (i := 12) (N := some 28) (v := ?_) (a' := ?_) #[true, true, true, true, true, true, true, true, true, true, true, true, true, false] rfl rfl (take_ofW HT_.out HW_.out (by kernel_rfl)) (fun _ _ _ h => h) (Or.inl ⟨by rfl, ?_⟩) hHeld ?_ ?_
                rotate_left
                ·rintro w' ⟨s0, s1, s2, s3⟩
                 go_simp
                 with_reducible rfl
                rotate_left
                ·simp only [Act.put, sA_, sZ_, sS_, i64_w, i32_w]
                 rfl
                refine pure_ (i := 13) (N := some 29) (v := ?_) (a' := ?_) #[true, true, true, true, true, true, true, true, true, true, true, true, true, true] rfl rfl (any_of HT_.out (by kernel_rfl)) (fun _ _ _ h => h) (Or.inl ⟨by rfl, ?_⟩) ?_ ?_
                rotate_left
                ·intro w'
                 go_simp
                 with_reducible rfl
                rotate_left
                ·simp only [Act.put, sA_, sZ_, sS_, i64_w, i32_w]
                 rfl
                refine done_ (done_of HT_.out (by kernel_rfl)) ?_
                try go_wp2_with (first | ((with_reducible refine gate_builtin (b := .append) (xs := #[.tmp 33, .tmp 34]) rfl ?_); at_builtin; refine Kd.R_append (Kd.int .u8) (w0 := w) w.heap.size rfl (.tmp 33) (.tmp 34) 113 5 (.int .u8 0) 1 rfl Try.underlying113 info5 rfl (by decide) (by omega) u3 x3_1 45 [.int .u8 45] (fun _ => True) (fun _ => False) rfl rfl ?aP (fun _ hk => hk.elim) ?aF ?aO ?aB ?aS ?aL ?_; (case aP => exact rfl); (case aB => exact (bx2 HB.out GE207.out GE213.out)); (case aF => exact (fun _ _ => trivial)); (case aO => exact (rx_ HO_3.out)); (case aS => exact (below_size (bx2 HB.out GE207.out GE213.out))); (case aL => have := LMc25.out; omega); intro v219 w31 ho hb hg hat; rw [← Ny218.out] at ho; have n0_ := am_ (Kd.R_over' (rx_ HO_10.out) (Kd.R_typed (rx_ HO_3.out)) (by decide) hg); have n1_ := am_ (blk_grown (g := gb207) (o := .cells #[.int .i64 0, .string (⟨#[]⟩ : ByteArray)] 25 (0, 0)) (kx_ BK207.out) hg (Kd.R_ne HO_3.out BK207.out (by decide))); have n2_ := am_ (blk_grown (g := gb213) (o := .cells #[.int .i64 ((rd_T122 t209 x12_1).f0), .int .i64 ((rd_T122 t209 x12_1).f1), .int .i64 ((rd_T122 t209 x12_1).f2)] 122 (0, 0)) (kx_ BK213.out) hg (Kd.R_ne HO_3.out BK213.out (by decide))); have n3_ := am_ (hb); have n4_ := am_ (ho); clear HO_10; clear BK207; clear BK213; clear HB; clear HO_3; have HO_10 := n0_; have BK207 := n1_; have BK213 := n2_; have HB := n3_; have HO220 := n4_; clear n0_ n1_ n2_ n3_ n4_; clear ho hb hg hat))
                go_roundg k1
                case measure => have := HK1.out; omega
                case rel => exact ⟨(y218), (wrap64 (x12_1 + 1)), (by first | rfl | (simp; done) | (simp [*]; done)), H', ⟨by have := HK1.out; omega⟩, ⟨rx_ HO220.out⟩, ⟨by (with_reducible repeat (first | apply Kd.R_alloc | apply Kd.R_drewN | apply Kd.R_drew)); exact Kd.R_mono HO_10.out (fun _ hk => trivial)⟩, ⟨kx_ BK207.out⟩, ⟨bx2 HB.out GE207.out GE213.out⟩⟩
               ·rw [if_neg c25] at H
                exact absurd H (by simp)
             ·rw [if_neg c16] at H
              exact absurd H (by simp)
            ·rw [if_neg c15] at H
             exact absurd H (by simp)
           ·rw [if_neg c14] at H
            exact absurd H (by simp)
          ·rw [if_neg c13] at H
           exact absurd H (by simp)
         ·rw [if_neg c12] at H
          exact absurd H (by simp)
        ·rw [if_neg c11] at H
         exact absurd H (by simp)
       ·rw [if_neg c10] at H
        exact absurd H (by simp)
      ·rw [if_neg c9] at H
       exact absurd H (by simp)
     ·rw [if_neg c8] at H
      exact absurd H (by simp)
    ·rw [if_neg c7] at H
     have c7b0 : decide (x12_1 < (t209.length : Int)) = false := decide_eq_false c7
     clear c7
     by_cases c32 : 344 ≤ (l0.length : Int)
     ·rw [if_pos c32] at H
      have c32b0 := eq_true c32
      have c32b1 : decide (344 ≤ (l0.length : Int)) = true := decide_eq_true c32
      clear c32
      simp only [Option.some.injEq, Prod.mk.injEq] at H
      obtain ⟨rfl, rfl⟩ := H
      try go_wp2
      have n0_ := am_ (Kd.R_drew HO_3.out)
      have n1_ := am_ (Kd.R_drew HO_10.out)
      have n2_ := am_ (blk_drew BK207.out)
      have n3_ := am_ (below_drew1 HB.out)
      clear HO_3
      clear HO_10
      clear BK207
      clear HB
      have HO_3 := n0_
      have HO_10 := n1_
      have BK207 := n2_
      have HB := n3_
      clear n0_ n1_ n2_ n3_
      have q221 : 344 ≤ (l0.length : Int) := of_decide_eq_true (by first | (with_reducible assumption) | assumption)
      obtain ⟨ad221, e221, hx221_0⟩ := chi_n HR0.out q221
      have hw221_0 := hx221_0
      obtain rfl : ad208 = ad221 := (by injection e221)
      replace hx221_0 := (HB.out.cell (World.block_lt_of_cell? w _ hx221_0)).trans hx221_0
      obtain ⟨Ao34, co34, eo34⟩ := Kd.R_slice HO_3.out
      (first | subst eo34 | (injection eo34 with f1_ f2_ f3_; have f4_ := f1_.symm; have f5_ := f3_.symm; clear f1_ f2_ f3_; subst f4_; subst f5_))
      have hcv35 := own_string (P := Try.prog) Try.underlying113 Try.underlying5 Try.underlying9 (Kd.own_of_R HO_3.out)
      refine start_ (n := 8) (S := fun w' => w'.cell? ad208 = some (.int .i64 (chiN l0)) ∧ (convert 113 9 (.slice Ao34 x3_1.length co34)).run Try.prog w' = .ok (.string (strOfNums x3_1)) w') (ds := [7]) #[false, false, false, false, false, false, false, false] (by kernel_rfl) rfl rfl ⟨((HB.out.cell (World.block_lt_of_cell? w _ hw221_0)).trans hw221_0), hcv35⟩ (fun hHeld => ?_); refine with_tabW impl_chi_signs.tab9 impl_chi_signs.bits9 (fun HT_ HW_ => ?_)
      generalize wr.drew = w33 at HO_3 HO_10 BK207 HB hx221_0 hHeld ⊢
      refine pure_ (i := 0) (N := some 37) (v := ?_) (a' := ?_) #[true, false, false, false, false, false, false, false] rfl rfl (any_of HT_.out (by kernel_rfl)) (fun _ _ _ h => h) (Or.inl ⟨by rfl, ?_⟩) ?_ ?_
      rotate_left
      ·intro w'
       go_simp
       with_reducible rfl
      rotate_left
      ·simp only [Act.put, sA_, sZ_, sS_, i64_w, i32_w]
       rfl
      refine pure_ (i := 1) (N := some 38) (v := ?_) (a' := ?_) #[true, true, false, false, false, false, false, false] rfl rfl (any_of HT_.out (by kernel_rfl)) (fun _ _ _ h => h) (Or.inl ⟨by rfl, ?_⟩) ?_ ?_
      rotate_left
      ·intro w'
       go_simp
       with_reducible rfl
      rotate_left
      ·simp only [Act.put, sA_, sZ_, sS_, i64_w, i32_w]
       rfl
      refine pure_ (i := 2) (N := some 39) (v := ?_) (a' := ?_) #[true, true, true, false, false, false, false, false] rfl rfl (any_of HT_.out (by kernel_rfl)) (fun _ _ _ h => h) (Or.inl ⟨by rfl, ?_⟩) ?_ ?_
      rotate_left
      ·intro w'
       go_simp
       with_reducible rfl
      rotate_left
      ·simp only [Act.put, sA_, sZ_, sS_, i64_w, i32_w]
       rfl
      refine pure_ (i := 4) (N := some 41) (v := ?_) (a' := ?_) #[true, true, true, false, true, false, false, false] rfl rfl (any_of HT_.out (by kernel_rfl)) (fun _ _ _ h => h) (Or.inl ⟨by rfl, ?_⟩) ?_ ?_
      rotate_left
      ·intro w'
       go_simp
       with_reducible rfl
      rotate_left
      ·simp only [Act.put, sA_, sZ_, sS_, i64_w, i32_w]
       rfl
      refine take_ (i := 3) (N := some 40) (v := ?_) (a' := ?_) #[true, true, true, true, true, false, false, false] rfl rfl (take_ofW HT_.out HW_.out (by kernel_rfl)) (fun _ _ _ h => h) (Or.inl ⟨by rfl, ?_⟩) hHeld ?_ ?_
      rotate_left
      ·rintro w' ⟨s0, s1⟩
       go_simp
       with_reducible rfl
      rotate_left
      ·simp only [Act.put, sA_, sZ_, sS_, i64_w, i32_w]
       rfl
      refine take_ (i := 5) (N := some 42) (v := ?_) (a' := ?_) #[true, true, true, true, true, true, false, false] rfl rfl (take_ofW HT_.out HW_.out (by kernel_rfl)) (fun _ _ _ h => h) (Or.inl ⟨by rfl, ?_⟩) hHeld ?_ ?_
      rotate_left
      ·rintro w' ⟨s0, s1⟩
       go_simp
       with_reducible rfl
      rotate_left
      ·simp only [Act.put, sA_, sZ_, sS_, i64_w, i32_w]
       rfl
      refine pure_ (i := 6) (N := some 43) (v := ?_) (a' := ?_) #[true, true, true, true, true, true, true, false] rfl rfl (any_of HT_.out (by kernel_rfl)) (fun _ _ _ h => h) (Or.inl ⟨by rfl, ?_⟩) ?_ ?_
      rotate_left
      ·intro w'
       go_simp
       with_reducible rfl
      rotate_left
      ·simp only [Act.put, sA_, sZ_, sS_, i64_w, i32_w]
       rfl
      refine last_ (i := 7) (N := none) #[true, true, true, true, true, true, true, true] rfl rfl (one_of HT_.out (by kernel_rfl)) (by decide) (fun K hK => ?_)
      have hs36 : w33.cell? ⟨gb207, 0, none⟩ = some (.int .i64 0) := (blk_cell BK207.out 0).trans rfl
      have hfs36 := blk_frozen BK207.out 0
      have hs37 : w33.cell? ⟨gb207, 1, none⟩ = some (.string (⟨#[]⟩ : ByteArray)) := (blk_cell BK207.out 1).trans rfl
      have hfs37 := blk_frozen BK207.out 1
      refine skip_ (w1 := ?_) (by rfl) rfl ?_ ?_
      rotate_left
      ·go_simp
       rfl
      refine hK.out _ _ ?_
      clear hK K
      refine done_ (done_of HT_.out (by kernel_rfl)) ?_
      try go_wp2
      refine bodyPost_ret (results_cell_row rfl _ _ gb207 25 #[.int .i64 (chiN l0), .string (strOfNums x3_1)] (0, 0) _ rfl (by (with_reducible repeat (first | refine blk_drewN ?_ _ | refine blk_drew ?_ | refine blk_alloc ?_ _)); refine blk_put (cs := #[.int .i64 (chiN l0), .string (⟨#[]⟩ : ByteArray)]) ?_ 1 _ rfl; (with_reducible repeat (first | refine blk_drewN ?_ _ | refine blk_drew ?_ | refine blk_alloc ?_ _)); refine blk_put (cs := #[.int .i64 0, .string (⟨#[]⟩ : ByteArray)]) ?_ 0 _ rfl; (with_reducible repeat (first | refine blk_drewN ?_ _ | refine blk_drew ?_ | refine blk_alloc ?_ _)); exact BK207.out) Try.underlying25 rfl (by kernel_rfl)) rfl ?_
      exact ⟨by first | rfl | (simp [errW_none, errW_some] <;> rfl) | (simp [*, errW_none, errW_some] <;> rfl), bx1 HB.out GE207.out⟩
     ·rw [if_neg c32] at H
      exact absurd H (by simp)
 ·rw [if_neg c2] at H
  exact absurd H (by simp)
end Go.Proofs.Yteblnjoljbdjjaa.P
