/- What the law FnExactPairText reaches, part 2: functions as plain Lean functions with the proofs that their calls come to them, and plain lemmas over these. -/
import Derived.Test.YtcojmladlkealaaP0
import Derived.Test.YtcojmladlkealaaKFnExactPairTexta
import Derived.Test.YtcojmladlkealaaWWords
import Derived.Test.YtcojmladlkealaaRq
namespace Go.Proofs.Ytcojmladlkealaa.P
open Go.RowKit Go.Proofs.YtcojmladlkealaaW.PrintWords Go.Proofs.YtcojmladlkealaaW.PrintLast Go.Proofs.YtcojmladlkealaaW.PrintMore
attribute [local go_sem] ptrOf_slice
attribute [local go_sem] max2_int min2_int max_two min_two max_three min_three max_four min_four   -- for this text's walks alone
set_option linter.unusedVariables false
set_option linter.unusedSimpArgs false

/-! ### impl_tableOf: function 81 -/
def impl_tableOf.l0 : Nat → List Int → List (S124) → Int → Int → Int → ByteArray → Option (List Int)
  | 0, _, _, _, _, _, _ => none
  | k + 1, x3, x13, x14, x15, x514000, x514001 => if x15 < x14 then (if 0 ≤ x15 then (if x15 < (x13.length : Int) then (if x15 < (x514001.size : Int) then (if (bt x514001 x15) = 45 then ((impl_chi_set.f x3 ((rd_T124 x13 x15).f0) ((rd_T124 x13 x15).f1) ((rd_T124 x13 x15).f2) (-1)).bind fun t522 => (impl_tableOf.l0 k t522 x13 x14 (wrap64 (x15 + 1)) x514000 x514001)) else ((impl_chi_set.f x3 ((rd_T124 x13 x15).f0) ((rd_T124 x13 x15).f1) ((rd_T124 x13 x15).f2) 1).bind fun t523 => (impl_tableOf.l0 k t523 x13 x14 (wrap64 (x15 + 1)) x514000 x514001))) else (none)) else (none)) else (none)) else (some x3)
def impl_tableOf.f (k : Nat) (a0_0 : Int) (a0_1 : ByteArray) : Option (List Int) := (impl_triplesOf.f k a0_0).bind fun t517 => (impl_tableOf.l0 k (chiNew a0_0) t517 (t517.length : Int) 0 a0_0 a0_1)
theorem impl_tableOf.mono_l : ∀ k, (∀ y0 y1 y2 y3 y4 y5, LeO (impl_tableOf.l0 k y0 y1 y2 y3 y4 y5) (impl_tableOf.l0 (k + 1) y0 y1 y2 y3 y4 y5))
  | 0 => fun _ _ _ _ _ _ r h => by simp [impl_tableOf.l0] at h
  | k + 1 => by
    have ih0 := impl_tableOf.mono_l k
    · intro y0 y1 y2 y3 y4 y5
      unfold impl_tableOf.l0
      repeat' first
      | (with_reducible exact ih0 _ _ _ _ _ _)
      | (with_reducible exact impl_triplesOf.mono _ _)
      | (with_reducible exact LeO.refl _)
      | (with_reducible exact LeO.none _)
      | (with_reducible refine LeO.ite ?_ ?_)
      | (with_reducible refine LeO.bind ?_ (fun _ => ?_))
      | exact ih0 _ _ _ _ _ _
      | exact impl_triplesOf.mono _ _
      | exact LeO.none _
      | refine LeO.ite ?_ ?_
      | refine LeO.bind ?_ (fun _ => ?_)
theorem impl_tableOf.mono : ∀ a0 a1 k, LeO (impl_tableOf.f k a0 a1) (impl_tableOf.f (k + 1) a0 a1) := by
  intro a0 a1 k
  have ih0 := impl_tableOf.mono_l k
  unfold impl_tableOf.f
  repeat' first
      | (with_reducible exact ih0 _ _ _ _ _ _)
      | (with_reducible exact impl_triplesOf.mono _ _)
      | (with_reducible exact LeO.refl _)
      | (with_reducible exact LeO.none _)
      | (with_reducible refine LeO.ite ?_ ?_)
      | (with_reducible refine LeO.bind ?_ (fun _ => ?_))
      | exact ih0 _ _ _ _ _ _
      | exact impl_triplesOf.mono _ _
      | exact LeO.none _
      | refine LeO.ite ?_ ?_
      | refine LeO.bind ?_ (fun _ => ?_)
set_option maxHeartbeats 8000000 in
set_option maxRecDepth 100000 in
theorem impl_tableOf.calls (k : Nat) (a0_0 : Int) (a0_1 : ByteArray) (r : List Int) (w : World) (h : impl_tableOf.f k a0_0 a0_1 = some r) :
    Calls Try.prog 81 #[.agg #[.int .i64 a0_0, .string a0_1]] w fun e w' => ∃ v0_ : Value, e = .returned (ptrOf v0_) ∧ Kd.R (Kd.int .i64) 111 w' w.heap.size (fun _ => True) v0_ r ∧ Below w.heap.size w w' := by
  have hu51 := Try.underlying51
  have hu124 := Try.underlying124
  have HB := Aside0.mk (Below.refl w.heap.size w)
  have H : ((impl_triplesOf.f k a0_0).bind fun t517 => (impl_tableOf.l0 k (chiNew a0_0) t517 (t517.length : Int) 0 a0_0 a0_1)) = some r := h
  clear h
  obtain ⟨y514, hy514⟩ : ∃ y_ : List Int, y_ = (chiNew a0_0) := ⟨_, rfl⟩
  replace H : ((impl_triplesOf.f k a0_0).bind fun t517 => (impl_tableOf.l0 k y514 t517 (t517.length : Int) 0 a0_0 a0_1)) = some r := by first | (rw [hy514]; with_reducible exact H) | (have H2_ := (Option.bind_some _ _).symm.trans H; rw [hy514]; with_reducible exact H2_) | (have H2_ := (Option.bind_some _ _).symm.trans H; with_reducible exact H2_) | with_reducible exact H | (rw [hy514]; exact H) | exact H
  have Ny514 := Aside0.mk hy514
  clear hy514
  replace H := Option.bind_eq_some_iff.mp H
  obtain ⟨t517, A20, H⟩ := H
  replace H : (impl_tableOf.l0 k y514 t517 (t517.length : Int) 0 a0_0 a0_1) = some r := H
  have A2 := Aside0.mk A20
  clear A20
  have H' := Aside0.mk H
  clear H
  go_enter Try.func81, Try.ntmps81
  go_wp2_with (first | ((with_reducible refine gate_dst (N := 1) rfl ?_); refine box_event ?hg (N := 1) ?hd (cs := #[.int .i64 a0_0, .string a0_1]) (t := 51) ?hr ?_; (case hd => rfl); (case hg => rfl); (case hr => first | (go_simp; done) | (go_simp; rfl)); intro gb513 hg w3 hbox hb; have n0_ := Aside0.mk (below_step (by repeat (first | (with_reducible first | exact HB.out | apply below_alloc | apply pw_below_drewN | apply below_drew1) | exact HB.out)) hb); have n1_ := Aside0.mk (hbox); have n2_ := Aside0.mk ((by rw [hg]; exact (below_size (by repeat (first | (with_reducible first | exact HB.out | apply below_alloc | apply pw_below_drewN | apply below_drew1) | exact HB.out))) : w.heap.size ≤ gb513)); have n3_ := Aside0.mk ((by rw [hg]; exact (below_size (by repeat (first | (with_reducible first | exact HB.out | apply below_alloc | apply pw_below_drewN | apply below_drew1) | exact HB.out))) : w.heap.size ≤ gb513)); clear HB; have HB := n0_; have BK513 := n1_; have GW513 := n2_; have GE513 := n3_; clear n0_ n1_ n2_ n3_; clear hb hbox hg; have hcz4_0 : w3.cell? ⟨gb513, 0, none⟩ = some (.int .i64 a0_0) := (blk_cell BK513.out 0).trans rfl; have hcz4_1 : w3.cell? ⟨gb513, 1, none⟩ = some (.string a0_1) := (blk_cell BK513.out 1).trans rfl; have hfz4_0 := blk_frozen BK513.out 0; have hfz4_1 := blk_frozen BK513.out 1) | ((with_reducible refine gate_dst (N := 9) rfl ?_); refine chi_build (N := 9) ?hg ?hd (n := a0_0) ?hr ?_; (case hd => rfl); (case hg => rfl); (case hr => first | (go_simp; done) | (go_simp; rfl))) | ((with_reducible refine gate_dst (N := 10) rfl ?_); refine chi_make _ 111 ?hg (N := 10) ?hd (n := a0_0) (ok := fun _ => True) ?hr trivial (Below.refl _ _) (Nat.le_refl _) ?_; (case hd => rfl); (case hg => rfl); (case hr => first | (go_simp; done) | (go_simp; rfl)); intro v515 w5 ho6 hb hg_ hnew_; clear hg_ hnew_; (first | rw [← Ny514.out] at ho6 | (simp only [Int.reduceToNat] at ho6; rw [← Ny514.out] at ho6)); have n0_ := Aside0.mk (Kd.R_lower ho6 (below_size (by repeat (first | (with_reducible first | exact HB.out | apply below_alloc | apply pw_below_drewN | apply below_drew1 | refine below_set ?_ GE513.out) | exact HB.out)))); have n1_ := Aside0.mk (blk_below (g := gb513) (o := .cells #[.int .i64 a0_0, .string a0_1] 51 (0, 0)) (by (with_reducible repeat (first | refine blk_drewN ?_ _ | refine blk_drew ?_ | refine blk_alloc ?_ _)); exact BK513.out) hb); have n2_ := Aside0.mk (below_step (by repeat (first | (with_reducible first | exact HB.out | apply below_alloc | apply pw_below_drewN | apply below_drew1 | refine below_set ?_ GE513.out) | exact HB.out)) hb); clear BK513; clear HB; have HO516 := n0_; have BK513 := n1_; have HB := n2_; clear n0_ n1_ n2_; clear hb ho6; have hcz7_0 : w5.cell? ⟨gb513, 0, none⟩ = some (.int .i64 a0_0) := (blk_cell BK513.out 0).trans rfl; have hcz7_1 : w5.cell? ⟨gb513, 1, none⟩ = some (.string a0_1) := (blk_cell BK513.out 1).trans rfl; have hfz7_0 := blk_frozen BK513.out 0; have hfz7_1 := blk_frozen BK513.out 1) | ((with_reducible refine gate_callee (f := 114) rfl ?_); refine goesL_ (some 13) rfl rfl Try.func114 (by kernel_rfl) rfl #[.int .i64 a0_0] rfl (by (try simp only [List.map_toArray, List.map_cons, List.map_nil]); first | done | rfl | (simp only [List.length_drop, List.length_take]; rfl)) ?_; (with_reducible refine (impl_triplesOf.calls k a0_0 t517 _ A2.out).mono ?_); rintro e w8 ⟨v518, rfl, ho0, hb⟩; refine ⟨_, rfl, ?_⟩; have n0_ := Aside0.mk (Kd.R_below (by (with_reducible repeat (first | apply Kd.R_alloc | apply Kd.R_drewN | apply Kd.R_drew)); exact HO516.out) hb); have n1_ := Aside0.mk (Kd.R_lower ho0 (below_size (by repeat (first | (with_reducible first | exact HB.out | apply below_alloc | apply pw_below_drewN | apply below_drew1 | refine below_set ?_ GE513.out) | exact HB.out)))); have n2_ := Aside0.mk (blk_below (g := gb513) (o := .cells #[.int .i64 a0_0, .string a0_1] 51 (0, 0)) (by (with_reducible repeat (first | refine blk_drewN ?_ _ | refine blk_drew ?_ | refine blk_alloc ?_ _)); exact BK513.out) hb); have n3_ := Aside0.mk (below_step (by repeat (first | (with_reducible first | exact HB.out | apply below_alloc | apply pw_below_drewN | apply below_drew1 | refine below_set ?_ GE513.out) | exact HB.out)) hb); clear HO516; clear BK513; clear HB; have HO516 := n0_; have HO519 := n1_; have BK513 := n2_; have HB := n3_; clear n0_ n1_ n2_ n3_; (try clear hb); (try clear hb2); (try clear hk); (try clear hi); (try clear ho0); obtain ⟨Ao9, co9, eo9⟩ := Kd.R_slice HO519.out; subst eo9))
  go_loopg [15] k (fun kq v15 w' => ∃ (x3_1 : List Int) (x15_1 : Int), v15 = .int .i64 x15_1 ∧ Aside0 (impl_tableOf.l0 kq x3_1 t517 (t517.length : Int) x15_1 a0_0 a0_1 = some r) ∧ Aside0 (kq ≤ k) ∧ Aside0 (Kd.R (Kd.int .i64) 111 w' w.heap.size (fun _ => True) v515 x3_1) ∧ Aside0 (Kd.R k124 124 w' w.heap.size (fun _ => True) (.slice Ao9 t517.length co9) t517) ∧ Aside0 (w'.heap[gb513]? = some (.cells #[.int .i64 a0_0, .string a0_1] 51 (0, 0))) ∧ Aside0 (Below w.heap.size w w'))
  case atStart => exact ⟨(y514), (0), (by first | rfl | (simp; done) | (simp [*]; done)), H', ⟨Nat.le_refl _⟩, ⟨by (with_reducible repeat (first | apply Kd.R_alloc | apply Kd.R_drewN | apply Kd.R_drew)); exact HO516.out⟩, ⟨by (with_reducible repeat (first | apply Kd.R_alloc | apply Kd.R_drewN | apply Kd.R_drew)); exact HO519.out⟩, ⟨by (with_reducible repeat (first | refine blk_drewN ?_ _ | refine blk_drew ?_ | refine blk_alloc ?_ _)); exact BK513.out⟩, ⟨by repeat (first | (with_reducible first | exact HB.out | apply below_alloc | apply pw_below_drewN | apply below_drew1 | refine below_set ?_ GE513.out) | exact HB.out)⟩⟩
  case round =>
    clear H'
    try clear c1
    try clear p2
    try clear c8
    try clear hcz4_0
    try clear hcz4_1
    try clear hcz7_0
    try clear hcz7_1
    try clear hfz4_0
    try clear hfz4_1
    try clear hfz7_0
    try clear hfz7_1
    obtain ⟨x3_1, x15_1, rfl, HA, HK1, HO_3, HO_13, BK513, HB⟩ := hrel
    cases gk with
    | zero => exact absurd HA.out (by simp [impl_tableOf.l0])
    | succ k1 =>
      have H := HA.out
      clear HA
      simp only [impl_tableOf.l0] at H
      by_cases c10 : x15_1 < (t517.length : Int)
      · rw [if_pos c10] at H
        have c10b0 : decide (x15_1 < (t517.length : Int)) = true := decide_eq_true c10
        clear c10
        by_cases c11 : 0 ≤ x15_1
        · rw [if_pos c11] at H
          have c11b0 : decide (0 ≤ x15_1) = true := decide_eq_true c11
          clear c11
          by_cases c12 : x15_1 < (t517.length : Int)
          · rw [if_pos c12] at H
            have c12b0 : decide (x15_1 < (t517.length : Int)) = true := decide_eq_true c12
            clear c12
            by_cases c13 : x15_1 < (a0_1.size : Int)
            · rw [if_pos c13] at H
              have c13b0 : decide (x15_1 < (a0_1.size : Int)) = true := decide_eq_true c13
              clear c13
              by_cases c15 : (bt a0_1 x15_1) = 45
              · rw [if_pos c15] at H
                have c15b0 : ((bt a0_1 x15_1) == 45) = true := beq_iff_eq.mpr c15
                have c15b1 : ((bt a0_1 x15_1) != 45) = false := bne_eq_false_iff_eq.mpr c15
                clear c15
                replace H := Option.bind_eq_some_iff.mp H
                obtain ⟨t522, A160, H⟩ := H
                replace H : (impl_tableOf.l0 k1 t522 t517 (t517.length : Int) (wrap64 (x15_1 + 1)) a0_0 a0_1) = some r := H
                have A16 := Aside0.mk A160
                clear A160
                have H' := Aside0.mk H
                clear H
                have p520 : 0 ≤ (x15_1 : Int) := of_decide_eq_true (by first | (with_reducible assumption) | assumption)
                have q520 : x15_1 < (t517.length : Int) := of_decide_eq_true (by first | (with_reducible assumption) | assumption)
                obtain ⟨ad520, e520, hx520_0, hx520_1, hx520_2⟩ := at_T124 (Kd.R_reads' HO_13.out).2.2 x15_1 p520 q520
                cases e520
                replace p520 := eq_true p520
                replace q520 := eq_true q520
                go_wp2_with (first | ((with_reducible refine gate_dst (N := 5) rfl ?_); refine box_event ?hg (N := 5) ?hd (cs := #[.int .i64 0, .int .i64 0, .int .i64 0]) (t := 124) ?hr ?_; (case hd => rfl); (case hg => rfl); (case hr => first | (go_simp; done) | (go_simp; rfl)); intro gb521 hg w17 hbox hb; have n0_ := Aside0.mk (Kd.R_below (by (with_reducible repeat (first | apply Kd.R_alloc | apply Kd.R_drewN | apply Kd.R_drew)); exact HO_3.out) hb); have n1_ := Aside0.mk (Kd.R_below (Kd.R_elderB (by (with_reducible repeat (first | apply Kd.R_alloc | apply Kd.R_drewN | apply Kd.R_drew)); exact HO_13.out) gb521 (Nat.le_of_eq hg.symm)) hb); have n2_ := Aside0.mk (blk_below (g := gb513) (o := .cells #[.int .i64 a0_0, .string a0_1] 51 (0, 0)) (by (with_reducible repeat (first | refine blk_drewN ?_ _ | refine blk_drew ?_ | refine blk_alloc ?_ _)); exact BK513.out) hb); have n3_ := Aside0.mk (below_step (by repeat (first | (with_reducible first | exact HB.out | apply below_alloc | apply pw_below_drewN | apply below_drew1 | refine below_set ?_ GE513.out) | exact HB.out)) hb); have n4_ := Aside0.mk (hbox); have n5_ := Aside0.mk ((by rw [hg]; exact (below_size (by repeat (first | (with_reducible first | exact HB.out | apply below_alloc | apply pw_below_drewN | apply below_drew1 | refine below_set ?_ GE513.out) | exact HB.out))) : w.heap.size ≤ gb521)); have n6_ := Aside0.mk ((by rw [hg]; exact (below_size (by repeat (first | (with_reducible first | exact HB.out | apply below_alloc | apply pw_below_drewN | apply below_drew1 | refine below_set ?_ GE513.out) | exact HB.out))) : w.heap.size ≤ gb521)); have n7_ := Aside0.mk ((by rw [hg]; exact Nat.ne_of_lt (blk_lt (g := gb513) (o := .cells #[.int .i64 a0_0, .string a0_1] 51 (0, 0)) (by (with_reducible repeat (first | refine blk_drewN ?_ _ | refine blk_drew ?_ | refine blk_alloc ?_ _)); exact BK513.out)) : gb513 ≠ gb521)); have n8_ := Aside0.mk ((by rw [hg]; exact Nat.ne_of_gt (blk_lt (g := gb513) (o := .cells #[.int .i64 a0_0, .string a0_1] 51 (0, 0)) (by (with_reducible repeat (first | refine blk_drewN ?_ _ | refine blk_drew ?_ | refine blk_alloc ?_ _)); exact BK513.out)) : gb521 ≠ gb513)); clear HO_3; clear HO_13; clear BK513; clear HB; have HO_3 := n0_; have HO_13 := n1_; have BK513 := n2_; have HB := n3_; have BK521 := n4_; have GW521 := n5_; have GE521 := n6_; have NB513_521 := n7_; have NB521_513 := n8_; clear n0_ n1_ n2_ n3_ n4_ n5_ n6_ n7_ n8_; clear hb hbox hg; have hnb18 := NB521_513.out; have hnc18 := NB513_521.out; have hcz19_0 : w17.cell? ⟨gb521, 0, none⟩ = some (.int .i64 0) := (blk_cell BK521.out 0).trans rfl; have hcz19_1 : w17.cell? ⟨gb521, 1, none⟩ = some (.int .i64 0) := (blk_cell BK521.out 1).trans rfl; have hcz19_2 : w17.cell? ⟨gb521, 2, none⟩ = some (.int .i64 0) := (blk_cell BK521.out 2).trans rfl; have hfz19_0 := blk_frozen BK521.out 0; have hfz19_1 := blk_frozen BK521.out 1; have hfz19_2 := blk_frozen BK521.out 2) | ((with_reducible refine gate_store (t := 124) (p := 5) rfl ?_); refine store_event (t := 124) (p := 5) (v := ?vo_w20) (w1 := (((w17.setCell ⟨gb521, 0, none⟩ (.int .i64 ((rd_T124 t517 x15_1).f0))).setCell ⟨gb521, 1, none⟩ (.int .i64 ((rd_T124 t517 x15_1).f1))).setCell ⟨gb521, 2, none⟩ (.int .i64 ((rd_T124 t517 x15_1).f2)))) ?hg ?ho ?hn ?hr ?_; (case ho => rfl); (case hg => rfl); (case hn => rfl); (case hr => first | (go_simp; done) | (go_simp; rfl)); intro w20 hw; have n0_ : Aside0 (Kd.R (Kd.int .i64) 111 w20 w.heap.size (fun _ => True) v515 x3_1) := ⟨(by rw [hw]; exact (by (with_reducible repeat (first | apply Kd.R_alloc | apply Kd.R_drewN | apply Kd.R_drew)); exact Kd.R_mono (Kd.R_far (p := ⟨gb521, 2, none⟩) (Kd.R_far (p := ⟨gb521, 1, none⟩) (Kd.R_far (p := ⟨gb521, 0, none⟩) (Kd.R_types HO_3.out BK521.out (by decide)) (fun _ hk => hk.2) (.int .i64 ((rd_T124 t517 x15_1).f0))) (fun _ hk => hk.2) (.int .i64 ((rd_T124 t517 x15_1).f1))) (fun _ hk => hk.2) (.int .i64 ((rd_T124 t517 x15_1).f2))) (fun _ hk => trivial)))⟩; have n1_ : Aside0 (Kd.R k124 124 w20 w.heap.size (fun k_ => k_ ≠ gb521) (.slice (some ad520) t517.length co9) t517) := ⟨(by rw [hw]; exact (by (with_reducible repeat (first | apply Kd.R_alloc | apply Kd.R_drewN | apply Kd.R_drew)); exact Kd.R_mono (Kd.R_far (p := ⟨gb521, 2, none⟩) (Kd.R_far (p := ⟨gb521, 1, none⟩) (Kd.R_far (p := ⟨gb521, 0, none⟩) (Kd.R_mono HO_13.out (fun k_ hk => (⟨hk, hk.2⟩ : _ ∧ k_ ≠ gb521))) (fun _ hk => hk.2) (.int .i64 ((rd_T124 t517 x15_1).f0))) (fun _ hk => hk.2) (.int .i64 ((rd_T124 t517 x15_1).f1))) (fun _ hk => hk.2) (.int .i64 ((rd_T124 t517 x15_1).f2))) (fun _ hk => hk.1.2)))⟩; have n2_ : Aside0 (w20.heap[gb513]? = some (.cells #[.int .i64 a0_0, .string a0_1] 51 (0, 0))) := ⟨(by rw [hw]; exact (by (with_reducible repeat (first | refine blk_drewN ?_ _ | refine blk_drew ?_ | refine blk_alloc ?_ _)); refine blk_far ?_ NB513_521.out _; (with_reducible repeat (first | refine blk_drewN ?_ _ | refine blk_drew ?_ | refine blk_alloc ?_ _)); refine blk_far ?_ NB513_521.out _; (with_reducible repeat (first | refine blk_drewN ?_ _ | refine blk_drew ?_ | refine blk_alloc ?_ _)); refine blk_far ?_ NB513_521.out _; (with_reducible repeat (first | refine blk_drewN ?_ _ | refine blk_drew ?_ | refine blk_alloc ?_ _)); exact BK513.out))⟩; have n3_ : Aside0 (w20.heap[gb521]? = some (.cells #[.int .i64 ((rd_T124 t517 x15_1).f0), .int .i64 ((rd_T124 t517 x15_1).f1), .int .i64 ((rd_T124 t517 x15_1).f2)] 124 (0, 0))) := ⟨(by rw [hw]; exact (by (with_reducible repeat (first | refine blk_drewN ?_ _ | refine blk_drew ?_ | refine blk_alloc ?_ _)); refine blk_put (cs := #[.int .i64 ((rd_T124 t517 x15_1).f0), .int .i64 ((rd_T124 t517 x15_1).f1), .int .i64 0]) ?_ 2 _ rfl; (with_reducible repeat (first | refine blk_drewN ?_ _ | refine blk_drew ?_ | refine blk_alloc ?_ _)); refine blk_put (cs := #[.int .i64 ((rd_T124 t517 x15_1).f0), .int .i64 0, .int .i64 0]) ?_ 1 _ rfl; (with_reducible repeat (first | refine blk_drewN ?_ _ | refine blk_drew ?_ | refine blk_alloc ?_ _)); refine blk_put (cs := #[.int .i64 0, .int .i64 0, .int .i64 0]) ?_ 0 _ rfl; (with_reducible repeat (first | refine blk_drewN ?_ _ | refine blk_drew ?_ | refine blk_alloc ?_ _)); exact BK521.out))⟩; have n4_ : Aside0 (Below w.heap.size w w20) := ⟨(by rw [hw]; exact (by repeat (first | (with_reducible first | exact HB.out | apply below_alloc | apply pw_below_drewN | apply below_drew1 | refine below_set ?_ GE513.out | refine below_set ?_ GE521.out) | exact HB.out)))⟩; clear hw; clear HO_3; clear HO_13; clear BK513; clear BK521; clear HB; have HO_3 := n0_; have HO_13 := n1_; have BK513 := n2_; have BK521 := n3_; have HB := n4_; clear n0_ n1_ n2_ n3_ n4_; have hcz21_0 : w20.cell? ⟨gb513, 0, none⟩ = some (.int .i64 a0_0) := (blk_cell BK513.out 0).trans rfl; have hcz21_1 : w20.cell? ⟨gb513, 1, none⟩ = some (.string a0_1) := (blk_cell BK513.out 1).trans rfl; have hfz21_0 := blk_frozen BK513.out 0; have hfz21_1 := blk_frozen BK513.out 1; have p14 : 0 ≤ (x15_1 : Int) := of_decide_eq_true (by first | (with_reducible assumption) | assumption); have q14 : x15_1 < (a0_1.size : Int) := of_decide_eq_true (by first | (with_reducible assumption) | assumption); have hx14 := bt_at a0_1 x15_1; replace p14 := eq_true p14; replace q14 := eq_true q14; have hcz22_0 : w20.cell? ⟨gb521, 0, none⟩ = some (.int .i64 ((rd_T124 t517 x15_1).f0)) := (blk_cell BK521.out 0).trans rfl; have hcz22_1 : w20.cell? ⟨gb521, 1, none⟩ = some (.int .i64 ((rd_T124 t517 x15_1).f1)) := (blk_cell BK521.out 1).trans rfl; have hcz22_2 : w20.cell? ⟨gb521, 2, none⟩ = some (.int .i64 ((rd_T124 t517 x15_1).f2)) := (blk_cell BK521.out 2).trans rfl; have hfz22_0 := blk_frozen BK521.out 0; have hfz22_1 := blk_frozen BK521.out 1; have hfz22_2 := blk_frozen BK521.out 2; obtain ⟨Ao23, co23, eo23⟩ := Kd.R_slice HO_3.out; subst eo23) | ((with_reducible refine gate_callee (f := 96) rfl ?_); refine goesL_ (some 33) rfl rfl Try.func96 (by kernel_rfl) rfl #[.pointer Ao23, .int .i64 ((rd_T124 t517 x15_1).f0), .int .i64 ((rd_T124 t517 x15_1).f1), .int .i64 ((rd_T124 t517 x15_1).f2), .int .i64 (-1)] rfl (by (try simp only [List.map_toArray, List.map_cons, List.map_nil]); first | done | rfl | (simp only [List.length_drop, List.length_take]; rfl)) ?_; (refine (impl_chi_set.calls (fun k_ => some k_ = (.slice Ao23 x3_1.length co23 : Value).ownBlock) (.slice Ao23 x3_1.length co23) x3_1 ((rd_T124 t517 x15_1).f0) ((rd_T124 t517 x15_1).f1) ((rd_T124 t517 x15_1).f2) (-1) t522 w _ ?side1 ?side2 A16.out).mono ?_); (case side1 => repeat (first | (with_reducible first | exact HB.out | apply below_alloc | apply pw_below_drewN | apply below_drew1 | refine below_set ?_ GE513.out | refine below_set ?_ GE521.out) | exact HB.out)); (case side2 => exact Kd.R_tight rfl HO_3.out); rintro e w24 ⟨rfl, hy0, hb, hkp⟩; refine ⟨_, rfl, ?_⟩; have n0_ := Aside0.mk (Kd.R_reok rfl hy0 (fun k_ e_ => HO_3.out.1 k_ e_)); have n1_ := Aside0.mk (Kd.R_mono (ok' := fun k_ => k_ ≠ gb521) (Kd.R_keptB ((Kd.R_apart' HO_13.out (Kd.R_typed HO_3.out) (by decide))) hkp (fun k_ hk_ hs_ => (hk_.2) hs_)) (fun k_ hk_ => hk_.1.1)); have n2_ := Aside0.mk (blk_kept (by (with_reducible repeat (first | refine blk_drewN ?_ _ | refine blk_drew ?_ | refine blk_alloc ?_ _)); exact BK513.out) hkp (fun hs_ => (fun e_ => (Kd.R_ne HO_3.out BK513.out (by decide)) e_) hs_)); have n3_ := Aside0.mk (blk_kept (by (with_reducible repeat (first | refine blk_drewN ?_ _ | refine blk_drew ?_ | refine blk_alloc ?_ _)); exact BK521.out) hkp (fun hs_ => (fun e_ => (Kd.R_ne HO_3.out BK521.out (by decide)) e_) hs_)); have n4_ := Aside0.mk (hb); clear HO_3; clear HO_13; clear BK513; clear BK521; clear HB; have HO_3 := n0_; have HO_13 := n1_; have BK513 := n2_; have BK521 := n3_; have HB := n4_; clear n0_ n1_ n2_ n3_ n4_; (try clear hb); (try clear hkp); (try clear hy0)))
                go_roundg k1
                case measure => have := HK1.out; omega
                case rel => exact ⟨(t522), (wrap64 (x15_1 + 1)), (by first | rfl | (simp; done) | (simp [*]; done)), H', ⟨by have := HK1.out; omega⟩, ⟨by (with_reducible repeat (first | apply Kd.R_alloc | apply Kd.R_drewN | apply Kd.R_drew)); exact HO_3.out⟩, ⟨by (with_reducible repeat (first | apply Kd.R_alloc | apply Kd.R_drewN | apply Kd.R_drew)); exact Kd.R_mono HO_13.out (fun _ hk => trivial)⟩, ⟨by (with_reducible repeat (first | refine blk_drewN ?_ _ | refine blk_drew ?_ | refine blk_alloc ?_ _)); exact BK513.out⟩, ⟨by repeat (first | (with_reducible first | exact HB.out | apply below_alloc | apply pw_below_drewN | apply below_drew1 | refine below_set ?_ GE513.out | refine below_set ?_ GE521.out) | exact HB.out)⟩⟩
              · rw [if_neg c15] at H
                have c15b0 : ((bt a0_1 x15_1) == 45) = false := beq_eq_false_iff_ne.mpr c15
                have c15b1 : ((bt a0_1 x15_1) != 45) = true := bne_iff_ne.mpr c15
                replace H := Option.bind_eq_some_iff.mp H
                obtain ⟨t523, A250, H⟩ := H
                replace H : (impl_tableOf.l0 k1 t523 t517 (t517.length : Int) (wrap64 (x15_1 + 1)) a0_0 a0_1) = some r := H
                have A25 := Aside0.mk A250
                clear A250
                have H' := Aside0.mk H
                clear H
                have p520 : 0 ≤ (x15_1 : Int) := of_decide_eq_true (by first | (with_reducible assumption) | assumption)
                have q520 : x15_1 < (t517.length : Int) := of_decide_eq_true (by first | (with_reducible assumption) | assumption)
                obtain ⟨ad520, e520, hx520_0, hx520_1, hx520_2⟩ := at_T124 (Kd.R_reads' HO_13.out).2.2 x15_1 p520 q520
                cases e520
                replace p520 := eq_true p520
                replace q520 := eq_true q520
                go_wp2_with (first | ((with_reducible refine gate_dst (N := 5) rfl ?_); refine box_event ?hg (N := 5) ?hd (cs := #[.int .i64 0, .int .i64 0, .int .i64 0]) (t := 124) ?hr ?_; (case hd => rfl); (case hg => rfl); (case hr => first | (go_simp; done) | (go_simp; rfl)); intro gb521 hg w26 hbox hb; have n0_ := Aside0.mk (Kd.R_below (by (with_reducible repeat (first | apply Kd.R_alloc | apply Kd.R_drewN | apply Kd.R_drew)); exact HO_3.out) hb); have n1_ := Aside0.mk (Kd.R_below (Kd.R_elderB (by (with_reducible repeat (first | apply Kd.R_alloc | apply Kd.R_drewN | apply Kd.R_drew)); exact HO_13.out) gb521 (Nat.le_of_eq hg.symm)) hb); have n2_ := Aside0.mk (blk_below (g := gb513) (o := .cells #[.int .i64 a0_0, .string a0_1] 51 (0, 0)) (by (with_reducible repeat (first | refine blk_drewN ?_ _ | refine blk_drew ?_ | refine blk_alloc ?_ _)); exact BK513.out) hb); have n3_ := Aside0.mk (below_step (by repeat (first | (with_reducible first | exact HB.out | apply below_alloc | apply pw_below_drewN | apply below_drew1 | refine below_set ?_ GE513.out) | exact HB.out)) hb); have n4_ := Aside0.mk (hbox); have n5_ := Aside0.mk ((by rw [hg]; exact (below_size (by repeat (first | (with_reducible first | exact HB.out | apply below_alloc | apply pw_below_drewN | apply below_drew1 | refine below_set ?_ GE513.out) | exact HB.out))) : w.heap.size ≤ gb521)); have n6_ := Aside0.mk ((by rw [hg]; exact (below_size (by repeat (first | (with_reducible first | exact HB.out | apply below_alloc | apply pw_below_drewN | apply below_drew1 | refine below_set ?_ GE513.out) | exact HB.out))) : w.heap.size ≤ gb521)); have n7_ := Aside0.mk ((by rw [hg]; exact Nat.ne_of_lt (blk_lt (g := gb513) (o := .cells #[.int .i64 a0_0, .string a0_1] 51 (0, 0)) (by (with_reducible repeat (first | refine blk_drewN ?_ _ | refine blk_drew ?_ | refine blk_alloc ?_ _)); exact BK513.out)) : gb513 ≠ gb521)); have n8_ := Aside0.mk ((by rw [hg]; exact Nat.ne_of_gt (blk_lt (g := gb513) (o := .cells #[.int .i64 a0_0, .string a0_1] 51 (0, 0)) (by (with_reducible repeat (first | refine blk_drewN ?_ _ | refine blk_drew ?_ | refine blk_alloc ?_ _)); exact BK513.out)) : gb521 ≠ gb513)); clear HO_3; clear HO_13; clear BK513; clear HB; have HO_3 := n0_; have HO_13 := n1_; have BK513 := n2_; have HB := n3_; have BK521 := n4_; have GW521 := n5_; have GE521 := n6_; have NB513_521 := n7_; have NB521_513 := n8_; clear n0_ n1_ n2_ n3_ n4_ n5_ n6_ n7_ n8_; clear hb hbox hg; have hnb27 := NB521_513.out; have hnc27 := NB513_521.out; have hcz28_0 : w26.cell? ⟨gb521, 0, none⟩ = some (.int .i64 0) := (blk_cell BK521.out 0).trans rfl; have hcz28_1 : w26.cell? ⟨gb521, 1, none⟩ = some (.int .i64 0) := (blk_cell BK521.out 1).trans rfl; have hcz28_2 : w26.cell? ⟨gb521, 2, none⟩ = some (.int .i64 0) := (blk_cell BK521.out 2).trans rfl; have hfz28_0 := blk_frozen BK521.out 0; have hfz28_1 := blk_frozen BK521.out 1; have hfz28_2 := blk_frozen BK521.out 2) | ((with_reducible refine gate_store (t := 124) (p := 5) rfl ?_); refine store_event (t := 124) (p := 5) (v := ?vo_w29) (w1 := (((w26.setCell ⟨gb521, 0, none⟩ (.int .i64 ((rd_T124 t517 x15_1).f0))).setCell ⟨gb521, 1, none⟩ (.int .i64 ((rd_T124 t517 x15_1).f1))).setCell ⟨gb521, 2, none⟩ (.int .i64 ((rd_T124 t517 x15_1).f2)))) ?hg ?ho ?hn ?hr ?_; (case ho => rfl); (case hg => rfl); (case hn => rfl); (case hr => first | (go_simp; done) | (go_simp; rfl)); intro w29 hw; have n0_ : Aside0 (Kd.R (Kd.int .i64) 111 w29 w.heap.size (fun _ => True) v515 x3_1) := ⟨(by rw [hw]; exact (by (with_reducible repeat (first | apply Kd.R_alloc | apply Kd.R_drewN | apply Kd.R_drew)); exact Kd.R_mono (Kd.R_far (p := ⟨gb521, 2, none⟩) (Kd.R_far (p := ⟨gb521, 1, none⟩) (Kd.R_far (p := ⟨gb521, 0, none⟩) (Kd.R_types HO_3.out BK521.out (by decide)) (fun _ hk => hk.2) (.int .i64 ((rd_T124 t517 x15_1).f0))) (fun _ hk => hk.2) (.int .i64 ((rd_T124 t517 x15_1).f1))) (fun _ hk => hk.2) (.int .i64 ((rd_T124 t517 x15_1).f2))) (fun _ hk => trivial)))⟩; have n1_ : Aside0 (Kd.R k124 124 w29 w.heap.size (fun k_ => k_ ≠ gb521) (.slice (some ad520) t517.length co9) t517) := ⟨(by rw [hw]; exact (by (with_reducible repeat (first | apply Kd.R_alloc | apply Kd.R_drewN | apply Kd.R_drew)); exact Kd.R_mono (Kd.R_far (p := ⟨gb521, 2, none⟩) (Kd.R_far (p := ⟨gb521, 1, none⟩) (Kd.R_far (p := ⟨gb521, 0, none⟩) (Kd.R_mono HO_13.out (fun k_ hk => (⟨hk, hk.2⟩ : _ ∧ k_ ≠ gb521))) (fun _ hk => hk.2) (.int .i64 ((rd_T124 t517 x15_1).f0))) (fun _ hk => hk.2) (.int .i64 ((rd_T124 t517 x15_1).f1))) (fun _ hk => hk.2) (.int .i64 ((rd_T124 t517 x15_1).f2))) (fun _ hk => hk.1.2)))⟩; have n2_ : Aside0 (w29.heap[gb513]? = some (.cells #[.int .i64 a0_0, .string a0_1] 51 (0, 0))) := ⟨(by rw [hw]; exact (by (with_reducible repeat (first | refine blk_drewN ?_ _ | refine blk_drew ?_ | refine blk_alloc ?_ _)); refine blk_far ?_ NB513_521.out _; (with_reducible repeat (first | refine blk_drewN ?_ _ | refine blk_drew ?_ | refine blk_alloc ?_ _)); refine blk_far ?_ NB513_521.out _; (with_reducible repeat (first | refine blk_drewN ?_ _ | refine blk_drew ?_ | refine blk_alloc ?_ _)); refine blk_far ?_ NB513_521.out _; (with_reducible repeat (first | refine blk_drewN ?_ _ | refine blk_drew ?_ | refine blk_alloc ?_ _)); exact BK513.out))⟩; have n3_ : Aside0 (w29.heap[gb521]? = some (.cells #[.int .i64 ((rd_T124 t517 x15_1).f0), .int .i64 ((rd_T124 t517 x15_1).f1), .int .i64 ((rd_T124 t517 x15_1).f2)] 124 (0, 0))) := ⟨(by rw [hw]; exact (by (with_reducible repeat (first | refine blk_drewN ?_ _ | refine blk_drew ?_ | refine blk_alloc ?_ _)); refine blk_put (cs := #[.int .i64 ((rd_T124 t517 x15_1).f0), .int .i64 ((rd_T124 t517 x15_1).f1), .int .i64 0]) ?_ 2 _ rfl; (with_reducible repeat (first | refine blk_drewN ?_ _ | refine blk_drew ?_ | refine blk_alloc ?_ _)); refine blk_put (cs := #[.int .i64 ((rd_T124 t517 x15_1).f0), .int .i64 0, .int .i64 0]) ?_ 1 _ rfl; (with_reducible repeat (first | refine blk_drewN ?_ _ | refine blk_drew ?_ | refine blk_alloc ?_ _)); refine blk_put (cs := #[.int .i64 0, .int .i64 0, .int .i64 0]) ?_ 0 _ rfl; (with_reducible repeat (first | refine blk_drewN ?_ _ | refine blk_drew ?_ | refine blk_alloc ?_ _)); exact BK521.out))⟩; have n4_ : Aside0 (Below w.heap.size w w29) := ⟨(by rw [hw]; exact (by repeat (first | (with_reducible first | exact HB.out | apply below_alloc | apply pw_below_drewN | apply below_drew1 | refine below_set ?_ GE513.out | refine below_set ?_ GE521.out) | exact HB.out)))⟩; clear hw; clear HO_3; clear HO_13; clear BK513; clear BK521; clear HB; have HO_3 := n0_; have HO_13 := n1_; have BK513 := n2_; have BK521 := n3_; have HB := n4_; clear n0_ n1_ n2_ n3_ n4_; have hcz30_0 : w29.cell? ⟨gb513, 0, none⟩ = some (.int .i64 a0_0) := (blk_cell BK513.out 0).trans rfl; have hcz30_1 : w29.cell? ⟨gb513, 1, none⟩ = some (.string a0_1) := (blk_cell BK513.out 1).trans rfl; have hfz30_0 := blk_frozen BK513.out 0; have hfz30_1 := blk_frozen BK513.out 1; have p14 : 0 ≤ (x15_1 : Int) := of_decide_eq_true (by first | (with_reducible assumption) | assumption); have q14 : x15_1 < (a0_1.size : Int) := of_decide_eq_true (by first | (with_reducible assumption) | assumption); have hx14 := bt_at a0_1 x15_1; replace p14 := eq_true p14; replace q14 := eq_true q14; have hcz31_0 : w29.cell? ⟨gb521, 0, none⟩ = some (.int .i64 ((rd_T124 t517 x15_1).f0)) := (blk_cell BK521.out 0).trans rfl; have hcz31_1 : w29.cell? ⟨gb521, 1, none⟩ = some (.int .i64 ((rd_T124 t517 x15_1).f1)) := (blk_cell BK521.out 1).trans rfl; have hcz31_2 : w29.cell? ⟨gb521, 2, none⟩ = some (.int .i64 ((rd_T124 t517 x15_1).f2)) := (blk_cell BK521.out 2).trans rfl; have hfz31_0 := blk_frozen BK521.out 0; have hfz31_1 := blk_frozen BK521.out 1; have hfz31_2 := blk_frozen BK521.out 2; obtain ⟨Ao32, co32, eo32⟩ := Kd.R_slice HO_3.out; subst eo32) | ((with_reducible refine gate_callee (f := 96) rfl ?_); refine goesL_ (some 33) rfl rfl Try.func96 (by kernel_rfl) rfl #[.pointer Ao32, .int .i64 ((rd_T124 t517 x15_1).f0), .int .i64 ((rd_T124 t517 x15_1).f1), .int .i64 ((rd_T124 t517 x15_1).f2), .int .i64 1] rfl (by (try simp only [List.map_toArray, List.map_cons, List.map_nil]); first | done | rfl | (simp only [List.length_drop, List.length_take]; rfl)) ?_; (refine (impl_chi_set.calls (fun k_ => some k_ = (.slice Ao32 x3_1.length co32 : Value).ownBlock) (.slice Ao32 x3_1.length co32) x3_1 ((rd_T124 t517 x15_1).f0) ((rd_T124 t517 x15_1).f1) ((rd_T124 t517 x15_1).f2) 1 t523 w _ ?side1 ?side2 A25.out).mono ?_); (case side1 => repeat (first | (with_reducible first | exact HB.out | apply below_alloc | apply pw_below_drewN | apply below_drew1 | refine below_set ?_ GE513.out | refine below_set ?_ GE521.out) | exact HB.out)); (case side2 => exact Kd.R_tight rfl HO_3.out); rintro e w33 ⟨rfl, hy0, hb, hkp⟩; refine ⟨_, rfl, ?_⟩; have n0_ := Aside0.mk (Kd.R_reok rfl hy0 (fun k_ e_ => HO_3.out.1 k_ e_)); have n1_ := Aside0.mk (Kd.R_mono (ok' := fun k_ => k_ ≠ gb521) (Kd.R_keptB ((Kd.R_apart' HO_13.out (Kd.R_typed HO_3.out) (by decide))) hkp (fun k_ hk_ hs_ => (hk_.2) hs_)) (fun k_ hk_ => hk_.1.1)); have n2_ := Aside0.mk (blk_kept (by (with_reducible repeat (first | refine blk_drewN ?_ _ | refine blk_drew ?_ | refine blk_alloc ?_ _)); exact BK513.out) hkp (fun hs_ => (fun e_ => (Kd.R_ne HO_3.out BK513.out (by decide)) e_) hs_)); have n3_ := Aside0.mk (blk_kept (by (with_reducible repeat (first | refine blk_drewN ?_ _ | refine blk_drew ?_ | refine blk_alloc ?_ _)); exact BK521.out) hkp (fun hs_ => (fun e_ => (Kd.R_ne HO_3.out BK521.out (by decide)) e_) hs_)); have n4_ := Aside0.mk (hb); clear HO_3; clear HO_13; clear BK513; clear BK521; clear HB; have HO_3 := n0_; have HO_13 := n1_; have BK513 := n2_; have BK521 := n3_; have HB := n4_; clear n0_ n1_ n2_ n3_ n4_; (try clear hb); (try clear hkp); (try clear hy0)))
                go_roundg k1
                case measure => have := HK1.out; omega
                case rel => exact ⟨(t523), (wrap64 (x15_1 + 1)), (by first | rfl | (simp; done) | (simp [*]; done)), H', ⟨by have := HK1.out; omega⟩, ⟨by (with_reducible repeat (first | apply Kd.R_alloc | apply Kd.R_drewN | apply Kd.R_drew)); exact HO_3.out⟩, ⟨by (with_reducible repeat (first | apply Kd.R_alloc | apply Kd.R_drewN | apply Kd.R_drew)); exact Kd.R_mono HO_13.out (fun _ hk => trivial)⟩, ⟨by (with_reducible repeat (first | refine blk_drewN ?_ _ | refine blk_drew ?_ | refine blk_alloc ?_ _)); exact BK513.out⟩, ⟨by repeat (first | (with_reducible first | exact HB.out | apply below_alloc | apply pw_below_drewN | apply below_drew1 | refine below_set ?_ GE513.out | refine below_set ?_ GE521.out) | exact HB.out)⟩⟩
            · rw [if_neg c13] at H
              exact absurd H (by simp)
          · rw [if_neg c12] at H
            exact absurd H (by simp)
        · rw [if_neg c11] at H
          exact absurd H (by simp)
      · rw [if_neg c10] at H
        have c10b0 : decide (x15_1 < (t517.length : Int)) = false := decide_eq_false c10
        clear c10
        obtain rfl := Option.some.inj H
        go_wp2
        go_ret
        exact ⟨_, by first | rfl | (simp [errW_none, errW_some] <;> rfl) | (simp [*, errW_none, errW_some] <;> rfl), by (with_reducible repeat (first | apply Kd.R_alloc | apply Kd.R_drewN | apply Kd.R_drew)); exact HO_3.out, by repeat (first | (with_reducible first | exact HB.out | apply below_alloc | apply pw_below_drewN | apply below_drew1 | refine below_set ?_ GE513.out) | exact HB.out)⟩

end Go.Proofs.Ytcojmladlkealaa.P

namespace Go.Proofs.Ytcojmladlkealaa.P
open Go.RowKit Go.Proofs.YtcojmladlkealaaW.PrintWords Go.Proofs.YtcojmladlkealaaW.PrintLast Go.Proofs.YtcojmladlkealaaW.PrintMore
attribute [local go_sem] ptrOf_slice
attribute [local go_sem] max2_int min2_int max_two min_two max_three min_three max_four min_four   -- for this text's walks alone
set_option linter.unusedVariables false
set_option linter.unusedSimpArgs false

/-! ### impl_chi_pairText: function 82 -/
def impl_chi_pairText.l0 : Nat → List Int → Int → Int → List Int → Int → Int → Option (ByteArray)
  | 0, _, _, _, _, _, _ => none
  | k + 1, x0, x1, x2, x7, x15, x16 => if x16 < x15 then (if 344 ≤ (x0.length : Int) then (if 0 ≤ x1 then (if x1 < 7 then (if 0 ≤ x2 then (if x2 < 7 then (if 0 ≤ x16 then (if x16 < 7 then (if 0 ≤ (wrap64 ((chiA x0 x1 x2 x16) + 1)) then (if (wrap64 ((chiA x0 x1 x2 x16) + 1)) < 3 then (if x16 < (x7.length : Int) then (impl_chi_pairText.l0 k x0 x1 x2 (x7.set (x16 : Int).toNat (bt (⟨#[45, 48, 43]⟩ : ByteArray) (wrap64 ((chiA x0 x1 x2 x16) + 1)))) x15 (wrap64 (x16 + 1))) else (none)) else (none)) else (none)) else (none)) else (none)) else (none)) else (none)) else (none)) else (none)) else (none)) else (some (strOfNums x7))
def impl_chi_pairText.f (k : Nat) (l0 : List Int) (a1 : Int) (a2 : Int) : Option (ByteArray) := if 344 ≤ (l0.length : Int) then (if 0 ≤ (chiN l0) then (if (chiN l0 : Int).toNat ≤ 281474976710656 then ((some (List.replicate (chiN l0 : Int).toNat 0 : List Int)).bind fun y525 => (impl_chi_pairText.l0 k l0 a1 a2 y525 (y525.length : Int) 0)) else (none)) else (none)) else (none)
theorem impl_chi_pairText.mono_l : ∀ k, (∀ y0 y1 y2 y3 y4 y5, LeO (impl_chi_pairText.l0 k y0 y1 y2 y3 y4 y5) (impl_chi_pairText.l0 (k + 1) y0 y1 y2 y3 y4 y5))
  | 0 => fun _ _ _ _ _ _ r h => by simp [impl_chi_pairText.l0] at h
  | k + 1 => by
    have ih0 := impl_chi_pairText.mono_l k
    · intro y0 y1 y2 y3 y4 y5
      unfold impl_chi_pairText.l0
      repeat' first
      | (with_reducible exact ih0 _ _ _ _ _ _)
      | (with_reducible exact LeO.refl _)
      | (with_reducible exact LeO.none _)
      | (with_reducible refine LeO.ite ?_ ?_)
      | (with_reducible refine LeO.bind ?_ (fun _ => ?_))
      | exact ih0 _ _ _ _ _ _
      | exact LeO.none _
      | refine LeO.ite ?_ ?_
      | refine LeO.bind ?_ (fun _ => ?_)
theorem impl_chi_pairText.mono : ∀ a0 a1 a2 k, LeO (impl_chi_pairText.f k a0 a1 a2) (impl_chi_pairText.f (k + 1) a0 a1 a2) := by
  intro a0 a1 a2 k
  have ih0 := impl_chi_pairText.mono_l k
  unfold impl_chi_pairText.f
  repeat' first
      | (with_reducible exact ih0 _ _ _ _ _ _)
      | (with_reducible exact LeO.refl _)
      | (with_reducible exact LeO.none _)
      | (with_reducible refine LeO.ite ?_ ?_)
      | (with_reducible refine LeO.bind ?_ (fun _ => ?_))
      | exact ih0 _ _ _ _ _ _
      | exact LeO.none _
      | refine LeO.ite ?_ ?_
      | refine LeO.bind ?_ (fun _ => ?_)
set_option maxHeartbeats 8000000 in
set_option maxRecDepth 100000 in
theorem impl_chi_pairText.calls (k : Nat) (A0 : Option Addr) (c0 : Nat) (l0 : List Int) (a1 : Int) (a2 : Int) (r : ByteArray) (w : World) (hr0 : Kd.C (Kd.int .i64) w A0 l0.length l0) (hc0 : l0.length ≤ c0) (h : impl_chi_pairText.f k l0 a1 a2 = some r) :
    Calls Try.prog 82 #[.pointer A0, .int .i64 a1, .int .i64 a2] w fun e w' => e = .returned (.string r) ∧ Below w.heap.size w w' := by
  have HR0 := Aside0.mk hr0
  have HC0 := Aside0.mk hc0
  clear hr0 hc0
  have HB := Aside0.mk (Below.refl w.heap.size w)
  have H : (if 344 ≤ (l0.length : Int) then (if 0 ≤ (chiN l0) then (if (chiN l0 : Int).toNat ≤ 281474976710656 then ((some (List.replicate (chiN l0 : Int).toNat 0 : List Int)).bind fun y525 => (impl_chi_pairText.l0 k l0 a1 a2 y525 (y525.length : Int) 0)) else (none)) else (none)) else (none)) = some r := h
  clear h
  by_cases c4 : 344 ≤ (l0.length : Int)
  · rw [if_pos c4] at H
    have c4b0 := eq_true c4
    have c4b1 : decide (344 ≤ (l0.length : Int)) = true := decide_eq_true c4
    clear c4
    by_cases c5 : 0 ≤ (chiN l0)
    · rw [if_pos c5] at H
      have c5b0 := eq_true c5
      have c5b1 : decide (0 ≤ (chiN l0)) = true := decide_eq_true c5
      clear c5
      by_cases c6 : (chiN l0 : Int).toNat ≤ 281474976710656
      · rw [if_pos c6] at H
        have c6b0 := eq_true c6
        have c6b1 : decide ((chiN l0 : Int).toNat ≤ 281474976710656) = true := decide_eq_true c6
        clear c6
        obtain ⟨y525, hy525⟩ : ∃ y_ : List Int, y_ = (List.replicate (chiN l0 : Int).toNat 0) := ⟨_, rfl⟩
        replace H : (impl_chi_pairText.l0 k l0 a1 a2 y525 (y525.length : Int) 0) = some r := by first | (rw [hy525]; with_reducible exact H) | (have H2_ := (Option.bind_some _ _).symm.trans H; rw [hy525]; with_reducible exact H2_) | (have H2_ := (Option.bind_some _ _).symm.trans H; with_reducible exact H2_) | with_reducible exact H | (rw [hy525]; exact H) | exact H
        have Ny525 := Aside0.mk hy525
        clear hy525
        have H' := Aside0.mk H
        clear H
        have q524 : 344 ≤ (l0.length : Int) := of_decide_eq_true (by first | (with_reducible assumption) | assumption)
        obtain ⟨ad524, e524, hx524_0⟩ := chi_n HR0.out q524
        cases e524
        go_enter Try.func82, Try.ntmps82
        go_wp2_with (first | ((with_reducible refine gate_dst (N := 13) rfl ?_); refine Kd.R_make (Kd.int .u8) _ 5 rfl (N := 13) rfl 85 _ _ rfl (chiN l0) rfl rfl Try.underlying85 (.int .u8 0) 1 info5 rfl (by decide) (by omega) 0 (ok := fun _ => True) (okp := fun _ => True) rfl (fun _ hk => hk) trivial (of_decide_eq_true (by first | (with_reducible assumption) | assumption)) (Nat.le_trans (Nat.mul_le_mul_right _ (of_decide_eq_true (by first | (with_reducible assumption) | assumption) : (chiN l0).toNat ≤ 281474976710656)) (by omega)) (Below.refl _ _) (Nat.le_refl _) ?_; intro v526 w7 ho8 hb hg_ hnew_; clear hg_ hnew_; (first | rw [← Ny525.out] at ho8 | (simp only [Int.reduceToNat] at ho8; rw [← Ny525.out] at ho8)); have n0_ := Aside0.mk (Kd.R_lower ho8 (below_size (by repeat (first | (with_reducible first | exact HB.out | apply below_alloc | apply pw_below_drewN | apply below_drew1) | exact HB.out)))); have n1_ := Aside0.mk (below_step (by repeat (first | (with_reducible first | exact HB.out | apply below_alloc | apply pw_below_drewN | apply below_drew1) | exact HB.out)) hb); clear HB; have HO527 := n0_; have HB := n1_; clear n0_ n1_; clear hb ho8; obtain ⟨Ao9, co9, eo9⟩ := Kd.R_slice HO527.out; subst eo9))
        go_loopg [16] k (fun kq v16 w' => ∃ (x7_1 : List Int) (x16_1 : Int), v16 = .int .i64 x16_1 ∧ Aside0 (impl_chi_pairText.l0 kq l0 a1 a2 x7_1 (y525.length : Int) x16_1 = some r) ∧ Aside0 (kq ≤ k) ∧ Aside0 (Kd.R (Kd.int .u8) 5 w' w.heap.size (fun _ => True) (.slice Ao9 y525.length co9) x7_1) ∧ Aside0 (Below w.heap.size w w'))
        case atStart => exact ⟨(y525), (0), (by first | rfl | (simp; done) | (simp [*]; done)), H', ⟨Nat.le_refl _⟩, ⟨by (with_reducible repeat (first | apply Kd.R_alloc | apply Kd.R_drewN | apply Kd.R_drew)); exact HO527.out⟩, ⟨by repeat (first | (with_reducible first | exact HB.out | apply below_alloc | apply pw_below_drewN | apply below_drew1) | exact HB.out)⟩⟩
        case round =>
          clear H'
          try clear p2
          try clear c4
          try clear c4b0
          try clear c4b1
          try clear c5
          try clear c5b0
          try clear c5b1
          try clear q5
          try clear hx5
          try clear c6
          try clear c6b0
          try clear c6b1
          try clear c8
          try clear hx524_0
          try clear q524
          obtain ⟨x7_1, x16_1, rfl, HA, HK1, HO_7, HB⟩ := hrel
          have hl7_1 := (Kd.R_reads' HO_7.out).1
          rw [hl7_1] at HO_7
          (try simp only [hl7_1])
          cases gk with
          | zero => exact absurd HA.out (by simp [impl_chi_pairText.l0])
          | succ k1 =>
            have H := HA.out
            clear HA
            simp only [impl_chi_pairText.l0] at H
            by_cases c10 : x16_1 < (y525.length : Int)
            · rw [if_pos c10] at H
              have c10b0 : decide (x16_1 < (y525.length : Int)) = true := decide_eq_true c10
              (try (have c10b0_ := c10b0; simp only [hl7_1] at c10b0_))
              clear c10
              by_cases c11 : 344 ≤ (l0.length : Int)
              · rw [if_pos c11] at H
                have c11b0 := eq_true c11
                have c11b1 : decide (344 ≤ (l0.length : Int)) = true := decide_eq_true c11
                clear c11
                by_cases c12 : 0 ≤ a1
                · rw [if_pos c12] at H
                  have c12b0 : decide (0 ≤ a1) = true := decide_eq_true c12
                  clear c12
                  by_cases c13 : a1 < 7
                  · rw [if_pos c13] at H
                    have c13b0 : decide (a1 < 7) = true := decide_eq_true c13
                    clear c13
                    by_cases c14 : 0 ≤ a2
                    · rw [if_pos c14] at H
                      have c14b0 : decide (0 ≤ a2) = true := decide_eq_true c14
                      clear c14
                      by_cases c15 : a2 < 7
                      · rw [if_pos c15] at H
                        have c15b0 : decide (a2 < 7) = true := decide_eq_true c15
                        clear c15
                        by_cases c16 : 0 ≤ x16_1
                        · rw [if_pos c16] at H
                          have c16b0 : decide (0 ≤ x16_1) = true := decide_eq_true c16
                          clear c16
                          by_cases c17 : x16_1 < 7
                          · rw [if_pos c17] at H
                            have c17b0 : decide (x16_1 < 7) = true := decide_eq_true c17
                            clear c17
                            obtain ⟨ji18, hji18⟩ : ∃ j_ : Int, (wrap64 ((chiA l0 a1 a2 x16_1) + 1)) = j_ := ⟨_, rfl⟩
                            replace H : (if 0 ≤ (ji18) then (if (ji18) < 3 then (if x16_1 < (x7_1.length : Int) then (impl_chi_pairText.l0 k1 l0 a1 a2 (x7_1.set (x16_1 : Int).toNat (bt (⟨#[45, 48, 43]⟩ : ByteArray) (ji18))) (y525.length : Int) (wrap64 (x16_1 + 1))) else (none)) else (none)) else (none)) = some r := by first | (rw [hji18] at H; exact H) | (simp only [hji18] at H ⊢; exact H)
                            have hji18w : (IntKind.i64.wrap ((chiA l0 a1 a2 x16_1) + 1)) = ji18 := (i64_w _).trans hji18
                            by_cases c19 : 0 ≤ (ji18)
                            · rw [if_pos c19] at H
                              have c19b0 : decide (0 ≤ (ji18)) = true := decide_eq_true c19
                              clear c19
                              by_cases c20 : (ji18) < 3
                              · rw [if_pos c20] at H
                                have c20b0 : decide ((ji18) < 3) = true := decide_eq_true c20
                                clear c20
                                by_cases c22 : x16_1 < (x7_1.length : Int)
                                · rw [if_pos c22] at H
                                  have c22b0 : decide (x16_1 < (x7_1.length : Int)) = true := decide_eq_true c22
                                  (try (have c22b0_ := c22b0; simp only [hl7_1] at c22b0_))
                                  clear c22
                                  obtain ⟨y529, hy529⟩ : ∃ y_ : List Int, y_ = (x7_1.set (x16_1 : Int).toNat (bt (⟨#[45, 48, 43]⟩ : ByteArray) (ji18))) := ⟨_, rfl⟩
                                  replace H : (impl_chi_pairText.l0 k1 l0 a1 a2 y529 (y525.length : Int) (wrap64 (x16_1 + 1))) = some r := by first | (rw [hy529]; with_reducible exact H) | (have H2_ := (Option.bind_some _ _).symm.trans H; rw [hy529]; with_reducible exact H2_) | (have H2_ := (Option.bind_some _ _).symm.trans H; with_reducible exact H2_) | with_reducible exact H | (rw [hy529]; exact H) | exact H
                                  have Ny529 := Aside0.mk hy529
                                  clear hy529
                                  have H' := Aside0.mk H
                                  clear H
                                  have q528 : 344 ≤ (l0.length : Int) := of_decide_eq_true (by first | (with_reducible assumption) | assumption)
                                  have p528_0a : 0 ≤ (a1 : Int) := of_decide_eq_true (by first | (with_reducible assumption) | assumption)
                                  have p528_0b : (a1 : Int) < 7 := of_decide_eq_true (by first | (with_reducible assumption) | assumption)
                                  have p528_1a : 0 ≤ (a2 : Int) := of_decide_eq_true (by first | (with_reducible assumption) | assumption)
                                  have p528_1b : (a2 : Int) < 7 := of_decide_eq_true (by first | (with_reducible assumption) | assumption)
                                  have p528_2a : 0 ≤ (x16_1 : Int) := of_decide_eq_true (by first | (with_reducible assumption) | assumption)
                                  have p528_2b : (x16_1 : Int) < 7 := of_decide_eq_true (by first | (with_reducible assumption) | assumption)
                                  obtain ⟨ad528, e528, hx528_0⟩ := chi_at HR0.out q528 p528_0a p528_0b p528_1a p528_1b p528_2a p528_2b
                                  obtain rfl : ad524 = ad528 := (by injection e528)
                                  replace hx528_0 := (HB.out.cell (World.block_lt_of_cell? w _ hx528_0)).trans hx528_0
                                  replace p528_0a := eq_true p528_0a
                                  replace p528_0b := eq_true p528_0b
                                  replace p528_1a := eq_true p528_1a
                                  replace p528_1b := eq_true p528_1b
                                  replace p528_2a := eq_true p528_2a
                                  replace p528_2b := eq_true p528_2b
                                  have p21 : 0 ≤ ((ji18) : Int) := of_decide_eq_true (by first | (with_reducible assumption) | assumption)
                                  have q21 : (ji18) < (3 : Int) := of_decide_eq_true (by first | (with_reducible assumption) | assumption)
                                  have hx21 := bt_at (⟨#[45, 48, 43]⟩ : ByteArray) (ji18)
                                  replace p21 := eq_true p21
                                  replace q21 := eq_true q21
                                  have p23 : 0 ≤ (x16_1 : Int) := of_decide_eq_true (by first | (with_reducible assumption) | assumption)
                                  have q23 : (x16_1 : Int) < ((x7_1.length : Int) : Int) := of_decide_eq_true (by first | (with_reducible assumption) | assumption)
                                  obtain ⟨go23, co23, eo23, gb23, gl23, cl23, HG23⟩ := Kd.R_form HO_7.out (by omega)
                                  (first | cases eo23 | (injection eo23 with ea_ en_ ec_; (first | subst ea_ | (injection ea_ with ea_; subst ea_)); subst ec_; clear en_))
                                  have GB23 := Aside0.mk gb23
                                  have GG23 := Aside0.mk HG23
                                  clear gb23 gl23 HG23
                                  obtain ⟨hx23_0, hf23_0⟩ := Kd.R_celln 0 HO_7.out (x16_1 : Int) p23 q23
                                  replace p23 := eq_true p23
                                  replace q23 := eq_true q23
                                  have HP24 := Kd.R_putg HO_7.out (x16_1 : Int) (bt (⟨#[45, 48, 43]⟩ : ByteArray) (ji18))
                                  go_wp2_with (first | ((with_reducible refine gate_store (t := 5) (p := 33) rfl ?_); refine store_event (t := 5) (p := 33) (v := ?vo_w25) (w1 := (wr.setCell ⟨go23, (x16_1 : Int).toNat, none⟩ (.int .u8 (bt (⟨#[45, 48, 43]⟩ : ByteArray) (ji18))))) ?hg ?ho ?hn ?hr ?_; (case ho => rfl); (case hg => rfl); (case hn => rfl); (case hr => first | (go_simp; done) | (go_simp; rfl)); intro w25 hw; have hg : wr.grownBy w25 (some go23) := (by rw [hw]; exact HP24.2); have hp_ : Kd.R (Kd.int .u8) 5 w25 w.heap.size (fun _ => True) (.slice (some ⟨go23, 0, none⟩) x7_1.length co9) y529 := (by rw [hw, Ny529.out]; exact HP24.1); clear HP24; have n0_ := Aside0.mk (hp_); have n1_ := Aside0.mk ((by rw [hw]; exact below_set (HB.out) GB23.out : Below w.heap.size w w25)); clear HO_7; clear HB; have HO_7 := n0_; have HB := n1_; clear n0_ n1_; clear hg hw hp_))
                                  (try simp only [← hl7_1])
                                  go_roundg k1
                                  case measure => have := HK1.out; omega
                                  case rel => exact ⟨(y529), (wrap64 (x16_1 + 1)), (by first | rfl | (simp; done) | (simp [*]; done)), H', ⟨by have := HK1.out; omega⟩, ⟨by (try simp only [hl7_1]); (with_reducible repeat (first | apply Kd.R_alloc | apply Kd.R_drewN | apply Kd.R_drew)); exact HO_7.out⟩, ⟨by repeat (first | (with_reducible first | exact HB.out | apply below_alloc | apply pw_below_drewN | apply below_drew1) | exact HB.out)⟩⟩
                                · rw [if_neg c22] at H
                                  exact absurd H (by simp)
                              · rw [if_neg c20] at H
                                exact absurd H (by simp)
                            · rw [if_neg c19] at H
                              exact absurd H (by simp)
                          · rw [if_neg c17] at H
                            exact absurd H (by simp)
                        · rw [if_neg c16] at H
                          exact absurd H (by simp)
                      · rw [if_neg c15] at H
                        exact absurd H (by simp)
                    · rw [if_neg c14] at H
                      exact absurd H (by simp)
                  · rw [if_neg c13] at H
                    exact absurd H (by simp)
                · rw [if_neg c12] at H
                  exact absurd H (by simp)
              · rw [if_neg c11] at H
                exact absurd H (by simp)
            · rw [if_neg c10] at H
              have c10b0 : decide (x16_1 < (y525.length : Int)) = false := decide_eq_false c10
              (try (have c10b0_ := c10b0; simp only [hl7_1] at c10b0_))
              clear c10
              obtain rfl := Option.some.inj H
              have hcv26 := own_string (P := Try.prog) Try.underlying85 Try.underlying5 Try.underlying9 (Kd.own_of_R HO_7.out)
              go_wp2
              go_ret
              exact ⟨by first | rfl | (simp [errW_none, errW_some] <;> rfl) | (simp [*, errW_none, errW_some] <;> rfl), by repeat (first | (with_reducible first | exact HB.out | apply below_alloc | apply pw_below_drewN | apply below_drew1) | exact HB.out)⟩
      · rw [if_neg c6] at H
        exact absurd H (by simp)
    · rw [if_neg c5] at H
      exact absurd H (by simp)
  · rw [if_neg c4] at H
    exact absurd H (by simp)

end Go.Proofs.Ytcojmladlkealaa.P

namespace Go.Proofs.Ytcojmladlkealaa.P
open Go.RowKit Go.Proofs.YtcojmladlkealaaW.PrintWords Go.Proofs.YtcojmladlkealaaW.PrintLast Go.Proofs.YtcojmladlkealaaW.PrintMore
attribute [local go_sem] ptrOf_slice
attribute [local go_sem] max2_int min2_int max_two min_two max_three min_three max_four min_four   -- for this text's walks alone
set_option linter.unusedVariables false
set_option linter.unusedSimpArgs false

/-! ### impl_PairText: function 40 -/
def impl_PairText.j0 : Nat → Int → Int → Bool → Int → ByteArray → Option (ByteArray)
  | 0, _, _, _, _, _ => none
  | k + 1, x1, x2, x18, x531000, x531001 => if x18 = true then (some (⟨#[]⟩ : ByteArray)) else ((impl_tableOf.f k x531000 x531001).bind fun t536 => ((impl_chi_pairText.f k t536 x1 x2).bind fun t539 => (some t539)))
def impl_PairText.f (k : Nat) (a0_0 : Int) (a0_1 : ByteArray) (a1 : Int) (a2 : Int) : Option (ByteArray) := (impl_AreSigns.f k a0_0 a0_1).bind fun t531 => (if t531 = true then ((impl_areDifferent.f k a0_0 (([a1, a2] : List Int))).bind fun t535 => (impl_PairText.j0 k a1 a2 (!t535) a0_0 a0_1)) else (impl_PairText.j0 k a1 a2 true a0_0 a0_1))
theorem impl_PairText.mono_l : ∀ k, (∀ y0 y1 y2 y3 y4, LeO (impl_PairText.j0 k y0 y1 y2 y3 y4) (impl_PairText.j0 (k + 1) y0 y1 y2 y3 y4))
  | 0 => fun _ _ _ _ _ r h => by simp [impl_PairText.j0] at h
  | k + 1 => by
    have ih0 := impl_PairText.mono_l k
    · intro y0 y1 y2 y3 y4
      unfold impl_PairText.j0
      repeat' first
      | (with_reducible exact ih0 _ _ _ _ _)
      | (with_reducible exact impl_AreSigns.mono _ _ _)
      | (with_reducible exact impl_areDifferent.mono _ _ _)
      | (with_reducible exact impl_chi_pairText.mono _ _ _ _)
      | (with_reducible exact impl_tableOf.mono _ _ _)
      | (with_reducible exact LeO.refl _)
      | (with_reducible exact LeO.none _)
      | (with_reducible refine LeO.ite ?_ ?_)
      | (with_reducible refine LeO.bind ?_ (fun _ => ?_))
      | exact ih0 _ _ _ _ _
      | exact impl_AreSigns.mono _ _ _
      | exact impl_areDifferent.mono _ _ _
      | exact impl_chi_pairText.mono _ _ _ _
      | exact impl_tableOf.mono _ _ _
      | exact LeO.none _
      | refine LeO.ite ?_ ?_
      | refine LeO.bind ?_ (fun _ => ?_)
theorem impl_PairText.mono : ∀ a0 a1 a2 a3 k, LeO (impl_PairText.f k a0 a1 a2 a3) (impl_PairText.f (k + 1) a0 a1 a2 a3) := by
  intro a0 a1 a2 a3 k
  have ih0 := impl_PairText.mono_l k
  unfold impl_PairText.f
  repeat' first
      | (with_reducible exact ih0 _ _ _ _ _)
      | (with_reducible exact impl_AreSigns.mono _ _ _)
      | (with_reducible exact impl_areDifferent.mono _ _ _)
      | (with_reducible exact impl_chi_pairText.mono _ _ _ _)
      | (with_reducible exact impl_tableOf.mono _ _ _)
      | (with_reducible exact LeO.refl _)
      | (with_reducible exact LeO.none _)
      | (with_reducible refine LeO.ite ?_ ?_)
      | (with_reducible refine LeO.bind ?_ (fun _ => ?_))
      | exact ih0 _ _ _ _ _
      | exact impl_AreSigns.mono _ _ _
      | exact impl_areDifferent.mono _ _ _
      | exact impl_chi_pairText.mono _ _ _ _
      | exact impl_tableOf.mono _ _ _
      | exact LeO.none _
      | refine LeO.ite ?_ ?_
      | refine LeO.bind ?_ (fun _ => ?_)
set_option maxHeartbeats 8000000 in
set_option maxRecDepth 100000 in
theorem impl_PairText.calls (k : Nat) (a0_0 : Int) (a0_1 : ByteArray) (a1 : Int) (a2 : Int) (r : ByteArray) (w : World) (h : impl_PairText.f k a0_0 a0_1 a1 a2 = some r) :
    Calls Try.prog 40 #[.agg #[.int .i64 a0_0, .string a0_1], .int .i64 a1, .int .i64 a2] w fun e w' => e = .returned (.string r) ∧ Below w.heap.size w w' := by
  have hu51 := Try.underlying51
  have HB := Aside0.mk (Below.refl w.heap.size w)
  have H : ((impl_AreSigns.f k a0_0 a0_1).bind fun t531 => (if t531 = true then ((impl_areDifferent.f k a0_0 (([a1, a2] : List Int))).bind fun t535 => (impl_PairText.j0 k a1 a2 (!t535) a0_0 a0_1)) else (impl_PairText.j0 k a1 a2 true a0_0 a0_1))) = some r := h
  clear h
  have HC4 := Aside0.mk H
  clear H
  go_enter Try.func40, Try.ntmps40
  go_upto_region 1 with (first | ((with_reducible refine gate_dst (N := 3) rfl ?_); (try (refine gate_guard (by rfl) ?_; dsimp only)); refine box_event ?hg (N := 3) ?hd (cs := #[.int .i64 a0_0, .string a0_1]) (t := 51) ?hr ?_; (case hd => rfl); (case hg => rfl); (case hr => first | (go_simp; done) | (go_simp; rfl)); intro gb530 hg w5 hbox hb; have n0_ := Aside0.mk (below_step (by repeat (first | (with_reducible first | exact HB.out | apply below_alloc | apply pw_below_drewN | apply below_drew1) | exact HB.out)) hb); have n1_ := Aside0.mk (hbox); have n2_ := Aside0.mk ((by rw [hg]; exact (below_size (by repeat (first | (with_reducible first | exact HB.out | apply below_alloc | apply pw_below_drewN | apply below_drew1) | exact HB.out))) : w.heap.size ≤ gb530)); have n3_ := Aside0.mk ((by rw [hg]; exact (below_size (by repeat (first | (with_reducible first | exact HB.out | apply below_alloc | apply pw_below_drewN | apply below_drew1) | exact HB.out))) : w.heap.size ≤ gb530)); clear HB; have HB := n0_; have BK530 := n1_; have GW530 := n2_; have GE530 := n3_; clear n0_ n1_ n2_ n3_; clear hb hbox hg))
  (try simp only [Act.put, List.setIfInBounds_toArray, List.set_cons_zero, List.set_cons_succ])
  go_cut [18] (fun v18 wc => ∃ (kq : Nat) (x18_3 : Bool), v18 = .bool x18_3 ∧ Aside0 (impl_PairText.j0 kq a1 a2 x18_3 a0_0 a0_1 = some r) ∧ Aside0 (kq ≤ k) ∧ Aside0 (wc.heap[gb530]? = some (.cells #[.int .i64 a0_0, .string a0_1] 51 (0, 0))) ∧ Aside0 (Below w.heap.size w wc))
  case first =>
    have H := HC4.out
    clear HC4
    replace H := Option.bind_eq_some_iff.mp H
    obtain ⟨t531, A60, H⟩ := H
    replace H : (if t531 = true then ((impl_areDifferent.f k a0_0 (([a1, a2] : List Int))).bind fun t535 => (impl_PairText.j0 k a1 a2 (!t535) a0_0 a0_1)) else (impl_PairText.j0 k a1 a2 true a0_0 a0_1)) = some r := H
    have A6 := Aside0.mk A60
    clear A60
    by_cases c7 : t531 = true
    · subst c7
      have H1 : ((impl_areDifferent.f k a0_0 (([a1, a2] : List Int))).bind fun t535 => (impl_PairText.j0 k a1 a2 (!t535) a0_0 a0_1)) = some r := by rw [if_pos rfl] at H; exact H
      clear H
      have H := H1
      clear H1
      obtain ⟨y532, hy532⟩ : ∃ y_ : List Int, y_ = (([a1, a2] : List Int)) := ⟨_, rfl⟩
      replace H : ((impl_areDifferent.f k a0_0 y532).bind fun t535 => (impl_PairText.j0 k a1 a2 (!t535) a0_0 a0_1)) = some r := by first | (rw [hy532]; with_reducible exact H) | (have H2_ := (Option.bind_some _ _).symm.trans H; rw [hy532]; with_reducible exact H2_) | (have H2_ := (Option.bind_some _ _).symm.trans H; with_reducible exact H2_) | with_reducible exact H | (rw [hy532]; exact H) | exact H
      have Ny532 := Aside0.mk hy532
      clear hy532
      replace H := Option.bind_eq_some_iff.mp H
      obtain ⟨t535, A80, H⟩ := H
      replace H : (impl_PairText.j0 k a1 a2 (!t535) a0_0 a0_1) = some r := H
      have A8 := Aside0.mk A80
      clear A80
      have H' := Aside0.mk H
      clear H
      have hcz9_0 : w5.cell? ⟨gb530, 0, none⟩ = some (.int .i64 a0_0) := (blk_cell BK530.out 0).trans rfl
      have hcz9_1 : w5.cell? ⟨gb530, 1, none⟩ = some (.string a0_1) := (blk_cell BK530.out 1).trans rfl
      have hfz9_0 := blk_frozen BK530.out 0
      have hfz9_1 := blk_frozen BK530.out 1
      go_wp2_with (first | ((with_reducible refine gate_callee (f := 79) rfl ?_); refine goesL_ (some 8) rfl rfl Try.func79 (by kernel_rfl) rfl #[.agg #[.int .i64 a0_0, .string a0_1]] rfl (by (try simp only [List.map_toArray, List.map_cons, List.map_nil]); first | done | rfl | (simp only [List.length_drop, List.length_take]; rfl)) ?_; (with_reducible refine (impl_AreSigns.calls k a0_0 a0_1 true _ A6.out).mono ?_); rintro e w10 ⟨rfl, hb⟩; refine ⟨_, rfl, ?_⟩; have n0_ := Aside0.mk (blk_below (g := gb530) (o := .cells #[.int .i64 a0_0, .string a0_1] 51 (0, 0)) (by (with_reducible repeat (first | refine blk_drewN ?_ _ | refine blk_drew ?_ | refine blk_alloc ?_ _)); exact BK530.out) hb); have n1_ := Aside0.mk (below_step (by repeat (first | (with_reducible first | exact HB.out | apply below_alloc | apply pw_below_drewN | apply below_drew1 | refine below_set ?_ GE530.out) | exact HB.out)) hb); clear BK530; clear HB; have BK530 := n0_; have HB := n1_; clear n0_ n1_; (try clear hb); (try clear hb2); (try clear hk); (try clear hi); have hcz11_0 : w10.cell? ⟨gb530, 0, none⟩ = some (.int .i64 a0_0) := (blk_cell BK530.out 0).trans rfl; have hcz11_1 : w10.cell? ⟨gb530, 1, none⟩ = some (.string a0_1) := (blk_cell BK530.out 1).trans rfl; have hfz11_0 := blk_frozen BK530.out 0; have hfz11_1 := blk_frozen BK530.out 1) | ((with_reducible refine gate_dst (N := 15) rfl ?_); (try (refine gate_guard (by rfl) ?_; dsimp only)); refine Kd.R_lit (Kd.int .i64) _ 3 ?hg (N := 15) ?hd (xs := ([a1, a2] : List Int)) (inner := [.int .i64 a1, .int .i64 a2]) (ok := fun _ => True) (okp := fun _ => True) ?hr ?hp (fun _ hk => hk) trivial (Below.refl _ _) (Nat.le_refl _) (by simp) ?_; (case hd => rfl); (case hg => rfl); (case hr => first | (go_simp; done) | (go_simp; rfl)); (case hp => exact (Reps.one (show Kd.M (Kd.int .i64) _ _ _ a1 [.int .i64 a1] from rfl) (Reps.one (show Kd.M (Kd.int .i64) _ _ _ a2 [.int .i64 a2] from rfl) (Reps.none _ _)))); intro v533 w12 ho13 hb hg_ hnew_; clear hg_ hnew_; (first | rw [← Ny532.out] at ho13 | (simp only [Int.reduceToNat] at ho13; rw [← Ny532.out] at ho13)); have n0_ := Aside0.mk (Kd.R_lower ho13 (below_size (by repeat (first | (with_reducible first | exact HB.out | apply below_alloc | apply pw_below_drewN | apply below_drew1 | refine below_set ?_ GE530.out) | exact HB.out)))); have n1_ := Aside0.mk (blk_below (g := gb530) (o := .cells #[.int .i64 a0_0, .string a0_1] 51 (0, 0)) (by (with_reducible repeat (first | refine blk_drewN ?_ _ | refine blk_drew ?_ | refine blk_alloc ?_ _)); exact BK530.out) hb); have n2_ := Aside0.mk (below_step (by repeat (first | (with_reducible first | exact HB.out | apply below_alloc | apply pw_below_drewN | apply below_drew1 | refine below_set ?_ GE530.out) | exact HB.out)) hb); clear BK530; clear HB; have HO534 := n0_; have BK530 := n1_; have HB := n2_; clear n0_ n1_ n2_; clear hb ho13; obtain ⟨Ao14, co14, eo14⟩ := Kd.R_slice HO534.out; subst eo14) | (go_at_call 80; (with_reducible refine (impl_areDifferent.calls k a0_0 _ _ y532 t535 _ ?side1 ?side2 A8.out).mono ?_); (case side1 => repeat (first | exact (Kd.R_reads' HO534.out).2.2 | (with_reducible refine Kd.C_alloc ?_ _) | (with_reducible refine Kd.C_drewN ?_ _) | (with_reducible refine Kd.C_drew ?_))); (case side2 => exact (Kd.R_reads' HO534.out).2.1); rintro e w' ⟨rfl, ⟨nd, rfl⟩⟩))
      go_meet
      case rel => exact ⟨_, (!t535), (by first | rfl | (simp; done) | (simp [*]; done)), H', ⟨by first | omega | exact Nat.le_refl _⟩, ⟨by (with_reducible repeat (first | refine blk_drewN ?_ _ | refine blk_drew ?_ | refine blk_alloc ?_ _)); exact BK530.out⟩, ⟨by repeat (first | (with_reducible first | exact HB.out | apply below_alloc | apply pw_below_drewN | apply below_drew1 | refine below_set ?_ GE530.out) | exact HB.out)⟩⟩
    · replace c7 := Bool.eq_false_iff.mpr c7
      subst c7
      have H1 : (impl_PairText.j0 k a1 a2 true a0_0 a0_1) = some r := by rw [if_neg (show ¬ (false = true) by decide)] at H; exact H
      clear H
      have H := H1
      clear H1
      have H' := Aside0.mk H
      clear H
      have hcz15_0 : w5.cell? ⟨gb530, 0, none⟩ = some (.int .i64 a0_0) := (blk_cell BK530.out 0).trans rfl
      have hcz15_1 : w5.cell? ⟨gb530, 1, none⟩ = some (.string a0_1) := (blk_cell BK530.out 1).trans rfl
      have hfz15_0 := blk_frozen BK530.out 0
      have hfz15_1 := blk_frozen BK530.out 1
      go_wp2_with (first | ((with_reducible refine gate_callee (f := 79) rfl ?_); refine goesL_ (some 8) rfl rfl Try.func79 (by kernel_rfl) rfl #[.agg #[.int .i64 a0_0, .string a0_1]] rfl (by (try simp only [List.map_toArray, List.map_cons, List.map_nil]); first | done | rfl | (simp only [List.length_drop, List.length_take]; rfl)) ?_; (with_reducible refine (impl_AreSigns.calls k a0_0 a0_1 false _ A6.out).mono ?_); rintro e w16 ⟨rfl, hb⟩; refine ⟨_, rfl, ?_⟩; have n0_ := Aside0.mk (blk_below (g := gb530) (o := .cells #[.int .i64 a0_0, .string a0_1] 51 (0, 0)) (by (with_reducible repeat (first | refine blk_drewN ?_ _ | refine blk_drew ?_ | refine blk_alloc ?_ _)); exact BK530.out) hb); have n1_ := Aside0.mk (below_step (by repeat (first | (with_reducible first | exact HB.out | apply below_alloc | apply pw_below_drewN | apply below_drew1 | refine below_set ?_ GE530.out) | exact HB.out)) hb); clear BK530; clear HB; have BK530 := n0_; have HB := n1_; clear n0_ n1_; (try clear hb); (try clear hb2); (try clear hk); (try clear hi)))
      go_meet
      case rel => exact ⟨_, (true), (by first | rfl | (simp; done) | (simp [*]; done)), H', ⟨by first | omega | exact Nat.le_refl _⟩, ⟨by (with_reducible repeat (first | refine blk_drewN ?_ _ | refine blk_drew ?_ | refine blk_alloc ?_ _)); exact BK530.out⟩, ⟨by repeat (first | (with_reducible first | exact HB.out | apply below_alloc | apply pw_below_drewN | apply below_drew1 | refine below_set ?_ GE530.out) | exact HB.out)⟩⟩
  case rest =>
    clear HC4
    try clear p2
    try clear c4
    try clear c7
    try clear hcz11_0
    try clear hcz11_1
    try clear hcz15_0
    try clear hcz15_1
    try clear hcz9_0
    try clear hcz9_1
    try clear hfz11_0
    try clear hfz11_1
    try clear hfz15_0
    try clear hfz15_1
    try clear hfz9_0
    try clear hfz9_1
    obtain ⟨kq, x18_3, rfl, HA, HJ3, BK530, HB⟩ := hcut
    cases kq with
    | zero => exact absurd HA.out (by simp [impl_PairText.j0])
    | succ kj3 =>
      have H := HA.out
      clear HA
      simp only [impl_PairText.j0] at H
      by_cases c17 : x18_3 = true
      · subst c17
        have H1 : (some (⟨#[]⟩ : ByteArray)) = some r := by rw [if_pos rfl] at H; exact H
        clear H
        have H := H1
        clear H1
        obtain rfl := Option.some.inj H
        go_wp2
        go_ret
        exact ⟨by first | rfl | (simp [errW_none, errW_some] <;> rfl) | (simp [*, errW_none, errW_some] <;> rfl), by repeat (first | (with_reducible first | exact HB.out | apply below_alloc | apply pw_below_drewN | apply below_drew1 | refine below_set ?_ GE530.out) | exact HB.out)⟩
      · replace c17 := Bool.eq_false_iff.mpr c17
        subst c17
        have H1 : ((impl_tableOf.f kj3 a0_0 a0_1).bind fun t536 => ((impl_chi_pairText.f kj3 t536 a1 a2).bind fun t539 => (some t539))) = some r := by rw [if_neg (show ¬ (false = true) by decide)] at H; exact H
        clear H
        have H := H1
        clear H1
        replace H := Option.bind_eq_some_iff.mp H
        obtain ⟨t536, A180, H⟩ := H
        replace H : ((impl_chi_pairText.f kj3 t536 a1 a2).bind fun t539 => (some t539)) = some r := H
        have A18 := Aside0.mk A180
        clear A180
        replace H := Option.bind_eq_some_iff.mp H
        obtain ⟨t539, A190, H⟩ := H
        replace H : (some t539) = some r := H
        have A19 := Aside0.mk A190
        clear A190
        obtain rfl := Option.some.inj H
        have hcz20_0 : wc.cell? ⟨gb530, 0, none⟩ = some (.int .i64 a0_0) := (blk_cell BK530.out 0).trans rfl
        have hcz20_1 : wc.cell? ⟨gb530, 1, none⟩ = some (.string a0_1) := (blk_cell BK530.out 1).trans rfl
        have hfz20_0 := blk_frozen BK530.out 0
        have hfz20_1 := blk_frozen BK530.out 1
        go_wp2_with (first | ((with_reducible refine gate_callee (f := 81) rfl ?_); refine goesL_ (some 20) rfl rfl Try.func81 (by kernel_rfl) rfl #[.agg #[.int .i64 a0_0, .string a0_1]] rfl (by (try simp only [List.map_toArray, List.map_cons, List.map_nil]); first | done | rfl | (simp only [List.length_drop, List.length_take]; rfl)) ?_; (with_reducible refine (impl_tableOf.calls kj3 a0_0 a0_1 t536 _ A18.out).mono ?_); rintro e w21 ⟨v537, rfl, ho0, hb⟩; refine ⟨_, rfl, ?_⟩; have n0_ := Aside0.mk (Kd.R_lower ho0 (below_size (by repeat (first | (with_reducible first | exact HB.out | apply below_alloc | apply pw_below_drewN | apply below_drew1 | refine below_set ?_ GE530.out) | exact HB.out)))); have n1_ := Aside0.mk (blk_below (g := gb530) (o := .cells #[.int .i64 a0_0, .string a0_1] 51 (0, 0)) (by (with_reducible repeat (first | refine blk_drewN ?_ _ | refine blk_drew ?_ | refine blk_alloc ?_ _)); exact BK530.out) hb); have n2_ := Aside0.mk (below_step (by repeat (first | (with_reducible first | exact HB.out | apply below_alloc | apply pw_below_drewN | apply below_drew1 | refine below_set ?_ GE530.out) | exact HB.out)) hb); clear BK530; clear HB; have HO538 := n0_; have BK530 := n1_; have HB := n2_; clear n0_ n1_ n2_; (try clear hb); (try clear hb2); (try clear hk); (try clear hi); (try clear ho0); obtain ⟨Ao22, co22, eo22⟩ := Kd.R_slice HO538.out; subst eo22) | ((with_reducible refine gate_callee (f := 82) rfl ?_); refine goesL_ (some 23) rfl rfl Try.func82 (by kernel_rfl) rfl #[.pointer Ao22, .int .i64 a1, .int .i64 a2] rfl (by (try simp only [List.map_toArray, List.map_cons, List.map_nil]); first | done | rfl | (simp only [List.length_drop, List.length_take]; rfl)) ?_; (refine (impl_chi_pairText.calls kj3 _ co22 t536 a1 a2 t539 _ ?side1 ?side2 A19.out).mono ?_); (case side1 => repeat (first | exact (Kd.R_reads' HO538.out).2.2 | (with_reducible refine Kd.C_alloc ?_ _) | (with_reducible refine Kd.C_drewN ?_ _) | (with_reducible refine Kd.C_drew ?_))); (case side2 => exact (Kd.R_reads' HO538.out).2.1); rintro e w23 ⟨rfl, hb⟩; refine ⟨_, rfl, ?_⟩; have n0_ := Aside0.mk (Kd.R_below (by (with_reducible repeat (first | apply Kd.R_alloc | apply Kd.R_drewN | apply Kd.R_drew)); exact HO538.out) hb); have n1_ := Aside0.mk (blk_below (g := gb530) (o := .cells #[.int .i64 a0_0, .string a0_1] 51 (0, 0)) (by (with_reducible repeat (first | refine blk_drewN ?_ _ | refine blk_drew ?_ | refine blk_alloc ?_ _)); exact BK530.out) hb); have n2_ := Aside0.mk (below_step (by repeat (first | (with_reducible first | exact HB.out | apply below_alloc | apply pw_below_drewN | apply below_drew1 | refine below_set ?_ GE530.out) | exact HB.out)) hb); clear HO538; clear BK530; clear HB; have HO538 := n0_; have BK530 := n1_; have HB := n2_; clear n0_ n1_ n2_; (try clear hb); (try clear hb2); (try clear hk); (try clear hi)))
        go_ret
        exact ⟨by first | rfl | (simp [errW_none, errW_some] <;> rfl) | (simp [*, errW_none, errW_some] <;> rfl), by repeat (first | (with_reducible first | exact HB.out | apply below_alloc | apply pw_below_drewN | apply below_drew1 | refine below_set ?_ GE530.out) | exact HB.out)⟩

end Go.Proofs.Ytcojmladlkealaa.P

namespace Go.Proofs.Ytcojmladlkealaa.P
open Go.RowKit Go.Proofs.YtcojmladlkealaaW.PrintWords Go.Proofs.YtcojmladlkealaaW.PrintLast Go.Proofs.YtcojmladlkealaaW.PrintMore
attribute [local go_sem] ptrOf_slice
attribute [local go_sem] max2_int min2_int max_two min_two max_three min_three max_four min_four   -- for this text's walks alone
set_option linter.unusedVariables false
set_option linter.unusedSimpArgs false

/-! ### laws_FnExactPairText: function 10 -/
def laws_FnExactPairText.f (k : Nat) (a0_0 : Int) (a0_1 : ByteArray) (a1 : Int) (a2 : Int) : Option (Bool) := (laws_szSigns.f a0_0 a0_1 1048576).bind fun t541 => (if t541 < 0 then (some true) else ((laws_toSigns.f a0_0 a0_1).bind fun bt542 => ((spec_PairText.f k bt542.1 bt542.2 a1 a2).bind fun t544 => ((laws_toSigns.f a0_0 a0_1).bind fun bt545 => ((impl_PairText.f k bt545.1 bt545.2 a1 a2).bind fun t547 => (if t547.toList = t544.toList then (some true) else (some false)))))))
theorem laws_FnExactPairText.mono : ∀ a0 a1 a2 a3 k, LeO (laws_FnExactPairText.f k a0 a1 a2 a3) (laws_FnExactPairText.f (k + 1) a0 a1 a2 a3) := by
  intro a0 a1 a2 a3 k
  unfold laws_FnExactPairText.f
  repeat' first
      | (with_reducible exact impl_PairText.mono _ _ _ _ _)
      | (with_reducible exact spec_PairText.mono _ _ _ _ _)
      | (with_reducible exact LeO.refl _)
      | (with_reducible exact LeO.none _)
      | (with_reducible refine LeO.ite ?_ ?_)
      | (with_reducible refine LeO.bind ?_ (fun _ => ?_))
      | exact impl_PairText.mono _ _ _ _ _
      | exact spec_PairText.mono _ _ _ _ _
      | exact LeO.none _
      | refine LeO.ite ?_ ?_
      | refine LeO.bind ?_ (fun _ => ?_)
set_option maxHeartbeats 8000000 in
set_option maxRecDepth 100000 in
theorem laws_FnExactPairText.calls (k : Nat) (a0_0 : Int) (a0_1 : ByteArray) (a1 : Int) (a2 : Int) (r : Bool) (w : World) (h : laws_FnExactPairText.f k a0_0 a0_1 a1 a2 = some r) :
    Calls Try.prog 10 #[.agg #[.int .i64 a0_0, .string a0_1], .int .i64 a1, .int .i64 a2] w fun e w' => e = .returned (.bool r) ∧ Below w.heap.size w w' := by
  have hu48 := Try.underlying48
  have HB := Aside0.mk (Below.refl w.heap.size w)
  have H : ((laws_szSigns.f a0_0 a0_1 1048576).bind fun t541 => (if t541 < 0 then (some true) else ((laws_toSigns.f a0_0 a0_1).bind fun bt542 => ((spec_PairText.f k bt542.1 bt542.2 a1 a2).bind fun t544 => ((laws_toSigns.f a0_0 a0_1).bind fun bt545 => ((impl_PairText.f k bt545.1 bt545.2 a1 a2).bind fun t547 => (if t547.toList = t544.toList then (some true) else (some false)))))))) = some r := h
  clear h
  replace H := Option.bind_eq_some_iff.mp H
  obtain ⟨t541, A40, H⟩ := H
  replace H : (if t541 < 0 then (some true) else ((laws_toSigns.f a0_0 a0_1).bind fun bt542 => ((spec_PairText.f k bt542.1 bt542.2 a1 a2).bind fun t544 => ((laws_toSigns.f a0_0 a0_1).bind fun bt545 => ((impl_PairText.f k bt545.1 bt545.2 a1 a2).bind fun t547 => (if t547.toList = t544.toList then (some true) else (some false))))))) = some r := H
  have A4 := Aside0.mk A40
  clear A40
  by_cases c5 : t541 < 0
  · rw [if_pos c5] at H
    have c5b0 : decide (t541 < 0) = true := decide_eq_true c5
    clear c5
    obtain rfl := Option.some.inj H
    go_enter Try.func10, Try.ntmps10
    go_wp2_with (first | ((with_reducible refine gate_dst (N := 3) rfl ?_); refine box_event ?hg (N := 3) ?hd (cs := #[.int .i64 a0_0, .string a0_1]) (t := 48) ?hr ?_; (case hd => rfl); (case hg => rfl); (case hr => first | (go_simp; done) | (go_simp; rfl)); intro gb540 hg w6 hbox hb; have n0_ := Aside0.mk (below_step (by repeat (first | (with_reducible first | exact HB.out | apply below_alloc | apply pw_below_drewN | apply below_drew1) | exact HB.out)) hb); have n1_ := Aside0.mk (hbox); have n2_ := Aside0.mk ((by rw [hg]; exact (below_size (by repeat (first | (with_reducible first | exact HB.out | apply below_alloc | apply pw_below_drewN | apply below_drew1) | exact HB.out))) : w.heap.size ≤ gb540)); have n3_ := Aside0.mk ((by rw [hg]; exact (below_size (by repeat (first | (with_reducible first | exact HB.out | apply below_alloc | apply pw_below_drewN | apply below_drew1) | exact HB.out))) : w.heap.size ≤ gb540)); clear HB; have HB := n0_; have BK540 := n1_; have GW540 := n2_; have GE540 := n3_; clear n0_ n1_ n2_ n3_; clear hb hbox hg; have hcz7_0 : w6.cell? ⟨gb540, 0, none⟩ = some (.int .i64 a0_0) := (blk_cell BK540.out 0).trans rfl; have hcz7_1 : w6.cell? ⟨gb540, 1, none⟩ = some (.string a0_1) := (blk_cell BK540.out 1).trans rfl; have hfz7_0 := blk_frozen BK540.out 0; have hfz7_1 := blk_frozen BK540.out 1) | ((with_reducible refine gate_callee (f := 37) rfl ?_); refine goesL_ (some 12) rfl rfl Try.func37 (by kernel_rfl) rfl #[.agg #[.int .i64 a0_0, .string a0_1], .int .i64 1048576] rfl (by (try simp only [List.map_toArray, List.map_cons, List.map_nil]); first | done | rfl | (simp only [List.length_drop, List.length_take]; rfl)) ?_; (with_reducible refine (laws_szSigns.calls a0_0 a0_1 1048576 t541 _ A4.out).mono ?_); rintro e w8 ⟨rfl, hb⟩; refine ⟨_, rfl, ?_⟩; have n0_ := Aside0.mk (blk_below (g := gb540) (o := .cells #[.int .i64 a0_0, .string a0_1] 48 (0, 0)) (by (with_reducible repeat (first | refine blk_drewN ?_ _ | refine blk_drew ?_ | refine blk_alloc ?_ _)); exact BK540.out) hb); have n1_ := Aside0.mk (below_step (by repeat (first | (with_reducible first | exact HB.out | apply below_alloc | apply pw_below_drewN | apply below_drew1 | refine below_set ?_ GE540.out) | exact HB.out)) hb); clear BK540; clear HB; have BK540 := n0_; have HB := n1_; clear n0_ n1_; (try clear hb); (try clear hb2); (try clear hk); (try clear hi)))
    go_ret
    exact ⟨by first | rfl | (simp [errW_none, errW_some] <;> rfl) | (simp [*, errW_none, errW_some] <;> rfl), by repeat (first | (with_reducible first | exact HB.out | apply below_alloc | apply pw_below_drewN | apply below_drew1 | refine below_set ?_ GE540.out) | exact HB.out)⟩
  · rw [if_neg c5] at H
    have c5b0 : decide (t541 < 0) = false := decide_eq_false c5
    clear c5
    replace H := Option.bind_eq_some_iff.mp H
    obtain ⟨⟨t542, t543⟩, A90, H⟩ := H
    replace H : ((spec_PairText.f k t542 t543 a1 a2).bind fun t544 => ((laws_toSigns.f a0_0 a0_1).bind fun bt545 => ((impl_PairText.f k bt545.1 bt545.2 a1 a2).bind fun t547 => (if t547.toList = t544.toList then (some true) else (some false))))) = some r := H
    have A9 := Aside0.mk A90
    clear A90
    replace H := Option.bind_eq_some_iff.mp H
    obtain ⟨t544, A100, H⟩ := H
    replace H : ((laws_toSigns.f a0_0 a0_1).bind fun bt545 => ((impl_PairText.f k bt545.1 bt545.2 a1 a2).bind fun t547 => (if t547.toList = t544.toList then (some true) else (some false)))) = some r := H
    have A10 := Aside0.mk A100
    clear A100
    replace H := Option.bind_eq_some_iff.mp H
    obtain ⟨⟨t545, t546⟩, A110, H⟩ := H
    replace H : ((impl_PairText.f k t545 t546 a1 a2).bind fun t547 => (if t547.toList = t544.toList then (some true) else (some false))) = some r := H
    have A11 := Aside0.mk A110
    clear A110
    replace H := Option.bind_eq_some_iff.mp H
    obtain ⟨t547, A120, H⟩ := H
    replace H : (if t547.toList = t544.toList then (some true) else (some false)) = some r := H
    have A12 := Aside0.mk A120
    clear A120
    by_cases c13 : t547.toList = t544.toList
    · rw [if_pos c13] at H
      have c13b0 : (t547.toList == t544.toList) = true := beq_iff_eq.mpr c13
      have c13b1 : (t547.toList != t544.toList) = false := bne_eq_false_iff_eq.mpr c13
      clear c13
      obtain rfl := Option.some.inj H
      go_enter Try.func10, Try.ntmps10
      go_wp2_with (first | ((with_reducible refine gate_dst (N := 3) rfl ?_); refine box_event ?hg (N := 3) ?hd (cs := #[.int .i64 a0_0, .string a0_1]) (t := 48) ?hr ?_; (case hd => rfl); (case hg => rfl); (case hr => first | (go_simp; done) | (go_simp; rfl)); intro gb540 hg w14 hbox hb; have n0_ := Aside0.mk (below_step (by repeat (first | (with_reducible first | exact HB.out | apply below_alloc | apply pw_below_drewN | apply below_drew1) | exact HB.out)) hb); have n1_ := Aside0.mk (hbox); have n2_ := Aside0.mk ((by rw [hg]; exact (below_size (by repeat (first | (with_reducible first | exact HB.out | apply below_alloc | apply pw_below_drewN | apply below_drew1) | exact HB.out))) : w.heap.size ≤ gb540)); have n3_ := Aside0.mk ((by rw [hg]; exact (below_size (by repeat (first | (with_reducible first | exact HB.out | apply below_alloc | apply pw_below_drewN | apply below_drew1) | exact HB.out))) : w.heap.size ≤ gb540)); clear HB; have HB := n0_; have BK540 := n1_; have GW540 := n2_; have GE540 := n3_; clear n0_ n1_ n2_ n3_; clear hb hbox hg; have hcz15_0 : w14.cell? ⟨gb540, 0, none⟩ = some (.int .i64 a0_0) := (blk_cell BK540.out 0).trans rfl; have hcz15_1 : w14.cell? ⟨gb540, 1, none⟩ = some (.string a0_1) := (blk_cell BK540.out 1).trans rfl; have hfz15_0 := blk_frozen BK540.out 0; have hfz15_1 := blk_frozen BK540.out 1) | ((with_reducible refine gate_callee (f := 37) rfl ?_); refine goesL_ (some 12) rfl rfl Try.func37 (by kernel_rfl) rfl #[.agg #[.int .i64 a0_0, .string a0_1], .int .i64 1048576] rfl (by (try simp only [List.map_toArray, List.map_cons, List.map_nil]); first | done | rfl | (simp only [List.length_drop, List.length_take]; rfl)) ?_; (with_reducible refine (laws_szSigns.calls a0_0 a0_1 1048576 t541 _ A4.out).mono ?_); rintro e w16 ⟨rfl, hb⟩; refine ⟨_, rfl, ?_⟩; have n0_ := Aside0.mk (blk_below (g := gb540) (o := .cells #[.int .i64 a0_0, .string a0_1] 48 (0, 0)) (by (with_reducible repeat (first | refine blk_drewN ?_ _ | refine blk_drew ?_ | refine blk_alloc ?_ _)); exact BK540.out) hb); have n1_ := Aside0.mk (below_step (by repeat (first | (with_reducible first | exact HB.out | apply below_alloc | apply pw_below_drewN | apply below_drew1 | refine below_set ?_ GE540.out) | exact HB.out)) hb); clear BK540; clear HB; have BK540 := n0_; have HB := n1_; clear n0_ n1_; (try clear hb); (try clear hb2); (try clear hk); (try clear hi); have hcz17_0 : w16.cell? ⟨gb540, 0, none⟩ = some (.int .i64 a0_0) := (blk_cell BK540.out 0).trans rfl; have hcz17_1 : w16.cell? ⟨gb540, 1, none⟩ = some (.string a0_1) := (blk_cell BK540.out 1).trans rfl; have hfz17_0 := blk_frozen BK540.out 0; have hfz17_1 := blk_frozen BK540.out 1) | ((with_reducible refine gate_callee (f := 39) rfl ?_); refine goesL_ (some 16) rfl rfl Try.func39 (by kernel_rfl) rfl #[.agg #[.int .i64 a0_0, .string a0_1]] rfl (by (try simp only [List.map_toArray, List.map_cons, List.map_nil]); first | done | rfl | (simp only [List.length_drop, List.length_take]; rfl)) ?_; (with_reducible refine (laws_toSigns.calls a0_0 a0_1 t542 t543 _ A9.out).mono ?_); rintro e w18 ⟨rfl, hb⟩; refine ⟨_, rfl, ?_⟩; have n0_ := Aside0.mk (blk_below (g := gb540) (o := .cells #[.int .i64 a0_0, .string a0_1] 48 (0, 0)) (by (with_reducible repeat (first | refine blk_drewN ?_ _ | refine blk_drew ?_ | refine blk_alloc ?_ _)); exact BK540.out) hb); have n1_ := Aside0.mk (below_step (by repeat (first | (with_reducible first | exact HB.out | apply below_alloc | apply pw_below_drewN | apply below_drew1 | refine below_set ?_ GE540.out) | exact HB.out)) hb); clear BK540; clear HB; have BK540 := n0_; have HB := n1_; clear n0_ n1_; (try clear hb); (try clear hb2); (try clear hk); (try clear hi)) | ((with_reducible refine gate_callee (f := 38) rfl ?_); refine goesL_ (some 19) rfl rfl Try.func38 (by kernel_rfl) rfl #[.agg #[.int .i64 t542, .string t543], .int .i64 a1, .int .i64 a2] rfl (by (try simp only [List.map_toArray, List.map_cons, List.map_nil]); first | done | rfl | (simp only [List.length_drop, List.length_take]; rfl)) ?_; (with_reducible refine (spec_PairText.calls k t542 t543 a1 a2 t544 _ A10.out).mono ?_); rintro e w19 ⟨rfl, hb⟩; refine ⟨_, rfl, ?_⟩; have n0_ := Aside0.mk (blk_below (g := gb540) (o := .cells #[.int .i64 a0_0, .string a0_1] 48 (0, 0)) (by (with_reducible repeat (first | refine blk_drewN ?_ _ | refine blk_drew ?_ | refine blk_alloc ?_ _)); exact BK540.out) hb); have n1_ := Aside0.mk (below_step (by repeat (first | (with_reducible first | exact HB.out | apply below_alloc | apply pw_below_drewN | apply below_drew1 | refine below_set ?_ GE540.out) | exact HB.out)) hb); clear BK540; clear HB; have BK540 := n0_; have HB := n1_; clear n0_ n1_; (try clear hb); (try clear hb2); (try clear hk); (try clear hi); have hcz20_0 : w19.cell? ⟨gb540, 0, none⟩ = some (.int .i64 a0_0) := (blk_cell BK540.out 0).trans rfl; have hcz20_1 : w19.cell? ⟨gb540, 1, none⟩ = some (.string a0_1) := (blk_cell BK540.out 1).trans rfl; have hfz20_0 := blk_frozen BK540.out 0; have hfz20_1 := blk_frozen BK540.out 1) | ((with_reducible refine gate_callee (f := 39) rfl ?_); refine goesL_ (some 21) rfl rfl Try.func39 (by kernel_rfl) rfl #[.agg #[.int .i64 a0_0, .string a0_1]] rfl (by (try simp only [List.map_toArray, List.map_cons, List.map_nil]); first | done | rfl | (simp only [List.length_drop, List.length_take]; rfl)) ?_; (with_reducible refine (laws_toSigns.calls a0_0 a0_1 t545 t546 _ A11.out).mono ?_); rintro e w21 ⟨rfl, hb⟩; refine ⟨_, rfl, ?_⟩; have n0_ := Aside0.mk (blk_below (g := gb540) (o := .cells #[.int .i64 a0_0, .string a0_1] 48 (0, 0)) (by (with_reducible repeat (first | refine blk_drewN ?_ _ | refine blk_drew ?_ | refine blk_alloc ?_ _)); exact BK540.out) hb); have n1_ := Aside0.mk (below_step (by repeat (first | (with_reducible first | exact HB.out | apply below_alloc | apply pw_below_drewN | apply below_drew1 | refine below_set ?_ GE540.out) | exact HB.out)) hb); clear BK540; clear HB; have BK540 := n0_; have HB := n1_; clear n0_ n1_; (try clear hb); (try clear hb2); (try clear hk); (try clear hi)) | ((with_reducible refine gate_callee (f := 40) rfl ?_); refine goesL_ (some 24) rfl rfl Try.func40 (by kernel_rfl) rfl #[.agg #[.int .i64 t545, .string t546], .int .i64 a1, .int .i64 a2] rfl (by (try simp only [List.map_toArray, List.map_cons, List.map_nil]); first | done | rfl | (simp only [List.length_drop, List.length_take]; rfl)) ?_; (with_reducible refine (impl_PairText.calls k t545 t546 a1 a2 t547 _ A12.out).mono ?_); rintro e w22 ⟨rfl, hb⟩; refine ⟨_, rfl, ?_⟩; have n0_ := Aside0.mk (blk_below (g := gb540) (o := .cells #[.int .i64 a0_0, .string a0_1] 48 (0, 0)) (by (with_reducible repeat (first | refine blk_drewN ?_ _ | refine blk_drew ?_ | refine blk_alloc ?_ _)); exact BK540.out) hb); have n1_ := Aside0.mk (below_step (by repeat (first | (with_reducible first | exact HB.out | apply below_alloc | apply pw_below_drewN | apply below_drew1 | refine below_set ?_ GE540.out) | exact HB.out)) hb); clear BK540; clear HB; have BK540 := n0_; have HB := n1_; clear n0_ n1_; (try clear hb); (try clear hb2); (try clear hk); (try clear hi)))
      go_ret
      exact ⟨by first | rfl | (simp [errW_none, errW_some] <;> rfl) | (simp [*, errW_none, errW_some] <;> rfl), by repeat (first | (with_reducible first | exact HB.out | apply below_alloc | apply pw_below_drewN | apply below_drew1 | refine below_set ?_ GE540.out) | exact HB.out)⟩
    · rw [if_neg c13] at H
      have c13b0 : (t547.toList == t544.toList) = false := beq_eq_false_iff_ne.mpr c13
      have c13b1 : (t547.toList != t544.toList) = true := bne_iff_ne.mpr c13
      obtain rfl := Option.some.inj H
      go_enter Try.func10, Try.ntmps10
      go_wp2_with (first | ((with_reducible refine gate_dst (N := 3) rfl ?_); refine box_event ?hg (N := 3) ?hd (cs := #[.int .i64 a0_0, .string a0_1]) (t := 48) ?hr ?_; (case hd => rfl); (case hg => rfl); (case hr => first | (go_simp; done) | (go_simp; rfl)); intro gb540 hg w23 hbox hb; have n0_ := Aside0.mk (below_step (by repeat (first | (with_reducible first | exact HB.out | apply below_alloc | apply pw_below_drewN | apply below_drew1) | exact HB.out)) hb); have n1_ := Aside0.mk (hbox); have n2_ := Aside0.mk ((by rw [hg]; exact (below_size (by repeat (first | (with_reducible first | exact HB.out | apply below_alloc | apply pw_below_drewN | apply below_drew1) | exact HB.out))) : w.heap.size ≤ gb540)); have n3_ := Aside0.mk ((by rw [hg]; exact (below_size (by repeat (first | (with_reducible first | exact HB.out | apply below_alloc | apply pw_below_drewN | apply below_drew1) | exact HB.out))) : w.heap.size ≤ gb540)); clear HB; have HB := n0_; have BK540 := n1_; have GW540 := n2_; have GE540 := n3_; clear n0_ n1_ n2_ n3_; clear hb hbox hg; have hcz24_0 : w23.cell? ⟨gb540, 0, none⟩ = some (.int .i64 a0_0) := (blk_cell BK540.out 0).trans rfl; have hcz24_1 : w23.cell? ⟨gb540, 1, none⟩ = some (.string a0_1) := (blk_cell BK540.out 1).trans rfl; have hfz24_0 := blk_frozen BK540.out 0; have hfz24_1 := blk_frozen BK540.out 1) | ((with_reducible refine gate_callee (f := 37) rfl ?_); refine goesL_ (some 12) rfl rfl Try.func37 (by kernel_rfl) rfl #[.agg #[.int .i64 a0_0, .string a0_1], .int .i64 1048576] rfl (by (try simp only [List.map_toArray, List.map_cons, List.map_nil]); first | done | rfl | (simp only [List.length_drop, List.length_take]; rfl)) ?_; (with_reducible refine (laws_szSigns.calls a0_0 a0_1 1048576 t541 _ A4.out).mono ?_); rintro e w25 ⟨rfl, hb⟩; refine ⟨_, rfl, ?_⟩; have n0_ := Aside0.mk (blk_below (g := gb540) (o := .cells #[.int .i64 a0_0, .string a0_1] 48 (0, 0)) (by (with_reducible repeat (first | refine blk_drewN ?_ _ | refine blk_drew ?_ | refine blk_alloc ?_ _)); exact BK540.out) hb); have n1_ := Aside0.mk (below_step (by repeat (first | (with_reducible first | exact HB.out | apply below_alloc | apply pw_below_drewN | apply below_drew1 | refine below_set ?_ GE540.out) | exact HB.out)) hb); clear BK540; clear HB; have BK540 := n0_; have HB := n1_; clear n0_ n1_; (try clear hb); (try clear hb2); (try clear hk); (try clear hi); have hcz26_0 : w25.cell? ⟨gb540, 0, none⟩ = some (.int .i64 a0_0) := (blk_cell BK540.out 0).trans rfl; have hcz26_1 : w25.cell? ⟨gb540, 1, none⟩ = some (.string a0_1) := (blk_cell BK540.out 1).trans rfl; have hfz26_0 := blk_frozen BK540.out 0; have hfz26_1 := blk_frozen BK540.out 1) | ((with_reducible refine gate_callee (f := 39) rfl ?_); refine goesL_ (some 16) rfl rfl Try.func39 (by kernel_rfl) rfl #[.agg #[.int .i64 a0_0, .string a0_1]] rfl (by (try simp only [List.map_toArray, List.map_cons, List.map_nil]); first | done | rfl | (simp only [List.length_drop, List.length_take]; rfl)) ?_; (with_reducible refine (laws_toSigns.calls a0_0 a0_1 t542 t543 _ A9.out).mono ?_); rintro e w27 ⟨rfl, hb⟩; refine ⟨_, rfl, ?_⟩; have n0_ := Aside0.mk (blk_below (g := gb540) (o := .cells #[.int .i64 a0_0, .string a0_1] 48 (0, 0)) (by (with_reducible repeat (first | refine blk_drewN ?_ _ | refine blk_drew ?_ | refine blk_alloc ?_ _)); exact BK540.out) hb); have n1_ := Aside0.mk (below_step (by repeat (first | (with_reducible first | exact HB.out | apply below_alloc | apply pw_below_drewN | apply below_drew1 | refine below_set ?_ GE540.out) | exact HB.out)) hb); clear BK540; clear HB; have BK540 := n0_; have HB := n1_; clear n0_ n1_; (try clear hb); (try clear hb2); (try clear hk); (try clear hi)) | ((with_reducible refine gate_callee (f := 38) rfl ?_); refine goesL_ (some 19) rfl rfl Try.func38 (by kernel_rfl) rfl #[.agg #[.int .i64 t542, .string t543], .int .i64 a1, .int .i64 a2] rfl (by (try simp only [List.map_toArray, List.map_cons, List.map_nil]); first | done | rfl | (simp only [List.length_drop, List.length_take]; rfl)) ?_; (with_reducible refine (spec_PairText.calls k t542 t543 a1 a2 t544 _ A10.out).mono ?_); rintro e w28 ⟨rfl, hb⟩; refine ⟨_, rfl, ?_⟩; have n0_ := Aside0.mk (blk_below (g := gb540) (o := .cells #[.int .i64 a0_0, .string a0_1] 48 (0, 0)) (by (with_reducible repeat (first | refine blk_drewN ?_ _ | refine blk_drew ?_ | refine blk_alloc ?_ _)); exact BK540.out) hb); have n1_ := Aside0.mk (below_step (by repeat (first | (with_reducible first | exact HB.out | apply below_alloc | apply pw_below_drewN | apply below_drew1 | refine below_set ?_ GE540.out) | exact HB.out)) hb); clear BK540; clear HB; have BK540 := n0_; have HB := n1_; clear n0_ n1_; (try clear hb); (try clear hb2); (try clear hk); (try clear hi); have hcz29_0 : w28.cell? ⟨gb540, 0, none⟩ = some (.int .i64 a0_0) := (blk_cell BK540.out 0).trans rfl; have hcz29_1 : w28.cell? ⟨gb540, 1, none⟩ = some (.string a0_1) := (blk_cell BK540.out 1).trans rfl; have hfz29_0 := blk_frozen BK540.out 0; have hfz29_1 := blk_frozen BK540.out 1) | ((with_reducible refine gate_callee (f := 39) rfl ?_); refine goesL_ (some 21) rfl rfl Try.func39 (by kernel_rfl) rfl #[.agg #[.int .i64 a0_0, .string a0_1]] rfl (by (try simp only [List.map_toArray, List.map_cons, List.map_nil]); first | done | rfl | (simp only [List.length_drop, List.length_take]; rfl)) ?_; (with_reducible refine (laws_toSigns.calls a0_0 a0_1 t545 t546 _ A11.out).mono ?_); rintro e w30 ⟨rfl, hb⟩; refine ⟨_, rfl, ?_⟩; have n0_ := Aside0.mk (blk_below (g := gb540) (o := .cells #[.int .i64 a0_0, .string a0_1] 48 (0, 0)) (by (with_reducible repeat (first | refine blk_drewN ?_ _ | refine blk_drew ?_ | refine blk_alloc ?_ _)); exact BK540.out) hb); have n1_ := Aside0.mk (below_step (by repeat (first | (with_reducible first | exact HB.out | apply below_alloc | apply pw_below_drewN | apply below_drew1 | refine below_set ?_ GE540.out) | exact HB.out)) hb); clear BK540; clear HB; have BK540 := n0_; have HB := n1_; clear n0_ n1_; (try clear hb); (try clear hb2); (try clear hk); (try clear hi)) | ((with_reducible refine gate_callee (f := 40) rfl ?_); refine goesL_ (some 24) rfl rfl Try.func40 (by kernel_rfl) rfl #[.agg #[.int .i64 t545, .string t546], .int .i64 a1, .int .i64 a2] rfl (by (try simp only [List.map_toArray, List.map_cons, List.map_nil]); first | done | rfl | (simp only [List.length_drop, List.length_take]; rfl)) ?_; (with_reducible refine (impl_PairText.calls k t545 t546 a1 a2 t547 _ A12.out).mono ?_); rintro e w31 ⟨rfl, hb⟩; refine ⟨_, rfl, ?_⟩; have n0_ := Aside0.mk (blk_below (g := gb540) (o := .cells #[.int .i64 a0_0, .string a0_1] 48 (0, 0)) (by (with_reducible repeat (first | refine blk_drewN ?_ _ | refine blk_drew ?_ | refine blk_alloc ?_ _)); exact BK540.out) hb); have n1_ := Aside0.mk (below_step (by repeat (first | (with_reducible first | exact HB.out | apply below_alloc | apply pw_below_drewN | apply below_drew1 | refine below_set ?_ GE540.out) | exact HB.out)) hb); clear BK540; clear HB; have BK540 := n0_; have HB := n1_; clear n0_ n1_; (try clear hb); (try clear hb2); (try clear hk); (try clear hi)))
      go_ret
      exact ⟨by first | rfl | (simp [errW_none, errW_some] <;> rfl) | (simp [*, errW_none, errW_some] <;> rfl), by repeat (first | (with_reducible first | exact HB.out | apply below_alloc | apply pw_below_drewN | apply below_drew1 | refine below_set ?_ GE540.out) | exact HB.out)⟩

end Go.Proofs.Ytcojmladlkealaa.P

namespace Go.Proofs.Ytcojmladlkealaa.Pl
set_option linter.unusedSimpArgs false
set_option linter.unusedVariables false
open Go.RowKit Go.Proofs.YtcojmladlkealaaW.PrintWords
theorem wrap_in {n : Int} (h0 : -9223372036854775808 ≤ n) (h1 : n ≤ 9223372036854775807) : wrap64 n = n := by
  unfold wrap64
  omega
theorem wrap_nat (i : Nat) (h : i < 9223372036854775807) : wrap64 ((i : Int) + 1) = ((i + 1 : Nat) : Int) := by
  unfold wrap64
  omega
theorem Ev.uniq {α : Type} {g : Nat → Option α} {a b : α} (h : Ev g a) (k : Ev g b) : a = b := by
  obtain ⟨K, h⟩ := h
  obtain ⟨L, k⟩ := k
  have h1 := h (max K L) (by omega)
  have h2 := k (max K L) (by omega)
  rw [h1] at h2
  exact Option.some.inj h2
theorem Ev.const {α : Type} {x : Option α} {r : α} (h : x = some r) : Ev (fun _ => x) r := ⟨0, fun _ _ => h⟩
theorem Ev.ite_pos {α : Type} {c : Prop} [Decidable c] {g f : Nat → Option α} {r : α} (h : c) (k : Ev g r) : Ev (fun n => if c then g n else f n) r := by
  simpa only [if_pos h] using k
theorem Ev.ite_neg {α : Type} {c : Prop} [Decidable c] {g f : Nat → Option α} {r : α} (h : ¬ c) (k : Ev f r) : Ev (fun n => if c then g n else f n) r := by
  simpa only [if_neg h] using k
/-- A step that calls what has no rounds. -/
theorem Ev.bind0 {α β : Type} {x : Option α} {f : Nat → α → Option β} {a : α} {r : β} (h : x = some a) (k : Ev (fun n => f n a) r) : Ev (fun n => x.bind (f n)) r := by
  subst h
  exact k
/-- A loop over a row of states. -/
theorem Ev.loop {ρ : Type} (g : Nat → Nat → Option ρ) (n : Nat) (r : ρ) (hend : Ev (g n) r) (hstep : ∀ i, i < n → Ev (g (i + 1)) r → Ev (g i) r) : ∀ i, i ≤ n → Ev (g i) r := by
  have key : ∀ d i, i + d = n → Ev (g i) r := by
    intro d
    induction d with
    | zero => intro i hi; obtain rfl : i = n := by omega
              exact hend
    | succ d ih => intro i hi; exact hstep i (by omega) (ih (i + 1) (by omega))
  intro i hi
  exact key (n - i) i (by omega)
/-- The same, where what is answered turns with the state. -/
theorem Ev.loop_to {ρ : Type} (g : Nat → Nat → Option ρ) (n : Nat) (R : Nat → ρ) (hend : Ev (g n) (R n)) (hstep : ∀ i, i < n → Ev (g (i + 1)) (R (i + 1)) → Ev (g i) (R i)) : ∀ i, i ≤ n → Ev (g i) (R i) := by
  have key : ∀ d i, i + d = n → Ev (g i) (R i) := by
    intro d
    induction d with
    | zero => intro i hi; obtain rfl : i = n := by omega
              exact hend
    | succ d ih => intro i hi; exact hstep i (by omega) (ih (i + 1) (by omega))
  intro i hi
  exact key (n - i) i (by omega)
/-- Two loops side by side: they come to one answer. -/
theorem Ev.loop2 {ρ : Type} (g f : Nat → Nat → Option ρ) (n : Nat) (hend : ∃ r, Ev (g n) r ∧ Ev (f n) r) (hstep : ∀ i, i < n → (∃ r, Ev (g (i + 1)) r ∧ Ev (f (i + 1)) r) → ∃ r, Ev (g i) r ∧ Ev (f i) r) : ∀ i, i ≤ n → ∃ r, Ev (g i) r ∧ Ev (f i) r := by
  have key : ∀ d i, i + d = n → ∃ r, Ev (g i) r ∧ Ev (f i) r := by
    intro d
    induction d with
    | zero => intro i hi; obtain rfl : i = n := by omega
              exact hend
    | succ d ih => intro i hi; exact hstep i (by omega) (ih (i + 1) (by omega))
  intro i hi
  exact key (n - i) i (by omega)
theorem getD_lt {α : Type} (l : List α) (d : α) (i : Nat) (h : i < l.length) : l.getD i d = l[i] := by
  rw [List.getD_eq_getElem?_getD, List.getElem?_eq_getElem h]
  rfl
/-- Filling a row from its head: one element more. -/
theorem fill_set {α : Type} (l : List α) (z : α) (n i : Nat) (hl : l.length = n) (hi : i < n) : (l.take i ++ List.replicate (n - i) z).set i (l[i]'(by omega)) = l.take (i + 1) ++ List.replicate (n - (i + 1)) z := by
  rw [List.set_append_right _ _ (by rw [List.length_take]; omega)]
  have h1 : i - (l.take i).length = 0 := by rw [List.length_take]; omega
  rw [h1, show n - i = (n - (i + 1)) + 1 by omega, List.replicate_succ, List.set_cons_zero, List.take_succ_eq_append_getElem (by omega), List.append_assoc]
  rfl
end Go.Proofs.Ytcojmladlkealaa.Pl

namespace Go.Proofs.Ytcojmladlkealaa.Pure
set_option linter.unusedSimpArgs false
set_option linter.unusedVariables false
open Go.RowKit Go.Proofs.YtcojmladlkealaaW.PrintWords Go.Proofs.Ytcojmladlkealaa.P Go.Proofs.Ytcojmladlkealaa.Pl
abbrev T3 := S124
/-- The ascending triples of n elements, in order. -/
def tri : Nat → List T3
  | 3 => [⟨0, 1, 2⟩]
  | 4 => [⟨0, 1, 2⟩, ⟨0, 1, 3⟩, ⟨0, 2, 3⟩, ⟨1, 2, 3⟩]
  | 5 => [⟨0, 1, 2⟩, ⟨0, 1, 3⟩, ⟨0, 1, 4⟩, ⟨0, 2, 3⟩, ⟨0, 2, 4⟩, ⟨0, 3, 4⟩, ⟨1, 2, 3⟩, ⟨1, 2, 4⟩, ⟨1, 3, 4⟩, ⟨2, 3, 4⟩]
  | 6 => [⟨0, 1, 2⟩, ⟨0, 1, 3⟩, ⟨0, 1, 4⟩, ⟨0, 1, 5⟩, ⟨0, 2, 3⟩, ⟨0, 2, 4⟩, ⟨0, 2, 5⟩, ⟨0, 3, 4⟩, ⟨0, 3, 5⟩, ⟨0, 4, 5⟩, ⟨1, 2, 3⟩, ⟨1, 2, 4⟩, ⟨1, 2, 5⟩, ⟨1, 3, 4⟩, ⟨1, 3, 5⟩, ⟨1, 4, 5⟩, ⟨2, 3, 4⟩, ⟨2, 3, 5⟩, ⟨2, 4, 5⟩, ⟨3, 4, 5⟩]
  | 7 => [⟨0, 1, 2⟩, ⟨0, 1, 3⟩, ⟨0, 1, 4⟩, ⟨0, 1, 5⟩, ⟨0, 1, 6⟩, ⟨0, 2, 3⟩, ⟨0, 2, 4⟩, ⟨0, 2, 5⟩, ⟨0, 2, 6⟩, ⟨0, 3, 4⟩, ⟨0, 3, 5⟩, ⟨0, 3, 6⟩, ⟨0, 4, 5⟩, ⟨0, 4, 6⟩, ⟨0, 5, 6⟩, ⟨1, 2, 3⟩, ⟨1, 2, 4⟩, ⟨1, 2, 5⟩, ⟨1, 2, 6⟩, ⟨1, 3, 4⟩, ⟨1, 3, 5⟩, ⟨1, 3, 6⟩, ⟨1, 4, 5⟩, ⟨1, 4, 6⟩, ⟨1, 5, 6⟩, ⟨2, 3, 4⟩, ⟨2, 3, 5⟩, ⟨2, 3, 6⟩, ⟨2, 4, 5⟩, ⟨2, 4, 6⟩, ⟨2, 5, 6⟩, ⟨3, 4, 5⟩, ⟨3, 4, 6⟩, ⟨3, 5, 6⟩, ⟨4, 5, 6⟩]
  | _ => []
theorem tri_some : ∀ n : Nat, n ≤ 7 → impl_triplesOf.f 500 n = some (tri n)
  | 0, _ => by kernel_rfl
  | 1, _ => by kernel_rfl
  | 2, _ => by kernel_rfl
  | 3, _ => by kernel_rfl
  | 4, _ => by kernel_rfl
  | 5, _ => by kernel_rfl
  | 6, _ => by kernel_rfl
  | 7, _ => by kernel_rfl
  | n + 8, h => absurd h (by omega)
theorem triplesOf_ev (n : Nat) (h : n ≤ 7) : Ev (fun k => impl_triplesOf.f k n) (tri n) := Ev.of (impl_triplesOf.mono _) (tri_some n h)
/-- How many triples. -/
theorem tri_length (n : Nat) (h : n ≤ 7) : ((tri n).length : Int) = Int.tdiv ((n : Int) * (n - 1) * (n - 2)) 6 := by
  have : (List.range 8).all (fun n => ((tri n).length : Int) == Int.tdiv ((n : Int) * ((n : Int) - 1) * ((n : Int) - 2)) 6) = true := by decide +kernel
  rw [List.all_eq_true] at this
  simpa using this n (by simp; omega)
/-- The elements of a triple, as natural numbers below 7. -/
def okT (n : Nat) (t : T3) : Bool := decide (0 ≤ t.f0 ∧ t.f0 < t.f1 ∧ t.f1 < t.f2 ∧ t.f2 < n)
theorem tri_ok (n : Nat) (h : n ≤ 7) : (tri n).all (okT n) = true := by
  have : (List.range 8).all (fun n => (tri n).all (okT n)) = true := by decide +kernel
  rw [List.all_eq_true] at this
  exact this n (by simp; omega)
/-- A sign is given to a triple. -/
def put3 (l : List Int) (t : T3) (v : Int) : List Int := chiSet l t.f0 t.f1 t.f2 v
/-- Signs are given to a list of triples, one after another: the m-th gets v m. -/
def fill (v : Nat → Int) : List T3 → Nat → List Int → List Int
  | [], _, l => l
  | t :: ts, m, l => fill v ts (m + 1) (put3 l t (v m))
theorem fill_length (v : Nat → Int) : ∀ ts m l, (fill v ts m l).length = l.length := by
  intro ts
  induction ts with
  | nil => intro m l; rfl
  | cons t ts ih => intro m l; rw [fill, ih]; exact chiSet_length ..
theorem fill_append (v : Nat → Int) : ∀ ts us m l, fill v (ts ++ us) m l = fill v us (m + ts.length) (fill v ts m l) := by
  intro ts
  induction ts with
  | nil => intro us m l; rfl
  | cons t ts ih => intro us m l; rw [List.cons_append, fill, ih, fill, List.length_cons]; congr 1; omega
/-- How x, y, z stand to a triple: the same up to an even exchange, an odd one, or not at all. -/
def par (t : T3) (x y z : Int) : Option Bool :=
  if (x = t.f0 ∧ y = t.f1 ∧ z = t.f2) ∨ (x = t.f1 ∧ y = t.f2 ∧ z = t.f0) ∨ (x = t.f2 ∧ y = t.f0 ∧ z = t.f1) then some true
  else if (x = t.f0 ∧ y = t.f2 ∧ z = t.f1) ∨ (x = t.f2 ∧ y = t.f1 ∧ z = t.f0) ∨ (x = t.f1 ∧ y = t.f0 ∧ z = t.f2) then some false else none
theorem rd_set (l : List Int) (p q : Nat) (v : Int) (h : p < l.length) : rd (l.set p v) q = if p = q then v else rd l q := by
  unfold rd
  rw [Int.toNat_natCast, List.getD_eq_getElem?_getD, List.getD_eq_getElem?_getD, List.getElem?_set]
  by_cases e : p = q
  · subst e
    simp [h]
  · simp [e]
theorem chiA_nat (l : List Int) (x y z : Nat) : chiA l x y z = rd l ((1 + x * 49 + y * 7 + z : Nat) : Int) := by
  unfold chiA
  congr 1
  omega
theorem pos_iff (a b c x y z : Nat) (ha : a < 7) (hb : b < 7) (hc : c < 7) (hx : x < 7) (hy : y < 7) (hz : z < 7) : (1 + a * 49 + b * 7 + c = 1 + x * 49 + y * 7 + z) ↔ (x = a ∧ y = b ∧ z = c) := by
  constructor
  · intro h
    have h1 : c = z := by have := congrArg (· % 7) (show a * 49 + b * 7 + c + 1 = x * 49 + y * 7 + z + 1 by omega); omega
    have h2 : b = y := by subst h1; omega
    exact ⟨by omega, h2.symm, h1.symm⟩
  · rintro ⟨rfl, rfl, rfl⟩
    rfl
theorem chiA_put3 (l : List Int) (hl : l.length = 344) (t : T3) (ht : okT 7 t = true) (v : Int) (x y z : Nat) (hx : x < 7) (hy : y < 7) (hz : z < 7) :
    chiA (put3 l t v) x y z = match par t x y z with | some true => v | some false => wrap64 (-v) | none => chiA l x y z := by
  obtain ⟨a, b, c⟩ := t
  unfold okT at ht
  rw [decide_eq_true_eq] at ht
  obtain ⟨h0, h1, h2, h3⟩ := ht
  dsimp only at h0 h1 h2 h3
  obtain ⟨a, rfl⟩ := Int.eq_ofNat_of_zero_le h0
  obtain ⟨b, rfl⟩ := Int.eq_ofNat_of_zero_le (show 0 ≤ b by omega)
  obtain ⟨c, rfl⟩ := Int.eq_ofNat_of_zero_le (show 0 ≤ c by omega)
  rw [chiA_nat, chiA_nat]
  unfold put3 chiSet setL par
  simp only [Int.toNat_natCast]
  rw [rd_set _ _ _ _ (by first | (simp only [List.length_set]; omega) | omega), rd_set _ _ _ _ (by first | (simp only [List.length_set]; omega) | omega), rd_set _ _ _ _ (by first | (simp only [List.length_set]; omega) | omega), rd_set _ _ _ _ (by first | (simp only [List.length_set]; omega) | omega), rd_set _ _ _ _ (by first | (simp only [List.length_set]; omega) | omega), rd_set _ _ _ _ (by first | (simp only [List.length_set]; omega) | omega)]
  simp only [pos_iff a b c x y z (by omega) (by omega) (by omega) hx hy hz, pos_iff b c a x y z (by omega) (by omega) (by omega) hx hy hz, pos_iff c a b x y z (by omega) (by omega) (by omega) hx hy hz, pos_iff a c b x y z (by omega) (by omega) (by omega) hx hy hz, pos_iff c b a x y z (by omega) (by omega) (by omega) hx hy hz, pos_iff b a c x y z (by omega) (by omega) (by omega) hx hy hz]
  simp only [Int.natCast_inj]
  clear h0 hl
  have ab : a < b := by omega
  have bc : b < c := by omega
  clear h1 h2 h3
  generalize rd l ((1 + x * 49 + y * 7 + z : Nat) : Int) = o
  by_cases k0 : x = a ∧ y = b ∧ z = c
  · have := k0
    have n1 : ¬ (x = b ∧ y = c ∧ z = a) := by omega
    have n2 : ¬ (x = c ∧ y = a ∧ z = b) := by omega
    have n3 : ¬ (x = a ∧ y = c ∧ z = b) := by omega
    have n4 : ¬ (x = c ∧ y = b ∧ z = a) := by omega
    have n5 : ¬ (x = b ∧ y = a ∧ z = c) := by omega
    clear this
    simp only [(eq_true k0), (eq_false n1), (eq_false n2), (eq_false n3), (eq_false n4), (eq_false n5), if_true, if_false, or_true, true_or, or_false, false_or]
  by_cases k1 : x = b ∧ y = c ∧ z = a
  · have := k1
    have n2 : ¬ (x = c ∧ y = a ∧ z = b) := by omega
    have n3 : ¬ (x = a ∧ y = c ∧ z = b) := by omega
    have n4 : ¬ (x = c ∧ y = b ∧ z = a) := by omega
    have n5 : ¬ (x = b ∧ y = a ∧ z = c) := by omega
    clear this
    simp only [(eq_false k0), (eq_true k1), (eq_false n2), (eq_false n3), (eq_false n4), (eq_false n5), if_true, if_false, or_true, true_or, or_false, false_or]
  by_cases k2 : x = c ∧ y = a ∧ z = b
  · have := k2
    have n3 : ¬ (x = a ∧ y = c ∧ z = b) := by omega
    have n4 : ¬ (x = c ∧ y = b ∧ z = a) := by omega
    have n5 : ¬ (x = b ∧ y = a ∧ z = c) := by omega
    clear this
    simp only [(eq_false k0), (eq_false k1), (eq_true k2), (eq_false n3), (eq_false n4), (eq_false n5), if_true, if_false, or_true, true_or, or_false, false_or]
  by_cases k3 : x = a ∧ y = c ∧ z = b
  · have := k3
    have n4 : ¬ (x = c ∧ y = b ∧ z = a) := by omega
    have n5 : ¬ (x = b ∧ y = a ∧ z = c) := by omega
    clear this
    simp only [(eq_false k0), (eq_false k1), (eq_false k2), (eq_true k3), (eq_false n4), (eq_false n5), if_true, if_false, or_true, true_or, or_false, false_or]
  by_cases k4 : x = c ∧ y = b ∧ z = a
  · have := k4
    have n5 : ¬ (x = b ∧ y = a ∧ z = c) := by omega
    clear this
    simp only [(eq_false k0), (eq_false k1), (eq_false k2), (eq_false k3), (eq_true k4), (eq_false n5), if_true, if_false, or_true, true_or, or_false, false_or]
  by_cases k5 : x = b ∧ y = a ∧ z = c
  · have := k5
    clear this
    simp only [(eq_false k0), (eq_false k1), (eq_false k2), (eq_false k3), (eq_false k4), (eq_true k5), if_true, if_false, or_true, true_or, or_false, false_or]
  simp only [(eq_false k0), (eq_false k1), (eq_false k2), (eq_false k3), (eq_false k4), (eq_false k5), if_true, if_false, or_true, true_or, or_false, false_or]
theorem chiN_put3 (l : List Int) (hl : l.length = 344) (t : T3) (v : Int) : chiN (put3 l t v) = chiN l := by
  have h : ∀ (l : List Int) (p : Nat) (u : Int), rd (l.set (1 + p) u) 0 = rd l 0 := by
    intro l p u
    unfold rd
    simp [List.getD_eq_getElem?_getD, List.getElem?_set, show ¬ (1 + p = 0) by omega]
  unfold put3 chiSet setL chiN
  simp only [Nat.add_assoc, h]
/-- Which of the triples from m on decides over x, y, z: the last one that fits. -/
def src : List T3 → Nat → Int → Int → Int → Option (Nat × Bool)
  | [], _, _, _, _ => none
  | t :: ts, m, x, y, z => (src ts (m + 1) x y z).or ((par t x y z).map fun b => (m, b))
def sval (v : Nat → Int) (o : Int) : Option (Nat × Bool) → Int
  | some (m, true) => v m
  | some (m, false) => wrap64 (-v m)
  | none => o
theorem chiA_fill (v : Nat → Int) (x y z : Nat) (hx : x < 7) (hy : y < 7) (hz : z < 7) : ∀ (ts : List T3), ts.all (okT 7) = true → ∀ m l, l.length = 344 → chiA (fill v ts m l) x y z = sval v (chiA l x y z) (src ts m x y z) := by
  intro ts
  induction ts with
  | nil => intro _ m l _; rfl
  | cons t ts ih =>
    intro h m l hl
    rw [List.all_cons, Bool.and_eq_true] at h
    rw [fill, ih h.2 (m + 1) _ (by unfold put3; rw [chiSet_length]; exact hl), chiA_put3 l hl t h.1 (v m) x y z hx hy hz, src]
    cases hs : src ts (m + 1) x y z with
    | some p => obtain ⟨q, b⟩ := p; cases b <;> rfl
    | none =>
      cases hp : par t x y z with
      | none => rfl
      | some b => cases b <;> rfl
theorem chiN_fill (v : Nat → Int) : ∀ (ts : List T3) m l, l.length = 344 → chiN (fill v ts m l) = chiN l := by
  intro ts
  induction ts with
  | nil => intro m l _; rfl
  | cons t ts ih => intro m l hl; rw [fill, ih _ _ (by unfold put3; rw [chiSet_length]; exact hl), chiN_put3 l hl]
theorem okT_mono {n : Nat} (h : n ≤ 7) (t : T3) (ht : okT n t = true) : okT 7 t = true := by
  unfold okT at ht ⊢
  rw [decide_eq_true_eq] at ht ⊢
  omega
theorem tri_ok7 (n : Nat) (h : n ≤ 7) : (tri n).all (okT 7) = true := by
  have := tri_ok n h
  rw [List.all_eq_true] at this ⊢
  exact fun t ht => okT_mono h t (this t ht)
theorem chiA_new (n : Int) (x y z : Nat) (hx : x < 7) (hy : y < 7) (hz : z < 7) : chiA (chiNew n) x y z = 0 := by
  rw [chiA_nat, show 1 + x * 49 + y * 7 + z = (x * 49 + y * 7 + z) + 1 by omega]
  unfold rd chiNew
  rw [Int.toNat_natCast, List.getD_cons_succ, List.getD_eq_getElem?_getD, List.getElem?_replicate]
  rw [if_pos (by omega)]
  rfl
end Go.Proofs.Ytcojmladlkealaa.Pure

namespace Go.Proofs.Ytcojmladlkealaa.Pure
set_option linter.unusedSimpArgs false
set_option linter.unusedVariables false
open Go.RowKit Go.Proofs.YtcojmladlkealaaW.PrintWords Go.Proofs.Ytcojmladlkealaa.P Go.Proofs.Ytcojmladlkealaa.Pl
def isPM (s : ByteArray) (m : Nat) : Bool := bt s (m : Int) == 43 || bt s (m : Int) == 45
/-- Is it a text of signs of n elements? -/
def isS (n : Int) (s : ByteArray) : Bool := decide (3 ≤ n ∧ n ≤ 7 ∧ (s.size : Int) = Int.tdiv (n * (n - 1) * (n - 2)) 6) && (List.range s.size).all (isPM s)
theorem count3 {n : Int} (h3 : 3 ≤ n) (h7 : n ≤ 7) : wrap64 (wrap64 (n * wrap64 (n - 1)) * wrap64 (n - 2)) = n * (n - 1) * (n - 2) ∧ wrap64 (Int.tdiv (n * (n - 1) * (n - 2)) 6) = Int.tdiv (n * (n - 1) * (n - 2)) 6 ∧ 0 ≤ Int.tdiv (n * (n - 1) * (n - 2)) 6 ∧ Int.tdiv (n * (n - 1) * (n - 2)) 6 ≤ 35 := by
  have : n = 3 ∨ n = 4 ∨ n = 5 ∨ n = 6 ∨ n = 7 := by omega
  obtain rfl | rfl | rfl | rfl | rfl := this <;> (unfold wrap64; decide)
theorem range_drop' (n i : Nat) (h : i < n) : (List.range n).drop i = i :: (List.range n).drop (i + 1) := by
  rw [List.drop_eq_getElem_cons (by simpa using h)]
  simp
theorem l1In_is (x a b : Int) : spec_l1In.f x a b = some (decide (a ≤ x ∧ x ≤ b)) := by
  unfold spec_l1In.f
  by_cases h : x ≥ a
  · rw [if_pos h]
    simp [h]
  · rw [if_neg h]
    simp [show ¬ a ≤ x by omega]
theorem spec_AreSigns_ev (n : Int) (s : ByteArray) : Ev (fun k => spec_AreSigns.f k n s) (isS n s) := by
  unfold spec_AreSigns.f isS
  have no : ∀ x, Ev (fun k => spec_AreSigns.j0 k true n x) false := fun x => Ev.step (fun k => spec_AreSigns.j0.eq_2 ..) (Ev.ite_pos rfl (Ev.now _))
  by_cases h : 3 ≤ n ∧ n ≤ 7
  · obtain ⟨e1, e2, e3, e4⟩ := count3 h.1 h.2
    refine Ev.bind0 (l1In_is ..) (Ev.ite_pos (decide_eq_true h) ?_)
    rw [e1, e2]
    by_cases hc : (s.size : Int) = Int.tdiv (n * (n - 1) * (n - 2)) 6
    · rw [show decide (3 ≤ n ∧ n ≤ 7 ∧ (s.size : Int) = Int.tdiv (n * (n - 1) * (n - 2)) 6) = true from decide_eq_true ⟨h.1, h.2, hc⟩, Bool.true_and]
      refine Ev.step (fun k => spec_AreSigns.j0.eq_2 ..) (Ev.ite_neg (by simp [hc]) ?_)
      have key := Ev.loop_to (fun i k => spec_AreSigns.l0 k i n s) s.size (fun i => ((List.range s.size).drop i).all (isPM s)) ?_ ?_ 0 (by omega)
      · simpa using key
      · refine Ev.step (fun k => spec_AreSigns.l0.eq_2 ..) (Ev.ite_neg (by omega) (Ev.const ?_))
        rw [List.drop_of_length_le (by simp)]
        rfl
      · intro i hi ih
        rw [range_drop' _ _ hi, List.all_cons]
        refine Ev.step (fun k => spec_AreSigns.l0.eq_2 ..) (Ev.ite_pos (by omega) (Ev.ite_pos (by omega) ?_))
        rw [wrap_nat i (by omega)]
        rw [show isPM s i = (bt s (i : Int) == 43 || bt s (i : Int) == 45) from rfl]
        by_cases h43 : bt s (i : Int) = 43
        · refine Ev.ite_pos h43 ?_
          simpa [h43] using ih
        · refine Ev.ite_neg h43 ?_
          by_cases h45 : bt s (i : Int) = 45
          · refine Ev.ite_pos h45 ?_
            simpa [h45] using ih
          · refine Ev.ite_neg h45 (Ev.const ?_)
            simp [h43, h45]
    · rw [show decide (3 ≤ n ∧ n ≤ 7 ∧ (s.size : Int) = Int.tdiv (n * (n - 1) * (n - 2)) 6) = false from decide_eq_false (fun q => hc q.2.2), Bool.false_and]
      rw [show ((s.size : Int) != Int.tdiv (n * (n - 1) * (n - 2)) 6) = true by simpa using hc]
      exact no s
  · rw [show decide (3 ≤ n ∧ n ≤ 7 ∧ (s.size : Int) = Int.tdiv (n * (n - 1) * (n - 2)) 6) = false from decide_eq_false (fun q => h ⟨q.1, q.2.1⟩), Bool.false_and]
    exact Ev.bind0 (l1In_is ..) (Ev.ite_neg (by simpa using h) (no s))
theorem impl_AreSigns_ev (n : Int) (s : ByteArray) : Ev (fun k => impl_AreSigns.f k n s) (isS n s) := by
  unfold impl_AreSigns.f isS
  have no : ∀ x, Ev (fun k => impl_AreSigns.j0 k true n x) false := fun x => Ev.step (fun k => impl_AreSigns.j0.eq_2 ..) (Ev.ite_pos rfl (Ev.now _))
  by_cases h3 : n < 3
  · rw [show decide (3 ≤ n ∧ n ≤ 7 ∧ (s.size : Int) = Int.tdiv (n * (n - 1) * (n - 2)) 6) = false from decide_eq_false (fun q => by omega), Bool.false_and]
    exact Ev.ite_pos h3 (no s)
  · refine Ev.ite_neg h3 ?_
    by_cases h7 : n > 7
    · rw [show decide (3 ≤ n ∧ n ≤ 7 ∧ (s.size : Int) = Int.tdiv (n * (n - 1) * (n - 2)) 6) = false from decide_eq_false (fun q => by omega), Bool.false_and]
      exact Ev.ite_pos h7 (no s)
    · refine Ev.ite_neg h7 ?_
      obtain ⟨e1, e2, e3, e4⟩ := count3 (n := n) (by omega) (by omega)
      rw [e1, e2]
      by_cases hc : (s.size : Int) = Int.tdiv (n * (n - 1) * (n - 2)) 6
      · rw [show decide (3 ≤ n ∧ n ≤ 7 ∧ (s.size : Int) = Int.tdiv (n * (n - 1) * (n - 2)) 6) = true from decide_eq_true ⟨by omega, by omega, hc⟩, Bool.true_and]
        refine Ev.step (fun k => impl_AreSigns.j0.eq_2 ..) (Ev.ite_neg (by simp [hc]) ?_)
        have key := Ev.loop_to (fun i k => impl_AreSigns.l0 k i n s) s.size (fun i => ((List.range s.size).drop i).all (isPM s)) ?_ ?_ 0 (by omega)
        · simpa using key
        · refine Ev.step (fun k => impl_AreSigns.l0.eq_2 ..) (Ev.ite_neg (by omega) (Ev.const ?_))
          rw [List.drop_of_length_le (by simp)]
          rfl
        · intro i hi ih
          rw [range_drop' _ _ hi, List.all_cons]
          refine Ev.step (fun k => impl_AreSigns.l0.eq_2 ..) (Ev.ite_pos (by omega) (Ev.ite_pos (by omega) ?_))
          rw [wrap_nat i (by omega)]
          rw [show isPM s i = (bt s (i : Int) == 43 || bt s (i : Int) == 45) from rfl]
          by_cases h43 : bt s (i : Int) = 43
          · refine Ev.ite_pos h43 ?_
            simpa [h43] using ih
          · refine Ev.ite_neg h43 ?_
            by_cases h45 : bt s (i : Int) = 45
            · refine Ev.ite_pos h45 ?_
              simpa [h45] using ih
            · refine Ev.ite_neg h45 (Ev.const ?_)
              simp [h43, h45]
      · rw [show decide (3 ≤ n ∧ n ≤ 7 ∧ (s.size : Int) = Int.tdiv (n * (n - 1) * (n - 2)) 6) = false from decide_eq_false (fun q => hc q.2.2), Bool.false_and]
        rw [show ((s.size : Int) != Int.tdiv (n * (n - 1) * (n - 2)) 6) = true by simpa using hc]
        exact no s
theorem isS_bounds {n : Int} {s : ByteArray} (h : isS n s = true) : 3 ≤ n ∧ n ≤ 7 ∧ s.size = (tri n.toNat).length ∧ s.size ≤ 35 := by
  unfold isS at h
  rw [Bool.and_eq_true, decide_eq_true_eq] at h
  obtain ⟨⟨h3, h7, hc⟩, _⟩ := h
  have hb := (count3 h3 h7).2.2.2
  obtain ⟨m, rfl⟩ := Int.eq_ofNat_of_zero_le (show 0 ≤ n by omega)
  have ht := tri_length m (by omega)
  rw [Int.toNat_natCast]
  exact ⟨h3, h7, by omega, by omega⟩
/-- The sign that the m-th byte says. -/
def sgAt (s : ByteArray) (m : Nat) : Int := if bt s (m : Int) = 45 then -1 else 1
/-- The program's table of a text. -/
def tab (n : Nat) (s : ByteArray) : List Int := fill (sgAt s) (tri n) 0 (chiNew n)
/-- The sign of three elements. -/
def sg (n : Nat) (s : ByteArray) (x y z : Int) : Int := sval (sgAt s) 0 (src (tri n) 0 x y z)
theorem tab_length (n : Nat) (s : ByteArray) : (tab n s).length = 344 := by
  unfold tab
  rw [fill_length, chiNew_length]
theorem tab_n (n : Nat) (s : ByteArray) : chiN (tab n s) = n := by
  unfold tab
  rw [chiN_fill _ _ _ _ (chiNew_length _)]
  rfl
theorem tab_at (n : Nat) (hn : n ≤ 7) (s : ByteArray) (x y z : Nat) (hx : x < 7) (hy : y < 7) (hz : z < 7) : chiA (tab n s) x y z = sg n s x y z := by
  unfold tab sg
  rw [chiA_fill _ x y z hx hy hz _ (tri_ok7 n hn) 0 _ (chiNew_length _), chiA_new _ x y z hx hy hz]
theorem tri_at (n : Nat) (hn : n ≤ 7) (i : Nat) (hi : i < (tri n).length) : okT 7 (tri n)[i] = true := by
  have := tri_ok7 n hn
  rw [List.all_eq_true] at this
  exact this _ (List.getElem_mem hi)
theorem rdT_lt (l : List T3) (i : Nat) (h : i < l.length) : rd_T124 l (i : Int) = l[i] := by
  unfold rd_T124
  rw [Int.toNat_natCast, getD_lt _ _ _ h]
theorem tableOf_ev (n : Nat) (hn : n ≤ 7) (s : ByteArray) (hs : s.size = (tri n).length) : Ev (fun k => impl_tableOf.f k n s) (tab n s) := by
  unfold impl_tableOf.f
  refine Ev.bind (triplesOf_ev n hn) ?_
  have h35 : (tri n).length ≤ 1000 := by
    have : (List.range 8).all (fun n => decide ((tri n).length ≤ 1000)) = true := by decide +kernel
    rw [List.all_eq_true] at this
    simpa using this n (by simp; omega)
  have key := Ev.loop (fun i k => impl_tableOf.l0 k (fill (sgAt s) ((tri n).take i) 0 (chiNew n)) (tri n) (tri n).length i n s) (tri n).length (tab n s) ?_ ?_ 0 (by omega)
  · simpa [fill] using key
  · refine Ev.step (fun k => impl_tableOf.l0.eq_2 ..) (Ev.ite_neg (by omega) (Ev.const ?_))
    rw [List.take_length]
    rfl
  · intro i hi ih
    refine Ev.step (fun k => impl_tableOf.l0.eq_2 ..) (Ev.ite_pos (by omega) (Ev.ite_pos (by omega) (Ev.ite_pos (by omega) (Ev.ite_pos (by omega) ?_))))
    have ht := tri_at n hn i hi
    rw [wrap_nat i (by omega), rdT_lt _ i hi]
    rw [List.take_succ_eq_append_getElem hi, fill_append, Nat.zero_add, List.length_take, Nat.min_eq_left (by omega)] at ih
    have hl : (fill (sgAt s) ((tri n).take i) 0 (chiNew n)).length = 344 := by rw [fill_length, chiNew_length]
    generalize fill (sgAt s) ((tri n).take i) 0 (chiNew n) = l at ih hl ⊢
    generalize (tri n)[i] = t at ih ht ⊢
    unfold okT at ht
    rw [decide_eq_true_eq] at ht
    have hset : ∀ v, impl_chi_set.f l t.f0 t.f1 t.f2 v = some (put3 l t v) := by
      intro v
      unfold impl_chi_set.f
      rw [if_pos ⟨hl, by omega, by omega, by omega⟩]
      rfl
    rw [fill, fill] at ih
    unfold sgAt at ih
    by_cases h45 : bt s (i : Int) = 45
    · rw [if_pos h45] at ih
      exact Ev.ite_pos h45 (Ev.bind0 (hset _) ih)
    · rw [if_neg h45] at ih
      exact Ev.ite_neg h45 (Ev.bind0 (hset _) ih)
/-- Where the reference looks for three elements, and with which sign: as its nested tests go. -/
def srt2 (n x y z p : Int) : Option (Int × Int) := if x > y then (spec_l3Index.f 60 n y x z).map fun m => (m, -p) else (spec_l3Index.f 60 n x y z).map fun m => (m, p)
def srt1 (n x y z p : Int) : Option (Int × Int) := if y > z then srt2 n x z y (-p) else srt2 n x y z p
def srt (n x y z : Int) : Option (Int × Int) := if x > y then srt1 n y x z (-1) else srt1 n x y z 1
def okSrt (n : Nat) (x y z : Nat) : Bool :=
  match srt n x y z, src (tri n) 0 x y z with
  | some (m, p), some (q, b) => m == (q : Int) && decide (q < (tri n).length) && (p == if b then 1 else -1)
  | _, _ => false
theorem all_srt : (List.range 8).all (fun n => (List.range n).all fun x => (List.range n).all fun y => (List.range n).all fun z => x == y || y == z || x == z || okSrt n x y z) = true := by decide +kernel
theorem srt_ok (n x y z : Nat) (hn : n ≤ 7) (hx : x < n) (hy : y < n) (hz : z < n) (h1 : x ≠ y) (h2 : y ≠ z) (h3 : x ≠ z) : okSrt n x y z = true := by
  have h := all_srt
  rw [List.all_eq_true] at h
  have h := h n (by simp; omega)
  rw [List.all_eq_true] at h
  have h := h x (by simpa using hx)
  rw [List.all_eq_true] at h
  have h := h y (by simpa using hy)
  rw [List.all_eq_true] at h
  have h := h z (by simpa using hz)
  simpa [h1, h2, h3] using h
theorem l3Index_ev {n x y z m : Int} (h : spec_l3Index.f 60 n x y z = some m) : Ev (fun k => spec_l3Index.f k n x y z) m := Ev.of (spec_l3Index.mono _ _ _ _) h
/-- What the reference answers once the place is known. -/
def look (s : ByteArray) (m p : Int) : Int := if bt s m = 45 then wrap64 (-p) else p
theorem j1_ev (n x y z p m q : Int) (s : ByteArray) (hp : p = 1 ∨ p = -1) (h : srt2 n x y z p = some (m, q)) (hm : 0 ≤ m) (hs : m < (s.size : Int)) : Ev (fun k => spec_l3At.j1 k x y z p n s) (look s m q) := by
  refine Ev.step (fun k => spec_l3At.j1.eq_2 ..) ?_
  have hw : wrap64 (-p) = -p := wrap_in (by omega) (by omega)
  unfold srt2 at h
  unfold look
  by_cases hxy : x > y
  · rw [if_pos hxy] at h
    obtain ⟨m', h1, h2⟩ := Option.map_eq_some_iff.mp h
    cases h2
    refine Ev.ite_pos hxy (Ev.bind (l3Index_ev h1) (Ev.ite_pos hm (Ev.ite_pos hs ?_)))
    rw [hw]
    by_cases h45 : bt s m = 45
    · exact Ev.ite_pos h45 (Ev.const (by rw [if_pos h45]))
    · exact Ev.ite_neg h45 (Ev.const (by rw [if_neg h45]))
  · rw [if_neg hxy] at h
    obtain ⟨m', h1, h2⟩ := Option.map_eq_some_iff.mp h
    cases h2
    refine Ev.ite_neg hxy (Ev.bind (l3Index_ev h1) (Ev.ite_pos hm (Ev.ite_pos hs ?_)))
    by_cases h45 : bt s m = 45
    · exact Ev.ite_pos h45 (Ev.const (by rw [if_pos h45]))
    · exact Ev.ite_neg h45 (Ev.const (by rw [if_neg h45]))
theorem j0_ev (n x y z p m q : Int) (s : ByteArray) (hp : p = 1 ∨ p = -1) (h : srt1 n x y z p = some (m, q)) (hm : 0 ≤ m) (hs : m < (s.size : Int)) : Ev (fun k => spec_l3At.j0 k x y z p n s) (look s m q) := by
  refine Ev.step (fun k => spec_l3At.j0.eq_2 ..) ?_
  have hw : wrap64 (-p) = -p := wrap_in (by omega) (by omega)
  unfold srt1 at h
  by_cases hyz : y > z
  · rw [if_pos hyz] at h
    rw [hw]
    exact Ev.ite_pos hyz (j1_ev n x z y (-p) m q s (by omega) h hm hs)
  · rw [if_neg hyz] at h
    exact Ev.ite_neg hyz (j1_ev n x y z p m q s hp h hm hs)
theorem l3At_ev (n : Nat) (hn : n ≤ 7) (s : ByteArray) (hs : s.size = (tri n).length) (x y z : Nat) (hx : x < n) (hy : y < n) (hz : z < n) (h1 : x ≠ y) (h2 : y ≠ z) (h3 : x ≠ z) :
    Ev (fun k => spec_l3At.f k n s x y z) (sg n s x y z) := by
  have h := srt_ok n x y z hn hx hy hz h1 h2 h3
  unfold okSrt at h
  unfold spec_l3At.f sg
  cases ha : srt n x y z with
  | none => rw [ha] at h; cases h
  | some mp =>
    obtain ⟨m, p⟩ := mp
    cases hb : src (tri n) 0 x y z with
    | none => rw [ha, hb] at h; cases h
    | some qb =>
      obtain ⟨q, b⟩ := qb
      rw [ha, hb] at h
      simp only [Bool.and_eq_true, beq_iff_eq, decide_eq_true_eq] at h
      obtain ⟨⟨rfl, hq⟩, hp⟩ := h
      have e : sval (sgAt s) 0 (some (q, b)) = look s q p := by
        subst hp
        unfold sval look sgAt
        cases b <;> by_cases h45 : bt s (q : Int) = 45 <;> simp [h45, wrap64]
      rw [e]
      unfold srt at ha
      by_cases hxy : (x : Int) > y
      · rw [if_pos hxy] at ha
        exact Ev.ite_pos hxy (j0_ev n y x z (-1) q p s (by omega) ha (by omega) (by omega))
      · rw [if_neg hxy] at ha
        exact Ev.ite_neg hxy (j0_ev n x y z 1 q p s (by omega) ha (by omega) (by omega))
theorem sg_pm (n : Nat) (hn : n ≤ 7) (s : ByteArray) (x y z : Nat) (hx : x < n) (hy : y < n) (hz : z < n) (h1 : x ≠ y) (h2 : y ≠ z) (h3 : x ≠ z) : sg n s x y z = 1 ∨ sg n s x y z = -1 := by
  have h := srt_ok n x y z hn hx hy hz h1 h2 h3
  unfold okSrt at h
  unfold sg
  cases ha : srt n x y z with
  | none => rw [ha] at h; cases h
  | some mp =>
    cases hb : src (tri n) 0 x y z with
    | none => rw [ha, hb] at h; cases h
    | some qb =>
      obtain ⟨q, b⟩ := qb
      unfold sval sgAt
      cases b <;> by_cases h45 : bt s (q : Int) = 45 <;> simp [h45, wrap64]
theorem all_same : (List.range 8).all (fun n => (List.range 7).all fun x => (List.range 7).all fun y => (List.range 7).all fun z => !(x == y || y == z || x == z) || (src (tri n) 0 x y z == none)) = true := by decide +kernel
/-- Where two elements are the same there is no sign. -/
theorem sg_same (n : Nat) (hn : n ≤ 7) (s : ByteArray) (x y z : Nat) (hx : x < 7) (hy : y < 7) (hz : z < 7) (h : x = y ∨ y = z ∨ x = z) : sg n s x y z = 0 := by
  have g := all_same
  rw [List.all_eq_true] at g
  have g := g n (by simp; omega)
  rw [List.all_eq_true] at g
  have g := g x (by simpa using hx)
  rw [List.all_eq_true] at g
  have g := g y (by simpa using hy)
  rw [List.all_eq_true] at g
  have g := g z (by simpa using hz)
  have e : (x == y || y == z || x == z) = true := by rcases h with rfl | rfl | rfl <;> simp
  rw [e] at g
  have : src (tri n) 0 x y z = none := by simpa using g
  unfold sg
  rw [this]
  rfl
end Go.Proofs.Ytcojmladlkealaa.Pure

namespace Go.Proofs.Ytcojmladlkealaa.Pure
set_option linter.unusedSimpArgs false
set_option linter.unusedVariables false
open Go.RowKit Go.Proofs.YtcojmladlkealaaW.PrintWords Go.Proofs.Ytcojmladlkealaa.P Go.Proofs.Ytcojmladlkealaa.Pl
def inE (n x : Int) : Bool := decide (0 ≤ x ∧ x < n)
def okD (n : Int) (l : List Int) (i : Nat) : Bool := inE n (rd l i) && !((List.range i).any fun j => rd l i == rd l j)
def diffFrom (n : Int) (l : List Int) (i : Nat) : Bool := ((List.range l.length).drop i).all (okD n l)
/-- Are these different elements of n? -/
def diffB (n : Int) (l : List Int) : Bool := diffFrom n l 0
theorem diffFrom_step (n : Int) (l : List Int) (i : Nat) (h : i < l.length) : diffFrom n l i = (okD n l i && diffFrom n l (i + 1)) := by
  unfold diffFrom
  rw [range_drop' _ _ h, List.all_cons]
theorem rd_takeI (l : List Int) (n j : Nat) (h : j < n) : rd (l.take n) (j : Int) = rd l (j : Int) := by
  unfold rd
  rw [Int.toNat_natCast]
  simp [List.getD_eq_getElem?_getD, h]
theorem containsI_ev (l : List Int) (n : Nat) (hn : n ≤ l.length) (hl : l.length ≤ 1000000) (x : Int) :
    Ev (fun k => slices_Contains_Sint_int.f k (l.take n) x) ((List.range n).any fun j => x == rd l j) := by
  have hlen : (l.take n).length = n := by rw [List.length_take]; omega
  have key : ∀ d i, i + d = n → ∃ r, Ev (fun k => slices_Index_Sint_int.l0 k (l.take n) x n i) r ∧ decide (r ≥ 0) = ((List.range n).drop i).any fun j => x == rd l j := by
    intro d
    induction d with
    | zero =>
      intro i hi
      obtain rfl : i = n := by omega
      refine ⟨-1, Ev.step (fun k => slices_Index_Sint_int.l0.eq_2 ..) (Ev.ite_neg (by omega) (Ev.now _)), ?_⟩
      rw [List.drop_of_length_le (by simp)]
      rfl
    | succ d ih =>
      intro i hi
      obtain ⟨r, hr, he⟩ := ih (i + 1) (by omega)
      rw [range_drop' n i (by omega), List.any_cons]
      by_cases hb : x = rd l (i : Int)
      · refine ⟨i, Ev.step (fun k => slices_Index_Sint_int.l0.eq_2 ..) (Ev.ite_pos (by omega) (Ev.ite_pos (by omega) (Ev.ite_pos (by omega) (Ev.ite_pos (by rw [rd_takeI l n i (by omega)]; exact hb) (Ev.now _))))), ?_⟩
        rw [show (x == rd l (i : Int)) = true by simpa using hb]
        simp
      · refine ⟨r, Ev.step (fun k => slices_Index_Sint_int.l0.eq_2 ..) (Ev.ite_pos (by omega) (Ev.ite_pos (by omega) (Ev.ite_pos (by omega) (Ev.ite_neg (by rw [rd_takeI l n i (by omega)]; exact hb) ?_)))), ?_⟩
        · rw [wrap_nat i (by omega)]
          exact hr
        · rw [he, show (x == rd l (i : Int)) = false by simpa using hb, Bool.false_or]
  obtain ⟨r, hr, he⟩ := key n 0 (by omega)
  unfold slices_Contains_Sint_int.f slices_Index_Sint_int.f
  rw [hlen]
  refine Ev.bind hr (Ev.const ?_)
  rw [he, List.drop_zero]
theorem isElement_eq (n x : Int) : impl_isElement.f n x = some (inE n x) := by
  unfold impl_isElement.f inE
  by_cases h : x ≥ 0
  · rw [if_pos h]
    simp [h]
  · rw [if_neg h]
    simp [show ¬ 0 ≤ x by omega]
theorem impl_areDifferent_ev (n : Int) (l : List Int) (hl : l.length ≤ 1000000) : Ev (fun k => impl_areDifferent.f k n l) (diffB n l) := by
  unfold impl_areDifferent.f diffB
  refine Ev.loop_to (fun i k => impl_areDifferent.l0 k n l l l.length i) l.length (diffFrom n l) ?_ ?_ 0 (by omega)
  · refine Ev.step (fun k => impl_areDifferent.l0.eq_2 ..) (Ev.ite_neg (by omega) (Ev.const ?_))
    unfold diffFrom
    rw [List.drop_of_length_le (by simp)]
    rfl
  · intro i hi ih
    rw [diffFrom_step n l i hi]
    unfold okD
    refine Ev.step (fun k => impl_areDifferent.l0.eq_2 ..) (Ev.ite_pos (by omega) (Ev.ite_pos (by omega) (Ev.ite_pos (by omega) (Ev.bind0 (isElement_eq ..) ?_))))
    cases he : inE n (rd l (i : Int)) with
    | false => exact Ev.ite_neg (by simp) (Ev.now _)
    | true =>
      refine Ev.ite_pos rfl (Ev.ite_pos (by omega) ?_)
      rw [Int.toNat_natCast, wrap_nat i (by omega)]
      refine Ev.bind (containsI_ev l i (by omega) hl _) ?_
      cases hb : (List.range i).any fun j => rd l (i : Int) == rd l (j : Int) with
      | true => exact Ev.ite_pos rfl (Ev.now _)
      | false => exact Ev.ite_neg (by simp) (by simpa using ih)
theorem spec_l5Different_ev (n : Int) (hn : 3 ≤ n ∧ n ≤ 7) (l : List Int) (hl : l.length ≤ 1000000) : Ev (fun k => spec_l5Different.f k n l) (diffB n l) := by
  unfold spec_l5Different.f diffB
  refine Ev.loop_to (fun i k => spec_l5Different.l0 k n l i) l.length (diffFrom n l) ?_ ?_ 0 (by omega)
  · refine Ev.step (fun k => spec_l5Different.l0.eq_2 ..) (Ev.ite_neg (by omega) (Ev.const ?_))
    unfold diffFrom
    rw [List.drop_of_length_le (by simp)]
    rfl
  · intro i hi ih
    rw [diffFrom_step n l i hi]
    unfold okD
    refine Ev.step (fun k => spec_l5Different.l0.eq_2 ..) (Ev.ite_pos (by omega) (Ev.ite_pos (by omega) (Ev.bind0 (a := inE n (rd l (i : Int))) ?_ ?_)))
    · rw [l1In_is, wrap_in (by omega) (by omega)]
      unfold inE
      exact congrArg some (decide_eq_decide.mpr (by omega))
    cases he : inE n (rd l (i : Int)) with
    | false => exact Ev.ite_neg (by simp) (Ev.now _)
    | true =>
      refine Ev.ite_pos rfl ?_
      rw [Bool.true_and]
      have key := Ev.loop_to (fun j k => spec_l5Different.l1 k n l i j) i (fun j => !(((List.range i).drop j).any fun j => rd l (i : Int) == rd l (j : Int)) && diffFrom n l (i + 1)) ?_ ?_ 0 (by omega)
      · simpa using key
      · refine Ev.step (fun k => spec_l5Different.l1.eq_2 ..) (Ev.ite_neg (by omega) ?_)
        rw [wrap_nat i (by omega), List.drop_of_length_le (by simp)]
        simpa using ih
      · intro j hj ihj
        refine Ev.step (fun k => spec_l5Different.l1.eq_2 ..) (Ev.ite_pos (by omega) (Ev.ite_pos (by omega) (Ev.ite_pos (by omega) (Ev.ite_pos (by omega) (Ev.ite_pos (by omega) ?_)))))
        rw [range_drop' i j hj, List.any_cons]
        by_cases hb : rd l (i : Int) = rd l (j : Int)
        · rw [show (rd l (i : Int) == rd l (j : Int)) = true by simpa using hb]
          exact Ev.ite_pos hb (Ev.now _)
        · rw [show (rd l (i : Int) == rd l (j : Int)) = false by simpa using hb, Bool.false_or, wrap_nat j (by omega)]
          exact Ev.ite_neg hb ihj
theorem diff2 {n x y : Int} (h : diffB n [x, y] = true) : (0 ≤ x ∧ x < n) ∧ (0 ≤ y ∧ y < n) ∧ x ≠ y := by
  simp [diffB, diffFrom, okD, inE, rd, List.range_succ] at h
  omega
theorem diff3 {n x y z : Int} (h : diffB n [x, y, z] = true) : (0 ≤ x ∧ x < n) ∧ (0 ≤ y ∧ y < n) ∧ (0 ≤ z ∧ z < n) ∧ x ≠ y ∧ y ≠ z ∧ x ≠ z := by
  simp [diffB, diffFrom, okD, inE, rd, List.range_succ] at h
  omega
end Go.Proofs.Ytcojmladlkealaa.Pure

namespace Go.Proofs.Ytcojmladlkealaa.Pure
set_option linter.unusedSimpArgs false
set_option linter.unusedVariables false
open Go.RowKit Go.Proofs.YtcojmladlkealaaW.PrintWords Go.Proofs.Ytcojmladlkealaa.Pl
theorem strOf_snoc (xs : List Int) (n : Int) : strOfNums (xs ++ [n]) = strOfNums xs ++ (⟨#[UInt8.ofNat n.toNat]⟩ : ByteArray) := by
  apply ByteArray.ext
  simp [strOfNums]
theorem strOf_size (xs : List Int) : (strOfNums xs).size = xs.length := by
  simp [strOfNums, ByteArray.size]
theorem strOf_nil : strOfNums [] = (⟨#[]⟩ : ByteArray) := rfl
end Go.Proofs.Ytcojmladlkealaa.Pure

namespace Go.Proofs.Ytcojmladlkealaa.Pure
set_option linter.unusedSimpArgs false
set_option linter.unusedVariables false
open Go.RowKit Go.Proofs.YtcojmladlkealaaW.PrintWords Go.Proofs.Ytcojmladlkealaa.P Go.Proofs.Ytcojmladlkealaa.Pl Go.Proofs.Ytcojmladlkealaa.Rk
/-- A sign as a byte's number. -/
def codeP (s : Int) : Int := if s = 1 then 43 else if s = -1 then 45 else 48
def codesP (n : Nat) (s : ByteArray) (x y : Nat) (i : Nat) : List Int := (List.range i).map fun k : Nat => codeP (sg n s x y k)
theorem codesP_succ (n : Nat) (s : ByteArray) (x y i : Nat) : codesP n s x y (i + 1) = codesP n s x y i ++ [codeP (sg n s x y i)] := by
  simp [codesP, List.range_succ]
theorem codesP_length (n : Nat) (s : ByteArray) (x y i : Nat) : (codesP n s x y i).length = i := by simp [codesP]
theorem sg_three (n : Nat) (hn : n ≤ 7) (s : ByteArray) (x y z : Nat) (hx : x < n) (hy : y < n) (hz : z < n) (h : x ≠ y) : (z = x ∨ z = y) ∧ sg n s x y z = 0 ∨ (z ≠ x ∧ z ≠ y) ∧ (sg n s x y z = 1 ∨ sg n s x y z = -1) := by
  by_cases e : z = x ∨ z = y
  · exact .inl ⟨e, sg_same n hn s x y z (by omega) (by omega) (by omega) (by omega)⟩
  · exact .inr ⟨by omega, sg_pm n hn s x y z hx hy hz h (by omega) (by omega)⟩
theorem spec_pair_ev (n : Nat) (hn : n ≤ 7) (s : ByteArray) (hs : s.size = (tri n).length) (x y : Nat) (hx : x < n) (hy : y < n) (h : x ≠ y) : Ev (fun k => spec_l20Pair.f k n s x y) (strOfNums (codesP n s x y n)) := by
  unfold spec_l20Pair.f
  refine Ev.loop (fun i k => spec_l20Pair.l0 k x y (strOfNums (codesP n s x y i)) i n s) n _ ?_ ?_ 0 (by omega)
  · exact Ev.step (fun k => spec_l20Pair.l0.eq_2 ..) (Ev.ite_neg (by omega) (Ev.now _))
  · intro i hi ih
    rw [codesP_succ, strOf_snoc, ← wrap_nat i (by omega)] at ih
    have hz : (strOfNums (codesP n s x y i)).size + 1 ≤ 9223372036854775807 := by rw [strOf_size, codesP_length]; omega
    refine Ev.step (fun k => spec_l20Pair.l0.eq_2 ..) (Ev.ite_pos (by omega) ?_)
    rcases sg_three n hn s x y i hx hy hi h with ⟨e, h0⟩ | ⟨⟨e1, e2⟩, h0⟩
    · rw [h0] at ih
      have hj : Ev (fun k => spec_l20Pair.j1 k x y (strOfNums (codesP n s x y i)) i true n s) (strOfNums (codesP n s x y n)) :=
        Ev.step (fun k => spec_l20Pair.j1.eq_2 ..) (Ev.ite_pos rfl (Ev.ite_pos hz ih))
      by_cases ex : (i : Int) = x
      · exact Ev.ite_pos ex hj
      · refine Ev.ite_neg ex ?_
        rw [show ((i : Int) == (y : Int)) = true by simp; omega]
        exact hj
    · refine Ev.ite_neg (by omega) ?_
      rw [show ((i : Int) == (y : Int)) = false by simp; omega]
      refine Ev.step (fun k => spec_l20Pair.j1.eq_2 ..) (Ev.ite_neg (by simp) (Ev.bind (l3At_ev n hn s hs x y i hx hy hi h (by omega) (by omega)) ?_))
      rcases h0 with h0 | h0
      · rw [h0] at ih ⊢
        exact Ev.bind0 (a := (⟨#[43]⟩ : ByteArray)) rfl (Ev.ite_pos hz ih)
      · rw [h0] at ih ⊢
        exact Ev.bind0 (a := (⟨#[45]⟩ : ByteArray)) rfl (Ev.ite_pos hz ih)
theorem set_fill (l : List Int) (n i : Nat) (v : Int) (hl : l.length = i) (hi : i < n) : (l ++ List.replicate (n - i) 0).set i v = (l ++ [v]) ++ List.replicate (n - (i + 1)) 0 := by
  rw [List.set_append_right _ _ (by omega), hl, Nat.sub_self, show n - i = (n - (i + 1)) + 1 by omega, List.replicate_succ, List.set_cons_zero]
  simp
theorem impl_pair_ev (n : Nat) (hn : n ≤ 7) (s : ByteArray) (x y : Nat) (hx : x < n) (hy : y < n) (h : x ≠ y) : Ev (fun k => impl_chi_pairText.f k (tab n s) x y) (strOfNums (codesP n s x y n)) := by
  unfold impl_chi_pairText.f
  have hl := tab_length n s
  rw [tab_n]
  refine Ev.ite_pos (by omega) (Ev.ite_pos (by omega) (Ev.ite_pos (by omega) (Ev.bind0 rfl ?_)))
  rw [Int.toNat_natCast, List.length_replicate]
  have key := Ev.loop (fun i k => impl_chi_pairText.l0 k (tab n s) x y (codesP n s x y i ++ List.replicate (n - i) 0) n i) n (strOfNums (codesP n s x y n)) ?_ ?_ 0 (by omega)
  · simpa [codesP] using key
  · refine Ev.step (fun k => impl_chi_pairText.l0.eq_2 ..) (Ev.ite_neg (by omega) (Ev.const ?_))
    simp
  · intro i hi ih
    refine Ev.step (fun k => impl_chi_pairText.l0.eq_2 ..) (Ev.ite_pos (by omega) (Ev.ite_pos (by omega) (Ev.ite_pos (by omega) (Ev.ite_pos (by omega) (Ev.ite_pos (by omega) (Ev.ite_pos (by omega) (Ev.ite_pos (by omega) (Ev.ite_pos (by omega) ?_))))))))
    rw [tab_at n hn s x y i (by omega) (by omega) (by omega), wrap_nat i (by omega), Int.toNat_natCast, set_fill _ n i _ (codesP_length ..) hi]
    rw [codesP_succ] at ih
    have hlen : (i : Int) < ((codesP n s x y i ++ List.replicate (n - i) 0).length : Int) := by simp [codesP_length]; omega
    rcases sg_three n hn s x y i hx hy hi h with ⟨e, h0⟩ | ⟨e, h0 | h0⟩
    · rw [h0] at ih ⊢
      rw [show codeP 0 = bt (⟨#[45, 48, 43]⟩ : ByteArray) (wrap64 (0 + 1)) from by decide +kernel] at ih
      exact Ev.ite_pos (by decide +kernel) (Ev.ite_pos (by decide +kernel) (Ev.ite_pos hlen ih))
    · rw [h0] at ih ⊢
      rw [show codeP 1 = bt (⟨#[45, 48, 43]⟩ : ByteArray) (wrap64 (1 + 1)) from by decide +kernel] at ih
      exact Ev.ite_pos (by decide +kernel) (Ev.ite_pos (by decide +kernel) (Ev.ite_pos hlen ih))
    · rw [h0] at ih ⊢
      rw [show codeP (-1) = bt (⟨#[45, 48, 43]⟩ : ByteArray) (wrap64 (-1 + 1)) from by decide +kernel] at ih
      exact Ev.ite_pos (by decide +kernel) (Ev.ite_pos (by decide +kernel) (Ev.ite_pos hlen ih))
theorem pair_both (n : Int) (s : ByteArray) (x y : Int) : ∃ r, Ev (fun k => spec_PairText.f k n s x y) r ∧ Ev (fun k => impl_PairText.f k n s x y) r := by
  have hS := spec_AreSigns_ev n s
  have hI := impl_AreSigns_ev n s
  unfold spec_PairText.f impl_PairText.f
  have none_ : Ev (fun k => impl_PairText.j0 k x y true n s) (⟨#[]⟩ : ByteArray) := Ev.step (fun k => impl_PairText.j0.eq_2 ..) (Ev.ite_pos rfl (Ev.now _))
  cases hA : isS n s with
  | false =>
    rw [hA] at hS hI
    exact ⟨(⟨#[]⟩ : ByteArray), Ev.bind hS (Ev.ite_neg (by simp) (Ev.now _)), Ev.bind hI (Ev.ite_neg (by simp) none_)⟩
  | true =>
    rw [hA] at hS hI
    obtain ⟨h3, h7, hs, _⟩ := isS_bounds hA
    have dS := spec_l5Different_ev n ⟨h3, h7⟩ [x, y] (by simp)
    have dI := impl_areDifferent_ev n [x, y] (by simp)
    cases hD : diffB n [x, y] with
    | false =>
      rw [hD] at dS dI
      exact ⟨(⟨#[]⟩ : ByteArray), Ev.bind hS (Ev.ite_pos rfl (Ev.bind dS (Ev.ite_neg (by simp) (Ev.now _)))), Ev.bind hI (Ev.ite_pos rfl (Ev.bind dI none_))⟩
    | true =>
      rw [hD] at dS dI
      obtain ⟨hx, hy, hxy⟩ := diff2 hD
      obtain ⟨n, rfl⟩ := Int.eq_ofNat_of_zero_le (show 0 ≤ n by omega)
      obtain ⟨x, rfl⟩ := Int.eq_ofNat_of_zero_le hx.1
      obtain ⟨y, rfl⟩ := Int.eq_ofNat_of_zero_le hy.1
      rw [Int.toNat_natCast] at hs
      refine ⟨strOfNums (codesP n s x y n), Ev.bind hS (Ev.ite_pos rfl (Ev.bind dS (Ev.ite_pos rfl (Ev.bind (spec_pair_ev n (by omega) s hs x y (by omega) (by omega) (by omega)) (Ev.now _))))), Ev.bind hI (Ev.ite_pos rfl (Ev.bind dI (Ev.step (fun k => impl_PairText.j0.eq_2 ..) (Ev.ite_neg (by simp) ?_))))⟩
      exact Ev.bind (tableOf_ev n (by omega) s hs) (Ev.bind (impl_pair_ev n (by omega) s x y (by omega) (by omega) (by omega)) (Ev.now _))
theorem szSigns_eq (n : Int) (s : ByteArray) (a : Int) (h0 : 0 ≤ a) (h1 : a ≤ 1048576) (hl : s.size ≤ 9223372036854775807) : laws_szSigns.f n s a = some (if a < s.size then -1 else a - s.size) := by
  unfold laws_szSigns.f
  rw [wrap_in (by omega) (by omega)]
  by_cases h : a < (s.size : Int)
  · rw [if_pos h, if_pos (by omega)]
  · rw [if_neg h, if_neg (by omega)]
theorem FnExactPairText (s0 : S48) (a1 a2 : Int) (hq : Q48 s0) (_ : I64 a1) (_ : I64 a2) : ∃ k, laws_FnExactPairText.f k s0.f0 s0.f1 a1 a2 = some true := by
  refine Ev.rounds (g := fun k => laws_FnExactPairText.f k s0.f0 s0.f1 a1 a2) ?_
  unfold laws_FnExactPairText.f
  refine Ev.bind0 (szSigns_eq _ _ 1048576 (by omega) (by omega) hq.2) ?_
  by_cases hs : 1048576 < (s0.f1.size : Int)
  · rw [if_pos hs]
    exact Ev.ite_pos (by omega) (Ev.now _)
  rw [if_neg hs]
  refine Ev.ite_neg (by omega) ?_
  obtain ⟨r, h1, h2⟩ := pair_both s0.f0 s0.f1 a1 a2
  exact Ev.bind0 rfl (Ev.bind h1 (Ev.bind0 rfl (Ev.bind h2 (Ev.ite_pos rfl (Ev.now _)))))
end Go.Proofs.Ytcojmladlkealaa.Pure
