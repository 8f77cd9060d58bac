/- What the law FnExactDeepestOf reaches, part 9: functions as plain Lean functions with the proofs that their calls come to them, and plain lemmas over these. Put together by a program (wip/pack.py). -/
import Derived.Test.YteblnjoljbdjjaaKFnExactDeepestOfc
import Derived.Test.YteblnjoljbdjjaaKFnExactDeepestOfh
import Derived.Lib.ConvBytes
namespace Go.Proofs.Yteblnjoljbdjjaa.P
open Go.RowKit Go.Proofs.YteblnjoljbdjjaaW.PrintWords Go.Proofs.YteblnjoljbdjjaaW.PrintLast Go.Proofs.YteblnjoljbdjjaaW.PrintMore
attribute [local go_sem] ptrOf_slice
attribute [local go_sem] min2_str max2_int min2_int max_two min_two max_three min_three max_four min_four
set_option linter.unusedVariables false
set_option linter.unusedSimpArgs false
mutual
def impl_chi_firstBreak.l0 : Nat → List Int → Int → Option (List Int)
 | 0, _, _ => none
 | k + 1, x0, x3 => if 344 ≤ (x0.length : Int) then (if x3 < (chiN x0) then ((impl_quadsOf.f k (chiN x0)).bind fun t747 => (impl_chi_firstBreak.l1 k x0 x3 t747 (t747.length : Int) 0)) else (some ([] : List Int))) else (none)
def impl_chi_firstBreak.l1 : Nat → List Int → Int → List (S174) → Int → Int → Option (List Int)
 | 0, _, _, _, _, _ => none
 | k + 1, x0, x3, x18, x19, x20 => if x20 < x19 then (if 0 ≤ x20 then (if x20 < (x18.length : Int) then (if ((rd_T174 x18 x20).f0) = x3 then (impl_chi_firstBreak.l1 k x0 x3 x18 x19 (wrap64 (x20 + 1))) else (if ((rd_T174 x18 x20).f1) = x3 then (impl_chi_firstBreak.l1 k x0 x3 x18 x19 (wrap64 (x20 + 1))) else (if ((rd_T174 x18 x20).f2) = x3 then (impl_chi_firstBreak.l1 k x0 x3 x18 x19 (wrap64 (x20 + 1))) else (if ((rd_T174 x18 x20).f3) = x3 then (impl_chi_firstBreak.l1 k x0 x3 x18 x19 (wrap64 (x20 + 1))) else ((impl_chi_breaks.f x0 x3 ((rd_T174 x18 x20).f0) ((rd_T174 x18 x20).f1) ((rd_T174 x18 x20).f2) ((rd_T174 x18 x20).f3)).bind fun t752 => (if t752 = true then (some (([x3, (rd_T174 x18 x20).f0, (rd_T174 x18 x20).f1, (rd_T174 x18 x20).f2, (rd_T174 x18 x20).f3] : List Int))) else (impl_chi_firstBreak.l1 k x0 x3 x18 x19 (wrap64 (x20 + 1))))))))) else (none)) else (none)) else (impl_chi_firstBreak.l0 k x0 (wrap64 (x3 + 1)))
end
def impl_chi_firstBreak.f (k : Nat) (l0 : List Int) : Option (List Int) := impl_chi_firstBreak.l0 k l0 0
theorem impl_chi_firstBreak.mono_l : ∀ k, (∀ y0 y1, LeO (impl_chi_firstBreak.l0 k y0 y1) (impl_chi_firstBreak.l0 (k + 1) y0 y1)) ∧ (∀ y0 y1 y2 y3 y4, LeO (impl_chi_firstBreak.l1 k y0 y1 y2 y3 y4) (impl_chi_firstBreak.l1 (k + 1) y0 y1 y2 y3 y4))
 | 0 => ⟨fun _ _ r h => by simp [impl_chi_firstBreak.l0] at h, fun _ _ _ _ _ r h => by simp [impl_chi_firstBreak.l1] at h⟩
 | k + 1 => by
  obtain ⟨ih0, ih1⟩ := impl_chi_firstBreak.mono_l k
  refine ⟨?_, ?_⟩
  ·intro y0 y1
   unfold impl_chi_firstBreak.l0
   repeat' first
   | (with_reducible exact ih0 _ _)
   | (with_reducible exact ih1 _ _ _ _ _)
   | (with_reducible exact impl_quadsOf.mono _ _)
   | (with_reducible exact LeO.refl _)
   | (with_reducible exact LeO.none _)
   | (with_reducible refine LeO.ite ?_ ?_)
   | (with_reducible refine LeO.bind ?_ (fun _ => ?_))
   | exact ih0 _ _
   | exact ih1 _ _ _ _ _
   | exact impl_quadsOf.mono _ _
   | exact LeO.none _
   | refine LeO.ite ?_ ?_
   | refine LeO.bind ?_ (fun _ => ?_)
  ·intro y0 y1 y2 y3 y4
   unfold impl_chi_firstBreak.l1
   repeat' first
   | (with_reducible exact ih0 _ _)
   | (with_reducible exact ih1 _ _ _ _ _)
   | (with_reducible exact impl_quadsOf.mono _ _)
   | (with_reducible exact LeO.refl _)
   | (with_reducible exact LeO.none _)
   | (with_reducible refine LeO.ite ?_ ?_)
   | (with_reducible refine LeO.bind ?_ (fun _ => ?_))
   | exact ih0 _ _
   | exact ih1 _ _ _ _ _
   | exact impl_quadsOf.mono _ _
   | exact LeO.none _
   | refine LeO.ite ?_ ?_
   | refine LeO.bind ?_ (fun _ => ?_)
theorem impl_chi_firstBreak.mono : ∀ a0 k, LeO (impl_chi_firstBreak.f k a0) (impl_chi_firstBreak.f (k + 1) a0) := by
 intro a0 k
 obtain ⟨ih0, ih1⟩ := impl_chi_firstBreak.mono_l k
 unfold impl_chi_firstBreak.f
 repeat' first
   | (with_reducible exact ih0 _ _)
   | (with_reducible exact ih1 _ _ _ _ _)
   | (with_reducible exact impl_quadsOf.mono _ _)
   | (with_reducible exact LeO.refl _)
   | (with_reducible exact LeO.none _)
   | (with_reducible refine LeO.ite ?_ ?_)
   | (with_reducible refine LeO.bind ?_ (fun _ => ?_))
   | exact ih0 _ _
   | exact ih1 _ _ _ _ _
   | exact impl_quadsOf.mono _ _
   | exact LeO.none _
   | refine LeO.ite ?_ ?_
   | refine LeO.bind ?_ (fun _ => ?_)
set_option maxHeartbeats 8000000 in
set_option maxRecDepth 100000 in
theorem impl_chi_firstBreak.calls (k : Nat) (A0 : Option Addr) (c0 : Nat) (l0 : List Int) (r : List Int) (w : World) (hr0 : Kd.C (Kd.int .i64) w A0 l0.length l0) (hc0 : l0.length ≤ c0) (h : impl_chi_firstBreak.f k l0 = some r) :
  Calls Try.prog 208 #[.pointer A0] w fun e w' => ∃ v0_ : Value, e = .returned (v0_) ∧ (Kd.R (Kd.int .i64) 3 w' w.heap.size (fun _ => True) v0_ r ∧ NZ v0_ r) ∧ Below w.heap.size w w' := by
 have hu174 := Try.underlying174
 have HR0 := Aside0.mk hr0
 have HC0 := Aside0.mk hc0
 clear hr0 hc0
 have HB := Aside0.mk (Below.refl w.heap.size w)
 have H : (impl_chi_firstBreak.l0 k l0 0) = some r := h
 clear h
 have H' := Aside0.mk H
 clear H
 go_enter Try.func208, Try.ntmps208
 go_wp2
 go_loopg [3] k (fun kq v3 w' => ∃ (x3_1 : Int), v3 = .int .i64 x3_1 ∧ Aside0 (impl_chi_firstBreak.l0 kq l0 x3_1 = some r) ∧ Aside0 (kq ≤ k) ∧ Aside0 (Below w.heap.size w w'))
 case atStart => exact ⟨(0), (by first | rfl | (simp; done) | (simp [*]; done)), H', ⟨Nat.le_refl _⟩, ⟨by repeat (first | (with_reducible first | exact HB.out | apply below_alloc | apply pw_below_drewN | apply below_drew1) | exact HB.out)⟩⟩
 case round =>
  clear H'
  obtain ⟨x3_1, rfl, HA, HK1, HB⟩ := hrel
  cases gk with
  | zero => exact absurd HA.out (by simp [impl_chi_firstBreak.l0])
  | succ k1 =>
   have H := HA.out
   clear HA
   simp only [impl_chi_firstBreak.l0] at H
   by_cases c2 : 344 ≤ (l0.length : Int)
   ·rw [if_pos c2] at H
    have c2b0 := eq_true c2
    have c2b1 : decide (344 ≤ (l0.length : Int)) = true := decide_eq_true c2
    clear c2
    by_cases c3 : x3_1 < (chiN l0)
    ·rw [if_pos c3] at H
     have c3b0 : decide (x3_1 < (chiN l0)) = true := decide_eq_true c3
     clear c3
     replace H := Option.bind_eq_some_iff.mp H
     obtain ⟨t747, A40, H⟩ := H
     replace H : (impl_chi_firstBreak.l1 k1 l0 x3_1 t747 (t747.length : Int) 0) = some r := H
     have A4 := Aside0.mk A40
     clear A40
     have H' := Aside0.mk H
     clear H
     have q745 : 344 ≤ (l0.length : Int) := of_decide_eq_true (by first | (with_reducible assumption) | assumption)
     obtain ⟨ad745, e745, hx745_0⟩ := chi_n HR0.out q745
     cases e745
     replace hx745_0 := (HB.out.cell (World.block_lt_of_cell? w _ hx745_0)).trans hx745_0
     have q746 : 344 ≤ (l0.length : Int) := of_decide_eq_true (by first | (with_reducible assumption) | assumption)
     obtain ⟨ad746, e746, hx746_0⟩ := chi_n HR0.out q746
     obtain rfl : ad745 = ad746 := (by injection e746)
     replace hx746_0 := (HB.out.cell (World.block_lt_of_cell? w _ hx746_0)).trans hx746_0
     go_wp2_with (first | ((with_reducible refine gate_callee (f := 191) rfl ?_); refine goesL_ (some 18) rfl rfl Try.func191 (by kernel_rfl) rfl #[.int .i64 (chiN l0)] rfl (by (try simp only [List.map_toArray, List.map_cons, List.map_nil]); first | done | rfl | (simp only [List.length_drop, List.length_take]; rfl)) ?_; (with_reducible refine (impl_quadsOf.calls k1 (chiN l0) t747 _ A4.out).mono ?_); rintro e w5 ⟨v748, rfl, ho0, hb⟩; refine ⟨_, rfl, ?_⟩; have n0_ := Aside0.mk (Kd.R_lower ho0 (below_size (by repeat (first | (with_reducible first | exact HB.out | apply below_alloc | apply pw_below_drewN | apply below_drew1) | exact HB.out)))); have n1_ := Aside0.mk (below_step (by repeat (first | (with_reducible first | exact HB.out | apply below_alloc | apply pw_below_drewN | apply below_drew1) | exact HB.out)) hb); clear HB; have HO749 := n0_; have HB := n1_; clear n0_ n1_; (try clear hb); (try clear hb2); (try clear hk); (try clear hi); (try clear ho0); obtain ⟨Ao6, co6, eo6⟩ := Kd.R_slice HO749.out; subst eo6))
     go_loopg [20] k1 (fun kq v20 w' => ∃ (x20_2 : Int), v20 = .int .i64 x20_2 ∧ Aside0 (impl_chi_firstBreak.l1 kq l0 x3_1 t747 (t747.length : Int) x20_2 = some r) ∧ Aside0 (kq ≤ k1) ∧ Aside0 (Kd.R k174 174 w' w.heap.size (fun _ => True) (.slice Ao6 t747.length co6) t747) ∧ Aside0 (Below w.heap.size w w'))
     case atStart => exact ⟨(0), (by first | rfl | (simp; done) | (simp [*]; done)), H', ⟨Nat.le_refl _⟩, ⟨by (with_reducible repeat (first | apply Kd.R_alloc | apply Kd.R_drewN | apply Kd.R_drew)); exact HO749.out⟩, ⟨by repeat (first | (with_reducible first | exact HB.out | apply below_alloc | apply pw_below_drewN | apply below_drew1) | exact HB.out)⟩⟩
     case round =>
      clear H'
      try clear c1
      try clear c2
      try clear c2b0
      try clear c2b1
      try clear p2
      try clear c3
      try clear c3b0
      try clear hx745_0
      try clear hx746_0
      try clear q745
      try clear q746
      obtain ⟨x20_2, rfl, HA, HK2, HO_18, HB⟩ := hrel
      cases gk with
      | zero => exact absurd HA.out (by simp [impl_chi_firstBreak.l1])
      | succ k2 =>
       have H := HA.out
       clear HA
       simp only [impl_chi_firstBreak.l1] at H
       by_cases c7 : x20_2 < (t747.length : Int)
       ·rw [if_pos c7] at H
        have c7b0 : decide (x20_2 < (t747.length : Int)) = true := decide_eq_true c7
        clear c7
        by_cases c8 : 0 ≤ x20_2
        ·rw [if_pos c8] at H
         have c8b0 : decide (0 ≤ x20_2) = true := decide_eq_true c8
         clear c8
         by_cases c9 : x20_2 < (t747.length : Int)
         ·rw [if_pos c9] at H
          have c9b0 : decide (x20_2 < (t747.length : Int)) = true := decide_eq_true c9
          clear c9
          by_cases c10 : ((rd_T174 t747 x20_2).f0) = x3_1
          ·rw [if_pos c10] at H
           have c10b0 : (((rd_T174 t747 x20_2).f0) == x3_1) = true := beq_iff_eq.mpr c10
           have c10b1 : (((rd_T174 t747 x20_2).f0) != x3_1) = false := bne_eq_false_iff_eq.mpr c10
           clear c10
           have H' := Aside0.mk H
           clear H
           have p750 : 0 ≤ (x20_2 : Int) := of_decide_eq_true (by first | (with_reducible assumption) | assumption)
           have q750 : x20_2 < (t747.length : Int) := of_decide_eq_true (by first | (with_reducible assumption) | assumption)
           obtain ⟨ad750, e750, hx750_0, hx750_1, hx750_2, hx750_3⟩ := at_T174 (Kd.R_reads' HO_18.out).2.2 x20_2 p750 q750
           cases e750
           replace p750 := eq_true p750
           replace q750 := eq_true q750
           go_wp2_with (first | ((with_reducible refine gate_dst (N := 5) rfl ?_); refine box_event ?hg (N := 5) ?hd (cs := #[.int .i64 0, .int .i64 0, .int .i64 0, .int .i64 0]) (t := 174) ?hr ?_; (case hd => rfl); (case hg => rfl); (case hr => first | (go_simp; done) | (go_simp; rfl)); intro gb751 hg w11 hbox hb; have n0_ := Aside0.mk (Kd.R_below (Kd.R_elderB (by (with_reducible repeat (first | apply Kd.R_alloc | apply Kd.R_drewN | apply Kd.R_drew)); exact HO_18.out) gb751 (Nat.le_of_eq hg.symm)) hb); have n1_ := Aside0.mk (below_step (by repeat (first | (with_reducible first | exact HB.out | apply below_alloc | apply pw_below_drewN | apply below_drew1) | exact HB.out)) hb); have n2_ := Aside0.mk (hbox); have n3_ := Aside0.mk ((by rw [hg]; exact (below_size (by repeat (first | (with_reducible first | exact HB.out | apply below_alloc | apply pw_below_drewN | apply below_drew1) | exact HB.out))) : w.heap.size ≤ gb751)); have n4_ := Aside0.mk ((by rw [hg]; exact (below_size (by repeat (first | (with_reducible first | exact HB.out | apply below_alloc | apply pw_below_drewN | apply below_drew1) | exact HB.out))) : w.heap.size ≤ gb751)); clear HO_18; clear HB; have HO_18 := n0_; have HB := n1_; have BK751 := n2_; have GW751 := n3_; have GE751 := n4_; clear n0_ n1_ n2_ n3_ n4_; clear hb hbox hg; have hcz12_0 : w11.cell? ⟨gb751, 0, none⟩ = some (.int .i64 0) := (blk_cell BK751.out 0).trans rfl; have hcz12_1 : w11.cell? ⟨gb751, 1, none⟩ = some (.int .i64 0) := (blk_cell BK751.out 1).trans rfl; have hcz12_2 : w11.cell? ⟨gb751, 2, none⟩ = some (.int .i64 0) := (blk_cell BK751.out 2).trans rfl; have hcz12_3 : w11.cell? ⟨gb751, 3, none⟩ = some (.int .i64 0) := (blk_cell BK751.out 3).trans rfl; have hfz12_0 := blk_frozen BK751.out 0; have hfz12_1 := blk_frozen BK751.out 1; have hfz12_2 := blk_frozen BK751.out 2; have hfz12_3 := blk_frozen BK751.out 3))
           go_roundg k2
           case measure => have := HK1.out; have := HK2.out; omega
           case rel => exact ⟨(wrap64 (x20_2 + 1)), (by first | rfl | (simp; done) | (simp [*]; done)), H', ⟨by have := HK1.out; have := HK2.out; omega⟩, ⟨by (with_reducible repeat (first | apply Kd.R_alloc | apply Kd.R_drewN | apply Kd.R_drew)); exact Kd.R_mono (Kd.R_far (p := ⟨gb751, 3, none⟩) (Kd.R_far (p := ⟨gb751, 2, none⟩) (Kd.R_far (p := ⟨gb751, 1, none⟩) (Kd.R_far (p := ⟨gb751, 0, none⟩) (Kd.R_mono HO_18.out (fun k_ hk => (⟨hk, hk.2⟩ : _ ∧ k_ ≠ gb751))) (fun _ hk => hk.2) (.int .i64 ((rd_T174 t747 x20_2).f0))) (fun _ hk => hk.2) (.int .i64 ((rd_T174 t747 x20_2).f1))) (fun _ hk => hk.2) (.int .i64 ((rd_T174 t747 x20_2).f2))) (fun _ hk => hk.2) (.int .i64 ((rd_T174 t747 x20_2).f3))) (fun _ hk => trivial)⟩, ⟨by repeat (first | (with_reducible first | exact HB.out | apply below_alloc | apply pw_below_drewN | apply below_drew1 | refine below_set ?_ GE751.out) | exact HB.out)⟩⟩
          ·rw [if_neg c10] at H
           have c10b0 : (((rd_T174 t747 x20_2).f0) == x3_1) = false := beq_eq_false_iff_ne.mpr c10
           have c10b1 : (((rd_T174 t747 x20_2).f0) != x3_1) = true := bne_iff_ne.mpr c10
           by_cases c13 : ((rd_T174 t747 x20_2).f1) = x3_1
           ·rw [if_pos c13] at H
            have c13b0 : (((rd_T174 t747 x20_2).f1) == x3_1) = true := beq_iff_eq.mpr c13
            have c13b1 : (((rd_T174 t747 x20_2).f1) != x3_1) = false := bne_eq_false_iff_eq.mpr c13
            clear c13
            have H' := Aside0.mk H
            clear H
            have p750 : 0 ≤ (x20_2 : Int) := of_decide_eq_true (by first | (with_reducible assumption) | assumption)
            have q750 : x20_2 < (t747.length : Int) := of_decide_eq_true (by first | (with_reducible assumption) | assumption)
            obtain ⟨ad750, e750, hx750_0, hx750_1, hx750_2, hx750_3⟩ := at_T174 (Kd.R_reads' HO_18.out).2.2 x20_2 p750 q750
            cases e750
            replace p750 := eq_true p750
            replace q750 := eq_true q750
            go_wp2_with (first | ((with_reducible refine gate_dst (N := 5) rfl ?_); refine box_event ?hg (N := 5) ?hd (cs := #[.int .i64 0, .int .i64 0, .int .i64 0, .int .i64 0]) (t := 174) ?hr ?_; (case hd => rfl); (case hg => rfl); (case hr => first | (go_simp; done) | (go_simp; rfl)); intro gb751 hg w14 hbox hb; have n0_ := Aside0.mk (Kd.R_below (Kd.R_elderB (by (with_reducible repeat (first | apply Kd.R_alloc | apply Kd.R_drewN | apply Kd.R_drew)); exact HO_18.out) gb751 (Nat.le_of_eq hg.symm)) hb); have n1_ := Aside0.mk (below_step (by repeat (first | (with_reducible first | exact HB.out | apply below_alloc | apply pw_below_drewN | apply below_drew1) | exact HB.out)) hb); have n2_ := Aside0.mk (hbox); have n3_ := Aside0.mk ((by rw [hg]; exact (below_size (by repeat (first | (with_reducible first | exact HB.out | apply below_alloc | apply pw_below_drewN | apply below_drew1) | exact HB.out))) : w.heap.size ≤ gb751)); have n4_ := Aside0.mk ((by rw [hg]; exact (below_size (by repeat (first | (with_reducible first | exact HB.out | apply below_alloc | apply pw_below_drewN | apply below_drew1) | exact HB.out))) : w.heap.size ≤ gb751)); clear HO_18; clear HB; have HO_18 := n0_; have HB := n1_; have BK751 := n2_; have GW751 := n3_; have GE751 := n4_; clear n0_ n1_ n2_ n3_ n4_; clear hb hbox hg; have hcz15_0 : w14.cell? ⟨gb751, 0, none⟩ = some (.int .i64 0) := (blk_cell BK751.out 0).trans rfl; have hcz15_1 : w14.cell? ⟨gb751, 1, none⟩ = some (.int .i64 0) := (blk_cell BK751.out 1).trans rfl; have hcz15_2 : w14.cell? ⟨gb751, 2, none⟩ = some (.int .i64 0) := (blk_cell BK751.out 2).trans rfl; have hcz15_3 : w14.cell? ⟨gb751, 3, none⟩ = some (.int .i64 0) := (blk_cell BK751.out 3).trans rfl; have hfz15_0 := blk_frozen BK751.out 0; have hfz15_1 := blk_frozen BK751.out 1; have hfz15_2 := blk_frozen BK751.out 2; have hfz15_3 := blk_frozen BK751.out 3))
            go_roundg k2
            case measure => have := HK1.out; have := HK2.out; omega
            case rel => exact ⟨(wrap64 (x20_2 + 1)), (by first | rfl | (simp; done) | (simp [*]; done)), H', ⟨by have := HK1.out; have := HK2.out; omega⟩, ⟨by (with_reducible repeat (first | apply Kd.R_alloc | apply Kd.R_drewN | apply Kd.R_drew)); exact Kd.R_mono (Kd.R_far (p := ⟨gb751, 3, none⟩) (Kd.R_far (p := ⟨gb751, 2, none⟩) (Kd.R_far (p := ⟨gb751, 1, none⟩) (Kd.R_far (p := ⟨gb751, 0, none⟩) (Kd.R_mono HO_18.out (fun k_ hk => (⟨hk, hk.2⟩ : _ ∧ k_ ≠ gb751))) (fun _ hk => hk.2) (.int .i64 ((rd_T174 t747 x20_2).f0))) (fun _ hk => hk.2) (.int .i64 ((rd_T174 t747 x20_2).f1))) (fun _ hk => hk.2) (.int .i64 ((rd_T174 t747 x20_2).f2))) (fun _ hk => hk.2) (.int .i64 ((rd_T174 t747 x20_2).f3))) (fun _ hk => trivial)⟩, ⟨by repeat (first | (with_reducible first | exact HB.out | apply below_alloc | apply pw_below_drewN | apply below_drew1 | refine below_set ?_ GE751.out) | exact HB.out)⟩⟩
           ·rw [if_neg c13] at H
            have c13b0 : (((rd_T174 t747 x20_2).f1) == x3_1) = false := beq_eq_false_iff_ne.mpr c13
            have c13b1 : (((rd_T174 t747 x20_2).f1) != x3_1) = true := bne_iff_ne.mpr c13
            by_cases c16 : ((rd_T174 t747 x20_2).f2) = x3_1
            ·rw [if_pos c16] at H
             have c16b0 : (((rd_T174 t747 x20_2).f2) == x3_1) = true := beq_iff_eq.mpr c16
             have c16b1 : (((rd_T174 t747 x20_2).f2) != x3_1) = false := bne_eq_false_iff_eq.mpr c16
             clear c16
             have H' := Aside0.mk H
             clear H
             have p750 : 0 ≤ (x20_2 : Int) := of_decide_eq_true (by first | (with_reducible assumption) | assumption)
             have q750 : x20_2 < (t747.length : Int) := of_decide_eq_true (by first | (with_reducible assumption) | assumption)
             obtain ⟨ad750, e750, hx750_0, hx750_1, hx750_2, hx750_3⟩ := at_T174 (Kd.R_reads' HO_18.out).2.2 x20_2 p750 q750
             cases e750
             replace p750 := eq_true p750
             replace q750 := eq_true q750
             go_wp2_with (first | ((with_reducible refine gate_dst (N := 5) rfl ?_); refine box_event ?hg (N := 5) ?hd (cs := #[.int .i64 0, .int .i64 0, .int .i64 0, .int .i64 0]) (t := 174) ?hr ?_; (case hd => rfl); (case hg => rfl); (case hr => first | (go_simp; done) | (go_simp; rfl)); intro gb751 hg w17 hbox hb; have n0_ := Aside0.mk (Kd.R_below (Kd.R_elderB (by (with_reducible repeat (first | apply Kd.R_alloc | apply Kd.R_drewN | apply Kd.R_drew)); exact HO_18.out) gb751 (Nat.le_of_eq hg.symm)) hb); have n1_ := Aside0.mk (below_step (by repeat (first | (with_reducible first | exact HB.out | apply below_alloc | apply pw_below_drewN | apply below_drew1) | exact HB.out)) hb); have n2_ := Aside0.mk (hbox); have n3_ := Aside0.mk ((by rw [hg]; exact (below_size (by repeat (first | (with_reducible first | exact HB.out | apply below_alloc | apply pw_below_drewN | apply below_drew1) | exact HB.out))) : w.heap.size ≤ gb751)); have n4_ := Aside0.mk ((by rw [hg]; exact (below_size (by repeat (first | (with_reducible first | exact HB.out | apply below_alloc | apply pw_below_drewN | apply below_drew1) | exact HB.out))) : w.heap.size ≤ gb751)); clear HO_18; clear HB; have HO_18 := n0_; have HB := n1_; have BK751 := n2_; have GW751 := n3_; have GE751 := n4_; clear n0_ n1_ n2_ n3_ n4_; clear hb hbox hg; have hcz18_0 : w17.cell? ⟨gb751, 0, none⟩ = some (.int .i64 0) := (blk_cell BK751.out 0).trans rfl; have hcz18_1 : w17.cell? ⟨gb751, 1, none⟩ = some (.int .i64 0) := (blk_cell BK751.out 1).trans rfl; have hcz18_2 : w17.cell? ⟨gb751, 2, none⟩ = some (.int .i64 0) := (blk_cell BK751.out 2).trans rfl; have hcz18_3 : w17.cell? ⟨gb751, 3, none⟩ = some (.int .i64 0) := (blk_cell BK751.out 3).trans rfl; have hfz18_0 := blk_frozen BK751.out 0; have hfz18_1 := blk_frozen BK751.out 1; have hfz18_2 := blk_frozen BK751.out 2; have hfz18_3 := blk_frozen BK751.out 3))
             go_roundg k2
             case measure => have := HK1.out; have := HK2.out; omega
             case rel => exact ⟨(wrap64 (x20_2 + 1)), (by first | rfl | (simp; done) | (simp [*]; done)), H', ⟨by have := HK1.out; have := HK2.out; omega⟩, ⟨by (with_reducible repeat (first | apply Kd.R_alloc | apply Kd.R_drewN | apply Kd.R_drew)); exact Kd.R_mono (Kd.R_far (p := ⟨gb751, 3, none⟩) (Kd.R_far (p := ⟨gb751, 2, none⟩) (Kd.R_far (p := ⟨gb751, 1, none⟩) (Kd.R_far (p := ⟨gb751, 0, none⟩) (Kd.R_mono HO_18.out (fun k_ hk => (⟨hk, hk.2⟩ : _ ∧ k_ ≠ gb751))) (fun _ hk => hk.2) (.int .i64 ((rd_T174 t747 x20_2).f0))) (fun _ hk => hk.2) (.int .i64 ((rd_T174 t747 x20_2).f1))) (fun _ hk => hk.2) (.int .i64 ((rd_T174 t747 x20_2).f2))) (fun _ hk => hk.2) (.int .i64 ((rd_T174 t747 x20_2).f3))) (fun _ hk => trivial)⟩, ⟨by repeat (first | (with_reducible first | exact HB.out | apply below_alloc | apply pw_below_drewN | apply below_drew1 | refine below_set ?_ GE751.out) | exact HB.out)⟩⟩
            ·rw [if_neg c16] at H
             have c16b0 : (((rd_T174 t747 x20_2).f2) == x3_1) = false := beq_eq_false_iff_ne.mpr c16
             have c16b1 : (((rd_T174 t747 x20_2).f2) != x3_1) = true := bne_iff_ne.mpr c16
             by_cases c19 : ((rd_T174 t747 x20_2).f3) = x3_1
             ·rw [if_pos c19] at H
              have c19b0 : (((rd_T174 t747 x20_2).f3) == x3_1) = true := beq_iff_eq.mpr c19
              have c19b1 : (((rd_T174 t747 x20_2).f3) != x3_1) = false := bne_eq_false_iff_eq.mpr c19
              clear c19
              have H' := Aside0.mk H
              clear H
              have p750 : 0 ≤ (x20_2 : Int) := of_decide_eq_true (by first | (with_reducible assumption) | assumption)
              have q750 : x20_2 < (t747.length : Int) := of_decide_eq_true (by first | (with_reducible assumption) | assumption)
              obtain ⟨ad750, e750, hx750_0, hx750_1, hx750_2, hx750_3⟩ := at_T174 (Kd.R_reads' HO_18.out).2.2 x20_2 p750 q750
              cases e750
              replace p750 := eq_true p750
              replace q750 := eq_true q750
              go_wp2_with (first | ((with_reducible refine gate_dst (N := 5) rfl ?_); refine box_event ?hg (N := 5) ?hd (cs := #[.int .i64 0, .int .i64 0, .int .i64 0, .int .i64 0]) (t := 174) ?hr ?_; (case hd => rfl); (case hg => rfl); (case hr => first | (go_simp; done) | (go_simp; rfl)); intro gb751 hg w20 hbox hb; have n0_ := Aside0.mk (Kd.R_below (Kd.R_elderB (by (with_reducible repeat (first | apply Kd.R_alloc | apply Kd.R_drewN | apply Kd.R_drew)); exact HO_18.out) gb751 (Nat.le_of_eq hg.symm)) hb); have n1_ := Aside0.mk (below_step (by repeat (first | (with_reducible first | exact HB.out | apply below_alloc | apply pw_below_drewN | apply below_drew1) | exact HB.out)) hb); have n2_ := Aside0.mk (hbox); have n3_ := Aside0.mk ((by rw [hg]; exact (below_size (by repeat (first | (with_reducible first | exact HB.out | apply below_alloc | apply pw_below_drewN | apply below_drew1) | exact HB.out))) : w.heap.size ≤ gb751)); have n4_ := Aside0.mk ((by rw [hg]; exact (below_size (by repeat (first | (with_reducible first | exact HB.out | apply below_alloc | apply pw_below_drewN | apply below_drew1) | exact HB.out))) : w.heap.size ≤ gb751)); clear HO_18; clear HB; have HO_18 := n0_; have HB := n1_; have BK751 := n2_; have GW751 := n3_; have GE751 := n4_; clear n0_ n1_ n2_ n3_ n4_; clear hb hbox hg; have hcz21_0 : w20.cell? ⟨gb751, 0, none⟩ = some (.int .i64 0) := (blk_cell BK751.out 0).trans rfl; have hcz21_1 : w20.cell? ⟨gb751, 1, none⟩ = some (.int .i64 0) := (blk_cell BK751.out 1).trans rfl; have hcz21_2 : w20.cell? ⟨gb751, 2, none⟩ = some (.int .i64 0) := (blk_cell BK751.out 2).trans rfl; have hcz21_3 : w20.cell? ⟨gb751, 3, none⟩ = some (.int .i64 0) := (blk_cell BK751.out 3).trans rfl; have hfz21_0 := blk_frozen BK751.out 0; have hfz21_1 := blk_frozen BK751.out 1; have hfz21_2 := blk_frozen BK751.out 2; have hfz21_3 := blk_frozen BK751.out 3))
              go_roundg k2
              case measure => have := HK1.out; have := HK2.out; omega
              case rel => exact ⟨(wrap64 (x20_2 + 1)), (by first | rfl | (simp; done) | (simp [*]; done)), H', ⟨by have := HK1.out; have := HK2.out; omega⟩, ⟨by (with_reducible repeat (first | apply Kd.R_alloc | apply Kd.R_drewN | apply Kd.R_drew)); exact Kd.R_mono (Kd.R_far (p := ⟨gb751, 3, none⟩) (Kd.R_far (p := ⟨gb751, 2, none⟩) (Kd.R_far (p := ⟨gb751, 1, none⟩) (Kd.R_far (p := ⟨gb751, 0, none⟩) (Kd.R_mono HO_18.out (fun k_ hk => (⟨hk, hk.2⟩ : _ ∧ k_ ≠ gb751))) (fun _ hk => hk.2) (.int .i64 ((rd_T174 t747 x20_2).f0))) (fun _ hk => hk.2) (.int .i64 ((rd_T174 t747 x20_2).f1))) (fun _ hk => hk.2) (.int .i64 ((rd_T174 t747 x20_2).f2))) (fun _ hk => hk.2) (.int .i64 ((rd_T174 t747 x20_2).f3))) (fun _ hk => trivial)⟩, ⟨by repeat (first | (with_reducible first | exact HB.out | apply below_alloc | apply pw_below_drewN | apply below_drew1 | refine below_set ?_ GE751.out) | exact HB.out)⟩⟩
             ·rw [if_neg c19] at H
              have c19b0 : (((rd_T174 t747 x20_2).f3) == x3_1) = false := beq_eq_false_iff_ne.mpr c19
              have c19b1 : (((rd_T174 t747 x20_2).f3) != x3_1) = true := bne_iff_ne.mpr c19
              replace H := Option.bind_eq_some_iff.mp H
              obtain ⟨t752, A220, H⟩ := H
              replace H : (if t752 = true then (some (([x3_1, (rd_T174 t747 x20_2).f0, (rd_T174 t747 x20_2).f1, (rd_T174 t747 x20_2).f2, (rd_T174 t747 x20_2).f3] : List Int))) else (impl_chi_firstBreak.l1 k2 l0 x3_1 t747 (t747.length : Int) (wrap64 (x20_2 + 1)))) = some r := H
              have A22 := Aside0.mk A220
              clear A220
              by_cases c23 : t752 = true
              ·subst c23
               have H1 : (some (([x3_1, (rd_T174 t747 x20_2).f0, (rd_T174 t747 x20_2).f1, (rd_T174 t747 x20_2).f2, (rd_T174 t747 x20_2).f3] : List Int))) = some r := by rw [if_pos rfl] at H; exact H
               clear H
               have H := H1
               clear H1
               obtain ⟨y753, hy753⟩ : ∃ y_ : List Int, y_ = (([x3_1, (rd_T174 t747 x20_2).f0, (rd_T174 t747 x20_2).f1, (rd_T174 t747 x20_2).f2, (rd_T174 t747 x20_2).f3] : List Int)) := ⟨_, rfl⟩
               replace H : (some y753) = some r := by first | (rw [hy753]; with_reducible exact H) | (have H2_ := (Option.bind_some _ _).symm.trans H; rw [hy753]; with_reducible exact H2_) | (have H2_ := (Option.bind_some _ _).symm.trans H; with_reducible exact H2_) | with_reducible exact H | (rw [hy753]; exact H) | exact H
               have Ny753 := Aside0.mk hy753
               clear hy753
               obtain rfl := Option.some.inj H
               have p750 : 0 ≤ (x20_2 : Int) := of_decide_eq_true (by first | (with_reducible assumption) | assumption)
               have q750 : x20_2 < (t747.length : Int) := of_decide_eq_true (by first | (with_reducible assumption) | assumption)
               obtain ⟨ad750, e750, hx750_0, hx750_1, hx750_2, hx750_3⟩ := at_T174 (Kd.R_reads' HO_18.out).2.2 x20_2 p750 q750
               cases e750
               replace p750 := eq_true p750
               replace q750 := eq_true q750
               go_wp2_with (first | ((with_reducible refine gate_dst (N := 5) rfl ?_); refine box_event ?hg (N := 5) ?hd (cs := #[.int .i64 0, .int .i64 0, .int .i64 0, .int .i64 0]) (t := 174) ?hr ?_; (case hd => rfl); (case hg => rfl); (case hr => first | (go_simp; done) | (go_simp; rfl)); intro gb751 hg w24 hbox hb; have n0_ := Aside0.mk (Kd.R_below (Kd.R_elderB (by (with_reducible repeat (first | apply Kd.R_alloc | apply Kd.R_drewN | apply Kd.R_drew)); exact HO_18.out) gb751 (Nat.le_of_eq hg.symm)) hb); have n1_ := Aside0.mk (below_step (by repeat (first | (with_reducible first | exact HB.out | apply below_alloc | apply pw_below_drewN | apply below_drew1) | exact HB.out)) hb); have n2_ := Aside0.mk (hbox); have n3_ := Aside0.mk ((by rw [hg]; exact (below_size (by repeat (first | (with_reducible first | exact HB.out | apply below_alloc | apply pw_below_drewN | apply below_drew1) | exact HB.out))) : w.heap.size ≤ gb751)); have n4_ := Aside0.mk ((by rw [hg]; exact (below_size (by repeat (first | (with_reducible first | exact HB.out | apply below_alloc | apply pw_below_drewN | apply below_drew1) | exact HB.out))) : w.heap.size ≤ gb751)); clear HO_18; clear HB; have HO_18 := n0_; have HB := n1_; have BK751 := n2_; have GW751 := n3_; have GE751 := n4_; clear n0_ n1_ n2_ n3_ n4_; clear hb hbox hg; have hcz25_0 : w24.cell? ⟨gb751, 0, none⟩ = some (.int .i64 0) := (blk_cell BK751.out 0).trans rfl; have hcz25_1 : w24.cell? ⟨gb751, 1, none⟩ = some (.int .i64 0) := (blk_cell BK751.out 1).trans rfl; have hcz25_2 : w24.cell? ⟨gb751, 2, none⟩ = some (.int .i64 0) := (blk_cell BK751.out 2).trans rfl; have hcz25_3 : w24.cell? ⟨gb751, 3, none⟩ = some (.int .i64 0) := (blk_cell BK751.out 3).trans rfl; have hfz25_0 := blk_frozen BK751.out 0; have hfz25_1 := blk_frozen BK751.out 1; have hfz25_2 := blk_frozen BK751.out 2; have hfz25_3 := blk_frozen BK751.out 3) | (go_at_call 216; (refine (impl_chi_breaks.calls _ c0 l0 x3_1 ((rd_T174 t747 x20_2).f0) ((rd_T174 t747 x20_2).f1) ((rd_T174 t747 x20_2).f2) ((rd_T174 t747 x20_2).f3) true _ ?side1 ?side2 A22.out).mono ?_); (case side1 => exact Kd.C_below HR0.out (by repeat (first | (with_reducible first | exact HB.out | apply below_alloc | apply pw_below_drewN | apply below_drew1 | refine below_set ?_ GE751.out) | exact HB.out))); (case side2 => exact HC0.out); rintro e w' ⟨rfl, ⟨nd, rfl⟩⟩) | ((with_reducible refine gate_dst (N := 68) rfl ?_); refine Kd.R_lit (Kd.int .i64) _ 3 ?hg (N := 68) ?hd (xs := ([x3_1, (rd_T174 t747 x20_2).f0, (rd_T174 t747 x20_2).f1, (rd_T174 t747 x20_2).f2, (rd_T174 t747 x20_2).f3] : List Int)) (inner := [.int .i64 x3_1, .int .i64 ((rd_T174 t747 x20_2).f0), .int .i64 ((rd_T174 t747 x20_2).f1), .int .i64 ((rd_T174 t747 x20_2).f2), .int .i64 ((rd_T174 t747 x20_2).f3)]) (ok := fun _ => True) (okp := fun _ => True) ?hr ?hp (fun _ hk => hk) trivial (Below.refl _ _) (Nat.le_refl _) (by simp) ?_; (case hd => rfl); (case hg => rfl); (case hr => first | (go_simp; done) | (go_simp; rfl)); (case hp => exact (Reps.one (show Kd.M (Kd.int .i64) _ _ _ x3_1 [.int .i64 x3_1] from rfl) (Reps.one (show Kd.M (Kd.int .i64) _ _ _ ((rd_T174 t747 x20_2).f0) [.int .i64 ((rd_T174 t747 x20_2).f0)] from rfl) (Reps.one (show Kd.M (Kd.int .i64) _ _ _ ((rd_T174 t747 x20_2).f1) [.int .i64 ((rd_T174 t747 x20_2).f1)] from rfl) (Reps.one (show Kd.M (Kd.int .i64) _ _ _ ((rd_T174 t747 x20_2).f2) [.int .i64 ((rd_T174 t747 x20_2).f2)] from rfl) (Reps.one (show Kd.M (Kd.int .i64) _ _ _ ((rd_T174 t747 x20_2).f3) [.int .i64 ((rd_T174 t747 x20_2).f3)] from rfl) (Reps.none _ _))))))); intro v754 w26 ho27 hb hg_ hnew_; clear hg_ hnew_; (first | rw [← Ny753.out] at ho27 | (simp only [Int.reduceToNat] at ho27; rw [← Ny753.out] at ho27)); have n0_ := Aside0.mk (Kd.R_below (by (with_reducible repeat (first | apply Kd.R_alloc | apply Kd.R_drewN | apply Kd.R_drew)); exact (Kd.R_mono (Kd.R_far (p := ⟨gb751, 3, none⟩) (Kd.R_far (p := ⟨gb751, 2, none⟩) (Kd.R_far (p := ⟨gb751, 1, none⟩) (Kd.R_far (p := ⟨gb751, 0, none⟩) (Kd.R_mono HO_18.out (fun k_ hk => (⟨hk, hk.2⟩ : _ ∧ k_ ≠ gb751))) (fun _ hk => hk.2) (.int .i64 ((rd_T174 t747 x20_2).f0))) (fun _ hk => hk.2) (.int .i64 ((rd_T174 t747 x20_2).f1))) (fun _ hk => hk.2) (.int .i64 ((rd_T174 t747 x20_2).f2))) (fun _ hk => hk.2) (.int .i64 ((rd_T174 t747 x20_2).f3))) (fun _ h_ => h_.1))) hb); have n1_ := Aside0.mk (Kd.R_lower ho27 (below_size (by repeat (first | (with_reducible first | exact HB.out | apply below_alloc | apply pw_below_drewN | apply below_drew1 | refine below_set ?_ GE751.out) | exact HB.out)))); have n2_ := Aside0.mk (blk_below (g := gb751) (o := .cells #[.int .i64 ((rd_T174 t747 x20_2).f0), .int .i64 ((rd_T174 t747 x20_2).f1), .int .i64 ((rd_T174 t747 x20_2).f2), .int .i64 ((rd_T174 t747 x20_2).f3)] 174 (0, 0)) (by (with_reducible repeat (first | refine blk_drewN ?_ _ | refine blk_drew ?_ | refine blk_alloc ?_ _)); refine blk_put (cs := #[.int .i64 ((rd_T174 t747 x20_2).f0), .int .i64 ((rd_T174 t747 x20_2).f1), .int .i64 ((rd_T174 t747 x20_2).f2), .int .i64 0]) ?_ 3 _ rfl; (with_reducible repeat (first | refine blk_drewN ?_ _ | refine blk_drew ?_ | refine blk_alloc ?_ _)); refine blk_put (cs := #[.int .i64 ((rd_T174 t747 x20_2).f0), .int .i64 ((rd_T174 t747 x20_2).f1), .int .i64 0, .int .i64 0]) ?_ 2 _ rfl; (with_reducible repeat (first | refine blk_drewN ?_ _ | refine blk_drew ?_ | refine blk_alloc ?_ _)); refine blk_put (cs := #[.int .i64 ((rd_T174 t747 x20_2).f0), .int .i64 0, .int .i64 0, .int .i64 0]) ?_ 1 _ rfl; (with_reducible repeat (first | refine blk_drewN ?_ _ | refine blk_drew ?_ | refine blk_alloc ?_ _)); refine blk_put (cs := #[.int .i64 0, .int .i64 0, .int .i64 0, .int .i64 0]) ?_ 0 _ rfl; (with_reducible repeat (first | refine blk_drewN ?_ _ | refine blk_drew ?_ | refine blk_alloc ?_ _)); exact BK751.out) hb); have n3_ := Aside0.mk (below_step (by repeat (first | (with_reducible first | exact HB.out | apply below_alloc | apply pw_below_drewN | apply below_drew1 | refine below_set ?_ GE751.out) | exact HB.out)) hb); clear HO_18; clear BK751; clear HB; have HO_18 := n0_; have HO755 := n1_; have BK751 := n2_; have HB := n3_; clear n0_ n1_ n2_ n3_; clear hb ho27))
               go_ret
               exact ⟨_, by first | rfl | (simp [errW_none, errW_some] <;> rfl) | (simp [*, errW_none, errW_some] <;> rfl), ⟨by (with_reducible repeat (first | apply Kd.R_alloc | apply Kd.R_drewN | apply Kd.R_drew)); exact HO755.out, by first | exact nz_nil _ | exact nz_cons rfl | assumption | exact Aside0.out (by assumption) | exact nz_cons (Aside0.out (by assumption))⟩, by repeat (first | (with_reducible first | exact HB.out | apply below_alloc | apply pw_below_drewN | apply below_drew1 | refine below_set ?_ GE751.out) | exact HB.out)⟩
              ·replace c23 := Bool.eq_false_iff.mpr c23
               subst c23
               have H1 : (impl_chi_firstBreak.l1 k2 l0 x3_1 t747 (t747.length : Int) (wrap64 (x20_2 + 1))) = some r := by rw [if_neg (show ¬ (false = true) by decide)] at H; exact H
               clear H
               have H := H1
               clear H1
               have H' := Aside0.mk H
               clear H
               have p750 : 0 ≤ (x20_2 : Int) := of_decide_eq_true (by first | (with_reducible assumption) | assumption)
               have q750 : x20_2 < (t747.length : Int) := of_decide_eq_true (by first | (with_reducible assumption) | assumption)
               obtain ⟨ad750, e750, hx750_0, hx750_1, hx750_2, hx750_3⟩ := at_T174 (Kd.R_reads' HO_18.out).2.2 x20_2 p750 q750
               cases e750
               replace p750 := eq_true p750
               replace q750 := eq_true q750
               go_wp2_with (first | ((with_reducible refine gate_dst (N := 5) rfl ?_); refine box_event ?hg (N := 5) ?hd (cs := #[.int .i64 0, .int .i64 0, .int .i64 0, .int .i64 0]) (t := 174) ?hr ?_; (case hd => rfl); (case hg => rfl); (case hr => first | (go_simp; done) | (go_simp; rfl)); intro gb751 hg w28 hbox hb; have n0_ := Aside0.mk (Kd.R_below (Kd.R_elderB (by (with_reducible repeat (first | apply Kd.R_alloc | apply Kd.R_drewN | apply Kd.R_drew)); exact HO_18.out) gb751 (Nat.le_of_eq hg.symm)) hb); have n1_ := Aside0.mk (below_step (by repeat (first | (with_reducible first | exact HB.out | apply below_alloc | apply pw_below_drewN | apply below_drew1) | exact HB.out)) hb); have n2_ := Aside0.mk (hbox); have n3_ := Aside0.mk ((by rw [hg]; exact (below_size (by repeat (first | (with_reducible first | exact HB.out | apply below_alloc | apply pw_below_drewN | apply below_drew1) | exact HB.out))) : w.heap.size ≤ gb751)); have n4_ := Aside0.mk ((by rw [hg]; exact (below_size (by repeat (first | (with_reducible first | exact HB.out | apply below_alloc | apply pw_below_drewN | apply below_drew1) | exact HB.out))) : w.heap.size ≤ gb751)); clear HO_18; clear HB; have HO_18 := n0_; have HB := n1_; have BK751 := n2_; have GW751 := n3_; have GE751 := n4_; clear n0_ n1_ n2_ n3_ n4_; clear hb hbox hg; have hcz29_0 : w28.cell? ⟨gb751, 0, none⟩ = some (.int .i64 0) := (blk_cell BK751.out 0).trans rfl; have hcz29_1 : w28.cell? ⟨gb751, 1, none⟩ = some (.int .i64 0) := (blk_cell BK751.out 1).trans rfl; have hcz29_2 : w28.cell? ⟨gb751, 2, none⟩ = some (.int .i64 0) := (blk_cell BK751.out 2).trans rfl; have hcz29_3 : w28.cell? ⟨gb751, 3, none⟩ = some (.int .i64 0) := (blk_cell BK751.out 3).trans rfl; have hfz29_0 := blk_frozen BK751.out 0; have hfz29_1 := blk_frozen BK751.out 1; have hfz29_2 := blk_frozen BK751.out 2; have hfz29_3 := blk_frozen BK751.out 3) | (go_at_call 216; (refine (impl_chi_breaks.calls _ c0 l0 x3_1 ((rd_T174 t747 x20_2).f0) ((rd_T174 t747 x20_2).f1) ((rd_T174 t747 x20_2).f2) ((rd_T174 t747 x20_2).f3) false _ ?side1 ?side2 A22.out).mono ?_); (case side1 => exact Kd.C_below HR0.out (by repeat (first | (with_reducible first | exact HB.out | apply below_alloc | apply pw_below_drewN | apply below_drew1 | refine below_set ?_ GE751.out) | exact HB.out))); (case side2 => exact HC0.out); rintro e w' ⟨rfl, ⟨nd, rfl⟩⟩))
               go_roundg k2
               case measure => have := HK1.out; have := HK2.out; omega
               case rel => exact ⟨(wrap64 (x20_2 + 1)), (by first | rfl | (simp; done) | (simp [*]; done)), H', ⟨by have := HK1.out; have := HK2.out; omega⟩, ⟨by (with_reducible repeat (first | apply Kd.R_alloc | apply Kd.R_drewN | apply Kd.R_drew)); exact Kd.R_mono (Kd.R_far (p := ⟨gb751, 3, none⟩) (Kd.R_far (p := ⟨gb751, 2, none⟩) (Kd.R_far (p := ⟨gb751, 1, none⟩) (Kd.R_far (p := ⟨gb751, 0, none⟩) (Kd.R_mono HO_18.out (fun k_ hk => (⟨hk, hk.2⟩ : _ ∧ k_ ≠ gb751))) (fun _ hk => hk.2) (.int .i64 ((rd_T174 t747 x20_2).f0))) (fun _ hk => hk.2) (.int .i64 ((rd_T174 t747 x20_2).f1))) (fun _ hk => hk.2) (.int .i64 ((rd_T174 t747 x20_2).f2))) (fun _ hk => hk.2) (.int .i64 ((rd_T174 t747 x20_2).f3))) (fun _ hk => trivial)⟩, ⟨by repeat (first | (with_reducible first | exact HB.out | apply below_alloc | apply pw_below_drewN | apply below_drew1 | refine below_set ?_ GE751.out) | exact HB.out)⟩⟩
         ·rw [if_neg c9] at H
          exact absurd H (by simp)
        ·rw [if_neg c8] at H
         exact absurd H (by simp)
       ·rw [if_neg c7] at H
        have c7b0 : decide (x20_2 < (t747.length : Int)) = false := decide_eq_false c7
        clear c7
        have H' := Aside0.mk H
        clear H
        go_wp2
        go_roundg k2
        case measure => have := HK1.out; have := HK2.out; omega
        case rel => exact ⟨(wrap64 (x3_1 + 1)), (by first | rfl | (simp; done) | (simp [*]; done)), H', ⟨by have := HK1.out; have := HK2.out; omega⟩, ⟨by repeat (first | (with_reducible first | exact HB.out | apply below_alloc | apply pw_below_drewN | apply below_drew1) | exact HB.out)⟩⟩
    ·rw [if_neg c3] at H
     have c3b0 : decide (x3_1 < (chiN l0)) = false := decide_eq_false c3
     clear c3
     obtain rfl := Option.some.inj H
     have q745 : 344 ≤ (l0.length : Int) := of_decide_eq_true (by first | (with_reducible assumption) | assumption)
     obtain ⟨ad745, e745, hx745_0⟩ := chi_n HR0.out q745
     cases e745
     replace hx745_0 := (HB.out.cell (World.block_lt_of_cell? w _ hx745_0)).trans hx745_0
     go_wp2
     go_ret
     exact ⟨_, by first | rfl | (simp [errW_none, errW_some] <;> rfl) | (simp [*, errW_none, errW_some] <;> rfl), ⟨by first | exact Kd.R_nil _ _ _ _ _ | exact Kd.N_nil _ _ _ _ _ | exact Kd.V_nil _ _ _ _ _ | exact Kd.Q_nil _ _ _ _ _ | exact Kd.S_nil _ _ _ _ _, by first | exact nz_nil _ | exact nz_cons rfl | assumption | exact Aside0.out (by assumption) | exact nz_cons (Aside0.out (by assumption))⟩, by repeat (first | (with_reducible first | exact HB.out | apply below_alloc | apply pw_below_drewN | apply below_drew1) | exact HB.out)⟩
   ·rw [if_neg c2] at H
    exact absurd H (by simp)
def impl_FirstBreak.f (k : Nat) (a0_0 : Int) (a0_1 : ByteArray) : Option (List Int) := (impl_AreSigns.f k a0_0 a0_1).bind fun t757 => (if t757 = true then ((impl_tableOf.f k a0_0 a0_1).bind fun t758 => ((impl_chi_firstBreak.f k t758).bind fun t761 => (some t761))) else (some ([] : List Int)))
theorem impl_FirstBreak.mono : ∀ a0 a1 k, LeO (impl_FirstBreak.f k a0 a1) (impl_FirstBreak.f (k + 1) a0 a1) := by
 intro a0 a1 k
 unfold impl_FirstBreak.f
 repeat' first
   | (with_reducible exact impl_AreSigns.mono _ _ _)
   | (with_reducible exact impl_chi_firstBreak.mono _ _)
   | (with_reducible exact impl_tableOf.mono _ _ _)
   | (with_reducible exact LeO.refl _)
   | (with_reducible exact LeO.none _)
   | (with_reducible refine LeO.ite ?_ ?_)
   | (with_reducible refine LeO.bind ?_ (fun _ => ?_))
   | exact impl_AreSigns.mono _ _ _
   | exact impl_chi_firstBreak.mono _ _
   | exact impl_tableOf.mono _ _ _
   | exact LeO.none _
   | refine LeO.ite ?_ ?_
   | refine LeO.bind ?_ (fun _ => ?_)
set_option maxHeartbeats 8000000 in
set_option maxRecDepth 100000 in
theorem impl_FirstBreak.calls (k : Nat) (a0_0 : Int) (a0_1 : ByteArray) (r : List Int) (w : World) (h : impl_FirstBreak.f k a0_0 a0_1 = some r) :
  Calls Try.prog 190 #[.agg #[.int .i64 a0_0, .string a0_1]] w fun e w' => ∃ v0_ : Value, e = .returned (v0_) ∧ (Kd.R (Kd.int .i64) 3 w' w.heap.size (fun _ => True) v0_ r ∧ NZ v0_ r) ∧ Below w.heap.size w w' := by
 have hu25 := Try.underlying25
 have HB := Aside0.mk (Below.refl w.heap.size w)
 have H : ((impl_AreSigns.f k a0_0 a0_1).bind fun t757 => (if t757 = true then ((impl_tableOf.f k a0_0 a0_1).bind fun t758 => ((impl_chi_firstBreak.f k t758).bind fun t761 => (some t761))) else (some ([] : List Int)))) = some r := h
 clear h
 replace H := Option.bind_eq_some_iff.mp H
 obtain ⟨t757, A20, H⟩ := H
 replace H : (if t757 = true then ((impl_tableOf.f k a0_0 a0_1).bind fun t758 => ((impl_chi_firstBreak.f k t758).bind fun t761 => (some t761))) else (some ([] : List Int))) = some r := H
 have A2 := Aside0.mk A20
 clear A20
 by_cases c3 : t757 = true
 ·subst c3
  have H1 : ((impl_tableOf.f k a0_0 a0_1).bind fun t758 => ((impl_chi_firstBreak.f k t758).bind fun t761 => (some t761))) = some r := by rw [if_pos rfl] at H; exact H
  clear H
  have H := H1
  clear H1
  replace H := Option.bind_eq_some_iff.mp H
  obtain ⟨t758, A40, H⟩ := H
  replace H : ((impl_chi_firstBreak.f k t758).bind fun t761 => (some t761)) = some r := H
  have A4 := Aside0.mk A40
  clear A40
  replace H := Option.bind_eq_some_iff.mp H
  obtain ⟨t761, A50, H⟩ := H
  replace H : (some t761) = some r := H
  have A5 := Aside0.mk A50
  clear A50
  obtain rfl := Option.some.inj H
  go_enter Try.func190, Try.ntmps190
  go_wp2_with (first | ((with_reducible refine gate_dst (N := 1) rfl ?_); refine box_event ?hg (N := 1) ?hd (cs := #[.int .i64 a0_0, .string a0_1]) (t := 25) ?hr ?_; (case hd => rfl); (case hg => rfl); (case hr => first | (go_simp; done) | (go_simp; rfl)); intro gb756 hg w6 hbox hb; have n0_ := Aside0.mk (below_step (by repeat (first | (with_reducible first | exact HB.out | apply below_alloc | apply pw_below_drewN | apply below_drew1) | exact HB.out)) hb); have n1_ := Aside0.mk (hbox); have n2_ := Aside0.mk ((by rw [hg]; exact (below_size (by repeat (first | (with_reducible first | exact HB.out | apply below_alloc | apply pw_below_drewN | apply below_drew1) | exact HB.out))) : w.heap.size ≤ gb756)); have n3_ := Aside0.mk ((by rw [hg]; exact (below_size (by repeat (first | (with_reducible first | exact HB.out | apply below_alloc | apply pw_below_drewN | apply below_drew1) | exact HB.out))) : w.heap.size ≤ gb756)); clear HB; have HB := n0_; have BK756 := n1_; have GW756 := n2_; have GE756 := n3_; clear n0_ n1_ n2_ n3_; clear hb hbox hg; have hcz7_0 : w6.cell? ⟨gb756, 0, none⟩ = some (.int .i64 a0_0) := (blk_cell BK756.out 0).trans rfl; have hcz7_1 : w6.cell? ⟨gb756, 1, none⟩ = some (.string a0_1) := (blk_cell BK756.out 1).trans rfl; have hfz7_0 := blk_frozen BK756.out 0; have hfz7_1 := blk_frozen BK756.out 1) | ((with_reducible refine gate_callee (f := 92) rfl ?_); refine goesL_ (some 4) rfl rfl Try.func92 (by kernel_rfl) rfl #[.agg #[.int .i64 a0_0, .string a0_1]] rfl (by (try simp only [List.map_toArray, List.map_cons, List.map_nil]); first | done | rfl | (simp only [List.length_drop, List.length_take]; rfl)) ?_; (with_reducible refine (impl_AreSigns.calls k a0_0 a0_1 true _ A2.out).mono ?_); rintro e w8 ⟨rfl, hb⟩; refine ⟨_, rfl, ?_⟩; have n0_ := Aside0.mk (blk_below (g := gb756) (o := .cells #[.int .i64 a0_0, .string a0_1] 25 (0, 0)) (by (with_reducible repeat (first | refine blk_drewN ?_ _ | refine blk_drew ?_ | refine blk_alloc ?_ _)); exact BK756.out) hb); have n1_ := Aside0.mk (below_step (by repeat (first | (with_reducible first | exact HB.out | apply below_alloc | apply pw_below_drewN | apply below_drew1 | refine below_set ?_ GE756.out) | exact HB.out)) hb); clear BK756; clear HB; have BK756 := n0_; have HB := n1_; clear n0_ n1_; (try clear hb); (try clear hb2); (try clear hk); (try clear hi); have hcz9_0 : w8.cell? ⟨gb756, 0, none⟩ = some (.int .i64 a0_0) := (blk_cell BK756.out 0).trans rfl; have hcz9_1 : w8.cell? ⟨gb756, 1, none⟩ = some (.string a0_1) := (blk_cell BK756.out 1).trans rfl; have hfz9_0 := blk_frozen BK756.out 0; have hfz9_1 := blk_frozen BK756.out 1) | ((with_reducible refine gate_callee (f := 93) rfl ?_); refine goesL_ (some 7) rfl rfl Try.func93 (by kernel_rfl) rfl #[.agg #[.int .i64 a0_0, .string a0_1]] rfl (by (try simp only [List.map_toArray, List.map_cons, List.map_nil]); first | done | rfl | (simp only [List.length_drop, List.length_take]; rfl)) ?_; (with_reducible refine (impl_tableOf.calls k a0_0 a0_1 t758 _ A4.out).mono ?_); rintro e w10 ⟨v759, rfl, ho0, hb⟩; refine ⟨_, rfl, ?_⟩; have n0_ := Aside0.mk (Kd.R_lower ho0 (below_size (by repeat (first | (with_reducible first | exact HB.out | apply below_alloc | apply pw_below_drewN | apply below_drew1 | refine below_set ?_ GE756.out) | exact HB.out)))); have n1_ := Aside0.mk (blk_below (g := gb756) (o := .cells #[.int .i64 a0_0, .string a0_1] 25 (0, 0)) (by (with_reducible repeat (first | refine blk_drewN ?_ _ | refine blk_drew ?_ | refine blk_alloc ?_ _)); exact BK756.out) hb); have n2_ := Aside0.mk (below_step (by repeat (first | (with_reducible first | exact HB.out | apply below_alloc | apply pw_below_drewN | apply below_drew1 | refine below_set ?_ GE756.out) | exact HB.out)) hb); clear BK756; clear HB; have HO760 := n0_; have BK756 := n1_; have HB := n2_; clear n0_ n1_ n2_; (try clear hb); (try clear hb2); (try clear hk); (try clear hi); (try clear ho0); obtain ⟨Ao11, co11, eo11⟩ := Kd.R_slice HO760.out; subst eo11) | ((with_reducible refine gate_callee (f := 208) rfl ?_); refine goesL_ (some 8) rfl rfl Try.func208 (by kernel_rfl) rfl #[.pointer Ao11] rfl (by (try simp only [List.map_toArray, List.map_cons, List.map_nil]); first | done | rfl | (simp only [List.length_drop, List.length_take]; rfl)) ?_; (refine (impl_chi_firstBreak.calls k _ co11 t758 t761 _ ?side1 ?side2 A5.out).mono ?_); (case side1 => repeat (first | exact (Kd.R_reads' HO760.out).2.2 | (with_reducible refine Kd.C_alloc ?_ _) | (with_reducible refine Kd.C_drewN ?_ _) | (with_reducible refine Kd.C_drew ?_))); (case side2 => exact (Kd.R_reads' HO760.out).2.1); rintro e w12 ⟨v762, rfl, ho0, hb⟩; refine ⟨_, rfl, ?_⟩; have HZv762 := Aside0.mk ho0.2; replace ho0 := ho0.1; have n0_ := Aside0.mk (Kd.R_below (by (with_reducible repeat (first | apply Kd.R_alloc | apply Kd.R_drewN | apply Kd.R_drew)); exact HO760.out) hb); have n1_ := Aside0.mk (Kd.R_lower ho0 (below_size (by repeat (first | (with_reducible first | exact HB.out | apply below_alloc | apply pw_below_drewN | apply below_drew1 | refine below_set ?_ GE756.out) | exact HB.out)))); have n2_ := Aside0.mk (blk_below (g := gb756) (o := .cells #[.int .i64 a0_0, .string a0_1] 25 (0, 0)) (by (with_reducible repeat (first | refine blk_drewN ?_ _ | refine blk_drew ?_ | refine blk_alloc ?_ _)); exact BK756.out) hb); have n3_ := Aside0.mk (below_step (by repeat (first | (with_reducible first | exact HB.out | apply below_alloc | apply pw_below_drewN | apply below_drew1 | refine below_set ?_ GE756.out) | exact HB.out)) hb); clear HO760; clear BK756; clear HB; have HO760 := n0_; have HO763 := n1_; have BK756 := n2_; have HB := n3_; clear n0_ n1_ n2_ n3_; (try clear hb); (try clear hb2); (try clear hk); (try clear hi); (try clear ho0)))
  go_ret
  exact ⟨_, by first | rfl | (simp [errW_none, errW_some] <;> rfl) | (simp [*, errW_none, errW_some] <;> rfl), ⟨by (with_reducible repeat (first | apply Kd.R_alloc | apply Kd.R_drewN | apply Kd.R_drew)); exact HO763.out, by first | exact nz_nil _ | exact nz_cons rfl | assumption | exact Aside0.out (by assumption) | exact nz_cons (Aside0.out (by assumption))⟩, by repeat (first | (with_reducible first | exact HB.out | apply below_alloc | apply pw_below_drewN | apply below_drew1 | refine below_set ?_ GE756.out) | exact HB.out)⟩
 ·replace c3 := Bool.eq_false_iff.mpr c3
  subst c3
  have H1 : (some ([] : List Int)) = some r := by rw [if_neg (show ¬ (false = true) by decide)] at H; exact H
  clear H
  have H := H1
  clear H1
  obtain rfl := Option.some.inj H
  go_enter Try.func190, Try.ntmps190
  go_wp2_with (first | ((with_reducible refine gate_dst (N := 1) rfl ?_); refine box_event ?hg (N := 1) ?hd (cs := #[.int .i64 a0_0, .string a0_1]) (t := 25) ?hr ?_; (case hd => rfl); (case hg => rfl); (case hr => first | (go_simp; done) | (go_simp; rfl)); intro gb756 hg w13 hbox hb; have n0_ := Aside0.mk (below_step (by repeat (first | (with_reducible first | exact HB.out | apply below_alloc | apply pw_below_drewN | apply below_drew1) | exact HB.out)) hb); have n1_ := Aside0.mk (hbox); have n2_ := Aside0.mk ((by rw [hg]; exact (below_size (by repeat (first | (with_reducible first | exact HB.out | apply below_alloc | apply pw_below_drewN | apply below_drew1) | exact HB.out))) : w.heap.size ≤ gb756)); have n3_ := Aside0.mk ((by rw [hg]; exact (below_size (by repeat (first | (with_reducible first | exact HB.out | apply below_alloc | apply pw_below_drewN | apply below_drew1) | exact HB.out))) : w.heap.size ≤ gb756)); clear HB; have HB := n0_; have BK756 := n1_; have GW756 := n2_; have GE756 := n3_; clear n0_ n1_ n2_ n3_; clear hb hbox hg; have hcz14_0 : w13.cell? ⟨gb756, 0, none⟩ = some (.int .i64 a0_0) := (blk_cell BK756.out 0).trans rfl; have hcz14_1 : w13.cell? ⟨gb756, 1, none⟩ = some (.string a0_1) := (blk_cell BK756.out 1).trans rfl; have hfz14_0 := blk_frozen BK756.out 0; have hfz14_1 := blk_frozen BK756.out 1) | ((with_reducible refine gate_callee (f := 92) rfl ?_); refine goesL_ (some 4) rfl rfl Try.func92 (by kernel_rfl) rfl #[.agg #[.int .i64 a0_0, .string a0_1]] rfl (by (try simp only [List.map_toArray, List.map_cons, List.map_nil]); first | done | rfl | (simp only [List.length_drop, List.length_take]; rfl)) ?_; (with_reducible refine (impl_AreSigns.calls k a0_0 a0_1 false _ A2.out).mono ?_); rintro e w15 ⟨rfl, hb⟩; refine ⟨_, rfl, ?_⟩; have n0_ := Aside0.mk (blk_below (g := gb756) (o := .cells #[.int .i64 a0_0, .string a0_1] 25 (0, 0)) (by (with_reducible repeat (first | refine blk_drewN ?_ _ | refine blk_drew ?_ | refine blk_alloc ?_ _)); exact BK756.out) hb); have n1_ := Aside0.mk (below_step (by repeat (first | (with_reducible first | exact HB.out | apply below_alloc | apply pw_below_drewN | apply below_drew1 | refine below_set ?_ GE756.out) | exact HB.out)) hb); clear BK756; clear HB; have BK756 := n0_; have HB := n1_; clear n0_ n1_; (try clear hb); (try clear hb2); (try clear hk); (try clear hi)))
  go_ret
  exact ⟨_, by first | rfl | (simp [errW_none, errW_some] <;> rfl) | (simp [*, errW_none, errW_some] <;> rfl), ⟨by first | exact Kd.R_nil _ _ _ _ _ | exact Kd.N_nil _ _ _ _ _ | exact Kd.V_nil _ _ _ _ _ | exact Kd.Q_nil _ _ _ _ _ | exact Kd.S_nil _ _ _ _ _, by first | exact nz_nil _ | exact nz_cons rfl | assumption | exact Aside0.out (by assumption) | exact nz_cons (Aside0.out (by assumption))⟩, by repeat (first | (with_reducible first | exact HB.out | apply below_alloc | apply pw_below_drewN | apply below_drew1 | refine below_set ?_ GE756.out) | exact HB.out)⟩
def impl_IsMatroid.f (k : Nat) (a0_0 : Int) (a0_1 : ByteArray) : Option (Bool) := (impl_AreSigns.f k a0_0 a0_1).bind fun t765 => (if t765 = true then ((impl_FirstBreak.f k a0_0 a0_1).bind fun t766 => (if (t766.length : Int) = 0 then (some true) else (some false))) else (some false))
theorem impl_IsMatroid.mono : ∀ a0 a1 k, LeO (impl_IsMatroid.f k a0 a1) (impl_IsMatroid.f (k + 1) a0 a1) := by
 intro a0 a1 k
 unfold impl_IsMatroid.f
 repeat' first
   | (with_reducible exact impl_AreSigns.mono _ _ _)
   | (with_reducible exact impl_FirstBreak.mono _ _ _)
   | (with_reducible exact LeO.refl _)
   | (with_reducible exact LeO.none _)
   | (with_reducible refine LeO.ite ?_ ?_)
   | (with_reducible refine LeO.bind ?_ (fun _ => ?_))
   | exact impl_AreSigns.mono _ _ _
   | exact impl_FirstBreak.mono _ _ _
   | exact LeO.none _
   | refine LeO.ite ?_ ?_
   | refine LeO.bind ?_ (fun _ => ?_)
set_option maxHeartbeats 8000000 in
set_option maxRecDepth 100000 in
theorem impl_IsMatroid.calls (k : Nat) (a0_0 : Int) (a0_1 : ByteArray) (r : Bool) (w : World) (h : impl_IsMatroid.f k a0_0 a0_1 = some r) :
  Calls Try.prog 163 #[.agg #[.int .i64 a0_0, .string a0_1]] w fun e w' => e = .returned (.bool r) ∧ Below w.heap.size w w' := by
 have hu25 := Try.underlying25
 have HB := Aside0.mk (Below.refl w.heap.size w)
 have q35_ : ∀ (w : World) (a : Option Addr) (n c : Nat), (binOp .eql 35 (.slice a n c) (.slice none 0 0)).run Try.prog w = .ok (.bool a.isNone) w := fun w a n c => Lib.run_eql_slice_nil w _ _ a n c 0 0 Try.underlying35
 have H : ((impl_AreSigns.f k a0_0 a0_1).bind fun t765 => (if t765 = true then ((impl_FirstBreak.f k a0_0 a0_1).bind fun t766 => (if (t766.length : Int) = 0 then (some true) else (some false))) else (some false))) = some r := h
 clear h
 replace H := Option.bind_eq_some_iff.mp H
 obtain ⟨t765, A20, H⟩ := H
 replace H : (if t765 = true then ((impl_FirstBreak.f k a0_0 a0_1).bind fun t766 => (if (t766.length : Int) = 0 then (some true) else (some false))) else (some false)) = some r := H
 have A2 := Aside0.mk A20
 clear A20
 by_cases c3 : t765 = true
 ·subst c3
  have H1 : ((impl_FirstBreak.f k a0_0 a0_1).bind fun t766 => (if (t766.length : Int) = 0 then (some true) else (some false))) = some r := by rw [if_pos rfl] at H; exact H
  clear H
  have H := H1
  clear H1
  replace H := Option.bind_eq_some_iff.mp H
  obtain ⟨t766, A40, H⟩ := H
  replace H : (if (t766.length : Int) = 0 then (some true) else (some false)) = some r := H
  have A4 := Aside0.mk A40
  clear A40
  by_cases c5 : (t766.length : Int) = 0
  ·rw [if_pos c5] at H
   have c5b0 : ((t766.length : Int) == 0) = true := beq_iff_eq.mpr c5
   have c5b1 : ((t766.length : Int) != 0) = false := bne_eq_false_iff_eq.mpr c5
   clear c5
   obtain rfl := Option.some.inj H
   go_enter Try.func163, Try.ntmps163
   go_wp2_with (first | ((with_reducible refine gate_dst (N := 1) rfl ?_); refine box_event ?hg (N := 1) ?hd (cs := #[.int .i64 a0_0, .string a0_1]) (t := 25) ?hr ?_; (case hd => rfl); (case hg => rfl); (case hr => first | (go_simp; done) | (go_simp; rfl)); intro gb764 hg w6 hbox hb; have n0_ := Aside0.mk (below_step (by repeat (first | (with_reducible first | exact HB.out | apply below_alloc | apply pw_below_drewN | apply below_drew1) | exact HB.out)) hb); have n1_ := Aside0.mk (hbox); have n2_ := Aside0.mk ((by rw [hg]; exact (below_size (by repeat (first | (with_reducible first | exact HB.out | apply below_alloc | apply pw_below_drewN | apply below_drew1) | exact HB.out))) : w.heap.size ≤ gb764)); have n3_ := Aside0.mk ((by rw [hg]; exact (below_size (by repeat (first | (with_reducible first | exact HB.out | apply below_alloc | apply pw_below_drewN | apply below_drew1) | exact HB.out))) : w.heap.size ≤ gb764)); clear HB; have HB := n0_; have BK764 := n1_; have GW764 := n2_; have GE764 := n3_; clear n0_ n1_ n2_ n3_; clear hb hbox hg; have hcz7_0 : w6.cell? ⟨gb764, 0, none⟩ = some (.int .i64 a0_0) := (blk_cell BK764.out 0).trans rfl; have hcz7_1 : w6.cell? ⟨gb764, 1, none⟩ = some (.string a0_1) := (blk_cell BK764.out 1).trans rfl; have hfz7_0 := blk_frozen BK764.out 0; have hfz7_1 := blk_frozen BK764.out 1) | ((with_reducible refine gate_callee (f := 92) rfl ?_); refine goesL_ (some 4) rfl rfl Try.func92 (by kernel_rfl) rfl #[.agg #[.int .i64 a0_0, .string a0_1]] rfl (by (try simp only [List.map_toArray, List.map_cons, List.map_nil]); first | done | rfl | (simp only [List.length_drop, List.length_take]; rfl)) ?_; (with_reducible refine (impl_AreSigns.calls k a0_0 a0_1 true _ A2.out).mono ?_); rintro e w8 ⟨rfl, hb⟩; refine ⟨_, rfl, ?_⟩; have n0_ := Aside0.mk (blk_below (g := gb764) (o := .cells #[.int .i64 a0_0, .string a0_1] 25 (0, 0)) (by (with_reducible repeat (first | refine blk_drewN ?_ _ | refine blk_drew ?_ | refine blk_alloc ?_ _)); exact BK764.out) hb); have n1_ := Aside0.mk (below_step (by repeat (first | (with_reducible first | exact HB.out | apply below_alloc | apply pw_below_drewN | apply below_drew1 | refine below_set ?_ GE764.out) | exact HB.out)) hb); clear BK764; clear HB; have BK764 := n0_; have HB := n1_; clear n0_ n1_; (try clear hb); (try clear hb2); (try clear hk); (try clear hi); have hcz9_0 : w8.cell? ⟨gb764, 0, none⟩ = some (.int .i64 a0_0) := (blk_cell BK764.out 0).trans rfl; have hcz9_1 : w8.cell? ⟨gb764, 1, none⟩ = some (.string a0_1) := (blk_cell BK764.out 1).trans rfl; have hfz9_0 := blk_frozen BK764.out 0; have hfz9_1 := blk_frozen BK764.out 1) | (go_at_call 190; (with_reducible refine (impl_FirstBreak.calls k a0_0 a0_1 t766 _ A4.out).mono ?_); rintro e w10 ⟨v767, rfl, ho0, hb⟩; have HZv767 := Aside0.mk ho0.2; replace ho0 := ho0.1; have n0_ := Aside0.mk (Kd.R_lower ho0 (below_size (by repeat (first | (with_reducible first | exact HB.out | apply below_alloc | apply pw_below_drewN | apply below_drew1 | refine below_set ?_ GE764.out) | exact HB.out)))); have n1_ := Aside0.mk (blk_below (g := gb764) (o := .cells #[.int .i64 a0_0, .string a0_1] 25 (0, 0)) (by (with_reducible repeat (first | refine blk_drewN ?_ _ | refine blk_drew ?_ | refine blk_alloc ?_ _)); exact BK764.out) hb); have n2_ := Aside0.mk (below_step (by repeat (first | (with_reducible first | exact HB.out | apply below_alloc | apply pw_below_drewN | apply below_drew1 | refine below_set ?_ GE764.out) | exact HB.out)) hb); clear BK764; clear HB; have HO768 := n0_; have BK764 := n1_; have HB := n2_; clear n0_ n1_ n2_; (try clear hb); (try clear hb2); (try clear hk); (try clear hi); (try clear ho0); obtain rfl : v767 = .slice none 0 0 := HZv767.out (List.eq_nil_of_length_eq_zero (by have h_ : ((t766.length : Int) == 0) = true := (by first | (with_reducible assumption) | assumption); simpa using h_))))
   go_ret
   exact ⟨by first | rfl | (simp [errW_none, errW_some] <;> rfl) | (simp [*, errW_none, errW_some] <;> rfl), by repeat (first | (with_reducible first | exact HB.out | apply below_alloc | apply pw_below_drewN | apply below_drew1 | refine below_set ?_ GE764.out) | exact HB.out)⟩
  ·rw [if_neg c5] at H
   have c5b0 : ((t766.length : Int) == 0) = false := beq_eq_false_iff_ne.mpr c5
   have c5b1 : ((t766.length : Int) != 0) = true := bne_iff_ne.mpr c5
   have c5b2 : ¬ (t766 = []) := fun h_ => c5 (by rw [h_]; rfl)
   obtain rfl := Option.some.inj H
   go_enter Try.func163, Try.ntmps163
   go_wp2_with (first | ((with_reducible refine gate_dst (N := 1) rfl ?_); refine box_event ?hg (N := 1) ?hd (cs := #[.int .i64 a0_0, .string a0_1]) (t := 25) ?hr ?_; (case hd => rfl); (case hg => rfl); (case hr => first | (go_simp; done) | (go_simp; rfl)); intro gb764 hg w11 hbox hb; have n0_ := Aside0.mk (below_step (by repeat (first | (with_reducible first | exact HB.out | apply below_alloc | apply pw_below_drewN | apply below_drew1) | exact HB.out)) hb); have n1_ := Aside0.mk (hbox); have n2_ := Aside0.mk ((by rw [hg]; exact (below_size (by repeat (first | (with_reducible first | exact HB.out | apply below_alloc | apply pw_below_drewN | apply below_drew1) | exact HB.out))) : w.heap.size ≤ gb764)); have n3_ := Aside0.mk ((by rw [hg]; exact (below_size (by repeat (first | (with_reducible first | exact HB.out | apply below_alloc | apply pw_below_drewN | apply below_drew1) | exact HB.out))) : w.heap.size ≤ gb764)); clear HB; have HB := n0_; have BK764 := n1_; have GW764 := n2_; have GE764 := n3_; clear n0_ n1_ n2_ n3_; clear hb hbox hg; have hcz12_0 : w11.cell? ⟨gb764, 0, none⟩ = some (.int .i64 a0_0) := (blk_cell BK764.out 0).trans rfl; have hcz12_1 : w11.cell? ⟨gb764, 1, none⟩ = some (.string a0_1) := (blk_cell BK764.out 1).trans rfl; have hfz12_0 := blk_frozen BK764.out 0; have hfz12_1 := blk_frozen BK764.out 1) | ((with_reducible refine gate_callee (f := 92) rfl ?_); refine goesL_ (some 4) rfl rfl Try.func92 (by kernel_rfl) rfl #[.agg #[.int .i64 a0_0, .string a0_1]] rfl (by (try simp only [List.map_toArray, List.map_cons, List.map_nil]); first | done | rfl | (simp only [List.length_drop, List.length_take]; rfl)) ?_; (with_reducible refine (impl_AreSigns.calls k a0_0 a0_1 true _ A2.out).mono ?_); rintro e w13 ⟨rfl, hb⟩; refine ⟨_, rfl, ?_⟩; have n0_ := Aside0.mk (blk_below (g := gb764) (o := .cells #[.int .i64 a0_0, .string a0_1] 25 (0, 0)) (by (with_reducible repeat (first | refine blk_drewN ?_ _ | refine blk_drew ?_ | refine blk_alloc ?_ _)); exact BK764.out) hb); have n1_ := Aside0.mk (below_step (by repeat (first | (with_reducible first | exact HB.out | apply below_alloc | apply pw_below_drewN | apply below_drew1 | refine below_set ?_ GE764.out) | exact HB.out)) hb); clear BK764; clear HB; have BK764 := n0_; have HB := n1_; clear n0_ n1_; (try clear hb); (try clear hb2); (try clear hk); (try clear hi); have hcz14_0 : w13.cell? ⟨gb764, 0, none⟩ = some (.int .i64 a0_0) := (blk_cell BK764.out 0).trans rfl; have hcz14_1 : w13.cell? ⟨gb764, 1, none⟩ = some (.string a0_1) := (blk_cell BK764.out 1).trans rfl; have hfz14_0 := blk_frozen BK764.out 0; have hfz14_1 := blk_frozen BK764.out 1) | (go_at_call 190; (with_reducible refine (impl_FirstBreak.calls k a0_0 a0_1 t766 _ A4.out).mono ?_); rintro e w15 ⟨v767, rfl, ho0, hb⟩; have HZv767 := Aside0.mk ho0.2; replace ho0 := ho0.1; have n0_ := Aside0.mk (Kd.R_lower ho0 (below_size (by repeat (first | (with_reducible first | exact HB.out | apply below_alloc | apply pw_below_drewN | apply below_drew1 | refine below_set ?_ GE764.out) | exact HB.out)))); have n1_ := Aside0.mk (blk_below (g := gb764) (o := .cells #[.int .i64 a0_0, .string a0_1] 25 (0, 0)) (by (with_reducible repeat (first | refine blk_drewN ?_ _ | refine blk_drew ?_ | refine blk_alloc ?_ _)); exact BK764.out) hb); have n2_ := Aside0.mk (below_step (by repeat (first | (with_reducible first | exact HB.out | apply below_alloc | apply pw_below_drewN | apply below_drew1 | refine below_set ?_ GE764.out) | exact HB.out)) hb); clear BK764; clear HB; have HO768 := n0_; have BK764 := n1_; have HB := n2_; clear n0_ n1_ n2_; (try clear hb); (try clear hb2); (try clear hk); (try clear hi); (try clear ho0); obtain ⟨goo16, coo16, eoo16, _, _, _⟩ := Kd.R_form HO768.out (by have h_ : ((t766.length : Int) == 0) = false := (by first | (with_reducible assumption) | assumption); have h2_ := beq_eq_false_iff_ne.mp h_; omega); subst eoo16))
   go_ret
   exact ⟨by first | rfl | (simp [errW_none, errW_some] <;> rfl) | (simp [*, errW_none, errW_some] <;> rfl), by repeat (first | (with_reducible first | exact HB.out | apply below_alloc | apply pw_below_drewN | apply below_drew1 | refine below_set ?_ GE764.out) | exact HB.out)⟩
 ·replace c3 := Bool.eq_false_iff.mpr c3
  subst c3
  have H1 : (some false) = some r := by rw [if_neg (show ¬ (false = true) by decide)] at H; exact H
  clear H
  have H := H1
  clear H1
  obtain rfl := Option.some.inj H
  go_enter Try.func163, Try.ntmps163
  go_wp2_with (first | ((with_reducible refine gate_dst (N := 1) rfl ?_); refine box_event ?hg (N := 1) ?hd (cs := #[.int .i64 a0_0, .string a0_1]) (t := 25) ?hr ?_; (case hd => rfl); (case hg => rfl); (case hr => first | (go_simp; done) | (go_simp; rfl)); intro gb764 hg w17 hbox hb; have n0_ := Aside0.mk (below_step (by repeat (first | (with_reducible first | exact HB.out | apply below_alloc | apply pw_below_drewN | apply below_drew1) | exact HB.out)) hb); have n1_ := Aside0.mk (hbox); have n2_ := Aside0.mk ((by rw [hg]; exact (below_size (by repeat (first | (with_reducible first | exact HB.out | apply below_alloc | apply pw_below_drewN | apply below_drew1) | exact HB.out))) : w.heap.size ≤ gb764)); have n3_ := Aside0.mk ((by rw [hg]; exact (below_size (by repeat (first | (with_reducible first | exact HB.out | apply below_alloc | apply pw_below_drewN | apply below_drew1) | exact HB.out))) : w.heap.size ≤ gb764)); clear HB; have HB := n0_; have BK764 := n1_; have GW764 := n2_; have GE764 := n3_; clear n0_ n1_ n2_ n3_; clear hb hbox hg; have hcz18_0 : w17.cell? ⟨gb764, 0, none⟩ = some (.int .i64 a0_0) := (blk_cell BK764.out 0).trans rfl; have hcz18_1 : w17.cell? ⟨gb764, 1, none⟩ = some (.string a0_1) := (blk_cell BK764.out 1).trans rfl; have hfz18_0 := blk_frozen BK764.out 0; have hfz18_1 := blk_frozen BK764.out 1) | ((with_reducible refine gate_callee (f := 92) rfl ?_); refine goesL_ (some 4) rfl rfl Try.func92 (by kernel_rfl) rfl #[.agg #[.int .i64 a0_0, .string a0_1]] rfl (by (try simp only [List.map_toArray, List.map_cons, List.map_nil]); first | done | rfl | (simp only [List.length_drop, List.length_take]; rfl)) ?_; (with_reducible refine (impl_AreSigns.calls k a0_0 a0_1 false _ A2.out).mono ?_); rintro e w19 ⟨rfl, hb⟩; refine ⟨_, rfl, ?_⟩; have n0_ := Aside0.mk (blk_below (g := gb764) (o := .cells #[.int .i64 a0_0, .string a0_1] 25 (0, 0)) (by (with_reducible repeat (first | refine blk_drewN ?_ _ | refine blk_drew ?_ | refine blk_alloc ?_ _)); exact BK764.out) hb); have n1_ := Aside0.mk (below_step (by repeat (first | (with_reducible first | exact HB.out | apply below_alloc | apply pw_below_drewN | apply below_drew1 | refine below_set ?_ GE764.out) | exact HB.out)) hb); clear BK764; clear HB; have BK764 := n0_; have HB := n1_; clear n0_ n1_; (try clear hb); (try clear hb2); (try clear hk); (try clear hi)))
  go_ret
  exact ⟨by first | rfl | (simp [errW_none, errW_some] <;> rfl) | (simp [*, errW_none, errW_some] <;> rfl), by repeat (first | (with_reducible first | exact HB.out | apply below_alloc | apply pw_below_drewN | apply below_drew1 | refine below_set ?_ GE764.out) | exact HB.out)⟩
end Go.Proofs.Yteblnjoljbdjjaa.P
namespace Go.Proofs.Yteblnjoljbdjjaa.P
open Go.RowKit Go.Proofs.YteblnjoljbdjjaaW.PrintWords Go.Proofs.YteblnjoljbdjjaaW.PrintLast Go.Proofs.YteblnjoljbdjjaaW.PrintMore
set_option linter.unusedVariables false
set_option linter.unusedSimpArgs false
def oppI (x : Int) : Int := if x = 43 then 45 else if x = 45 then 43 else x
def oppL (s : ByteArray) : List Int := (List.range s.size).map fun j : Nat => oppI (bt s (j : Int))
def impl_opposite.f (a0 : ByteArray) : Option ByteArray := if a0.size ≤ 9223372036854775807 then some (strOfNums (oppL a0)) else none
def oppR (s : ByteArray) (i j : Nat) : Int := if j < i then oppI (bt s (j : Int)) else bt s (j : Int)
theorem OPB (w : World) (e : TypeId) (s : ByteArray) : Below w.heap.size w (Lib.bytesWorld w e s) :=
  ⟨rfl, rfl, rfl, by rw [Lib.bytesWorld_size]; omega, fun k hk => Lib.bytesWorld_at_old w e s k hk⟩
theorem OPW (i : Nat) (h : i < 9223372036854775807) : wrap64 ((i : Int) + 1) = ((i + 1 : Nat) : Int) := by
  unfold wrap64
  omega
theorem opp_bt (s : ByteArray) (j : Nat) (hj : j < s.size) : (some (Value.int .u8 (s.data.toList.getD j 0).toNat)) = some (.int .u8 (bt s (j : Int))) := by
  unfold bt
  rw [dif_pos (by simpa using hj)]
  have h : j < s.data.toList.length := hj
  rw [List.getD_eq_getElem?_getD, List.getElem?_eq_getElem h]
  rfl
theorem opp_frozen (w : World) (e : TypeId) (s : ByteArray) (j : Nat) (hj : j < s.size) : (Lib.bytesWorld w e s).frozen? ⟨w.heap.size, j, none⟩ = false := by
  have h1 : s.size ≤ (Lib.bytesCells w e s).size := by
    unfold Lib.bytesCells
    rw [Array.size_append, Array.size_map]
    exact Nat.le_add_right _ _
  unfold World.frozen?
  simp only [Lib.bytesWorld_at_new]
  simp
  omega
set_option maxHeartbeats 2000000 in
set_option maxRecDepth 100000 in
theorem impl_opposite.calls (a0 : ByteArray) (r : ByteArray) (w : World) (h : impl_opposite.f a0 = some r) :
    Calls Try.prog 59 #[.string a0] w fun e w' => e = .returned (.string r) ∧ Below w.heap.size w w' := by
  unfold impl_opposite.f at h
  by_cases hsz : a0.size ≤ 9223372036854775807
  case neg => rw [if_neg hsz] at h; cases h
  rw [if_pos hsz] at h
  obtain rfl := Option.some.inj h
  clear h
  have hcv : ∀ W : World, (convert 9 113 (.string a0)).run Try.prog W = .ok (.slice (some ⟨W.heap.size, 0, none⟩) a0.size (grownCap W a0.size 0 5)) (Lib.bytesWorld W 5 a0) :=
    fun W => Lib.run_convert_string_bytes W _ _ _ a0 Try.underlying9 Try.underlying113 Try.underlying5
  have hbel0 : Below w.heap.size w (Lib.bytesWorld w 5 a0) := OPB w 5 a0
  have hc0 : ∀ j, j < a0.size → (Lib.bytesWorld w 5 a0).cell? ⟨w.heap.size, j, none⟩ = some (.int .u8 (bt a0 (j : Int))) := fun j hj => by
    rw [Lib.bytesWorld_cell w 5 a0 j hj, opp_bt a0 j hj]
  have hf0 : ∀ j, j < a0.size → (Lib.bytesWorld w 5 a0).frozen? ⟨w.heap.size, j, none⟩ = false := fun j hj => opp_frozen w 5 a0 j hj
  have HC := Aside0.mk hc0; have HF := Aside0.mk hf0; have HB := Aside0.mk hbel0; have HS := Aside0.mk hsz
  clear hc0 hf0 hbel0 hsz
  go_enter Try.func59, Try.ntmps59
  go_wp2
  generalize grownCap w a0.size 0 5 = cap
  generalize Lib.bytesWorld w 5 a0 = w1 at HC HF HB ⊢
  go_loopg [10] a0.size (fun gg v10 wr => ∃ i : Nat, i ≤ a0.size ∧ a0.size - i ≤ gg ∧ v10 = .int .i64 i ∧ Aside0 (Below w.heap.size w wr) ∧ Aside0 (∀ j, j < a0.size → wr.cell? ⟨w.heap.size, j, none⟩ = some (.int .u8 (oppR a0 i j))) ∧ Aside0 (∀ j, j < a0.size → wr.frozen? ⟨w.heap.size, j, none⟩ = false))
  case atStart =>
    refine ⟨0, Nat.zero_le _, by omega, rfl, HB, ⟨fun j hj => ?_⟩, HF⟩
    rw [HC.out j hj]
    rfl
  case round =>
    clear HC HF HB
    obtain ⟨i, hi, hg, rfl, HB, HC, HF⟩ := hrel
    by_cases hlt : i < a0.size
    · have hltz : (i : Int) < (a0.size : Int) := by omega
      have l1 := HC.out i hlt
      have f1 := HF.out i hlt
      rw [show oppR a0 i i = bt a0 (i : Int) by unfold oppR; rw [if_neg (Nat.lt_irrefl _)]] at l1
      have hstep : ∀ (W : World) (x : Int), x = oppI (bt a0 (i : Int)) → (∀ j, j < a0.size → W.cell? ⟨w.heap.size, j, none⟩ = some (.int .u8 (if j = i then x else oppR a0 i j))) → ∀ j, j < a0.size → W.cell? ⟨w.heap.size, j, none⟩ = some (.int .u8 (oppR a0 (i + 1) j)) := by
        intro W x hx hW j hj
        rw [hW j hj]
        unfold oppR
        by_cases e : j = i
        · subst e; rw [if_pos rfl, if_pos (Nat.lt_succ_self _), hx]
        · rw [if_neg e]
          by_cases e2 : j < i
          · rw [if_pos e2, if_pos (by omega)]
          · rw [if_neg e2, if_neg (by omega)]
      have HSTEP := Aside0.mk hstep
      clear hstep
      generalize hb : bt a0 (i : Int) = b at l1 HSTEP
      have HBB := Aside0.mk hb
      clear hb
      by_cases h43 : b = 43
      · subst h43
        go_wp2
        go_roundg (a0.size - (i + 1))
        case measure => omega
        case rel =>
          refine ⟨i + 1, by omega, by omega, by rw [OPW i (by have := HS.out; omega)], ⟨HB.out.setCell (Nat.le_refl _) _⟩, ⟨HSTEP.out _ 45 rfl (fun j hj => ?_)⟩, ⟨fun j hj => by rw [World.frozen?_setCell]; exact HF.out j hj⟩⟩
          by_cases e : j = i
          · subst e; rw [if_pos rfl, World.cell?_setCell_same (h := l1)]
          · rw [if_neg e, World.cell?_setCell_other (h := by intro h; injection h with _ h2 _; exact e h2.symm)]; exact HC.out j hj
      · by_cases h45 : b = 45
        · subst h45
          have n43 : ((45 : Int) == 43) = false := rfl
          go_wp2
          go_roundg (a0.size - (i + 1))
          case measure => omega
          case rel =>
            refine ⟨i + 1, by omega, by omega, by rw [OPW i (by have := HS.out; omega)], ⟨HB.out.setCell (Nat.le_refl _) _⟩, ⟨HSTEP.out _ 43 rfl (fun j hj => ?_)⟩, ⟨fun j hj => by rw [World.frozen?_setCell]; exact HF.out j hj⟩⟩
            by_cases e : j = i
            · subst e; rw [if_pos rfl, World.cell?_setCell_same (h := l1)]
            · rw [if_neg e, World.cell?_setCell_other (h := by intro h; injection h with _ h2 _; exact e h2.symm)]; exact HC.out j hj
        · have n43 : (b == 43) = false := beq_eq_false_iff_ne.mpr h43
          have n45 : (b == 45) = false := beq_eq_false_iff_ne.mpr h45
          go_wp2
          go_roundg (a0.size - (i + 1))
          case measure => omega
          case rel =>
            refine ⟨i + 1, by omega, by omega, by rw [OPW i (by have := HS.out; omega)], HB, ⟨HSTEP.out _ b (by unfold oppI; rw [if_neg h43, if_neg h45]) (fun j hj => ?_)⟩, HF⟩
            by_cases e : j = i
            · subst e; rw [if_pos rfl]; exact l1
            · rw [if_neg e]; exact HC.out j hj
    · have hltz : ¬ (i : Int) < (a0.size : Int) := by omega
      have : i = a0.size := by omega
      subst this
      have hcv2 : ∀ W : World, (∀ j, j < a0.size → W.cell? ⟨w.heap.size, 0 + j, none⟩ = some (.int .u8 ((oppL a0).getD j 0))) → (convert 113 9 (Value.slice (some ⟨w.heap.size, 0, none⟩) a0.size cap)).run Try.prog W = .ok (.string (strOfNums (oppL a0))) W :=
        fun W hW => run_convert_bytes_arg W 113 5 Try.underlying113 Try.underlying5 w.heap.size 0 a0.size cap (oppL a0) (by rw [oppL, List.length_map, List.length_range]) hW 9 Try.underlying9
      have hcv3 := hcv2 wr (fun j hj => by
        rw [Nat.zero_add, HC.out j hj]
        unfold oppR oppL
        rw [if_pos hj, List.getD_eq_getElem?_getD, List.getElem?_map, List.getElem?_range hj]
        rfl)
      go_wp2
      go_ret
      exact ⟨rfl, HB.out⟩
end Go.Proofs.Yteblnjoljbdjjaa.P
