/- What the law FnExactIsMutation reaches, part 4: functions as plain Lean functions with the proofs that their calls come to them, and plain lemmas over these. -/
import Derived.Test.YtbmoaphiheoanaaP0
import Derived.Test.YtbmoaphiheoanaaKFnExactIsMutationc
import Derived.Test.YtbmoaphiheoanaaKFnExactIsMutationb
import Derived.Test.YtbmoaphiheoanaaKFnExactIsMutationa
import Derived.Test.YtbmoaphiheoanaaWWords
import Derived.Test.YtbmoaphiheoanaaRq
namespace Go.Proofs.Ytbmoaphiheoanaa.P
open Go.RowKit Go.Proofs.YtbmoaphiheoanaaW.PrintWords Go.Proofs.YtbmoaphiheoanaaW.PrintLast Go.Proofs.YtbmoaphiheoanaaW.PrintMore
attribute [local go_sem] ptrOf_slice
attribute [local go_sem] max2_int min2_int max_two min_two max_three min_three max_four min_four   -- for this text's walks alone
set_option linter.unusedVariables false
set_option linter.unusedSimpArgs false

/-! ### impl_chi_firstBreak: function 107 -/
mutual
def impl_chi_firstBreak.l0 : Nat → List Int → Int → Option (List Int)
  | 0, _, _ => none
  | k + 1, x0, x3 => if 344 ≤ (x0.length : Int) then (if x3 < (chiN x0) then ((impl_quadsOf.f k (chiN x0)).bind fun t239 => (impl_chi_firstBreak.l1 k x0 x3 t239 (t239.length : Int) 0)) else (some ([] : List Int))) else (none)
def impl_chi_firstBreak.l1 : Nat → List Int → Int → List (S122) → Int → Int → Option (List Int)
  | 0, _, _, _, _, _ => none
  | k + 1, x0, x3, x18, x19, x20 => if x20 < x19 then (if 0 ≤ x20 then (if x20 < (x18.length : Int) then (if ((rd_T122 x18 x20).f0) = x3 then (impl_chi_firstBreak.l1 k x0 x3 x18 x19 (wrap64 (x20 + 1))) else (if ((rd_T122 x18 x20).f1) = x3 then (impl_chi_firstBreak.l1 k x0 x3 x18 x19 (wrap64 (x20 + 1))) else (if ((rd_T122 x18 x20).f2) = x3 then (impl_chi_firstBreak.l1 k x0 x3 x18 x19 (wrap64 (x20 + 1))) else (if ((rd_T122 x18 x20).f3) = x3 then (impl_chi_firstBreak.l1 k x0 x3 x18 x19 (wrap64 (x20 + 1))) else ((impl_chi_breaks.f x0 x3 ((rd_T122 x18 x20).f0) ((rd_T122 x18 x20).f1) ((rd_T122 x18 x20).f2) ((rd_T122 x18 x20).f3)).bind fun t244 => (if t244 = true then (some (([x3, (rd_T122 x18 x20).f0, (rd_T122 x18 x20).f1, (rd_T122 x18 x20).f2, (rd_T122 x18 x20).f3] : List Int))) else (impl_chi_firstBreak.l1 k x0 x3 x18 x19 (wrap64 (x20 + 1))))))))) else (none)) else (none)) else (impl_chi_firstBreak.l0 k x0 (wrap64 (x3 + 1)))
end
def impl_chi_firstBreak.f (k : Nat) (l0 : List Int) : Option (List Int) := impl_chi_firstBreak.l0 k l0 0
theorem impl_chi_firstBreak.mono_l : ∀ k, (∀ y0 y1, LeO (impl_chi_firstBreak.l0 k y0 y1) (impl_chi_firstBreak.l0 (k + 1) y0 y1)) ∧ (∀ y0 y1 y2 y3 y4, LeO (impl_chi_firstBreak.l1 k y0 y1 y2 y3 y4) (impl_chi_firstBreak.l1 (k + 1) y0 y1 y2 y3 y4))
  | 0 => ⟨fun _ _ r h => by simp [impl_chi_firstBreak.l0] at h, fun _ _ _ _ _ r h => by simp [impl_chi_firstBreak.l1] at h⟩
  | k + 1 => by
    obtain ⟨ih0, ih1⟩ := impl_chi_firstBreak.mono_l k
    refine ⟨?_, ?_⟩
    · intro y0 y1
      unfold impl_chi_firstBreak.l0
      repeat' first
      | (with_reducible exact ih0 _ _)
      | (with_reducible exact ih1 _ _ _ _ _)
      | (with_reducible exact impl_quadsOf.mono _ _)
      | (with_reducible exact LeO.refl _)
      | (with_reducible exact LeO.none _)
      | (with_reducible refine LeO.ite ?_ ?_)
      | (with_reducible refine LeO.bind ?_ (fun _ => ?_))
      | exact ih0 _ _
      | exact ih1 _ _ _ _ _
      | exact impl_quadsOf.mono _ _
      | exact LeO.none _
      | refine LeO.ite ?_ ?_
      | refine LeO.bind ?_ (fun _ => ?_)
    · intro y0 y1 y2 y3 y4
      unfold impl_chi_firstBreak.l1
      repeat' first
      | (with_reducible exact ih0 _ _)
      | (with_reducible exact ih1 _ _ _ _ _)
      | (with_reducible exact impl_quadsOf.mono _ _)
      | (with_reducible exact LeO.refl _)
      | (with_reducible exact LeO.none _)
      | (with_reducible refine LeO.ite ?_ ?_)
      | (with_reducible refine LeO.bind ?_ (fun _ => ?_))
      | exact ih0 _ _
      | exact ih1 _ _ _ _ _
      | exact impl_quadsOf.mono _ _
      | exact LeO.none _
      | refine LeO.ite ?_ ?_
      | refine LeO.bind ?_ (fun _ => ?_)
theorem impl_chi_firstBreak.mono : ∀ a0 k, LeO (impl_chi_firstBreak.f k a0) (impl_chi_firstBreak.f (k + 1) a0) := by
  intro a0 k
  obtain ⟨ih0, ih1⟩ := impl_chi_firstBreak.mono_l k
  unfold impl_chi_firstBreak.f
  repeat' first
      | (with_reducible exact ih0 _ _)
      | (with_reducible exact ih1 _ _ _ _ _)
      | (with_reducible exact impl_quadsOf.mono _ _)
      | (with_reducible exact LeO.refl _)
      | (with_reducible exact LeO.none _)
      | (with_reducible refine LeO.ite ?_ ?_)
      | (with_reducible refine LeO.bind ?_ (fun _ => ?_))
      | exact ih0 _ _
      | exact ih1 _ _ _ _ _
      | exact impl_quadsOf.mono _ _
      | exact LeO.none _
      | refine LeO.ite ?_ ?_
      | refine LeO.bind ?_ (fun _ => ?_)
set_option maxHeartbeats 8000000 in
set_option maxRecDepth 100000 in
theorem impl_chi_firstBreak.calls (k : Nat) (A0 : Option Addr) (c0 : Nat) (l0 : List Int) (r : List Int) (w : World) (hr0 : Kd.C (Kd.int .i64) w A0 l0.length l0) (hc0 : l0.length ≤ c0) (h : impl_chi_firstBreak.f k l0 = some r) :
    Calls Try.prog 107 #[.pointer A0] w fun e w' => ∃ v0_ : Value, e = .returned (v0_) ∧ (Kd.R (Kd.int .i64) 3 w' w.heap.size (fun _ => True) v0_ r ∧ NZ v0_ r) ∧ Below w.heap.size w w' := by
  have hu122 := Try.underlying122
  have HR0 := Aside0.mk hr0
  have HC0 := Aside0.mk hc0
  clear hr0 hc0
  have HB := Aside0.mk (Below.refl w.heap.size w)
  have H : (impl_chi_firstBreak.l0 k l0 0) = some r := h
  clear h
  have H' := Aside0.mk H
  clear H
  go_enter Try.func107, Try.ntmps107
  go_wp2
  go_loopg [3] k (fun kq v3 w' => ∃ (x3_1 : Int), v3 = .int .i64 x3_1 ∧ Aside0 (impl_chi_firstBreak.l0 kq l0 x3_1 = some r) ∧ Aside0 (kq ≤ k) ∧ Aside0 (Below w.heap.size w w'))
  case atStart => exact ⟨(0), (by first | rfl | (simp; done) | (simp [*]; done)), H', ⟨Nat.le_refl _⟩, ⟨by repeat (first | (with_reducible first | exact HB.out | apply below_alloc | apply pw_below_drewN | apply below_drew1) | exact HB.out)⟩⟩
  case round =>
    clear H'
    try clear c1
    obtain ⟨x3_1, rfl, HA, HK1, HB⟩ := hrel
    cases gk with
    | zero => exact absurd HA.out (by simp [impl_chi_firstBreak.l0])
    | succ k1 =>
      have H := HA.out
      clear HA
      simp only [impl_chi_firstBreak.l0] at H
      by_cases c2 : 344 ≤ (l0.length : Int)
      · rw [if_pos c2] at H
        have c2b0 := eq_true c2
        have c2b1 : decide (344 ≤ (l0.length : Int)) = true := decide_eq_true c2
        clear c2
        by_cases c3 : x3_1 < (chiN l0)
        · rw [if_pos c3] at H
          have c3b0 : decide (x3_1 < (chiN l0)) = true := decide_eq_true c3
          clear c3
          replace H := Option.bind_eq_some_iff.mp H
          obtain ⟨t239, A40, H⟩ := H
          replace H : (impl_chi_firstBreak.l1 k1 l0 x3_1 t239 (t239.length : Int) 0) = some r := H
          have A4 := Aside0.mk A40
          clear A40
          have H' := Aside0.mk H
          clear H
          have q237 : 344 ≤ (l0.length : Int) := of_decide_eq_true (by first | (with_reducible assumption) | assumption)
          obtain ⟨ad237, e237, hx237_0⟩ := chi_n HR0.out q237
          cases e237
          replace hx237_0 := (HB.out.cell (World.block_lt_of_cell? w _ hx237_0)).trans hx237_0
          have q238 : 344 ≤ (l0.length : Int) := of_decide_eq_true (by first | (with_reducible assumption) | assumption)
          obtain ⟨ad238, e238, hx238_0⟩ := chi_n HR0.out q238
          obtain rfl : ad237 = ad238 := (by injection e238)
          replace hx238_0 := (HB.out.cell (World.block_lt_of_cell? w _ hx238_0)).trans hx238_0
          go_wp2_with (first | ((with_reducible refine gate_callee (f := 117) rfl ?_); refine goesL_ (some 18) rfl rfl Try.func117 (by kernel_rfl) rfl #[.int .i64 (chiN l0)] rfl (by (try simp only [List.map_toArray, List.map_cons, List.map_nil]); first | done | rfl | (simp only [List.length_drop, List.length_take]; rfl)) ?_; (with_reducible refine (impl_quadsOf.calls k1 (chiN l0) t239 _ A4.out).mono ?_); rintro e w5 ⟨v240, rfl, ho0, hb⟩; refine ⟨_, rfl, ?_⟩; have n0_ := Aside0.mk (Kd.R_lower ho0 (below_size (by repeat (first | (with_reducible first | exact HB.out | apply below_alloc | apply pw_below_drewN | apply below_drew1) | exact HB.out)))); have n1_ := Aside0.mk (below_step (by repeat (first | (with_reducible first | exact HB.out | apply below_alloc | apply pw_below_drewN | apply below_drew1) | exact HB.out)) hb); clear HB; have HO241 := n0_; have HB := n1_; clear n0_ n1_; (try clear hb); (try clear hb2); (try clear hk); (try clear hi); (try clear ho0); obtain ⟨Ao6, co6, eo6⟩ := Kd.R_slice HO241.out; subst eo6))
          go_loopg [20] k1 (fun kq v20 w' => ∃ (x20_2 : Int), v20 = .int .i64 x20_2 ∧ Aside0 (impl_chi_firstBreak.l1 kq l0 x3_1 t239 (t239.length : Int) x20_2 = some r) ∧ Aside0 (kq ≤ k1) ∧ Aside0 (Kd.R k122 122 w' w.heap.size (fun _ => True) (.slice Ao6 t239.length co6) t239) ∧ Aside0 (Below w.heap.size w w'))
          case atStart => exact ⟨(0), (by first | rfl | (simp; done) | (simp [*]; done)), H', ⟨Nat.le_refl _⟩, ⟨by (with_reducible repeat (first | apply Kd.R_alloc | apply Kd.R_drewN | apply Kd.R_drew)); exact HO241.out⟩, ⟨by repeat (first | (with_reducible first | exact HB.out | apply below_alloc | apply pw_below_drewN | apply below_drew1) | exact HB.out)⟩⟩
          case round =>
            clear H'
            try clear c1
            try clear c2
            try clear c2b0
            try clear c2b1
            try clear p2
            try clear q2
            try clear hx2
            try clear c3
            try clear c3b0
            try clear hx237_0
            try clear hx238_0
            try clear q237
            try clear q238
            obtain ⟨x20_2, rfl, HA, HK2, HO_18, HB⟩ := hrel
            cases gk with
            | zero => exact absurd HA.out (by simp [impl_chi_firstBreak.l1])
            | succ k2 =>
              have H := HA.out
              clear HA
              simp only [impl_chi_firstBreak.l1] at H
              by_cases c7 : x20_2 < (t239.length : Int)
              · rw [if_pos c7] at H
                have c7b0 : decide (x20_2 < (t239.length : Int)) = true := decide_eq_true c7
                clear c7
                by_cases c8 : 0 ≤ x20_2
                · rw [if_pos c8] at H
                  have c8b0 : decide (0 ≤ x20_2) = true := decide_eq_true c8
                  clear c8
                  by_cases c9 : x20_2 < (t239.length : Int)
                  · rw [if_pos c9] at H
                    have c9b0 : decide (x20_2 < (t239.length : Int)) = true := decide_eq_true c9
                    clear c9
                    by_cases c10 : ((rd_T122 t239 x20_2).f0) = x3_1
                    · rw [if_pos c10] at H
                      have c10b0 : (((rd_T122 t239 x20_2).f0) == x3_1) = true := beq_iff_eq.mpr c10
                      have c10b1 : (((rd_T122 t239 x20_2).f0) != x3_1) = false := bne_eq_false_iff_eq.mpr c10
                      clear c10
                      have H' := Aside0.mk H
                      clear H
                      have p242 : 0 ≤ (x20_2 : Int) := of_decide_eq_true (by first | (with_reducible assumption) | assumption)
                      have q242 : x20_2 < (t239.length : Int) := of_decide_eq_true (by first | (with_reducible assumption) | assumption)
                      obtain ⟨ad242, e242, hx242_0, hx242_1, hx242_2, hx242_3⟩ := at_T122 (Kd.R_reads' HO_18.out).2.2 x20_2 p242 q242
                      cases e242
                      replace p242 := eq_true p242
                      replace q242 := eq_true q242
                      go_wp2_with (first | ((with_reducible refine gate_dst (N := 5) rfl ?_); refine box_event ?hg (N := 5) ?hd (cs := #[.int .i64 0, .int .i64 0, .int .i64 0, .int .i64 0]) (t := 122) ?hr ?_; (case hd => rfl); (case hg => rfl); (case hr => first | (go_simp; done) | (go_simp; rfl)); intro gb243 hg w11 hbox hb; have n0_ := Aside0.mk (Kd.R_below (Kd.R_elderB (by (with_reducible repeat (first | apply Kd.R_alloc | apply Kd.R_drewN | apply Kd.R_drew)); exact HO_18.out) gb243 (Nat.le_of_eq hg.symm)) hb); have n1_ := Aside0.mk (below_step (by repeat (first | (with_reducible first | exact HB.out | apply below_alloc | apply pw_below_drewN | apply below_drew1) | exact HB.out)) hb); have n2_ := Aside0.mk (hbox); have n3_ := Aside0.mk ((by rw [hg]; exact (below_size (by repeat (first | (with_reducible first | exact HB.out | apply below_alloc | apply pw_below_drewN | apply below_drew1) | exact HB.out))) : w.heap.size ≤ gb243)); have n4_ := Aside0.mk ((by rw [hg]; exact (below_size (by repeat (first | (with_reducible first | exact HB.out | apply below_alloc | apply pw_below_drewN | apply below_drew1) | exact HB.out))) : w.heap.size ≤ gb243)); clear HO_18; clear HB; have HO_18 := n0_; have HB := n1_; have BK243 := n2_; have GW243 := n3_; have GE243 := n4_; clear n0_ n1_ n2_ n3_ n4_; clear hb hbox hg; have hcz12_0 : w11.cell? ⟨gb243, 0, none⟩ = some (.int .i64 0) := (blk_cell BK243.out 0).trans rfl; have hcz12_1 : w11.cell? ⟨gb243, 1, none⟩ = some (.int .i64 0) := (blk_cell BK243.out 1).trans rfl; have hcz12_2 : w11.cell? ⟨gb243, 2, none⟩ = some (.int .i64 0) := (blk_cell BK243.out 2).trans rfl; have hcz12_3 : w11.cell? ⟨gb243, 3, none⟩ = some (.int .i64 0) := (blk_cell BK243.out 3).trans rfl; have hfz12_0 := blk_frozen BK243.out 0; have hfz12_1 := blk_frozen BK243.out 1; have hfz12_2 := blk_frozen BK243.out 2; have hfz12_3 := blk_frozen BK243.out 3))
                      go_roundg k2
                      case measure => have := HK1.out; have := HK2.out; omega
                      case rel => exact ⟨(wrap64 (x20_2 + 1)), (by first | rfl | (simp; done) | (simp [*]; done)), H', ⟨by have := HK1.out; have := HK2.out; omega⟩, ⟨by (with_reducible repeat (first | apply Kd.R_alloc | apply Kd.R_drewN | apply Kd.R_drew)); exact Kd.R_mono (Kd.R_far (p := ⟨gb243, 3, none⟩) (Kd.R_far (p := ⟨gb243, 2, none⟩) (Kd.R_far (p := ⟨gb243, 1, none⟩) (Kd.R_far (p := ⟨gb243, 0, none⟩) (Kd.R_mono HO_18.out (fun k_ hk => (⟨hk, hk.2⟩ : _ ∧ k_ ≠ gb243))) (fun _ hk => hk.2) (.int .i64 ((rd_T122 t239 x20_2).f0))) (fun _ hk => hk.2) (.int .i64 ((rd_T122 t239 x20_2).f1))) (fun _ hk => hk.2) (.int .i64 ((rd_T122 t239 x20_2).f2))) (fun _ hk => hk.2) (.int .i64 ((rd_T122 t239 x20_2).f3))) (fun _ hk => trivial)⟩, ⟨by repeat (first | (with_reducible first | exact HB.out | apply below_alloc | apply pw_below_drewN | apply below_drew1 | refine below_set ?_ GE243.out) | exact HB.out)⟩⟩
                    · rw [if_neg c10] at H
                      have c10b0 : (((rd_T122 t239 x20_2).f0) == x3_1) = false := beq_eq_false_iff_ne.mpr c10
                      have c10b1 : (((rd_T122 t239 x20_2).f0) != x3_1) = true := bne_iff_ne.mpr c10
                      by_cases c13 : ((rd_T122 t239 x20_2).f1) = x3_1
                      · rw [if_pos c13] at H
                        have c13b0 : (((rd_T122 t239 x20_2).f1) == x3_1) = true := beq_iff_eq.mpr c13
                        have c13b1 : (((rd_T122 t239 x20_2).f1) != x3_1) = false := bne_eq_false_iff_eq.mpr c13
                        clear c13
                        have H' := Aside0.mk H
                        clear H
                        have p242 : 0 ≤ (x20_2 : Int) := of_decide_eq_true (by first | (with_reducible assumption) | assumption)
                        have q242 : x20_2 < (t239.length : Int) := of_decide_eq_true (by first | (with_reducible assumption) | assumption)
                        obtain ⟨ad242, e242, hx242_0, hx242_1, hx242_2, hx242_3⟩ := at_T122 (Kd.R_reads' HO_18.out).2.2 x20_2 p242 q242
                        cases e242
                        replace p242 := eq_true p242
                        replace q242 := eq_true q242
                        go_wp2_with (first | ((with_reducible refine gate_dst (N := 5) rfl ?_); refine box_event ?hg (N := 5) ?hd (cs := #[.int .i64 0, .int .i64 0, .int .i64 0, .int .i64 0]) (t := 122) ?hr ?_; (case hd => rfl); (case hg => rfl); (case hr => first | (go_simp; done) | (go_simp; rfl)); intro gb243 hg w14 hbox hb; have n0_ := Aside0.mk (Kd.R_below (Kd.R_elderB (by (with_reducible repeat (first | apply Kd.R_alloc | apply Kd.R_drewN | apply Kd.R_drew)); exact HO_18.out) gb243 (Nat.le_of_eq hg.symm)) hb); have n1_ := Aside0.mk (below_step (by repeat (first | (with_reducible first | exact HB.out | apply below_alloc | apply pw_below_drewN | apply below_drew1) | exact HB.out)) hb); have n2_ := Aside0.mk (hbox); have n3_ := Aside0.mk ((by rw [hg]; exact (below_size (by repeat (first | (with_reducible first | exact HB.out | apply below_alloc | apply pw_below_drewN | apply below_drew1) | exact HB.out))) : w.heap.size ≤ gb243)); have n4_ := Aside0.mk ((by rw [hg]; exact (below_size (by repeat (first | (with_reducible first | exact HB.out | apply below_alloc | apply pw_below_drewN | apply below_drew1) | exact HB.out))) : w.heap.size ≤ gb243)); clear HO_18; clear HB; have HO_18 := n0_; have HB := n1_; have BK243 := n2_; have GW243 := n3_; have GE243 := n4_; clear n0_ n1_ n2_ n3_ n4_; clear hb hbox hg; have hcz15_0 : w14.cell? ⟨gb243, 0, none⟩ = some (.int .i64 0) := (blk_cell BK243.out 0).trans rfl; have hcz15_1 : w14.cell? ⟨gb243, 1, none⟩ = some (.int .i64 0) := (blk_cell BK243.out 1).trans rfl; have hcz15_2 : w14.cell? ⟨gb243, 2, none⟩ = some (.int .i64 0) := (blk_cell BK243.out 2).trans rfl; have hcz15_3 : w14.cell? ⟨gb243, 3, none⟩ = some (.int .i64 0) := (blk_cell BK243.out 3).trans rfl; have hfz15_0 := blk_frozen BK243.out 0; have hfz15_1 := blk_frozen BK243.out 1; have hfz15_2 := blk_frozen BK243.out 2; have hfz15_3 := blk_frozen BK243.out 3))
                        go_roundg k2
                        case measure => have := HK1.out; have := HK2.out; omega
                        case rel => exact ⟨(wrap64 (x20_2 + 1)), (by first | rfl | (simp; done) | (simp [*]; done)), H', ⟨by have := HK1.out; have := HK2.out; omega⟩, ⟨by (with_reducible repeat (first | apply Kd.R_alloc | apply Kd.R_drewN | apply Kd.R_drew)); exact Kd.R_mono (Kd.R_far (p := ⟨gb243, 3, none⟩) (Kd.R_far (p := ⟨gb243, 2, none⟩) (Kd.R_far (p := ⟨gb243, 1, none⟩) (Kd.R_far (p := ⟨gb243, 0, none⟩) (Kd.R_mono HO_18.out (fun k_ hk => (⟨hk, hk.2⟩ : _ ∧ k_ ≠ gb243))) (fun _ hk => hk.2) (.int .i64 ((rd_T122 t239 x20_2).f0))) (fun _ hk => hk.2) (.int .i64 ((rd_T122 t239 x20_2).f1))) (fun _ hk => hk.2) (.int .i64 ((rd_T122 t239 x20_2).f2))) (fun _ hk => hk.2) (.int .i64 ((rd_T122 t239 x20_2).f3))) (fun _ hk => trivial)⟩, ⟨by repeat (first | (with_reducible first | exact HB.out | apply below_alloc | apply pw_below_drewN | apply below_drew1 | refine below_set ?_ GE243.out) | exact HB.out)⟩⟩
                      · rw [if_neg c13] at H
                        have c13b0 : (((rd_T122 t239 x20_2).f1) == x3_1) = false := beq_eq_false_iff_ne.mpr c13
                        have c13b1 : (((rd_T122 t239 x20_2).f1) != x3_1) = true := bne_iff_ne.mpr c13
                        by_cases c16 : ((rd_T122 t239 x20_2).f2) = x3_1
                        · rw [if_pos c16] at H
                          have c16b0 : (((rd_T122 t239 x20_2).f2) == x3_1) = true := beq_iff_eq.mpr c16
                          have c16b1 : (((rd_T122 t239 x20_2).f2) != x3_1) = false := bne_eq_false_iff_eq.mpr c16
                          clear c16
                          have H' := Aside0.mk H
                          clear H
                          have p242 : 0 ≤ (x20_2 : Int) := of_decide_eq_true (by first | (with_reducible assumption) | assumption)
                          have q242 : x20_2 < (t239.length : Int) := of_decide_eq_true (by first | (with_reducible assumption) | assumption)
                          obtain ⟨ad242, e242, hx242_0, hx242_1, hx242_2, hx242_3⟩ := at_T122 (Kd.R_reads' HO_18.out).2.2 x20_2 p242 q242
                          cases e242
                          replace p242 := eq_true p242
                          replace q242 := eq_true q242
                          go_wp2_with (first | ((with_reducible refine gate_dst (N := 5) rfl ?_); refine box_event ?hg (N := 5) ?hd (cs := #[.int .i64 0, .int .i64 0, .int .i64 0, .int .i64 0]) (t := 122) ?hr ?_; (case hd => rfl); (case hg => rfl); (case hr => first | (go_simp; done) | (go_simp; rfl)); intro gb243 hg w17 hbox hb; have n0_ := Aside0.mk (Kd.R_below (Kd.R_elderB (by (with_reducible repeat (first | apply Kd.R_alloc | apply Kd.R_drewN | apply Kd.R_drew)); exact HO_18.out) gb243 (Nat.le_of_eq hg.symm)) hb); have n1_ := Aside0.mk (below_step (by repeat (first | (with_reducible first | exact HB.out | apply below_alloc | apply pw_below_drewN | apply below_drew1) | exact HB.out)) hb); have n2_ := Aside0.mk (hbox); have n3_ := Aside0.mk ((by rw [hg]; exact (below_size (by repeat (first | (with_reducible first | exact HB.out | apply below_alloc | apply pw_below_drewN | apply below_drew1) | exact HB.out))) : w.heap.size ≤ gb243)); have n4_ := Aside0.mk ((by rw [hg]; exact (below_size (by repeat (first | (with_reducible first | exact HB.out | apply below_alloc | apply pw_below_drewN | apply below_drew1) | exact HB.out))) : w.heap.size ≤ gb243)); clear HO_18; clear HB; have HO_18 := n0_; have HB := n1_; have BK243 := n2_; have GW243 := n3_; have GE243 := n4_; clear n0_ n1_ n2_ n3_ n4_; clear hb hbox hg; have hcz18_0 : w17.cell? ⟨gb243, 0, none⟩ = some (.int .i64 0) := (blk_cell BK243.out 0).trans rfl; have hcz18_1 : w17.cell? ⟨gb243, 1, none⟩ = some (.int .i64 0) := (blk_cell BK243.out 1).trans rfl; have hcz18_2 : w17.cell? ⟨gb243, 2, none⟩ = some (.int .i64 0) := (blk_cell BK243.out 2).trans rfl; have hcz18_3 : w17.cell? ⟨gb243, 3, none⟩ = some (.int .i64 0) := (blk_cell BK243.out 3).trans rfl; have hfz18_0 := blk_frozen BK243.out 0; have hfz18_1 := blk_frozen BK243.out 1; have hfz18_2 := blk_frozen BK243.out 2; have hfz18_3 := blk_frozen BK243.out 3))
                          go_roundg k2
                          case measure => have := HK1.out; have := HK2.out; omega
                          case rel => exact ⟨(wrap64 (x20_2 + 1)), (by first | rfl | (simp; done) | (simp [*]; done)), H', ⟨by have := HK1.out; have := HK2.out; omega⟩, ⟨by (with_reducible repeat (first | apply Kd.R_alloc | apply Kd.R_drewN | apply Kd.R_drew)); exact Kd.R_mono (Kd.R_far (p := ⟨gb243, 3, none⟩) (Kd.R_far (p := ⟨gb243, 2, none⟩) (Kd.R_far (p := ⟨gb243, 1, none⟩) (Kd.R_far (p := ⟨gb243, 0, none⟩) (Kd.R_mono HO_18.out (fun k_ hk => (⟨hk, hk.2⟩ : _ ∧ k_ ≠ gb243))) (fun _ hk => hk.2) (.int .i64 ((rd_T122 t239 x20_2).f0))) (fun _ hk => hk.2) (.int .i64 ((rd_T122 t239 x20_2).f1))) (fun _ hk => hk.2) (.int .i64 ((rd_T122 t239 x20_2).f2))) (fun _ hk => hk.2) (.int .i64 ((rd_T122 t239 x20_2).f3))) (fun _ hk => trivial)⟩, ⟨by repeat (first | (with_reducible first | exact HB.out | apply below_alloc | apply pw_below_drewN | apply below_drew1 | refine below_set ?_ GE243.out) | exact HB.out)⟩⟩
                        · rw [if_neg c16] at H
                          have c16b0 : (((rd_T122 t239 x20_2).f2) == x3_1) = false := beq_eq_false_iff_ne.mpr c16
                          have c16b1 : (((rd_T122 t239 x20_2).f2) != x3_1) = true := bne_iff_ne.mpr c16
                          by_cases c19 : ((rd_T122 t239 x20_2).f3) = x3_1
                          · rw [if_pos c19] at H
                            have c19b0 : (((rd_T122 t239 x20_2).f3) == x3_1) = true := beq_iff_eq.mpr c19
                            have c19b1 : (((rd_T122 t239 x20_2).f3) != x3_1) = false := bne_eq_false_iff_eq.mpr c19
                            clear c19
                            have H' := Aside0.mk H
                            clear H
                            have p242 : 0 ≤ (x20_2 : Int) := of_decide_eq_true (by first | (with_reducible assumption) | assumption)
                            have q242 : x20_2 < (t239.length : Int) := of_decide_eq_true (by first | (with_reducible assumption) | assumption)
                            obtain ⟨ad242, e242, hx242_0, hx242_1, hx242_2, hx242_3⟩ := at_T122 (Kd.R_reads' HO_18.out).2.2 x20_2 p242 q242
                            cases e242
                            replace p242 := eq_true p242
                            replace q242 := eq_true q242
                            go_wp2_with (first | ((with_reducible refine gate_dst (N := 5) rfl ?_); refine box_event ?hg (N := 5) ?hd (cs := #[.int .i64 0, .int .i64 0, .int .i64 0, .int .i64 0]) (t := 122) ?hr ?_; (case hd => rfl); (case hg => rfl); (case hr => first | (go_simp; done) | (go_simp; rfl)); intro gb243 hg w20 hbox hb; have n0_ := Aside0.mk (Kd.R_below (Kd.R_elderB (by (with_reducible repeat (first | apply Kd.R_alloc | apply Kd.R_drewN | apply Kd.R_drew)); exact HO_18.out) gb243 (Nat.le_of_eq hg.symm)) hb); have n1_ := Aside0.mk (below_step (by repeat (first | (with_reducible first | exact HB.out | apply below_alloc | apply pw_below_drewN | apply below_drew1) | exact HB.out)) hb); have n2_ := Aside0.mk (hbox); have n3_ := Aside0.mk ((by rw [hg]; exact (below_size (by repeat (first | (with_reducible first | exact HB.out | apply below_alloc | apply pw_below_drewN | apply below_drew1) | exact HB.out))) : w.heap.size ≤ gb243)); have n4_ := Aside0.mk ((by rw [hg]; exact (below_size (by repeat (first | (with_reducible first | exact HB.out | apply below_alloc | apply pw_below_drewN | apply below_drew1) | exact HB.out))) : w.heap.size ≤ gb243)); clear HO_18; clear HB; have HO_18 := n0_; have HB := n1_; have BK243 := n2_; have GW243 := n3_; have GE243 := n4_; clear n0_ n1_ n2_ n3_ n4_; clear hb hbox hg; have hcz21_0 : w20.cell? ⟨gb243, 0, none⟩ = some (.int .i64 0) := (blk_cell BK243.out 0).trans rfl; have hcz21_1 : w20.cell? ⟨gb243, 1, none⟩ = some (.int .i64 0) := (blk_cell BK243.out 1).trans rfl; have hcz21_2 : w20.cell? ⟨gb243, 2, none⟩ = some (.int .i64 0) := (blk_cell BK243.out 2).trans rfl; have hcz21_3 : w20.cell? ⟨gb243, 3, none⟩ = some (.int .i64 0) := (blk_cell BK243.out 3).trans rfl; have hfz21_0 := blk_frozen BK243.out 0; have hfz21_1 := blk_frozen BK243.out 1; have hfz21_2 := blk_frozen BK243.out 2; have hfz21_3 := blk_frozen BK243.out 3))
                            go_roundg k2
                            case measure => have := HK1.out; have := HK2.out; omega
                            case rel => exact ⟨(wrap64 (x20_2 + 1)), (by first | rfl | (simp; done) | (simp [*]; done)), H', ⟨by have := HK1.out; have := HK2.out; omega⟩, ⟨by (with_reducible repeat (first | apply Kd.R_alloc | apply Kd.R_drewN | apply Kd.R_drew)); exact Kd.R_mono (Kd.R_far (p := ⟨gb243, 3, none⟩) (Kd.R_far (p := ⟨gb243, 2, none⟩) (Kd.R_far (p := ⟨gb243, 1, none⟩) (Kd.R_far (p := ⟨gb243, 0, none⟩) (Kd.R_mono HO_18.out (fun k_ hk => (⟨hk, hk.2⟩ : _ ∧ k_ ≠ gb243))) (fun _ hk => hk.2) (.int .i64 ((rd_T122 t239 x20_2).f0))) (fun _ hk => hk.2) (.int .i64 ((rd_T122 t239 x20_2).f1))) (fun _ hk => hk.2) (.int .i64 ((rd_T122 t239 x20_2).f2))) (fun _ hk => hk.2) (.int .i64 ((rd_T122 t239 x20_2).f3))) (fun _ hk => trivial)⟩, ⟨by repeat (first | (with_reducible first | exact HB.out | apply below_alloc | apply pw_below_drewN | apply below_drew1 | refine below_set ?_ GE243.out) | exact HB.out)⟩⟩
                          · rw [if_neg c19] at H
                            have c19b0 : (((rd_T122 t239 x20_2).f3) == x3_1) = false := beq_eq_false_iff_ne.mpr c19
                            have c19b1 : (((rd_T122 t239 x20_2).f3) != x3_1) = true := bne_iff_ne.mpr c19
                            replace H := Option.bind_eq_some_iff.mp H
                            obtain ⟨t244, A220, H⟩ := H
                            replace H : (if t244 = true then (some (([x3_1, (rd_T122 t239 x20_2).f0, (rd_T122 t239 x20_2).f1, (rd_T122 t239 x20_2).f2, (rd_T122 t239 x20_2).f3] : List Int))) else (impl_chi_firstBreak.l1 k2 l0 x3_1 t239 (t239.length : Int) (wrap64 (x20_2 + 1)))) = some r := H
                            have A22 := Aside0.mk A220
                            clear A220
                            by_cases c23 : t244 = true
                            · subst c23
                              have H1 : (some (([x3_1, (rd_T122 t239 x20_2).f0, (rd_T122 t239 x20_2).f1, (rd_T122 t239 x20_2).f2, (rd_T122 t239 x20_2).f3] : List Int))) = some r := by rw [if_pos rfl] at H; exact H
                              clear H
                              have H := H1
                              clear H1
                              obtain ⟨y245, hy245⟩ : ∃ y_ : List Int, y_ = (([x3_1, (rd_T122 t239 x20_2).f0, (rd_T122 t239 x20_2).f1, (rd_T122 t239 x20_2).f2, (rd_T122 t239 x20_2).f3] : List Int)) := ⟨_, rfl⟩
                              replace H : (some y245) = some r := by first | (rw [hy245]; with_reducible exact H) | (have H2_ := (Option.bind_some _ _).symm.trans H; rw [hy245]; with_reducible exact H2_) | (have H2_ := (Option.bind_some _ _).symm.trans H; with_reducible exact H2_) | with_reducible exact H | (rw [hy245]; exact H) | exact H
                              have Ny245 := Aside0.mk hy245
                              clear hy245
                              obtain rfl := Option.some.inj H
                              have p242 : 0 ≤ (x20_2 : Int) := of_decide_eq_true (by first | (with_reducible assumption) | assumption)
                              have q242 : x20_2 < (t239.length : Int) := of_decide_eq_true (by first | (with_reducible assumption) | assumption)
                              obtain ⟨ad242, e242, hx242_0, hx242_1, hx242_2, hx242_3⟩ := at_T122 (Kd.R_reads' HO_18.out).2.2 x20_2 p242 q242
                              cases e242
                              replace p242 := eq_true p242
                              replace q242 := eq_true q242
                              go_wp2_with (first | ((with_reducible refine gate_dst (N := 5) rfl ?_); refine box_event ?hg (N := 5) ?hd (cs := #[.int .i64 0, .int .i64 0, .int .i64 0, .int .i64 0]) (t := 122) ?hr ?_; (case hd => rfl); (case hg => rfl); (case hr => first | (go_simp; done) | (go_simp; rfl)); intro gb243 hg w24 hbox hb; have n0_ := Aside0.mk (Kd.R_below (Kd.R_elderB (by (with_reducible repeat (first | apply Kd.R_alloc | apply Kd.R_drewN | apply Kd.R_drew)); exact HO_18.out) gb243 (Nat.le_of_eq hg.symm)) hb); have n1_ := Aside0.mk (below_step (by repeat (first | (with_reducible first | exact HB.out | apply below_alloc | apply pw_below_drewN | apply below_drew1) | exact HB.out)) hb); have n2_ := Aside0.mk (hbox); have n3_ := Aside0.mk ((by rw [hg]; exact (below_size (by repeat (first | (with_reducible first | exact HB.out | apply below_alloc | apply pw_below_drewN | apply below_drew1) | exact HB.out))) : w.heap.size ≤ gb243)); have n4_ := Aside0.mk ((by rw [hg]; exact (below_size (by repeat (first | (with_reducible first | exact HB.out | apply below_alloc | apply pw_below_drewN | apply below_drew1) | exact HB.out))) : w.heap.size ≤ gb243)); clear HO_18; clear HB; have HO_18 := n0_; have HB := n1_; have BK243 := n2_; have GW243 := n3_; have GE243 := n4_; clear n0_ n1_ n2_ n3_ n4_; clear hb hbox hg; have hcz25_0 : w24.cell? ⟨gb243, 0, none⟩ = some (.int .i64 0) := (blk_cell BK243.out 0).trans rfl; have hcz25_1 : w24.cell? ⟨gb243, 1, none⟩ = some (.int .i64 0) := (blk_cell BK243.out 1).trans rfl; have hcz25_2 : w24.cell? ⟨gb243, 2, none⟩ = some (.int .i64 0) := (blk_cell BK243.out 2).trans rfl; have hcz25_3 : w24.cell? ⟨gb243, 3, none⟩ = some (.int .i64 0) := (blk_cell BK243.out 3).trans rfl; have hfz25_0 := blk_frozen BK243.out 0; have hfz25_1 := blk_frozen BK243.out 1; have hfz25_2 := blk_frozen BK243.out 2; have hfz25_3 := blk_frozen BK243.out 3) | (go_at_call 120; (refine (impl_chi_breaks.calls _ c0 l0 x3_1 ((rd_T122 t239 x20_2).f0) ((rd_T122 t239 x20_2).f1) ((rd_T122 t239 x20_2).f2) ((rd_T122 t239 x20_2).f3) true _ ?side1 ?side2 A22.out).mono ?_); (case side1 => exact Kd.C_below HR0.out (by repeat (first | (with_reducible first | exact HB.out | apply below_alloc | apply pw_below_drewN | apply below_drew1 | refine below_set ?_ GE243.out) | exact HB.out))); (case side2 => exact HC0.out); rintro e w' ⟨rfl, ⟨nd, rfl⟩⟩) | ((with_reducible refine gate_dst (N := 68) rfl ?_); refine Kd.R_lit (Kd.int .i64) _ 3 ?hg (N := 68) ?hd (xs := ([x3_1, (rd_T122 t239 x20_2).f0, (rd_T122 t239 x20_2).f1, (rd_T122 t239 x20_2).f2, (rd_T122 t239 x20_2).f3] : List Int)) (inner := [.int .i64 x3_1, .int .i64 ((rd_T122 t239 x20_2).f0), .int .i64 ((rd_T122 t239 x20_2).f1), .int .i64 ((rd_T122 t239 x20_2).f2), .int .i64 ((rd_T122 t239 x20_2).f3)]) (ok := fun _ => True) (okp := fun _ => True) ?hr ?hp (fun _ hk => hk) trivial (Below.refl _ _) (Nat.le_refl _) (by simp) ?_; (case hd => rfl); (case hg => rfl); (case hr => first | (go_simp; done) | (go_simp; rfl)); (case hp => exact (Reps.one (show Kd.M (Kd.int .i64) _ _ _ x3_1 [.int .i64 x3_1] from rfl) (Reps.one (show Kd.M (Kd.int .i64) _ _ _ ((rd_T122 t239 x20_2).f0) [.int .i64 ((rd_T122 t239 x20_2).f0)] from rfl) (Reps.one (show Kd.M (Kd.int .i64) _ _ _ ((rd_T122 t239 x20_2).f1) [.int .i64 ((rd_T122 t239 x20_2).f1)] from rfl) (Reps.one (show Kd.M (Kd.int .i64) _ _ _ ((rd_T122 t239 x20_2).f2) [.int .i64 ((rd_T122 t239 x20_2).f2)] from rfl) (Reps.one (show Kd.M (Kd.int .i64) _ _ _ ((rd_T122 t239 x20_2).f3) [.int .i64 ((rd_T122 t239 x20_2).f3)] from rfl) (Reps.none _ _))))))); intro v246 w26 ho27 hb hg_ hnew_; clear hg_ hnew_; (first | rw [← Ny245.out] at ho27 | (simp only [Int.reduceToNat] at ho27; rw [← Ny245.out] at ho27)); have n0_ := Aside0.mk (Kd.R_below (by (with_reducible repeat (first | apply Kd.R_alloc | apply Kd.R_drewN | apply Kd.R_drew)); exact (Kd.R_mono (Kd.R_far (p := ⟨gb243, 3, none⟩) (Kd.R_far (p := ⟨gb243, 2, none⟩) (Kd.R_far (p := ⟨gb243, 1, none⟩) (Kd.R_far (p := ⟨gb243, 0, none⟩) (Kd.R_mono HO_18.out (fun k_ hk => (⟨hk, hk.2⟩ : _ ∧ k_ ≠ gb243))) (fun _ hk => hk.2) (.int .i64 ((rd_T122 t239 x20_2).f0))) (fun _ hk => hk.2) (.int .i64 ((rd_T122 t239 x20_2).f1))) (fun _ hk => hk.2) (.int .i64 ((rd_T122 t239 x20_2).f2))) (fun _ hk => hk.2) (.int .i64 ((rd_T122 t239 x20_2).f3))) (fun _ h_ => h_.1))) hb); have n1_ := Aside0.mk (Kd.R_lower ho27 (below_size (by repeat (first | (with_reducible first | exact HB.out | apply below_alloc | apply pw_below_drewN | apply below_drew1 | refine below_set ?_ GE243.out) | exact HB.out)))); have n2_ := Aside0.mk (blk_below (g := gb243) (o := .cells #[.int .i64 ((rd_T122 t239 x20_2).f0), .int .i64 ((rd_T122 t239 x20_2).f1), .int .i64 ((rd_T122 t239 x20_2).f2), .int .i64 ((rd_T122 t239 x20_2).f3)] 122 (0, 0)) (by (with_reducible repeat (first | refine blk_drewN ?_ _ | refine blk_drew ?_ | refine blk_alloc ?_ _)); refine blk_put (cs := #[.int .i64 ((rd_T122 t239 x20_2).f0), .int .i64 ((rd_T122 t239 x20_2).f1), .int .i64 ((rd_T122 t239 x20_2).f2), .int .i64 0]) ?_ 3 _ rfl; (with_reducible repeat (first | refine blk_drewN ?_ _ | refine blk_drew ?_ | refine blk_alloc ?_ _)); refine blk_put (cs := #[.int .i64 ((rd_T122 t239 x20_2).f0), .int .i64 ((rd_T122 t239 x20_2).f1), .int .i64 0, .int .i64 0]) ?_ 2 _ rfl; (with_reducible repeat (first | refine blk_drewN ?_ _ | refine blk_drew ?_ | refine blk_alloc ?_ _)); refine blk_put (cs := #[.int .i64 ((rd_T122 t239 x20_2).f0), .int .i64 0, .int .i64 0, .int .i64 0]) ?_ 1 _ rfl; (with_reducible repeat (first | refine blk_drewN ?_ _ | refine blk_drew ?_ | refine blk_alloc ?_ _)); refine blk_put (cs := #[.int .i64 0, .int .i64 0, .int .i64 0, .int .i64 0]) ?_ 0 _ rfl; (with_reducible repeat (first | refine blk_drewN ?_ _ | refine blk_drew ?_ | refine blk_alloc ?_ _)); exact BK243.out) hb); have n3_ := Aside0.mk (below_step (by repeat (first | (with_reducible first | exact HB.out | apply below_alloc | apply pw_below_drewN | apply below_drew1 | refine below_set ?_ GE243.out) | exact HB.out)) hb); clear HO_18; clear BK243; clear HB; have HO_18 := n0_; have HO247 := n1_; have BK243 := n2_; have HB := n3_; clear n0_ n1_ n2_ n3_; clear hb ho27))
                              go_ret
                              exact ⟨_, by first | rfl | (simp [errW_none, errW_some] <;> rfl) | (simp [*, errW_none, errW_some] <;> rfl), ⟨by (with_reducible repeat (first | apply Kd.R_alloc | apply Kd.R_drewN | apply Kd.R_drew)); exact HO247.out, by first | exact nz_nil _ | exact nz_cons rfl | assumption | exact Aside0.out (by assumption) | exact nz_cons (Aside0.out (by assumption))⟩, by repeat (first | (with_reducible first | exact HB.out | apply below_alloc | apply pw_below_drewN | apply below_drew1 | refine below_set ?_ GE243.out) | exact HB.out)⟩
                            · replace c23 := Bool.eq_false_iff.mpr c23
                              subst c23
                              have H1 : (impl_chi_firstBreak.l1 k2 l0 x3_1 t239 (t239.length : Int) (wrap64 (x20_2 + 1))) = some r := by rw [if_neg (show ¬ (false = true) by decide)] at H; exact H
                              clear H
                              have H := H1
                              clear H1
                              have H' := Aside0.mk H
                              clear H
                              have p242 : 0 ≤ (x20_2 : Int) := of_decide_eq_true (by first | (with_reducible assumption) | assumption)
                              have q242 : x20_2 < (t239.length : Int) := of_decide_eq_true (by first | (with_reducible assumption) | assumption)
                              obtain ⟨ad242, e242, hx242_0, hx242_1, hx242_2, hx242_3⟩ := at_T122 (Kd.R_reads' HO_18.out).2.2 x20_2 p242 q242
                              cases e242
                              replace p242 := eq_true p242
                              replace q242 := eq_true q242
                              go_wp2_with (first | ((with_reducible refine gate_dst (N := 5) rfl ?_); refine box_event ?hg (N := 5) ?hd (cs := #[.int .i64 0, .int .i64 0, .int .i64 0, .int .i64 0]) (t := 122) ?hr ?_; (case hd => rfl); (case hg => rfl); (case hr => first | (go_simp; done) | (go_simp; rfl)); intro gb243 hg w28 hbox hb; have n0_ := Aside0.mk (Kd.R_below (Kd.R_elderB (by (with_reducible repeat (first | apply Kd.R_alloc | apply Kd.R_drewN | apply Kd.R_drew)); exact HO_18.out) gb243 (Nat.le_of_eq hg.symm)) hb); have n1_ := Aside0.mk (below_step (by repeat (first | (with_reducible first | exact HB.out | apply below_alloc | apply pw_below_drewN | apply below_drew1) | exact HB.out)) hb); have n2_ := Aside0.mk (hbox); have n3_ := Aside0.mk ((by rw [hg]; exact (below_size (by repeat (first | (with_reducible first | exact HB.out | apply below_alloc | apply pw_below_drewN | apply below_drew1) | exact HB.out))) : w.heap.size ≤ gb243)); have n4_ := Aside0.mk ((by rw [hg]; exact (below_size (by repeat (first | (with_reducible first | exact HB.out | apply below_alloc | apply pw_below_drewN | apply below_drew1) | exact HB.out))) : w.heap.size ≤ gb243)); clear HO_18; clear HB; have HO_18 := n0_; have HB := n1_; have BK243 := n2_; have GW243 := n3_; have GE243 := n4_; clear n0_ n1_ n2_ n3_ n4_; clear hb hbox hg; have hcz29_0 : w28.cell? ⟨gb243, 0, none⟩ = some (.int .i64 0) := (blk_cell BK243.out 0).trans rfl; have hcz29_1 : w28.cell? ⟨gb243, 1, none⟩ = some (.int .i64 0) := (blk_cell BK243.out 1).trans rfl; have hcz29_2 : w28.cell? ⟨gb243, 2, none⟩ = some (.int .i64 0) := (blk_cell BK243.out 2).trans rfl; have hcz29_3 : w28.cell? ⟨gb243, 3, none⟩ = some (.int .i64 0) := (blk_cell BK243.out 3).trans rfl; have hfz29_0 := blk_frozen BK243.out 0; have hfz29_1 := blk_frozen BK243.out 1; have hfz29_2 := blk_frozen BK243.out 2; have hfz29_3 := blk_frozen BK243.out 3) | (go_at_call 120; (refine (impl_chi_breaks.calls _ c0 l0 x3_1 ((rd_T122 t239 x20_2).f0) ((rd_T122 t239 x20_2).f1) ((rd_T122 t239 x20_2).f2) ((rd_T122 t239 x20_2).f3) false _ ?side1 ?side2 A22.out).mono ?_); (case side1 => exact Kd.C_below HR0.out (by repeat (first | (with_reducible first | exact HB.out | apply below_alloc | apply pw_below_drewN | apply below_drew1 | refine below_set ?_ GE243.out) | exact HB.out))); (case side2 => exact HC0.out); rintro e w' ⟨rfl, ⟨nd, rfl⟩⟩))
                              go_roundg k2
                              case measure => have := HK1.out; have := HK2.out; omega
                              case rel => exact ⟨(wrap64 (x20_2 + 1)), (by first | rfl | (simp; done) | (simp [*]; done)), H', ⟨by have := HK1.out; have := HK2.out; omega⟩, ⟨by (with_reducible repeat (first | apply Kd.R_alloc | apply Kd.R_drewN | apply Kd.R_drew)); exact Kd.R_mono (Kd.R_far (p := ⟨gb243, 3, none⟩) (Kd.R_far (p := ⟨gb243, 2, none⟩) (Kd.R_far (p := ⟨gb243, 1, none⟩) (Kd.R_far (p := ⟨gb243, 0, none⟩) (Kd.R_mono HO_18.out (fun k_ hk => (⟨hk, hk.2⟩ : _ ∧ k_ ≠ gb243))) (fun _ hk => hk.2) (.int .i64 ((rd_T122 t239 x20_2).f0))) (fun _ hk => hk.2) (.int .i64 ((rd_T122 t239 x20_2).f1))) (fun _ hk => hk.2) (.int .i64 ((rd_T122 t239 x20_2).f2))) (fun _ hk => hk.2) (.int .i64 ((rd_T122 t239 x20_2).f3))) (fun _ hk => trivial)⟩, ⟨by repeat (first | (with_reducible first | exact HB.out | apply below_alloc | apply pw_below_drewN | apply below_drew1 | refine below_set ?_ GE243.out) | exact HB.out)⟩⟩
                  · rw [if_neg c9] at H
                    exact absurd H (by simp)
                · rw [if_neg c8] at H
                  exact absurd H (by simp)
              · rw [if_neg c7] at H
                have c7b0 : decide (x20_2 < (t239.length : Int)) = false := decide_eq_false c7
                clear c7
                have H' := Aside0.mk H
                clear H
                go_wp2
                go_roundg k2
                case measure => have := HK1.out; have := HK2.out; omega
                case rel => exact ⟨(wrap64 (x3_1 + 1)), (by first | rfl | (simp; done) | (simp [*]; done)), H', ⟨by have := HK1.out; have := HK2.out; omega⟩, ⟨by repeat (first | (with_reducible first | exact HB.out | apply below_alloc | apply pw_below_drewN | apply below_drew1) | exact HB.out)⟩⟩
        · rw [if_neg c3] at H
          have c3b0 : decide (x3_1 < (chiN l0)) = false := decide_eq_false c3
          clear c3
          obtain rfl := Option.some.inj H
          have q237 : 344 ≤ (l0.length : Int) := of_decide_eq_true (by first | (with_reducible assumption) | assumption)
          obtain ⟨ad237, e237, hx237_0⟩ := chi_n HR0.out q237
          cases e237
          replace hx237_0 := (HB.out.cell (World.block_lt_of_cell? w _ hx237_0)).trans hx237_0
          go_wp2
          go_ret
          exact ⟨_, by first | rfl | (simp [errW_none, errW_some] <;> rfl) | (simp [*, errW_none, errW_some] <;> rfl), ⟨by first | exact Kd.R_nil _ _ _ _ _ | exact Kd.N_nil _ _ _ _ _ | exact Kd.V_nil _ _ _ _ _ | exact Kd.Q_nil _ _ _ _ _ | exact Kd.S_nil _ _ _ _ _, by first | exact nz_nil _ | exact nz_cons rfl | assumption | exact Aside0.out (by assumption) | exact nz_cons (Aside0.out (by assumption))⟩, by repeat (first | (with_reducible first | exact HB.out | apply below_alloc | apply pw_below_drewN | apply below_drew1) | exact HB.out)⟩
      · rw [if_neg c2] at H
        exact absurd H (by simp)

end Go.Proofs.Ytbmoaphiheoanaa.P

namespace Go.Proofs.Ytbmoaphiheoanaa.P
open Go.RowKit Go.Proofs.YtbmoaphiheoanaaW.PrintWords Go.Proofs.YtbmoaphiheoanaaW.PrintLast Go.Proofs.YtbmoaphiheoanaaW.PrintMore
attribute [local go_sem] ptrOf_slice
attribute [local go_sem] max2_int min2_int max_two min_two max_three min_three max_four min_four   -- for this text's walks alone
set_option linter.unusedVariables false
set_option linter.unusedSimpArgs false

/-! ### impl_FirstBreak: function 85 -/
def impl_FirstBreak.f (k : Nat) (a0_0 : Int) (a0_1 : ByteArray) : Option (List Int) := (impl_AreSigns.f k a0_0 a0_1).bind fun t249 => (if t249 = true then ((impl_tableOf.f k a0_0 a0_1).bind fun t250 => ((impl_chi_firstBreak.f k t250).bind fun t253 => (some t253))) else (some ([] : List Int)))
theorem impl_FirstBreak.mono : ∀ a0 a1 k, LeO (impl_FirstBreak.f k a0 a1) (impl_FirstBreak.f (k + 1) a0 a1) := by
  intro a0 a1 k
  unfold impl_FirstBreak.f
  repeat' first
      | (with_reducible exact impl_AreSigns.mono _ _ _)
      | (with_reducible exact impl_chi_firstBreak.mono _ _)
      | (with_reducible exact impl_tableOf.mono _ _ _)
      | (with_reducible exact LeO.refl _)
      | (with_reducible exact LeO.none _)
      | (with_reducible refine LeO.ite ?_ ?_)
      | (with_reducible refine LeO.bind ?_ (fun _ => ?_))
      | exact impl_AreSigns.mono _ _ _
      | exact impl_chi_firstBreak.mono _ _
      | exact impl_tableOf.mono _ _ _
      | exact LeO.none _
      | refine LeO.ite ?_ ?_
      | refine LeO.bind ?_ (fun _ => ?_)
set_option maxHeartbeats 8000000 in
set_option maxRecDepth 100000 in
theorem impl_FirstBreak.calls (k : Nat) (a0_0 : Int) (a0_1 : ByteArray) (r : List Int) (w : World) (h : impl_FirstBreak.f k a0_0 a0_1 = some r) :
    Calls Try.prog 85 #[.agg #[.int .i64 a0_0, .string a0_1]] w fun e w' => ∃ v0_ : Value, e = .returned (v0_) ∧ (Kd.R (Kd.int .i64) 3 w' w.heap.size (fun _ => True) v0_ r ∧ NZ v0_ r) ∧ Below w.heap.size w w' := by
  have hu26 := Try.underlying26
  have HB := Aside0.mk (Below.refl w.heap.size w)
  have H : ((impl_AreSigns.f k a0_0 a0_1).bind fun t249 => (if t249 = true then ((impl_tableOf.f k a0_0 a0_1).bind fun t250 => ((impl_chi_firstBreak.f k t250).bind fun t253 => (some t253))) else (some ([] : List Int)))) = some r := h
  clear h
  replace H := Option.bind_eq_some_iff.mp H
  obtain ⟨t249, A20, H⟩ := H
  replace H : (if t249 = true then ((impl_tableOf.f k a0_0 a0_1).bind fun t250 => ((impl_chi_firstBreak.f k t250).bind fun t253 => (some t253))) else (some ([] : List Int))) = some r := H
  have A2 := Aside0.mk A20
  clear A20
  by_cases c3 : t249 = true
  · subst c3
    have H1 : ((impl_tableOf.f k a0_0 a0_1).bind fun t250 => ((impl_chi_firstBreak.f k t250).bind fun t253 => (some t253))) = some r := by rw [if_pos rfl] at H; exact H
    clear H
    have H := H1
    clear H1
    replace H := Option.bind_eq_some_iff.mp H
    obtain ⟨t250, A40, H⟩ := H
    replace H : ((impl_chi_firstBreak.f k t250).bind fun t253 => (some t253)) = some r := H
    have A4 := Aside0.mk A40
    clear A40
    replace H := Option.bind_eq_some_iff.mp H
    obtain ⟨t253, A50, H⟩ := H
    replace H : (some t253) = some r := H
    have A5 := Aside0.mk A50
    clear A50
    obtain rfl := Option.some.inj H
    go_enter Try.func85, Try.ntmps85
    go_wp2_with (first | ((with_reducible refine gate_dst (N := 1) rfl ?_); refine box_event ?hg (N := 1) ?hd (cs := #[.int .i64 a0_0, .string a0_1]) (t := 26) ?hr ?_; (case hd => rfl); (case hg => rfl); (case hr => first | (go_simp; done) | (go_simp; rfl)); intro gb248 hg w6 hbox hb; have n0_ := Aside0.mk (below_step (by repeat (first | (with_reducible first | exact HB.out | apply below_alloc | apply pw_below_drewN | apply below_drew1) | exact HB.out)) hb); have n1_ := Aside0.mk (hbox); have n2_ := Aside0.mk ((by rw [hg]; exact (below_size (by repeat (first | (with_reducible first | exact HB.out | apply below_alloc | apply pw_below_drewN | apply below_drew1) | exact HB.out))) : w.heap.size ≤ gb248)); have n3_ := Aside0.mk ((by rw [hg]; exact (below_size (by repeat (first | (with_reducible first | exact HB.out | apply below_alloc | apply pw_below_drewN | apply below_drew1) | exact HB.out))) : w.heap.size ≤ gb248)); clear HB; have HB := n0_; have BK248 := n1_; have GW248 := n2_; have GE248 := n3_; clear n0_ n1_ n2_ n3_; clear hb hbox hg; have hcz7_0 : w6.cell? ⟨gb248, 0, none⟩ = some (.int .i64 a0_0) := (blk_cell BK248.out 0).trans rfl; have hcz7_1 : w6.cell? ⟨gb248, 1, none⟩ = some (.string a0_1) := (blk_cell BK248.out 1).trans rfl; have hfz7_0 := blk_frozen BK248.out 0; have hfz7_1 := blk_frozen BK248.out 1) | ((with_reducible refine gate_callee (f := 80) rfl ?_); refine goesL_ (some 4) rfl rfl Try.func80 (by kernel_rfl) rfl #[.agg #[.int .i64 a0_0, .string a0_1]] rfl (by (try simp only [List.map_toArray, List.map_cons, List.map_nil]); first | done | rfl | (simp only [List.length_drop, List.length_take]; rfl)) ?_; (with_reducible refine (impl_AreSigns.calls k a0_0 a0_1 true _ A2.out).mono ?_); rintro e w8 ⟨rfl, hb⟩; refine ⟨_, rfl, ?_⟩; have n0_ := Aside0.mk (blk_below (g := gb248) (o := .cells #[.int .i64 a0_0, .string a0_1] 26 (0, 0)) (by (with_reducible repeat (first | refine blk_drewN ?_ _ | refine blk_drew ?_ | refine blk_alloc ?_ _)); exact BK248.out) hb); have n1_ := Aside0.mk (below_step (by repeat (first | (with_reducible first | exact HB.out | apply below_alloc | apply pw_below_drewN | apply below_drew1 | refine below_set ?_ GE248.out) | exact HB.out)) hb); clear BK248; clear HB; have BK248 := n0_; have HB := n1_; clear n0_ n1_; (try clear hb); (try clear hb2); (try clear hk); (try clear hi); have hcz9_0 : w8.cell? ⟨gb248, 0, none⟩ = some (.int .i64 a0_0) := (blk_cell BK248.out 0).trans rfl; have hcz9_1 : w8.cell? ⟨gb248, 1, none⟩ = some (.string a0_1) := (blk_cell BK248.out 1).trans rfl; have hfz9_0 := blk_frozen BK248.out 0; have hfz9_1 := blk_frozen BK248.out 1) | ((with_reducible refine gate_callee (f := 82) rfl ?_); refine goesL_ (some 7) rfl rfl Try.func82 (by kernel_rfl) rfl #[.agg #[.int .i64 a0_0, .string a0_1]] rfl (by (try simp only [List.map_toArray, List.map_cons, List.map_nil]); first | done | rfl | (simp only [List.length_drop, List.length_take]; rfl)) ?_; (with_reducible refine (impl_tableOf.calls k a0_0 a0_1 t250 _ A4.out).mono ?_); rintro e w10 ⟨v251, rfl, ho0, hb⟩; refine ⟨_, rfl, ?_⟩; have n0_ := Aside0.mk (Kd.R_lower ho0 (below_size (by repeat (first | (with_reducible first | exact HB.out | apply below_alloc | apply pw_below_drewN | apply below_drew1 | refine below_set ?_ GE248.out) | exact HB.out)))); have n1_ := Aside0.mk (blk_below (g := gb248) (o := .cells #[.int .i64 a0_0, .string a0_1] 26 (0, 0)) (by (with_reducible repeat (first | refine blk_drewN ?_ _ | refine blk_drew ?_ | refine blk_alloc ?_ _)); exact BK248.out) hb); have n2_ := Aside0.mk (below_step (by repeat (first | (with_reducible first | exact HB.out | apply below_alloc | apply pw_below_drewN | apply below_drew1 | refine below_set ?_ GE248.out) | exact HB.out)) hb); clear BK248; clear HB; have HO252 := n0_; have BK248 := n1_; have HB := n2_; clear n0_ n1_ n2_; (try clear hb); (try clear hb2); (try clear hk); (try clear hi); (try clear ho0); obtain ⟨Ao11, co11, eo11⟩ := Kd.R_slice HO252.out; subst eo11) | ((with_reducible refine gate_callee (f := 107) rfl ?_); refine goesL_ (some 8) rfl rfl Try.func107 (by kernel_rfl) rfl #[.pointer Ao11] rfl (by (try simp only [List.map_toArray, List.map_cons, List.map_nil]); first | done | rfl | (simp only [List.length_drop, List.length_take]; rfl)) ?_; (refine (impl_chi_firstBreak.calls k _ co11 t250 t253 _ ?side1 ?side2 A5.out).mono ?_); (case side1 => repeat (first | exact (Kd.R_reads' HO252.out).2.2 | (with_reducible refine Kd.C_alloc ?_ _) | (with_reducible refine Kd.C_drewN ?_ _) | (with_reducible refine Kd.C_drew ?_))); (case side2 => exact (Kd.R_reads' HO252.out).2.1); rintro e w12 ⟨v254, rfl, ho0, hb⟩; refine ⟨_, rfl, ?_⟩; have HZv254 := Aside0.mk ho0.2; replace ho0 := ho0.1; have n0_ := Aside0.mk (Kd.R_below (by (with_reducible repeat (first | apply Kd.R_alloc | apply Kd.R_drewN | apply Kd.R_drew)); exact HO252.out) hb); have n1_ := Aside0.mk (Kd.R_lower ho0 (below_size (by repeat (first | (with_reducible first | exact HB.out | apply below_alloc | apply pw_below_drewN | apply below_drew1 | refine below_set ?_ GE248.out) | exact HB.out)))); have n2_ := Aside0.mk (blk_below (g := gb248) (o := .cells #[.int .i64 a0_0, .string a0_1] 26 (0, 0)) (by (with_reducible repeat (first | refine blk_drewN ?_ _ | refine blk_drew ?_ | refine blk_alloc ?_ _)); exact BK248.out) hb); have n3_ := Aside0.mk (below_step (by repeat (first | (with_reducible first | exact HB.out | apply below_alloc | apply pw_below_drewN | apply below_drew1 | refine below_set ?_ GE248.out) | exact HB.out)) hb); clear HO252; clear BK248; clear HB; have HO252 := n0_; have HO255 := n1_; have BK248 := n2_; have HB := n3_; clear n0_ n1_ n2_ n3_; (try clear hb); (try clear hb2); (try clear hk); (try clear hi); (try clear ho0)))
    go_ret
    exact ⟨_, by first | rfl | (simp [errW_none, errW_some] <;> rfl) | (simp [*, errW_none, errW_some] <;> rfl), ⟨by (with_reducible repeat (first | apply Kd.R_alloc | apply Kd.R_drewN | apply Kd.R_drew)); exact HO255.out, by first | exact nz_nil _ | exact nz_cons rfl | assumption | exact Aside0.out (by assumption) | exact nz_cons (Aside0.out (by assumption))⟩, by repeat (first | (with_reducible first | exact HB.out | apply below_alloc | apply pw_below_drewN | apply below_drew1 | refine below_set ?_ GE248.out) | exact HB.out)⟩
  · replace c3 := Bool.eq_false_iff.mpr c3
    subst c3
    have H1 : (some ([] : List Int)) = some r := by rw [if_neg (show ¬ (false = true) by decide)] at H; exact H
    clear H
    have H := H1
    clear H1
    obtain rfl := Option.some.inj H
    go_enter Try.func85, Try.ntmps85
    go_wp2_with (first | ((with_reducible refine gate_dst (N := 1) rfl ?_); refine box_event ?hg (N := 1) ?hd (cs := #[.int .i64 a0_0, .string a0_1]) (t := 26) ?hr ?_; (case hd => rfl); (case hg => rfl); (case hr => first | (go_simp; done) | (go_simp; rfl)); intro gb248 hg w13 hbox hb; have n0_ := Aside0.mk (below_step (by repeat (first | (with_reducible first | exact HB.out | apply below_alloc | apply pw_below_drewN | apply below_drew1) | exact HB.out)) hb); have n1_ := Aside0.mk (hbox); have n2_ := Aside0.mk ((by rw [hg]; exact (below_size (by repeat (first | (with_reducible first | exact HB.out | apply below_alloc | apply pw_below_drewN | apply below_drew1) | exact HB.out))) : w.heap.size ≤ gb248)); have n3_ := Aside0.mk ((by rw [hg]; exact (below_size (by repeat (first | (with_reducible first | exact HB.out | apply below_alloc | apply pw_below_drewN | apply below_drew1) | exact HB.out))) : w.heap.size ≤ gb248)); clear HB; have HB := n0_; have BK248 := n1_; have GW248 := n2_; have GE248 := n3_; clear n0_ n1_ n2_ n3_; clear hb hbox hg; have hcz14_0 : w13.cell? ⟨gb248, 0, none⟩ = some (.int .i64 a0_0) := (blk_cell BK248.out 0).trans rfl; have hcz14_1 : w13.cell? ⟨gb248, 1, none⟩ = some (.string a0_1) := (blk_cell BK248.out 1).trans rfl; have hfz14_0 := blk_frozen BK248.out 0; have hfz14_1 := blk_frozen BK248.out 1) | ((with_reducible refine gate_callee (f := 80) rfl ?_); refine goesL_ (some 4) rfl rfl Try.func80 (by kernel_rfl) rfl #[.agg #[.int .i64 a0_0, .string a0_1]] rfl (by (try simp only [List.map_toArray, List.map_cons, List.map_nil]); first | done | rfl | (simp only [List.length_drop, List.length_take]; rfl)) ?_; (with_reducible refine (impl_AreSigns.calls k a0_0 a0_1 false _ A2.out).mono ?_); rintro e w15 ⟨rfl, hb⟩; refine ⟨_, rfl, ?_⟩; have n0_ := Aside0.mk (blk_below (g := gb248) (o := .cells #[.int .i64 a0_0, .string a0_1] 26 (0, 0)) (by (with_reducible repeat (first | refine blk_drewN ?_ _ | refine blk_drew ?_ | refine blk_alloc ?_ _)); exact BK248.out) hb); have n1_ := Aside0.mk (below_step (by repeat (first | (with_reducible first | exact HB.out | apply below_alloc | apply pw_below_drewN | apply below_drew1 | refine below_set ?_ GE248.out) | exact HB.out)) hb); clear BK248; clear HB; have BK248 := n0_; have HB := n1_; clear n0_ n1_; (try clear hb); (try clear hb2); (try clear hk); (try clear hi)))
    go_ret
    exact ⟨_, by first | rfl | (simp [errW_none, errW_some] <;> rfl) | (simp [*, errW_none, errW_some] <;> rfl), ⟨by first | exact Kd.R_nil _ _ _ _ _ | exact Kd.N_nil _ _ _ _ _ | exact Kd.V_nil _ _ _ _ _ | exact Kd.Q_nil _ _ _ _ _ | exact Kd.S_nil _ _ _ _ _, by first | exact nz_nil _ | exact nz_cons rfl | assumption | exact Aside0.out (by assumption) | exact nz_cons (Aside0.out (by assumption))⟩, by repeat (first | (with_reducible first | exact HB.out | apply below_alloc | apply pw_below_drewN | apply below_drew1 | refine below_set ?_ GE248.out) | exact HB.out)⟩

end Go.Proofs.Ytbmoaphiheoanaa.P

namespace Go.Proofs.Ytbmoaphiheoanaa.P
open Go.RowKit Go.Proofs.YtbmoaphiheoanaaW.PrintWords Go.Proofs.YtbmoaphiheoanaaW.PrintLast Go.Proofs.YtbmoaphiheoanaaW.PrintMore
attribute [local go_sem] ptrOf_slice
attribute [local go_sem] max2_int min2_int max_two min_two max_three min_three max_four min_four   -- for this text's walks alone
set_option linter.unusedVariables false
set_option linter.unusedSimpArgs false

/-! ### impl_IsMatroid: function 44 -/
def impl_IsMatroid.f (k : Nat) (a0_0 : Int) (a0_1 : ByteArray) : Option (Bool) := (impl_AreSigns.f k a0_0 a0_1).bind fun t257 => (if t257 = true then ((impl_FirstBreak.f k a0_0 a0_1).bind fun t258 => (if (t258.length : Int) = 0 then (some true) else (some false))) else (some false))
theorem impl_IsMatroid.mono : ∀ a0 a1 k, LeO (impl_IsMatroid.f k a0 a1) (impl_IsMatroid.f (k + 1) a0 a1) := by
  intro a0 a1 k
  unfold impl_IsMatroid.f
  repeat' first
      | (with_reducible exact impl_AreSigns.mono _ _ _)
      | (with_reducible exact impl_FirstBreak.mono _ _ _)
      | (with_reducible exact LeO.refl _)
      | (with_reducible exact LeO.none _)
      | (with_reducible refine LeO.ite ?_ ?_)
      | (with_reducible refine LeO.bind ?_ (fun _ => ?_))
      | exact impl_AreSigns.mono _ _ _
      | exact impl_FirstBreak.mono _ _ _
      | exact LeO.none _
      | refine LeO.ite ?_ ?_
      | refine LeO.bind ?_ (fun _ => ?_)
set_option maxHeartbeats 8000000 in
set_option maxRecDepth 100000 in
theorem impl_IsMatroid.calls (k : Nat) (a0_0 : Int) (a0_1 : ByteArray) (r : Bool) (w : World) (h : impl_IsMatroid.f k a0_0 a0_1 = some r) :
    Calls Try.prog 44 #[.agg #[.int .i64 a0_0, .string a0_1]] w fun e w' => e = .returned (.bool r) ∧ Below w.heap.size w w' := by
  have hu26 := Try.underlying26
  have HB := Aside0.mk (Below.refl w.heap.size w)
  have q64_ : ∀ (w : World) (a : Option Addr) (n c : Nat), (binOp .eql 64 (.slice a n c) (.slice none 0 0)).run Try.prog w = .ok (.bool a.isNone) w := fun w a n c => Lib.run_eql_slice_nil w _ _ a n c 0 0 Try.underlying64
  have H : ((impl_AreSigns.f k a0_0 a0_1).bind fun t257 => (if t257 = true then ((impl_FirstBreak.f k a0_0 a0_1).bind fun t258 => (if (t258.length : Int) = 0 then (some true) else (some false))) else (some false))) = some r := h
  clear h
  replace H := Option.bind_eq_some_iff.mp H
  obtain ⟨t257, A20, H⟩ := H
  replace H : (if t257 = true then ((impl_FirstBreak.f k a0_0 a0_1).bind fun t258 => (if (t258.length : Int) = 0 then (some true) else (some false))) else (some false)) = some r := H
  have A2 := Aside0.mk A20
  clear A20
  by_cases c3 : t257 = true
  · subst c3
    have H1 : ((impl_FirstBreak.f k a0_0 a0_1).bind fun t258 => (if (t258.length : Int) = 0 then (some true) else (some false))) = some r := by rw [if_pos rfl] at H; exact H
    clear H
    have H := H1
    clear H1
    replace H := Option.bind_eq_some_iff.mp H
    obtain ⟨t258, A40, H⟩ := H
    replace H : (if (t258.length : Int) = 0 then (some true) else (some false)) = some r := H
    have A4 := Aside0.mk A40
    clear A40
    by_cases c5 : (t258.length : Int) = 0
    · rw [if_pos c5] at H
      have c5b0 : ((t258.length : Int) == 0) = true := beq_iff_eq.mpr c5
      have c5b1 : ((t258.length : Int) != 0) = false := bne_eq_false_iff_eq.mpr c5
      clear c5
      obtain rfl := Option.some.inj H
      go_enter Try.func44, Try.ntmps44
      go_wp2_with (first | ((with_reducible refine gate_dst (N := 1) rfl ?_); refine box_event ?hg (N := 1) ?hd (cs := #[.int .i64 a0_0, .string a0_1]) (t := 26) ?hr ?_; (case hd => rfl); (case hg => rfl); (case hr => first | (go_simp; done) | (go_simp; rfl)); intro gb256 hg w6 hbox hb; have n0_ := Aside0.mk (below_step (by repeat (first | (with_reducible first | exact HB.out | apply below_alloc | apply pw_below_drewN | apply below_drew1) | exact HB.out)) hb); have n1_ := Aside0.mk (hbox); have n2_ := Aside0.mk ((by rw [hg]; exact (below_size (by repeat (first | (with_reducible first | exact HB.out | apply below_alloc | apply pw_below_drewN | apply below_drew1) | exact HB.out))) : w.heap.size ≤ gb256)); have n3_ := Aside0.mk ((by rw [hg]; exact (below_size (by repeat (first | (with_reducible first | exact HB.out | apply below_alloc | apply pw_below_drewN | apply below_drew1) | exact HB.out))) : w.heap.size ≤ gb256)); clear HB; have HB := n0_; have BK256 := n1_; have GW256 := n2_; have GE256 := n3_; clear n0_ n1_ n2_ n3_; clear hb hbox hg; have hcz7_0 : w6.cell? ⟨gb256, 0, none⟩ = some (.int .i64 a0_0) := (blk_cell BK256.out 0).trans rfl; have hcz7_1 : w6.cell? ⟨gb256, 1, none⟩ = some (.string a0_1) := (blk_cell BK256.out 1).trans rfl; have hfz7_0 := blk_frozen BK256.out 0; have hfz7_1 := blk_frozen BK256.out 1) | ((with_reducible refine gate_callee (f := 80) rfl ?_); refine goesL_ (some 4) rfl rfl Try.func80 (by kernel_rfl) rfl #[.agg #[.int .i64 a0_0, .string a0_1]] rfl (by (try simp only [List.map_toArray, List.map_cons, List.map_nil]); first | done | rfl | (simp only [List.length_drop, List.length_take]; rfl)) ?_; (with_reducible refine (impl_AreSigns.calls k a0_0 a0_1 true _ A2.out).mono ?_); rintro e w8 ⟨rfl, hb⟩; refine ⟨_, rfl, ?_⟩; have n0_ := Aside0.mk (blk_below (g := gb256) (o := .cells #[.int .i64 a0_0, .string a0_1] 26 (0, 0)) (by (with_reducible repeat (first | refine blk_drewN ?_ _ | refine blk_drew ?_ | refine blk_alloc ?_ _)); exact BK256.out) hb); have n1_ := Aside0.mk (below_step (by repeat (first | (with_reducible first | exact HB.out | apply below_alloc | apply pw_below_drewN | apply below_drew1 | refine below_set ?_ GE256.out) | exact HB.out)) hb); clear BK256; clear HB; have BK256 := n0_; have HB := n1_; clear n0_ n1_; (try clear hb); (try clear hb2); (try clear hk); (try clear hi); have hcz9_0 : w8.cell? ⟨gb256, 0, none⟩ = some (.int .i64 a0_0) := (blk_cell BK256.out 0).trans rfl; have hcz9_1 : w8.cell? ⟨gb256, 1, none⟩ = some (.string a0_1) := (blk_cell BK256.out 1).trans rfl; have hfz9_0 := blk_frozen BK256.out 0; have hfz9_1 := blk_frozen BK256.out 1) | (go_at_call 85; (with_reducible refine (impl_FirstBreak.calls k a0_0 a0_1 t258 _ A4.out).mono ?_); rintro e w10 ⟨v259, rfl, ho0, hb⟩; have HZv259 := Aside0.mk ho0.2; replace ho0 := ho0.1; have n0_ := Aside0.mk (Kd.R_lower ho0 (below_size (by repeat (first | (with_reducible first | exact HB.out | apply below_alloc | apply pw_below_drewN | apply below_drew1 | refine below_set ?_ GE256.out) | exact HB.out)))); have n1_ := Aside0.mk (blk_below (g := gb256) (o := .cells #[.int .i64 a0_0, .string a0_1] 26 (0, 0)) (by (with_reducible repeat (first | refine blk_drewN ?_ _ | refine blk_drew ?_ | refine blk_alloc ?_ _)); exact BK256.out) hb); have n2_ := Aside0.mk (below_step (by repeat (first | (with_reducible first | exact HB.out | apply below_alloc | apply pw_below_drewN | apply below_drew1 | refine below_set ?_ GE256.out) | exact HB.out)) hb); clear BK256; clear HB; have HO260 := n0_; have BK256 := n1_; have HB := n2_; clear n0_ n1_ n2_; (try clear hb); (try clear hb2); (try clear hk); (try clear hi); (try clear ho0); obtain rfl : v259 = .slice none 0 0 := HZv259.out (List.eq_nil_of_length_eq_zero (by have h_ : ((t258.length : Int) == 0) = true := (by first | (with_reducible assumption) | assumption); simpa using h_))))
      go_ret
      exact ⟨by first | rfl | (simp [errW_none, errW_some] <;> rfl) | (simp [*, errW_none, errW_some] <;> rfl), by repeat (first | (with_reducible first | exact HB.out | apply below_alloc | apply pw_below_drewN | apply below_drew1 | refine below_set ?_ GE256.out) | exact HB.out)⟩
    · rw [if_neg c5] at H
      have c5b0 : ((t258.length : Int) == 0) = false := beq_eq_false_iff_ne.mpr c5
      have c5b1 : ((t258.length : Int) != 0) = true := bne_iff_ne.mpr c5
      have c5b2 : ¬ (t258 = []) := fun h_ => c5 (by rw [h_]; rfl)
      obtain rfl := Option.some.inj H
      go_enter Try.func44, Try.ntmps44
      go_wp2_with (first | ((with_reducible refine gate_dst (N := 1) rfl ?_); refine box_event ?hg (N := 1) ?hd (cs := #[.int .i64 a0_0, .string a0_1]) (t := 26) ?hr ?_; (case hd => rfl); (case hg => rfl); (case hr => first | (go_simp; done) | (go_simp; rfl)); intro gb256 hg w11 hbox hb; have n0_ := Aside0.mk (below_step (by repeat (first | (with_reducible first | exact HB.out | apply below_alloc | apply pw_below_drewN | apply below_drew1) | exact HB.out)) hb); have n1_ := Aside0.mk (hbox); have n2_ := Aside0.mk ((by rw [hg]; exact (below_size (by repeat (first | (with_reducible first | exact HB.out | apply below_alloc | apply pw_below_drewN | apply below_drew1) | exact HB.out))) : w.heap.size ≤ gb256)); have n3_ := Aside0.mk ((by rw [hg]; exact (below_size (by repeat (first | (with_reducible first | exact HB.out | apply below_alloc | apply pw_below_drewN | apply below_drew1) | exact HB.out))) : w.heap.size ≤ gb256)); clear HB; have HB := n0_; have BK256 := n1_; have GW256 := n2_; have GE256 := n3_; clear n0_ n1_ n2_ n3_; clear hb hbox hg; have hcz12_0 : w11.cell? ⟨gb256, 0, none⟩ = some (.int .i64 a0_0) := (blk_cell BK256.out 0).trans rfl; have hcz12_1 : w11.cell? ⟨gb256, 1, none⟩ = some (.string a0_1) := (blk_cell BK256.out 1).trans rfl; have hfz12_0 := blk_frozen BK256.out 0; have hfz12_1 := blk_frozen BK256.out 1) | ((with_reducible refine gate_callee (f := 80) rfl ?_); refine goesL_ (some 4) rfl rfl Try.func80 (by kernel_rfl) rfl #[.agg #[.int .i64 a0_0, .string a0_1]] rfl (by (try simp only [List.map_toArray, List.map_cons, List.map_nil]); first | done | rfl | (simp only [List.length_drop, List.length_take]; rfl)) ?_; (with_reducible refine (impl_AreSigns.calls k a0_0 a0_1 true _ A2.out).mono ?_); rintro e w13 ⟨rfl, hb⟩; refine ⟨_, rfl, ?_⟩; have n0_ := Aside0.mk (blk_below (g := gb256) (o := .cells #[.int .i64 a0_0, .string a0_1] 26 (0, 0)) (by (with_reducible repeat (first | refine blk_drewN ?_ _ | refine blk_drew ?_ | refine blk_alloc ?_ _)); exact BK256.out) hb); have n1_ := Aside0.mk (below_step (by repeat (first | (with_reducible first | exact HB.out | apply below_alloc | apply pw_below_drewN | apply below_drew1 | refine below_set ?_ GE256.out) | exact HB.out)) hb); clear BK256; clear HB; have BK256 := n0_; have HB := n1_; clear n0_ n1_; (try clear hb); (try clear hb2); (try clear hk); (try clear hi); have hcz14_0 : w13.cell? ⟨gb256, 0, none⟩ = some (.int .i64 a0_0) := (blk_cell BK256.out 0).trans rfl; have hcz14_1 : w13.cell? ⟨gb256, 1, none⟩ = some (.string a0_1) := (blk_cell BK256.out 1).trans rfl; have hfz14_0 := blk_frozen BK256.out 0; have hfz14_1 := blk_frozen BK256.out 1) | (go_at_call 85; (with_reducible refine (impl_FirstBreak.calls k a0_0 a0_1 t258 _ A4.out).mono ?_); rintro e w15 ⟨v259, rfl, ho0, hb⟩; have HZv259 := Aside0.mk ho0.2; replace ho0 := ho0.1; have n0_ := Aside0.mk (Kd.R_lower ho0 (below_size (by repeat (first | (with_reducible first | exact HB.out | apply below_alloc | apply pw_below_drewN | apply below_drew1 | refine below_set ?_ GE256.out) | exact HB.out)))); have n1_ := Aside0.mk (blk_below (g := gb256) (o := .cells #[.int .i64 a0_0, .string a0_1] 26 (0, 0)) (by (with_reducible repeat (first | refine blk_drewN ?_ _ | refine blk_drew ?_ | refine blk_alloc ?_ _)); exact BK256.out) hb); have n2_ := Aside0.mk (below_step (by repeat (first | (with_reducible first | exact HB.out | apply below_alloc | apply pw_below_drewN | apply below_drew1 | refine below_set ?_ GE256.out) | exact HB.out)) hb); clear BK256; clear HB; have HO260 := n0_; have BK256 := n1_; have HB := n2_; clear n0_ n1_ n2_; (try clear hb); (try clear hb2); (try clear hk); (try clear hi); (try clear ho0); obtain ⟨goo16, coo16, eoo16, _, _, _⟩ := Kd.R_form HO260.out (by have h_ : ((t258.length : Int) == 0) = false := (by first | (with_reducible assumption) | assumption); have h2_ := beq_eq_false_iff_ne.mp h_; omega); subst eoo16))
      go_ret
      exact ⟨by first | rfl | (simp [errW_none, errW_some] <;> rfl) | (simp [*, errW_none, errW_some] <;> rfl), by repeat (first | (with_reducible first | exact HB.out | apply below_alloc | apply pw_below_drewN | apply below_drew1 | refine below_set ?_ GE256.out) | exact HB.out)⟩
  · replace c3 := Bool.eq_false_iff.mpr c3
    subst c3
    have H1 : (some false) = some r := by rw [if_neg (show ¬ (false = true) by decide)] at H; exact H
    clear H
    have H := H1
    clear H1
    obtain rfl := Option.some.inj H
    go_enter Try.func44, Try.ntmps44
    go_wp2_with (first | ((with_reducible refine gate_dst (N := 1) rfl ?_); refine box_event ?hg (N := 1) ?hd (cs := #[.int .i64 a0_0, .string a0_1]) (t := 26) ?hr ?_; (case hd => rfl); (case hg => rfl); (case hr => first | (go_simp; done) | (go_simp; rfl)); intro gb256 hg w17 hbox hb; have n0_ := Aside0.mk (below_step (by repeat (first | (with_reducible first | exact HB.out | apply below_alloc | apply pw_below_drewN | apply below_drew1) | exact HB.out)) hb); have n1_ := Aside0.mk (hbox); have n2_ := Aside0.mk ((by rw [hg]; exact (below_size (by repeat (first | (with_reducible first | exact HB.out | apply below_alloc | apply pw_below_drewN | apply below_drew1) | exact HB.out))) : w.heap.size ≤ gb256)); have n3_ := Aside0.mk ((by rw [hg]; exact (below_size (by repeat (first | (with_reducible first | exact HB.out | apply below_alloc | apply pw_below_drewN | apply below_drew1) | exact HB.out))) : w.heap.size ≤ gb256)); clear HB; have HB := n0_; have BK256 := n1_; have GW256 := n2_; have GE256 := n3_; clear n0_ n1_ n2_ n3_; clear hb hbox hg; have hcz18_0 : w17.cell? ⟨gb256, 0, none⟩ = some (.int .i64 a0_0) := (blk_cell BK256.out 0).trans rfl; have hcz18_1 : w17.cell? ⟨gb256, 1, none⟩ = some (.string a0_1) := (blk_cell BK256.out 1).trans rfl; have hfz18_0 := blk_frozen BK256.out 0; have hfz18_1 := blk_frozen BK256.out 1) | ((with_reducible refine gate_callee (f := 80) rfl ?_); refine goesL_ (some 4) rfl rfl Try.func80 (by kernel_rfl) rfl #[.agg #[.int .i64 a0_0, .string a0_1]] rfl (by (try simp only [List.map_toArray, List.map_cons, List.map_nil]); first | done | rfl | (simp only [List.length_drop, List.length_take]; rfl)) ?_; (with_reducible refine (impl_AreSigns.calls k a0_0 a0_1 false _ A2.out).mono ?_); rintro e w19 ⟨rfl, hb⟩; refine ⟨_, rfl, ?_⟩; have n0_ := Aside0.mk (blk_below (g := gb256) (o := .cells #[.int .i64 a0_0, .string a0_1] 26 (0, 0)) (by (with_reducible repeat (first | refine blk_drewN ?_ _ | refine blk_drew ?_ | refine blk_alloc ?_ _)); exact BK256.out) hb); have n1_ := Aside0.mk (below_step (by repeat (first | (with_reducible first | exact HB.out | apply below_alloc | apply pw_below_drewN | apply below_drew1 | refine below_set ?_ GE256.out) | exact HB.out)) hb); clear BK256; clear HB; have BK256 := n0_; have HB := n1_; clear n0_ n1_; (try clear hb); (try clear hb2); (try clear hk); (try clear hi)))
    go_ret
    exact ⟨by first | rfl | (simp [errW_none, errW_some] <;> rfl) | (simp [*, errW_none, errW_some] <;> rfl), by repeat (first | (with_reducible first | exact HB.out | apply below_alloc | apply pw_below_drewN | apply below_drew1 | refine below_set ?_ GE256.out) | exact HB.out)⟩

end Go.Proofs.Ytbmoaphiheoanaa.P

namespace Go.Proofs.Ytbmoaphiheoanaa.P
open Go.RowKit Go.Proofs.YtbmoaphiheoanaaW.PrintWords Go.Proofs.YtbmoaphiheoanaaW.PrintLast Go.Proofs.YtbmoaphiheoanaaW.PrintMore
attribute [local go_sem] ptrOf_slice
attribute [local go_sem] max2_int min2_int max_two min_two max_three min_three max_four min_four   -- for this text's walks alone
set_option linter.unusedVariables false
set_option linter.unusedSimpArgs false

/-! ### impl_IsMutation: function 15 -/
def impl_IsMutation.f (k : Nat) (a0_0 : Int) (a0_1 : ByteArray) (a1 : Int) (a2 : Int) (a3 : Int) : Option (Bool) := (impl_ExchangeSign.f k a0_0 a0_1 a1 a2 a3).bind fun bt262 => (if bt262.2.2 = true then ((impl_IsMatroid.f k a0_0 a0_1).bind fun t266 => (if t266 = true then ((impl_IsMatroid.f k bt262.1 bt262.2.1).bind fun t267 => (some t267)) else (some false))) else (some false))
theorem impl_IsMutation.mono : ∀ a0 a1 a2 a3 a4 k, LeO (impl_IsMutation.f k a0 a1 a2 a3 a4) (impl_IsMutation.f (k + 1) a0 a1 a2 a3 a4) := by
  intro a0 a1 a2 a3 a4 k
  unfold impl_IsMutation.f
  repeat' first
      | (with_reducible exact impl_ExchangeSign.mono _ _ _ _ _ _)
      | (with_reducible exact impl_IsMatroid.mono _ _ _)
      | (with_reducible exact LeO.refl _)
      | (with_reducible exact LeO.none _)
      | (with_reducible refine LeO.ite ?_ ?_)
      | (with_reducible refine LeO.bind ?_ (fun _ => ?_))
      | exact impl_ExchangeSign.mono _ _ _ _ _ _
      | exact impl_IsMatroid.mono _ _ _
      | exact LeO.none _
      | refine LeO.ite ?_ ?_
      | refine LeO.bind ?_ (fun _ => ?_)
set_option maxHeartbeats 8000000 in
set_option maxRecDepth 100000 in
theorem impl_IsMutation.calls (k : Nat) (a0_0 : Int) (a0_1 : ByteArray) (a1 : Int) (a2 : Int) (a3 : Int) (r : Bool) (w : World) (h : impl_IsMutation.f k a0_0 a0_1 a1 a2 a3 = some r) :
    Calls Try.prog 15 #[.agg #[.int .i64 a0_0, .string a0_1], .int .i64 a1, .int .i64 a2, .int .i64 a3] w fun e w' => e = .returned (.bool r) ∧ Below w.heap.size w w' := by
  have hu26 := Try.underlying26
  have HB := Aside0.mk (Below.refl w.heap.size w)
  have H : ((impl_ExchangeSign.f k a0_0 a0_1 a1 a2 a3).bind fun bt262 => (if bt262.2.2 = true then ((impl_IsMatroid.f k a0_0 a0_1).bind fun t266 => (if t266 = true then ((impl_IsMatroid.f k bt262.1 bt262.2.1).bind fun t267 => (some t267)) else (some false))) else (some false))) = some r := h
  clear h
  replace H := Option.bind_eq_some_iff.mp H
  obtain ⟨⟨t262, t263, t264⟩, A50, H⟩ := H
  replace H : (if t264 = true then ((impl_IsMatroid.f k a0_0 a0_1).bind fun t266 => (if t266 = true then ((impl_IsMatroid.f k t262 t263).bind fun t267 => (some t267)) else (some false))) else (some false)) = some r := H
  have A5 := Aside0.mk A50
  clear A50
  by_cases c6 : t264 = true
  · subst c6
    have H1 : ((impl_IsMatroid.f k a0_0 a0_1).bind fun t266 => (if t266 = true then ((impl_IsMatroid.f k t262 t263).bind fun t267 => (some t267)) else (some false))) = some r := by rw [if_pos rfl] at H; exact H
    clear H
    have H := H1
    clear H1
    replace H := Option.bind_eq_some_iff.mp H
    obtain ⟨t266, A70, H⟩ := H
    replace H : (if t266 = true then ((impl_IsMatroid.f k t262 t263).bind fun t267 => (some t267)) else (some false)) = some r := H
    have A7 := Aside0.mk A70
    clear A70
    by_cases c8 : t266 = true
    · subst c8
      have H1 : ((impl_IsMatroid.f k t262 t263).bind fun t267 => (some t267)) = some r := by rw [if_pos rfl] at H; exact H
      clear H
      have H := H1
      clear H1
      replace H := Option.bind_eq_some_iff.mp H
      obtain ⟨t267, A90, H⟩ := H
      replace H : (some t267) = some r := H
      have A9 := Aside0.mk A90
      clear A90
      obtain rfl := Option.some.inj H
      go_enter Try.func15, Try.ntmps15
      go_wp2_with (first | ((with_reducible refine gate_dst (N := 4) rfl ?_); refine box_event ?hg (N := 4) ?hd (cs := #[.int .i64 a0_0, .string a0_1]) (t := 26) ?hr ?_; (case hd => rfl); (case hg => rfl); (case hr => first | (go_simp; done) | (go_simp; rfl)); intro gb261 hg w10 hbox hb; have n0_ := Aside0.mk (below_step (by repeat (first | (with_reducible first | exact HB.out | apply below_alloc | apply pw_below_drewN | apply below_drew1) | exact HB.out)) hb); have n1_ := Aside0.mk (hbox); have n2_ := Aside0.mk ((by rw [hg]; exact (below_size (by repeat (first | (with_reducible first | exact HB.out | apply below_alloc | apply pw_below_drewN | apply below_drew1) | exact HB.out))) : w.heap.size ≤ gb261)); have n3_ := Aside0.mk ((by rw [hg]; exact (below_size (by repeat (first | (with_reducible first | exact HB.out | apply below_alloc | apply pw_below_drewN | apply below_drew1) | exact HB.out))) : w.heap.size ≤ gb261)); clear HB; have HB := n0_; have BK261 := n1_; have GW261 := n2_; have GE261 := n3_; clear n0_ n1_ n2_ n3_; clear hb hbox hg; have hcz11_0 : w10.cell? ⟨gb261, 0, none⟩ = some (.int .i64 a0_0) := (blk_cell BK261.out 0).trans rfl; have hcz11_1 : w10.cell? ⟨gb261, 1, none⟩ = some (.string a0_1) := (blk_cell BK261.out 1).trans rfl; have hfz11_0 := blk_frozen BK261.out 0; have hfz11_1 := blk_frozen BK261.out 1) | ((with_reducible refine gate_callee (f := 43) rfl ?_); refine goesL_ (some 16) rfl rfl Try.func43 (by kernel_rfl) rfl #[.agg #[.int .i64 a0_0, .string a0_1], .int .i64 a1, .int .i64 a2, .int .i64 a3] rfl (by (try simp only [List.map_toArray, List.map_cons, List.map_nil]); first | done | rfl | (simp only [List.length_drop, List.length_take]; rfl)) ?_; (with_reducible refine (impl_ExchangeSign.calls k a0_0 a0_1 a1 a2 a3 t262 t263 true _ A5.out).mono ?_); rintro e w12 ⟨rfl, hb⟩; refine ⟨_, rfl, ?_⟩; have n0_ := Aside0.mk (blk_below (g := gb261) (o := .cells #[.int .i64 a0_0, .string a0_1] 26 (0, 0)) (by (with_reducible repeat (first | refine blk_drewN ?_ _ | refine blk_drew ?_ | refine blk_alloc ?_ _)); exact BK261.out) hb); have n1_ := Aside0.mk (below_step (by repeat (first | (with_reducible first | exact HB.out | apply below_alloc | apply pw_below_drewN | apply below_drew1 | refine below_set ?_ GE261.out) | exact HB.out)) hb); clear BK261; clear HB; have BK261 := n0_; have HB := n1_; clear n0_ n1_; (try clear hb); (try clear hb2); (try clear hk); (try clear hi)) | ((with_reducible refine gate_dst (N := 9) rfl ?_); refine box_event ?hg (N := 9) ?hd (cs := #[.int .i64 0, .string (⟨#[]⟩ : ByteArray)]) (t := 26) ?hr ?_; (case hd => rfl); (case hg => rfl); (case hr => first | (go_simp; done) | (go_simp; rfl)); intro gb265 hg w13 hbox hb; have n0_ := Aside0.mk (blk_below (g := gb261) (o := .cells #[.int .i64 a0_0, .string a0_1] 26 (0, 0)) (by (with_reducible repeat (first | refine blk_drewN ?_ _ | refine blk_drew ?_ | refine blk_alloc ?_ _)); exact BK261.out) hb); have n1_ := Aside0.mk (below_step (by repeat (first | (with_reducible first | exact HB.out | apply below_alloc | apply pw_below_drewN | apply below_drew1 | refine below_set ?_ GE261.out) | exact HB.out)) hb); have n2_ := Aside0.mk (hbox); have n3_ := Aside0.mk ((by rw [hg]; exact (below_size (by repeat (first | (with_reducible first | exact HB.out | apply below_alloc | apply pw_below_drewN | apply below_drew1 | refine below_set ?_ GE261.out) | exact HB.out))) : w.heap.size ≤ gb265)); have n4_ := Aside0.mk ((by rw [hg]; exact (below_size (by repeat (first | (with_reducible first | exact HB.out | apply below_alloc | apply pw_below_drewN | apply below_drew1 | refine below_set ?_ GE261.out) | exact HB.out))) : w.heap.size ≤ gb265)); have n5_ := Aside0.mk ((by rw [hg]; exact Nat.ne_of_lt (blk_lt (g := gb261) (o := .cells #[.int .i64 a0_0, .string a0_1] 26 (0, 0)) (by (with_reducible repeat (first | refine blk_drewN ?_ _ | refine blk_drew ?_ | refine blk_alloc ?_ _)); exact BK261.out)) : gb261 ≠ gb265)); have n6_ := Aside0.mk ((by rw [hg]; exact Nat.ne_of_gt (blk_lt (g := gb261) (o := .cells #[.int .i64 a0_0, .string a0_1] 26 (0, 0)) (by (with_reducible repeat (first | refine blk_drewN ?_ _ | refine blk_drew ?_ | refine blk_alloc ?_ _)); exact BK261.out)) : gb265 ≠ gb261)); clear BK261; clear HB; have BK261 := n0_; have HB := n1_; have BK265 := n2_; have GW265 := n3_; have GE265 := n4_; have NB261_265 := n5_; have NB265_261 := n6_; clear n0_ n1_ n2_ n3_ n4_ n5_ n6_; clear hb hbox hg; have hnb14 := NB265_261.out; have hnc14 := NB261_265.out; have hcz15_0 : w13.cell? ⟨gb265, 0, none⟩ = some (.int .i64 0) := (blk_cell BK265.out 0).trans rfl; have hcz15_1 : w13.cell? ⟨gb265, 1, none⟩ = some (.string (⟨#[]⟩ : ByteArray)) := (blk_cell BK265.out 1).trans rfl; have hfz15_0 := blk_frozen BK265.out 0; have hfz15_1 := blk_frozen BK265.out 1; have hcz16_0 : w13.cell? ⟨gb261, 0, none⟩ = some (.int .i64 a0_0) := (blk_cell BK261.out 0).trans rfl; have hcz16_1 : w13.cell? ⟨gb261, 1, none⟩ = some (.string a0_1) := (blk_cell BK261.out 1).trans rfl; have hfz16_0 := blk_frozen BK261.out 0; have hfz16_1 := blk_frozen BK261.out 1) | (go_at_call 44; (with_reducible refine (impl_IsMatroid.calls k a0_0 a0_1 true _ A7.out).mono ?_); rintro e w17 ⟨rfl, hb⟩; have n0_ := Aside0.mk (blk_below (g := gb261) (o := .cells #[.int .i64 a0_0, .string a0_1] 26 (0, 0)) (by (with_reducible repeat (first | refine blk_drewN ?_ _ | refine blk_drew ?_ | refine blk_alloc ?_ _)); refine blk_far ?_ NB261_265.out _; (with_reducible repeat (first | refine blk_drewN ?_ _ | refine blk_drew ?_ | refine blk_alloc ?_ _)); refine blk_far ?_ NB261_265.out _; (with_reducible repeat (first | refine blk_drewN ?_ _ | refine blk_drew ?_ | refine blk_alloc ?_ _)); exact BK261.out) hb); have n1_ := Aside0.mk (blk_below (g := gb265) (o := .cells #[.int .i64 t262, .string t263] 26 (0, 0)) (by (with_reducible repeat (first | refine blk_drewN ?_ _ | refine blk_drew ?_ | refine blk_alloc ?_ _)); refine blk_put (cs := #[.int .i64 t262, .string (⟨#[]⟩ : ByteArray)]) ?_ 1 _ rfl; (with_reducible repeat (first | refine blk_drewN ?_ _ | refine blk_drew ?_ | refine blk_alloc ?_ _)); refine blk_put (cs := #[.int .i64 0, .string (⟨#[]⟩ : ByteArray)]) ?_ 0 _ rfl; (with_reducible repeat (first | refine blk_drewN ?_ _ | refine blk_drew ?_ | refine blk_alloc ?_ _)); exact BK265.out) hb); have n2_ := Aside0.mk (below_step (by repeat (first | (with_reducible first | exact HB.out | apply below_alloc | apply pw_below_drewN | apply below_drew1 | refine below_set ?_ GE261.out | refine below_set ?_ GE265.out) | exact HB.out)) hb); clear BK261; clear BK265; clear HB; have BK261 := n0_; have BK265 := n1_; have HB := n2_; clear n0_ n1_ n2_; (try clear hb); (try clear hb2); (try clear hk); (try clear hi); have hcz18_0 : w17.cell? ⟨gb265, 0, none⟩ = some (.int .i64 t262) := (blk_cell BK265.out 0).trans rfl; have hcz18_1 : w17.cell? ⟨gb265, 1, none⟩ = some (.string t263) := (blk_cell BK265.out 1).trans rfl; have hfz18_0 := blk_frozen BK265.out 0; have hfz18_1 := blk_frozen BK265.out 1) | (go_at_call 44; (with_reducible refine (impl_IsMatroid.calls k t262 t263 t267 _ A9.out).mono ?_); rintro e w19 ⟨rfl, hb⟩; have n0_ := Aside0.mk (blk_below (g := gb261) (o := .cells #[.int .i64 a0_0, .string a0_1] 26 (0, 0)) (by (with_reducible repeat (first | refine blk_drewN ?_ _ | refine blk_drew ?_ | refine blk_alloc ?_ _)); exact BK261.out) hb); have n1_ := Aside0.mk (blk_below (g := gb265) (o := .cells #[.int .i64 t262, .string t263] 26 (0, 0)) (by (with_reducible repeat (first | refine blk_drewN ?_ _ | refine blk_drew ?_ | refine blk_alloc ?_ _)); exact BK265.out) hb); have n2_ := Aside0.mk (below_step (by repeat (first | (with_reducible first | exact HB.out | apply below_alloc | apply pw_below_drewN | apply below_drew1 | refine below_set ?_ GE261.out | refine below_set ?_ GE265.out) | exact HB.out)) hb); clear BK261; clear BK265; clear HB; have BK261 := n0_; have BK265 := n1_; have HB := n2_; clear n0_ n1_ n2_; (try clear hb); (try clear hb2); (try clear hk); (try clear hi)))
      go_ret
      exact ⟨by first | rfl | (simp [errW_none, errW_some] <;> rfl) | (simp [*, errW_none, errW_some] <;> rfl), by repeat (first | (with_reducible first | exact HB.out | apply below_alloc | apply pw_below_drewN | apply below_drew1 | refine below_set ?_ GE261.out | refine below_set ?_ GE265.out) | exact HB.out)⟩
    · replace c8 := Bool.eq_false_iff.mpr c8
      subst c8
      have H1 : (some false) = some r := by rw [if_neg (show ¬ (false = true) by decide)] at H; exact H
      clear H
      have H := H1
      clear H1
      obtain rfl := Option.some.inj H
      go_enter Try.func15, Try.ntmps15
      go_wp2_with (first | ((with_reducible refine gate_dst (N := 4) rfl ?_); refine box_event ?hg (N := 4) ?hd (cs := #[.int .i64 a0_0, .string a0_1]) (t := 26) ?hr ?_; (case hd => rfl); (case hg => rfl); (case hr => first | (go_simp; done) | (go_simp; rfl)); intro gb261 hg w20 hbox hb; have n0_ := Aside0.mk (below_step (by repeat (first | (with_reducible first | exact HB.out | apply below_alloc | apply pw_below_drewN | apply below_drew1) | exact HB.out)) hb); have n1_ := Aside0.mk (hbox); have n2_ := Aside0.mk ((by rw [hg]; exact (below_size (by repeat (first | (with_reducible first | exact HB.out | apply below_alloc | apply pw_below_drewN | apply below_drew1) | exact HB.out))) : w.heap.size ≤ gb261)); have n3_ := Aside0.mk ((by rw [hg]; exact (below_size (by repeat (first | (with_reducible first | exact HB.out | apply below_alloc | apply pw_below_drewN | apply below_drew1) | exact HB.out))) : w.heap.size ≤ gb261)); clear HB; have HB := n0_; have BK261 := n1_; have GW261 := n2_; have GE261 := n3_; clear n0_ n1_ n2_ n3_; clear hb hbox hg; have hcz21_0 : w20.cell? ⟨gb261, 0, none⟩ = some (.int .i64 a0_0) := (blk_cell BK261.out 0).trans rfl; have hcz21_1 : w20.cell? ⟨gb261, 1, none⟩ = some (.string a0_1) := (blk_cell BK261.out 1).trans rfl; have hfz21_0 := blk_frozen BK261.out 0; have hfz21_1 := blk_frozen BK261.out 1) | ((with_reducible refine gate_callee (f := 43) rfl ?_); refine goesL_ (some 16) rfl rfl Try.func43 (by kernel_rfl) rfl #[.agg #[.int .i64 a0_0, .string a0_1], .int .i64 a1, .int .i64 a2, .int .i64 a3] rfl (by (try simp only [List.map_toArray, List.map_cons, List.map_nil]); first | done | rfl | (simp only [List.length_drop, List.length_take]; rfl)) ?_; (with_reducible refine (impl_ExchangeSign.calls k a0_0 a0_1 a1 a2 a3 t262 t263 true _ A5.out).mono ?_); rintro e w22 ⟨rfl, hb⟩; refine ⟨_, rfl, ?_⟩; have n0_ := Aside0.mk (blk_below (g := gb261) (o := .cells #[.int .i64 a0_0, .string a0_1] 26 (0, 0)) (by (with_reducible repeat (first | refine blk_drewN ?_ _ | refine blk_drew ?_ | refine blk_alloc ?_ _)); exact BK261.out) hb); have n1_ := Aside0.mk (below_step (by repeat (first | (with_reducible first | exact HB.out | apply below_alloc | apply pw_below_drewN | apply below_drew1 | refine below_set ?_ GE261.out) | exact HB.out)) hb); clear BK261; clear HB; have BK261 := n0_; have HB := n1_; clear n0_ n1_; (try clear hb); (try clear hb2); (try clear hk); (try clear hi)) | ((with_reducible refine gate_dst (N := 9) rfl ?_); refine box_event ?hg (N := 9) ?hd (cs := #[.int .i64 0, .string (⟨#[]⟩ : ByteArray)]) (t := 26) ?hr ?_; (case hd => rfl); (case hg => rfl); (case hr => first | (go_simp; done) | (go_simp; rfl)); intro gb265 hg w23 hbox hb; have n0_ := Aside0.mk (blk_below (g := gb261) (o := .cells #[.int .i64 a0_0, .string a0_1] 26 (0, 0)) (by (with_reducible repeat (first | refine blk_drewN ?_ _ | refine blk_drew ?_ | refine blk_alloc ?_ _)); exact BK261.out) hb); have n1_ := Aside0.mk (below_step (by repeat (first | (with_reducible first | exact HB.out | apply below_alloc | apply pw_below_drewN | apply below_drew1 | refine below_set ?_ GE261.out) | exact HB.out)) hb); have n2_ := Aside0.mk (hbox); have n3_ := Aside0.mk ((by rw [hg]; exact (below_size (by repeat (first | (with_reducible first | exact HB.out | apply below_alloc | apply pw_below_drewN | apply below_drew1 | refine below_set ?_ GE261.out) | exact HB.out))) : w.heap.size ≤ gb265)); have n4_ := Aside0.mk ((by rw [hg]; exact (below_size (by repeat (first | (with_reducible first | exact HB.out | apply below_alloc | apply pw_below_drewN | apply below_drew1 | refine below_set ?_ GE261.out) | exact HB.out))) : w.heap.size ≤ gb265)); have n5_ := Aside0.mk ((by rw [hg]; exact Nat.ne_of_lt (blk_lt (g := gb261) (o := .cells #[.int .i64 a0_0, .string a0_1] 26 (0, 0)) (by (with_reducible repeat (first | refine blk_drewN ?_ _ | refine blk_drew ?_ | refine blk_alloc ?_ _)); exact BK261.out)) : gb261 ≠ gb265)); have n6_ := Aside0.mk ((by rw [hg]; exact Nat.ne_of_gt (blk_lt (g := gb261) (o := .cells #[.int .i64 a0_0, .string a0_1] 26 (0, 0)) (by (with_reducible repeat (first | refine blk_drewN ?_ _ | refine blk_drew ?_ | refine blk_alloc ?_ _)); exact BK261.out)) : gb265 ≠ gb261)); clear BK261; clear HB; have BK261 := n0_; have HB := n1_; have BK265 := n2_; have GW265 := n3_; have GE265 := n4_; have NB261_265 := n5_; have NB265_261 := n6_; clear n0_ n1_ n2_ n3_ n4_ n5_ n6_; clear hb hbox hg; have hnb24 := NB265_261.out; have hnc24 := NB261_265.out; have hcz25_0 : w23.cell? ⟨gb265, 0, none⟩ = some (.int .i64 0) := (blk_cell BK265.out 0).trans rfl; have hcz25_1 : w23.cell? ⟨gb265, 1, none⟩ = some (.string (⟨#[]⟩ : ByteArray)) := (blk_cell BK265.out 1).trans rfl; have hfz25_0 := blk_frozen BK265.out 0; have hfz25_1 := blk_frozen BK265.out 1; have hcz26_0 : w23.cell? ⟨gb261, 0, none⟩ = some (.int .i64 a0_0) := (blk_cell BK261.out 0).trans rfl; have hcz26_1 : w23.cell? ⟨gb261, 1, none⟩ = some (.string a0_1) := (blk_cell BK261.out 1).trans rfl; have hfz26_0 := blk_frozen BK261.out 0; have hfz26_1 := blk_frozen BK261.out 1) | (go_at_call 44; (with_reducible refine (impl_IsMatroid.calls k a0_0 a0_1 false _ A7.out).mono ?_); rintro e w27 ⟨rfl, hb⟩; have n0_ := Aside0.mk (blk_below (g := gb261) (o := .cells #[.int .i64 a0_0, .string a0_1] 26 (0, 0)) (by (with_reducible repeat (first | refine blk_drewN ?_ _ | refine blk_drew ?_ | refine blk_alloc ?_ _)); refine blk_far ?_ NB261_265.out _; (with_reducible repeat (first | refine blk_drewN ?_ _ | refine blk_drew ?_ | refine blk_alloc ?_ _)); refine blk_far ?_ NB261_265.out _; (with_reducible repeat (first | refine blk_drewN ?_ _ | refine blk_drew ?_ | refine blk_alloc ?_ _)); exact BK261.out) hb); have n1_ := Aside0.mk (blk_below (g := gb265) (o := .cells #[.int .i64 t262, .string t263] 26 (0, 0)) (by (with_reducible repeat (first | refine blk_drewN ?_ _ | refine blk_drew ?_ | refine blk_alloc ?_ _)); refine blk_put (cs := #[.int .i64 t262, .string (⟨#[]⟩ : ByteArray)]) ?_ 1 _ rfl; (with_reducible repeat (first | refine blk_drewN ?_ _ | refine blk_drew ?_ | refine blk_alloc ?_ _)); refine blk_put (cs := #[.int .i64 0, .string (⟨#[]⟩ : ByteArray)]) ?_ 0 _ rfl; (with_reducible repeat (first | refine blk_drewN ?_ _ | refine blk_drew ?_ | refine blk_alloc ?_ _)); exact BK265.out) hb); have n2_ := Aside0.mk (below_step (by repeat (first | (with_reducible first | exact HB.out | apply below_alloc | apply pw_below_drewN | apply below_drew1 | refine below_set ?_ GE261.out | refine below_set ?_ GE265.out) | exact HB.out)) hb); clear BK261; clear BK265; clear HB; have BK261 := n0_; have BK265 := n1_; have HB := n2_; clear n0_ n1_ n2_; (try clear hb); (try clear hb2); (try clear hk); (try clear hi)))
      go_ret
      exact ⟨by first | rfl | (simp [errW_none, errW_some] <;> rfl) | (simp [*, errW_none, errW_some] <;> rfl), by repeat (first | (with_reducible first | exact HB.out | apply below_alloc | apply pw_below_drewN | apply below_drew1 | refine below_set ?_ GE261.out | refine below_set ?_ GE265.out) | exact HB.out)⟩
  · replace c6 := Bool.eq_false_iff.mpr c6
    subst c6
    have H1 : (some false) = some r := by rw [if_neg (show ¬ (false = true) by decide)] at H; exact H
    clear H
    have H := H1
    clear H1
    obtain rfl := Option.some.inj H
    go_enter Try.func15, Try.ntmps15
    go_wp2_with (first | ((with_reducible refine gate_dst (N := 4) rfl ?_); refine box_event ?hg (N := 4) ?hd (cs := #[.int .i64 a0_0, .string a0_1]) (t := 26) ?hr ?_; (case hd => rfl); (case hg => rfl); (case hr => first | (go_simp; done) | (go_simp; rfl)); intro gb261 hg w28 hbox hb; have n0_ := Aside0.mk (below_step (by repeat (first | (with_reducible first | exact HB.out | apply below_alloc | apply pw_below_drewN | apply below_drew1) | exact HB.out)) hb); have n1_ := Aside0.mk (hbox); have n2_ := Aside0.mk ((by rw [hg]; exact (below_size (by repeat (first | (with_reducible first | exact HB.out | apply below_alloc | apply pw_below_drewN | apply below_drew1) | exact HB.out))) : w.heap.size ≤ gb261)); have n3_ := Aside0.mk ((by rw [hg]; exact (below_size (by repeat (first | (with_reducible first | exact HB.out | apply below_alloc | apply pw_below_drewN | apply below_drew1) | exact HB.out))) : w.heap.size ≤ gb261)); clear HB; have HB := n0_; have BK261 := n1_; have GW261 := n2_; have GE261 := n3_; clear n0_ n1_ n2_ n3_; clear hb hbox hg; have hcz29_0 : w28.cell? ⟨gb261, 0, none⟩ = some (.int .i64 a0_0) := (blk_cell BK261.out 0).trans rfl; have hcz29_1 : w28.cell? ⟨gb261, 1, none⟩ = some (.string a0_1) := (blk_cell BK261.out 1).trans rfl; have hfz29_0 := blk_frozen BK261.out 0; have hfz29_1 := blk_frozen BK261.out 1) | ((with_reducible refine gate_callee (f := 43) rfl ?_); refine goesL_ (some 16) rfl rfl Try.func43 (by kernel_rfl) rfl #[.agg #[.int .i64 a0_0, .string a0_1], .int .i64 a1, .int .i64 a2, .int .i64 a3] rfl (by (try simp only [List.map_toArray, List.map_cons, List.map_nil]); first | done | rfl | (simp only [List.length_drop, List.length_take]; rfl)) ?_; (with_reducible refine (impl_ExchangeSign.calls k a0_0 a0_1 a1 a2 a3 t262 t263 false _ A5.out).mono ?_); rintro e w30 ⟨rfl, hb⟩; refine ⟨_, rfl, ?_⟩; have n0_ := Aside0.mk (blk_below (g := gb261) (o := .cells #[.int .i64 a0_0, .string a0_1] 26 (0, 0)) (by (with_reducible repeat (first | refine blk_drewN ?_ _ | refine blk_drew ?_ | refine blk_alloc ?_ _)); exact BK261.out) hb); have n1_ := Aside0.mk (below_step (by repeat (first | (with_reducible first | exact HB.out | apply below_alloc | apply pw_below_drewN | apply below_drew1 | refine below_set ?_ GE261.out) | exact HB.out)) hb); clear BK261; clear HB; have BK261 := n0_; have HB := n1_; clear n0_ n1_; (try clear hb); (try clear hb2); (try clear hk); (try clear hi)) | ((with_reducible refine gate_dst (N := 9) rfl ?_); refine box_event ?hg (N := 9) ?hd (cs := #[.int .i64 0, .string (⟨#[]⟩ : ByteArray)]) (t := 26) ?hr ?_; (case hd => rfl); (case hg => rfl); (case hr => first | (go_simp; done) | (go_simp; rfl)); intro gb265 hg w31 hbox hb; have n0_ := Aside0.mk (blk_below (g := gb261) (o := .cells #[.int .i64 a0_0, .string a0_1] 26 (0, 0)) (by (with_reducible repeat (first | refine blk_drewN ?_ _ | refine blk_drew ?_ | refine blk_alloc ?_ _)); exact BK261.out) hb); have n1_ := Aside0.mk (below_step (by repeat (first | (with_reducible first | exact HB.out | apply below_alloc | apply pw_below_drewN | apply below_drew1 | refine below_set ?_ GE261.out) | exact HB.out)) hb); have n2_ := Aside0.mk (hbox); have n3_ := Aside0.mk ((by rw [hg]; exact (below_size (by repeat (first | (with_reducible first | exact HB.out | apply below_alloc | apply pw_below_drewN | apply below_drew1 | refine below_set ?_ GE261.out) | exact HB.out))) : w.heap.size ≤ gb265)); have n4_ := Aside0.mk ((by rw [hg]; exact (below_size (by repeat (first | (with_reducible first | exact HB.out | apply below_alloc | apply pw_below_drewN | apply below_drew1 | refine below_set ?_ GE261.out) | exact HB.out))) : w.heap.size ≤ gb265)); have n5_ := Aside0.mk ((by rw [hg]; exact Nat.ne_of_lt (blk_lt (g := gb261) (o := .cells #[.int .i64 a0_0, .string a0_1] 26 (0, 0)) (by (with_reducible repeat (first | refine blk_drewN ?_ _ | refine blk_drew ?_ | refine blk_alloc ?_ _)); exact BK261.out)) : gb261 ≠ gb265)); have n6_ := Aside0.mk ((by rw [hg]; exact Nat.ne_of_gt (blk_lt (g := gb261) (o := .cells #[.int .i64 a0_0, .string a0_1] 26 (0, 0)) (by (with_reducible repeat (first | refine blk_drewN ?_ _ | refine blk_drew ?_ | refine blk_alloc ?_ _)); exact BK261.out)) : gb265 ≠ gb261)); clear BK261; clear HB; have BK261 := n0_; have HB := n1_; have BK265 := n2_; have GW265 := n3_; have GE265 := n4_; have NB261_265 := n5_; have NB265_261 := n6_; clear n0_ n1_ n2_ n3_ n4_ n5_ n6_; clear hb hbox hg; have hnb32 := NB265_261.out; have hnc32 := NB261_265.out; have hcz33_0 : w31.cell? ⟨gb265, 0, none⟩ = some (.int .i64 0) := (blk_cell BK265.out 0).trans rfl; have hcz33_1 : w31.cell? ⟨gb265, 1, none⟩ = some (.string (⟨#[]⟩ : ByteArray)) := (blk_cell BK265.out 1).trans rfl; have hfz33_0 := blk_frozen BK265.out 0; have hfz33_1 := blk_frozen BK265.out 1))
    go_ret
    exact ⟨by first | rfl | (simp [errW_none, errW_some] <;> rfl) | (simp [*, errW_none, errW_some] <;> rfl), by repeat (first | (with_reducible first | exact HB.out | apply below_alloc | apply pw_below_drewN | apply below_drew1 | refine below_set ?_ GE261.out | refine below_set ?_ GE265.out) | exact HB.out)⟩

end Go.Proofs.Ytbmoaphiheoanaa.P

namespace Go.Proofs.Ytbmoaphiheoanaa.P
open Go.RowKit Go.Proofs.YtbmoaphiheoanaaW.PrintWords Go.Proofs.YtbmoaphiheoanaaW.PrintLast Go.Proofs.YtbmoaphiheoanaaW.PrintMore
attribute [local go_sem] ptrOf_slice
attribute [local go_sem] max2_int min2_int max_two min_two max_three min_three max_four min_four   -- for this text's walks alone
set_option linter.unusedVariables false
set_option linter.unusedSimpArgs false

/-! ### laws_FnExactIsMutation: function 3 -/
def laws_FnExactIsMutation.f (k : Nat) (a0_0 : Int) (a0_1 : ByteArray) (a1 : Int) (a2 : Int) (a3 : Int) : Option (Bool) := (laws_szSigns.f a0_0 a0_1 1048576).bind fun t269 => (if t269 < 0 then (some true) else ((laws_toSigns.f a0_0 a0_1).bind fun bt270 => ((spec_IsMutation.f k bt270.1 bt270.2 a1 a2 a3).bind fun t272 => ((laws_toSigns.f a0_0 a0_1).bind fun bt273 => ((impl_IsMutation.f k bt273.1 bt273.2 a1 a2 a3).bind fun t275 => (if (t275 != t272) = true then (some false) else (some true)))))))
theorem laws_FnExactIsMutation.mono : ∀ a0 a1 a2 a3 a4 k, LeO (laws_FnExactIsMutation.f k a0 a1 a2 a3 a4) (laws_FnExactIsMutation.f (k + 1) a0 a1 a2 a3 a4) := by
  intro a0 a1 a2 a3 a4 k
  unfold laws_FnExactIsMutation.f
  repeat' first
      | (with_reducible exact impl_IsMutation.mono _ _ _ _ _ _)
      | (with_reducible exact spec_IsMutation.mono _ _ _ _ _ _)
      | (with_reducible exact LeO.refl _)
      | (with_reducible exact LeO.none _)
      | (with_reducible refine LeO.ite ?_ ?_)
      | (with_reducible refine LeO.bind ?_ (fun _ => ?_))
      | exact impl_IsMutation.mono _ _ _ _ _ _
      | exact spec_IsMutation.mono _ _ _ _ _ _
      | exact LeO.none _
      | refine LeO.ite ?_ ?_
      | refine LeO.bind ?_ (fun _ => ?_)
set_option maxHeartbeats 8000000 in
set_option maxRecDepth 100000 in
theorem laws_FnExactIsMutation.calls (k : Nat) (a0_0 : Int) (a0_1 : ByteArray) (a1 : Int) (a2 : Int) (a3 : Int) (r : Bool) (w : World) (h : laws_FnExactIsMutation.f k a0_0 a0_1 a1 a2 a3 = some r) :
    Calls Try.prog 3 #[.agg #[.int .i64 a0_0, .string a0_1], .int .i64 a1, .int .i64 a2, .int .i64 a3] w fun e w' => e = .returned (.bool r) ∧ Below w.heap.size w w' := by
  have hu23 := Try.underlying23
  have HB := Aside0.mk (Below.refl w.heap.size w)
  have H : ((laws_szSigns.f a0_0 a0_1 1048576).bind fun t269 => (if t269 < 0 then (some true) else ((laws_toSigns.f a0_0 a0_1).bind fun bt270 => ((spec_IsMutation.f k bt270.1 bt270.2 a1 a2 a3).bind fun t272 => ((laws_toSigns.f a0_0 a0_1).bind fun bt273 => ((impl_IsMutation.f k bt273.1 bt273.2 a1 a2 a3).bind fun t275 => (if (t275 != t272) = true then (some false) else (some true)))))))) = some r := h
  clear h
  replace H := Option.bind_eq_some_iff.mp H
  obtain ⟨t269, A50, H⟩ := H
  replace H : (if t269 < 0 then (some true) else ((laws_toSigns.f a0_0 a0_1).bind fun bt270 => ((spec_IsMutation.f k bt270.1 bt270.2 a1 a2 a3).bind fun t272 => ((laws_toSigns.f a0_0 a0_1).bind fun bt273 => ((impl_IsMutation.f k bt273.1 bt273.2 a1 a2 a3).bind fun t275 => (if (t275 != t272) = true then (some false) else (some true))))))) = some r := H
  have A5 := Aside0.mk A50
  clear A50
  by_cases c6 : t269 < 0
  · rw [if_pos c6] at H
    have c6b0 : decide (t269 < 0) = true := decide_eq_true c6
    clear c6
    obtain rfl := Option.some.inj H
    go_enter Try.func3, Try.ntmps3
    go_wp2_with (first | ((with_reducible refine gate_dst (N := 4) rfl ?_); refine box_event ?hg (N := 4) ?hd (cs := #[.int .i64 a0_0, .string a0_1]) (t := 23) ?hr ?_; (case hd => rfl); (case hg => rfl); (case hr => first | (go_simp; done) | (go_simp; rfl)); intro gb268 hg w7 hbox hb; have n0_ := Aside0.mk (below_step (by repeat (first | (with_reducible first | exact HB.out | apply below_alloc | apply pw_below_drewN | apply below_drew1) | exact HB.out)) hb); have n1_ := Aside0.mk (hbox); have n2_ := Aside0.mk ((by rw [hg]; exact (below_size (by repeat (first | (with_reducible first | exact HB.out | apply below_alloc | apply pw_below_drewN | apply below_drew1) | exact HB.out))) : w.heap.size ≤ gb268)); have n3_ := Aside0.mk ((by rw [hg]; exact (below_size (by repeat (first | (with_reducible first | exact HB.out | apply below_alloc | apply pw_below_drewN | apply below_drew1) | exact HB.out))) : w.heap.size ≤ gb268)); clear HB; have HB := n0_; have BK268 := n1_; have GW268 := n2_; have GE268 := n3_; clear n0_ n1_ n2_ n3_; clear hb hbox hg; have hcz8_0 : w7.cell? ⟨gb268, 0, none⟩ = some (.int .i64 a0_0) := (blk_cell BK268.out 0).trans rfl; have hcz8_1 : w7.cell? ⟨gb268, 1, none⟩ = some (.string a0_1) := (blk_cell BK268.out 1).trans rfl; have hfz8_0 := blk_frozen BK268.out 0; have hfz8_1 := blk_frozen BK268.out 1) | ((with_reducible refine gate_callee (f := 12) rfl ?_); refine goesL_ (some 14) rfl rfl Try.func12 (by kernel_rfl) rfl #[.agg #[.int .i64 a0_0, .string a0_1], .int .i64 1048576] rfl (by (try simp only [List.map_toArray, List.map_cons, List.map_nil]); first | done | rfl | (simp only [List.length_drop, List.length_take]; rfl)) ?_; (with_reducible refine (laws_szSigns.calls a0_0 a0_1 1048576 t269 _ A5.out).mono ?_); rintro e w9 ⟨rfl, hb⟩; refine ⟨_, rfl, ?_⟩; have n0_ := Aside0.mk (blk_below (g := gb268) (o := .cells #[.int .i64 a0_0, .string a0_1] 23 (0, 0)) (by (with_reducible repeat (first | refine blk_drewN ?_ _ | refine blk_drew ?_ | refine blk_alloc ?_ _)); exact BK268.out) hb); have n1_ := Aside0.mk (below_step (by repeat (first | (with_reducible first | exact HB.out | apply below_alloc | apply pw_below_drewN | apply below_drew1 | refine below_set ?_ GE268.out) | exact HB.out)) hb); clear BK268; clear HB; have BK268 := n0_; have HB := n1_; clear n0_ n1_; (try clear hb); (try clear hb2); (try clear hk); (try clear hi)))
    go_ret
    exact ⟨by first | rfl | (simp [errW_none, errW_some] <;> rfl) | (simp [*, errW_none, errW_some] <;> rfl), by repeat (first | (with_reducible first | exact HB.out | apply below_alloc | apply pw_below_drewN | apply below_drew1 | refine below_set ?_ GE268.out) | exact HB.out)⟩
  · rw [if_neg c6] at H
    have c6b0 : decide (t269 < 0) = false := decide_eq_false c6
    clear c6
    replace H := Option.bind_eq_some_iff.mp H
    obtain ⟨⟨t270, t271⟩, A100, H⟩ := H
    replace H : ((spec_IsMutation.f k t270 t271 a1 a2 a3).bind fun t272 => ((laws_toSigns.f a0_0 a0_1).bind fun bt273 => ((impl_IsMutation.f k bt273.1 bt273.2 a1 a2 a3).bind fun t275 => (if (t275 != t272) = true then (some false) else (some true))))) = some r := H
    have A10 := Aside0.mk A100
    clear A100
    replace H := Option.bind_eq_some_iff.mp H
    obtain ⟨t272, A110, H⟩ := H
    replace H : ((laws_toSigns.f a0_0 a0_1).bind fun bt273 => ((impl_IsMutation.f k bt273.1 bt273.2 a1 a2 a3).bind fun t275 => (if (t275 != t272) = true then (some false) else (some true)))) = some r := H
    have A11 := Aside0.mk A110
    clear A110
    replace H := Option.bind_eq_some_iff.mp H
    obtain ⟨⟨t273, t274⟩, A120, H⟩ := H
    replace H : ((impl_IsMutation.f k t273 t274 a1 a2 a3).bind fun t275 => (if (t275 != t272) = true then (some false) else (some true))) = some r := H
    have A12 := Aside0.mk A120
    clear A120
    replace H := Option.bind_eq_some_iff.mp H
    obtain ⟨t275, A130, H⟩ := H
    replace H : (if (t275 != t272) = true then (some false) else (some true)) = some r := H
    have A13 := Aside0.mk A130
    clear A130
    by_cases c14 : (t275 != t272) = true
    · rw [if_pos c14] at H
      have c14b0 : (t275 != t272) = true := c14
      (try (have c14b1 : decide (t275 = t272) = false := by simpa using c14))
      (try (have c14b2 : (t275 == t272) = false := by simpa using c14))
      (try (have c14b3 : ¬ (t275 = t272) := by simpa using c14))
      clear c14
      obtain rfl := Option.some.inj H
      go_enter Try.func3, Try.ntmps3
      go_wp2_with (first | ((with_reducible refine gate_dst (N := 4) rfl ?_); refine box_event ?hg (N := 4) ?hd (cs := #[.int .i64 a0_0, .string a0_1]) (t := 23) ?hr ?_; (case hd => rfl); (case hg => rfl); (case hr => first | (go_simp; done) | (go_simp; rfl)); intro gb268 hg w15 hbox hb; have n0_ := Aside0.mk (below_step (by repeat (first | (with_reducible first | exact HB.out | apply below_alloc | apply pw_below_drewN | apply below_drew1) | exact HB.out)) hb); have n1_ := Aside0.mk (hbox); have n2_ := Aside0.mk ((by rw [hg]; exact (below_size (by repeat (first | (with_reducible first | exact HB.out | apply below_alloc | apply pw_below_drewN | apply below_drew1) | exact HB.out))) : w.heap.size ≤ gb268)); have n3_ := Aside0.mk ((by rw [hg]; exact (below_size (by repeat (first | (with_reducible first | exact HB.out | apply below_alloc | apply pw_below_drewN | apply below_drew1) | exact HB.out))) : w.heap.size ≤ gb268)); clear HB; have HB := n0_; have BK268 := n1_; have GW268 := n2_; have GE268 := n3_; clear n0_ n1_ n2_ n3_; clear hb hbox hg; have hcz16_0 : w15.cell? ⟨gb268, 0, none⟩ = some (.int .i64 a0_0) := (blk_cell BK268.out 0).trans rfl; have hcz16_1 : w15.cell? ⟨gb268, 1, none⟩ = some (.string a0_1) := (blk_cell BK268.out 1).trans rfl; have hfz16_0 := blk_frozen BK268.out 0; have hfz16_1 := blk_frozen BK268.out 1) | ((with_reducible refine gate_callee (f := 12) rfl ?_); refine goesL_ (some 14) rfl rfl Try.func12 (by kernel_rfl) rfl #[.agg #[.int .i64 a0_0, .string a0_1], .int .i64 1048576] rfl (by (try simp only [List.map_toArray, List.map_cons, List.map_nil]); first | done | rfl | (simp only [List.length_drop, List.length_take]; rfl)) ?_; (with_reducible refine (laws_szSigns.calls a0_0 a0_1 1048576 t269 _ A5.out).mono ?_); rintro e w17 ⟨rfl, hb⟩; refine ⟨_, rfl, ?_⟩; have n0_ := Aside0.mk (blk_below (g := gb268) (o := .cells #[.int .i64 a0_0, .string a0_1] 23 (0, 0)) (by (with_reducible repeat (first | refine blk_drewN ?_ _ | refine blk_drew ?_ | refine blk_alloc ?_ _)); exact BK268.out) hb); have n1_ := Aside0.mk (below_step (by repeat (first | (with_reducible first | exact HB.out | apply below_alloc | apply pw_below_drewN | apply below_drew1 | refine below_set ?_ GE268.out) | exact HB.out)) hb); clear BK268; clear HB; have BK268 := n0_; have HB := n1_; clear n0_ n1_; (try clear hb); (try clear hb2); (try clear hk); (try clear hi); have hcz18_0 : w17.cell? ⟨gb268, 0, none⟩ = some (.int .i64 a0_0) := (blk_cell BK268.out 0).trans rfl; have hcz18_1 : w17.cell? ⟨gb268, 1, none⟩ = some (.string a0_1) := (blk_cell BK268.out 1).trans rfl; have hfz18_0 := blk_frozen BK268.out 0; have hfz18_1 := blk_frozen BK268.out 1) | ((with_reducible refine gate_callee (f := 14) rfl ?_); refine goesL_ (some 18) rfl rfl Try.func14 (by kernel_rfl) rfl #[.agg #[.int .i64 a0_0, .string a0_1]] rfl (by (try simp only [List.map_toArray, List.map_cons, List.map_nil]); first | done | rfl | (simp only [List.length_drop, List.length_take]; rfl)) ?_; (with_reducible refine (laws_toSigns.calls a0_0 a0_1 t270 t271 _ A10.out).mono ?_); rintro e w19 ⟨rfl, hb⟩; refine ⟨_, rfl, ?_⟩; have n0_ := Aside0.mk (blk_below (g := gb268) (o := .cells #[.int .i64 a0_0, .string a0_1] 23 (0, 0)) (by (with_reducible repeat (first | refine blk_drewN ?_ _ | refine blk_drew ?_ | refine blk_alloc ?_ _)); exact BK268.out) hb); have n1_ := Aside0.mk (below_step (by repeat (first | (with_reducible first | exact HB.out | apply below_alloc | apply pw_below_drewN | apply below_drew1 | refine below_set ?_ GE268.out) | exact HB.out)) hb); clear BK268; clear HB; have BK268 := n0_; have HB := n1_; clear n0_ n1_; (try clear hb); (try clear hb2); (try clear hk); (try clear hi)) | ((with_reducible refine gate_callee (f := 13) rfl ?_); refine goesL_ (some 22) rfl rfl Try.func13 (by kernel_rfl) rfl #[.agg #[.int .i64 t270, .string t271], .int .i64 a1, .int .i64 a2, .int .i64 a3] rfl (by (try simp only [List.map_toArray, List.map_cons, List.map_nil]); first | done | rfl | (simp only [List.length_drop, List.length_take]; rfl)) ?_; (with_reducible refine (spec_IsMutation.calls k t270 t271 a1 a2 a3 t272 _ A11.out).mono ?_); rintro e w20 ⟨rfl, hb⟩; refine ⟨_, rfl, ?_⟩; have n0_ := Aside0.mk (blk_below (g := gb268) (o := .cells #[.int .i64 a0_0, .string a0_1] 23 (0, 0)) (by (with_reducible repeat (first | refine blk_drewN ?_ _ | refine blk_drew ?_ | refine blk_alloc ?_ _)); exact BK268.out) hb); have n1_ := Aside0.mk (below_step (by repeat (first | (with_reducible first | exact HB.out | apply below_alloc | apply pw_below_drewN | apply below_drew1 | refine below_set ?_ GE268.out) | exact HB.out)) hb); clear BK268; clear HB; have BK268 := n0_; have HB := n1_; clear n0_ n1_; (try clear hb); (try clear hb2); (try clear hk); (try clear hi); have hcz21_0 : w20.cell? ⟨gb268, 0, none⟩ = some (.int .i64 a0_0) := (blk_cell BK268.out 0).trans rfl; have hcz21_1 : w20.cell? ⟨gb268, 1, none⟩ = some (.string a0_1) := (blk_cell BK268.out 1).trans rfl; have hfz21_0 := blk_frozen BK268.out 0; have hfz21_1 := blk_frozen BK268.out 1) | ((with_reducible refine gate_callee (f := 14) rfl ?_); refine goesL_ (some 24) rfl rfl Try.func14 (by kernel_rfl) rfl #[.agg #[.int .i64 a0_0, .string a0_1]] rfl (by (try simp only [List.map_toArray, List.map_cons, List.map_nil]); first | done | rfl | (simp only [List.length_drop, List.length_take]; rfl)) ?_; (with_reducible refine (laws_toSigns.calls a0_0 a0_1 t273 t274 _ A12.out).mono ?_); rintro e w22 ⟨rfl, hb⟩; refine ⟨_, rfl, ?_⟩; have n0_ := Aside0.mk (blk_below (g := gb268) (o := .cells #[.int .i64 a0_0, .string a0_1] 23 (0, 0)) (by (with_reducible repeat (first | refine blk_drewN ?_ _ | refine blk_drew ?_ | refine blk_alloc ?_ _)); exact BK268.out) hb); have n1_ := Aside0.mk (below_step (by repeat (first | (with_reducible first | exact HB.out | apply below_alloc | apply pw_below_drewN | apply below_drew1 | refine below_set ?_ GE268.out) | exact HB.out)) hb); clear BK268; clear HB; have BK268 := n0_; have HB := n1_; clear n0_ n1_; (try clear hb); (try clear hb2); (try clear hk); (try clear hi)) | ((with_reducible refine gate_callee (f := 15) rfl ?_); refine goesL_ (some 28) rfl rfl Try.func15 (by kernel_rfl) rfl #[.agg #[.int .i64 t273, .string t274], .int .i64 a1, .int .i64 a2, .int .i64 a3] rfl (by (try simp only [List.map_toArray, List.map_cons, List.map_nil]); first | done | rfl | (simp only [List.length_drop, List.length_take]; rfl)) ?_; (with_reducible refine (impl_IsMutation.calls k t273 t274 a1 a2 a3 t275 _ A13.out).mono ?_); rintro e w23 ⟨rfl, hb⟩; refine ⟨_, rfl, ?_⟩; have n0_ := Aside0.mk (blk_below (g := gb268) (o := .cells #[.int .i64 a0_0, .string a0_1] 23 (0, 0)) (by (with_reducible repeat (first | refine blk_drewN ?_ _ | refine blk_drew ?_ | refine blk_alloc ?_ _)); exact BK268.out) hb); have n1_ := Aside0.mk (below_step (by repeat (first | (with_reducible first | exact HB.out | apply below_alloc | apply pw_below_drewN | apply below_drew1 | refine below_set ?_ GE268.out) | exact HB.out)) hb); clear BK268; clear HB; have BK268 := n0_; have HB := n1_; clear n0_ n1_; (try clear hb); (try clear hb2); (try clear hk); (try clear hi)))
      go_ret
      exact ⟨by first | rfl | (simp [errW_none, errW_some] <;> rfl) | (simp [*, errW_none, errW_some] <;> rfl), by repeat (first | (with_reducible first | exact HB.out | apply below_alloc | apply pw_below_drewN | apply below_drew1 | refine below_set ?_ GE268.out) | exact HB.out)⟩
    · rw [if_neg c14] at H
      have c14b0 : (t275 != t272) = false := by simpa using c14
      (try (have c14b1 : decide (t275 = t272) = true := by simpa using c14))
      (try (have c14b2 : (t275 == t272) = true := by simpa using c14))
      clear c14
      obtain rfl := Option.some.inj H
      go_enter Try.func3, Try.ntmps3
      go_wp2_with (first | ((with_reducible refine gate_dst (N := 4) rfl ?_); refine box_event ?hg (N := 4) ?hd (cs := #[.int .i64 a0_0, .string a0_1]) (t := 23) ?hr ?_; (case hd => rfl); (case hg => rfl); (case hr => first | (go_simp; done) | (go_simp; rfl)); intro gb268 hg w24 hbox hb; have n0_ := Aside0.mk (below_step (by repeat (first | (with_reducible first | exact HB.out | apply below_alloc | apply pw_below_drewN | apply below_drew1) | exact HB.out)) hb); have n1_ := Aside0.mk (hbox); have n2_ := Aside0.mk ((by rw [hg]; exact (below_size (by repeat (first | (with_reducible first | exact HB.out | apply below_alloc | apply pw_below_drewN | apply below_drew1) | exact HB.out))) : w.heap.size ≤ gb268)); have n3_ := Aside0.mk ((by rw [hg]; exact (below_size (by repeat (first | (with_reducible first | exact HB.out | apply below_alloc | apply pw_below_drewN | apply below_drew1) | exact HB.out))) : w.heap.size ≤ gb268)); clear HB; have HB := n0_; have BK268 := n1_; have GW268 := n2_; have GE268 := n3_; clear n0_ n1_ n2_ n3_; clear hb hbox hg; have hcz25_0 : w24.cell? ⟨gb268, 0, none⟩ = some (.int .i64 a0_0) := (blk_cell BK268.out 0).trans rfl; have hcz25_1 : w24.cell? ⟨gb268, 1, none⟩ = some (.string a0_1) := (blk_cell BK268.out 1).trans rfl; have hfz25_0 := blk_frozen BK268.out 0; have hfz25_1 := blk_frozen BK268.out 1) | ((with_reducible refine gate_callee (f := 12) rfl ?_); refine goesL_ (some 14) rfl rfl Try.func12 (by kernel_rfl) rfl #[.agg #[.int .i64 a0_0, .string a0_1], .int .i64 1048576] rfl (by (try simp only [List.map_toArray, List.map_cons, List.map_nil]); first | done | rfl | (simp only [List.length_drop, List.length_take]; rfl)) ?_; (with_reducible refine (laws_szSigns.calls a0_0 a0_1 1048576 t269 _ A5.out).mono ?_); rintro e w26 ⟨rfl, hb⟩; refine ⟨_, rfl, ?_⟩; have n0_ := Aside0.mk (blk_below (g := gb268) (o := .cells #[.int .i64 a0_0, .string a0_1] 23 (0, 0)) (by (with_reducible repeat (first | refine blk_drewN ?_ _ | refine blk_drew ?_ | refine blk_alloc ?_ _)); exact BK268.out) hb); have n1_ := Aside0.mk (below_step (by repeat (first | (with_reducible first | exact HB.out | apply below_alloc | apply pw_below_drewN | apply below_drew1 | refine below_set ?_ GE268.out) | exact HB.out)) hb); clear BK268; clear HB; have BK268 := n0_; have HB := n1_; clear n0_ n1_; (try clear hb); (try clear hb2); (try clear hk); (try clear hi); have hcz27_0 : w26.cell? ⟨gb268, 0, none⟩ = some (.int .i64 a0_0) := (blk_cell BK268.out 0).trans rfl; have hcz27_1 : w26.cell? ⟨gb268, 1, none⟩ = some (.string a0_1) := (blk_cell BK268.out 1).trans rfl; have hfz27_0 := blk_frozen BK268.out 0; have hfz27_1 := blk_frozen BK268.out 1) | ((with_reducible refine gate_callee (f := 14) rfl ?_); refine goesL_ (some 18) rfl rfl Try.func14 (by kernel_rfl) rfl #[.agg #[.int .i64 a0_0, .string a0_1]] rfl (by (try simp only [List.map_toArray, List.map_cons, List.map_nil]); first | done | rfl | (simp only [List.length_drop, List.length_take]; rfl)) ?_; (with_reducible refine (laws_toSigns.calls a0_0 a0_1 t270 t271 _ A10.out).mono ?_); rintro e w28 ⟨rfl, hb⟩; refine ⟨_, rfl, ?_⟩; have n0_ := Aside0.mk (blk_below (g := gb268) (o := .cells #[.int .i64 a0_0, .string a0_1] 23 (0, 0)) (by (with_reducible repeat (first | refine blk_drewN ?_ _ | refine blk_drew ?_ | refine blk_alloc ?_ _)); exact BK268.out) hb); have n1_ := Aside0.mk (below_step (by repeat (first | (with_reducible first | exact HB.out | apply below_alloc | apply pw_below_drewN | apply below_drew1 | refine below_set ?_ GE268.out) | exact HB.out)) hb); clear BK268; clear HB; have BK268 := n0_; have HB := n1_; clear n0_ n1_; (try clear hb); (try clear hb2); (try clear hk); (try clear hi)) | ((with_reducible refine gate_callee (f := 13) rfl ?_); refine goesL_ (some 22) rfl rfl Try.func13 (by kernel_rfl) rfl #[.agg #[.int .i64 t270, .string t271], .int .i64 a1, .int .i64 a2, .int .i64 a3] rfl (by (try simp only [List.map_toArray, List.map_cons, List.map_nil]); first | done | rfl | (simp only [List.length_drop, List.length_take]; rfl)) ?_; (with_reducible refine (spec_IsMutation.calls k t270 t271 a1 a2 a3 t272 _ A11.out).mono ?_); rintro e w29 ⟨rfl, hb⟩; refine ⟨_, rfl, ?_⟩; have n0_ := Aside0.mk (blk_below (g := gb268) (o := .cells #[.int .i64 a0_0, .string a0_1] 23 (0, 0)) (by (with_reducible repeat (first | refine blk_drewN ?_ _ | refine blk_drew ?_ | refine blk_alloc ?_ _)); exact BK268.out) hb); have n1_ := Aside0.mk (below_step (by repeat (first | (with_reducible first | exact HB.out | apply below_alloc | apply pw_below_drewN | apply below_drew1 | refine below_set ?_ GE268.out) | exact HB.out)) hb); clear BK268; clear HB; have BK268 := n0_; have HB := n1_; clear n0_ n1_; (try clear hb); (try clear hb2); (try clear hk); (try clear hi); have hcz30_0 : w29.cell? ⟨gb268, 0, none⟩ = some (.int .i64 a0_0) := (blk_cell BK268.out 0).trans rfl; have hcz30_1 : w29.cell? ⟨gb268, 1, none⟩ = some (.string a0_1) := (blk_cell BK268.out 1).trans rfl; have hfz30_0 := blk_frozen BK268.out 0; have hfz30_1 := blk_frozen BK268.out 1) | ((with_reducible refine gate_callee (f := 14) rfl ?_); refine goesL_ (some 24) rfl rfl Try.func14 (by kernel_rfl) rfl #[.agg #[.int .i64 a0_0, .string a0_1]] rfl (by (try simp only [List.map_toArray, List.map_cons, List.map_nil]); first | done | rfl | (simp only [List.length_drop, List.length_take]; rfl)) ?_; (with_reducible refine (laws_toSigns.calls a0_0 a0_1 t273 t274 _ A12.out).mono ?_); rintro e w31 ⟨rfl, hb⟩; refine ⟨_, rfl, ?_⟩; have n0_ := Aside0.mk (blk_below (g := gb268) (o := .cells #[.int .i64 a0_0, .string a0_1] 23 (0, 0)) (by (with_reducible repeat (first | refine blk_drewN ?_ _ | refine blk_drew ?_ | refine blk_alloc ?_ _)); exact BK268.out) hb); have n1_ := Aside0.mk (below_step (by repeat (first | (with_reducible first | exact HB.out | apply below_alloc | apply pw_below_drewN | apply below_drew1 | refine below_set ?_ GE268.out) | exact HB.out)) hb); clear BK268; clear HB; have BK268 := n0_; have HB := n1_; clear n0_ n1_; (try clear hb); (try clear hb2); (try clear hk); (try clear hi)) | ((with_reducible refine gate_callee (f := 15) rfl ?_); refine goesL_ (some 28) rfl rfl Try.func15 (by kernel_rfl) rfl #[.agg #[.int .i64 t273, .string t274], .int .i64 a1, .int .i64 a2, .int .i64 a3] rfl (by (try simp only [List.map_toArray, List.map_cons, List.map_nil]); first | done | rfl | (simp only [List.length_drop, List.length_take]; rfl)) ?_; (with_reducible refine (impl_IsMutation.calls k t273 t274 a1 a2 a3 t275 _ A13.out).mono ?_); rintro e w32 ⟨rfl, hb⟩; refine ⟨_, rfl, ?_⟩; have n0_ := Aside0.mk (blk_below (g := gb268) (o := .cells #[.int .i64 a0_0, .string a0_1] 23 (0, 0)) (by (with_reducible repeat (first | refine blk_drewN ?_ _ | refine blk_drew ?_ | refine blk_alloc ?_ _)); exact BK268.out) hb); have n1_ := Aside0.mk (below_step (by repeat (first | (with_reducible first | exact HB.out | apply below_alloc | apply pw_below_drewN | apply below_drew1 | refine below_set ?_ GE268.out) | exact HB.out)) hb); clear BK268; clear HB; have BK268 := n0_; have HB := n1_; clear n0_ n1_; (try clear hb); (try clear hb2); (try clear hk); (try clear hi)))
      go_ret
      exact ⟨by first | rfl | (simp [errW_none, errW_some] <;> rfl) | (simp [*, errW_none, errW_some] <;> rfl), by repeat (first | (with_reducible first | exact HB.out | apply below_alloc | apply pw_below_drewN | apply below_drew1 | refine below_set ?_ GE268.out) | exact HB.out)⟩

end Go.Proofs.Ytbmoaphiheoanaa.P

namespace Go.Proofs.Ytbmoaphiheoanaa.Pl
set_option linter.unusedSimpArgs false
set_option linter.unusedVariables false
open Go.RowKit Go.Proofs.YtbmoaphiheoanaaW.PrintWords
theorem wrap_in {n : Int} (h0 : -9223372036854775808 ≤ n) (h1 : n ≤ 9223372036854775807) : wrap64 n = n := by
  unfold wrap64
  omega
theorem wrap_nat (i : Nat) (h : i < 9223372036854775807) : wrap64 ((i : Int) + 1) = ((i + 1 : Nat) : Int) := by
  unfold wrap64
  omega
theorem Ev.uniq {α : Type} {g : Nat → Option α} {a b : α} (h : Ev g a) (k : Ev g b) : a = b := by
  obtain ⟨K, h⟩ := h
  obtain ⟨L, k⟩ := k
  have h1 := h (max K L) (by omega)
  have h2 := k (max K L) (by omega)
  rw [h1] at h2
  exact Option.some.inj h2
theorem Ev.const {α : Type} {x : Option α} {r : α} (h : x = some r) : Ev (fun _ => x) r := ⟨0, fun _ _ => h⟩
theorem Ev.ite_pos {α : Type} {c : Prop} [Decidable c] {g f : Nat → Option α} {r : α} (h : c) (k : Ev g r) : Ev (fun n => if c then g n else f n) r := by
  simpa only [if_pos h] using k
theorem Ev.ite_neg {α : Type} {c : Prop} [Decidable c] {g f : Nat → Option α} {r : α} (h : ¬ c) (k : Ev f r) : Ev (fun n => if c then g n else f n) r := by
  simpa only [if_neg h] using k
/-- A step that calls what has no rounds. -/
theorem Ev.bind0 {α β : Type} {x : Option α} {f : Nat → α → Option β} {a : α} {r : β} (h : x = some a) (k : Ev (fun n => f n a) r) : Ev (fun n => x.bind (f n)) r := by
  subst h
  exact k
/-- A loop over a row of states. -/
theorem Ev.loop {ρ : Type} (g : Nat → Nat → Option ρ) (n : Nat) (r : ρ) (hend : Ev (g n) r) (hstep : ∀ i, i < n → Ev (g (i + 1)) r → Ev (g i) r) : ∀ i, i ≤ n → Ev (g i) r := by
  have key : ∀ d i, i + d = n → Ev (g i) r := by
    intro d
    induction d with
    | zero => intro i hi; obtain rfl : i = n := by omega
              exact hend
    | succ d ih => intro i hi; exact hstep i (by omega) (ih (i + 1) (by omega))
  intro i hi
  exact key (n - i) i (by omega)
/-- The same, where what is answered turns with the state. -/
theorem Ev.loop_to {ρ : Type} (g : Nat → Nat → Option ρ) (n : Nat) (R : Nat → ρ) (hend : Ev (g n) (R n)) (hstep : ∀ i, i < n → Ev (g (i + 1)) (R (i + 1)) → Ev (g i) (R i)) : ∀ i, i ≤ n → Ev (g i) (R i) := by
  have key : ∀ d i, i + d = n → Ev (g i) (R i) := by
    intro d
    induction d with
    | zero => intro i hi; obtain rfl : i = n := by omega
              exact hend
    | succ d ih => intro i hi; exact hstep i (by omega) (ih (i + 1) (by omega))
  intro i hi
  exact key (n - i) i (by omega)
/-- Two loops side by side: they come to one answer. -/
theorem Ev.loop2 {ρ : Type} (g f : Nat → Nat → Option ρ) (n : Nat) (hend : ∃ r, Ev (g n) r ∧ Ev (f n) r) (hstep : ∀ i, i < n → (∃ r, Ev (g (i + 1)) r ∧ Ev (f (i + 1)) r) → ∃ r, Ev (g i) r ∧ Ev (f i) r) : ∀ i, i ≤ n → ∃ r, Ev (g i) r ∧ Ev (f i) r := by
  have key : ∀ d i, i + d = n → ∃ r, Ev (g i) r ∧ Ev (f i) r := by
    intro d
    induction d with
    | zero => intro i hi; obtain rfl : i = n := by omega
              exact hend
    | succ d ih => intro i hi; exact hstep i (by omega) (ih (i + 1) (by omega))
  intro i hi
  exact key (n - i) i (by omega)
theorem getD_lt {α : Type} (l : List α) (d : α) (i : Nat) (h : i < l.length) : l.getD i d = l[i] := by
  rw [List.getD_eq_getElem?_getD, List.getElem?_eq_getElem h]
  rfl
/-- Filling a row from its head: one element more. -/
theorem fill_set {α : Type} (l : List α) (z : α) (n i : Nat) (hl : l.length = n) (hi : i < n) : (l.take i ++ List.replicate (n - i) z).set i (l[i]'(by omega)) = l.take (i + 1) ++ List.replicate (n - (i + 1)) z := by
  rw [List.set_append_right _ _ (by rw [List.length_take]; omega)]
  have h1 : i - (l.take i).length = 0 := by rw [List.length_take]; omega
  rw [h1, show n - i = (n - (i + 1)) + 1 by omega, List.replicate_succ, List.set_cons_zero, List.take_succ_eq_append_getElem (by omega), List.append_assoc]
  rfl
end Go.Proofs.Ytbmoaphiheoanaa.Pl

namespace Go.Proofs.Ytbmoaphiheoanaa.Pure
set_option linter.unusedSimpArgs false
set_option linter.unusedVariables false
open Go.RowKit Go.Proofs.YtbmoaphiheoanaaW.PrintWords Go.Proofs.Ytbmoaphiheoanaa.P Go.Proofs.Ytbmoaphiheoanaa.Pl
abbrev T3 := S67
/-- The ascending triples of n elements, in order. -/
def tri : Nat → List T3
  | 3 => [⟨0, 1, 2⟩]
  | 4 => [⟨0, 1, 2⟩, ⟨0, 1, 3⟩, ⟨0, 2, 3⟩, ⟨1, 2, 3⟩]
  | 5 => [⟨0, 1, 2⟩, ⟨0, 1, 3⟩, ⟨0, 1, 4⟩, ⟨0, 2, 3⟩, ⟨0, 2, 4⟩, ⟨0, 3, 4⟩, ⟨1, 2, 3⟩, ⟨1, 2, 4⟩, ⟨1, 3, 4⟩, ⟨2, 3, 4⟩]
  | 6 => [⟨0, 1, 2⟩, ⟨0, 1, 3⟩, ⟨0, 1, 4⟩, ⟨0, 1, 5⟩, ⟨0, 2, 3⟩, ⟨0, 2, 4⟩, ⟨0, 2, 5⟩, ⟨0, 3, 4⟩, ⟨0, 3, 5⟩, ⟨0, 4, 5⟩, ⟨1, 2, 3⟩, ⟨1, 2, 4⟩, ⟨1, 2, 5⟩, ⟨1, 3, 4⟩, ⟨1, 3, 5⟩, ⟨1, 4, 5⟩, ⟨2, 3, 4⟩, ⟨2, 3, 5⟩, ⟨2, 4, 5⟩, ⟨3, 4, 5⟩]
  | 7 => [⟨0, 1, 2⟩, ⟨0, 1, 3⟩, ⟨0, 1, 4⟩, ⟨0, 1, 5⟩, ⟨0, 1, 6⟩, ⟨0, 2, 3⟩, ⟨0, 2, 4⟩, ⟨0, 2, 5⟩, ⟨0, 2, 6⟩, ⟨0, 3, 4⟩, ⟨0, 3, 5⟩, ⟨0, 3, 6⟩, ⟨0, 4, 5⟩, ⟨0, 4, 6⟩, ⟨0, 5, 6⟩, ⟨1, 2, 3⟩, ⟨1, 2, 4⟩, ⟨1, 2, 5⟩, ⟨1, 2, 6⟩, ⟨1, 3, 4⟩, ⟨1, 3, 5⟩, ⟨1, 3, 6⟩, ⟨1, 4, 5⟩, ⟨1, 4, 6⟩, ⟨1, 5, 6⟩, ⟨2, 3, 4⟩, ⟨2, 3, 5⟩, ⟨2, 3, 6⟩, ⟨2, 4, 5⟩, ⟨2, 4, 6⟩, ⟨2, 5, 6⟩, ⟨3, 4, 5⟩, ⟨3, 4, 6⟩, ⟨3, 5, 6⟩, ⟨4, 5, 6⟩]
  | _ => []
theorem tri_some : ∀ n : Nat, n ≤ 7 → impl_triplesOf.f 500 n = some (tri n)
  | 0, _ => by kernel_rfl
  | 1, _ => by kernel_rfl
  | 2, _ => by kernel_rfl
  | 3, _ => by kernel_rfl
  | 4, _ => by kernel_rfl
  | 5, _ => by kernel_rfl
  | 6, _ => by kernel_rfl
  | 7, _ => by kernel_rfl
  | n + 8, h => absurd h (by omega)
theorem triplesOf_ev (n : Nat) (h : n ≤ 7) : Ev (fun k => impl_triplesOf.f k n) (tri n) := Ev.of (impl_triplesOf.mono _) (tri_some n h)
/-- How many triples. -/
theorem tri_length (n : Nat) (h : n ≤ 7) : ((tri n).length : Int) = Int.tdiv ((n : Int) * (n - 1) * (n - 2)) 6 := by
  have : (List.range 8).all (fun n => ((tri n).length : Int) == Int.tdiv ((n : Int) * ((n : Int) - 1) * ((n : Int) - 2)) 6) = true := by decide +kernel
  rw [List.all_eq_true] at this
  simpa using this n (by simp; omega)
/-- The elements of a triple, as natural numbers below 7. -/
def okT (n : Nat) (t : T3) : Bool := decide (0 ≤ t.f0 ∧ t.f0 < t.f1 ∧ t.f1 < t.f2 ∧ t.f2 < n)
theorem tri_ok (n : Nat) (h : n ≤ 7) : (tri n).all (okT n) = true := by
  have : (List.range 8).all (fun n => (tri n).all (okT n)) = true := by decide +kernel
  rw [List.all_eq_true] at this
  exact this n (by simp; omega)
/-- A sign is given to a triple. -/
def put3 (l : List Int) (t : T3) (v : Int) : List Int := chiSet l t.f0 t.f1 t.f2 v
/-- Signs are given to a list of triples, one after another: the m-th gets v m. -/
def fill (v : Nat → Int) : List T3 → Nat → List Int → List Int
  | [], _, l => l
  | t :: ts, m, l => fill v ts (m + 1) (put3 l t (v m))
theorem fill_length (v : Nat → Int) : ∀ ts m l, (fill v ts m l).length = l.length := by
  intro ts
  induction ts with
  | nil => intro m l; rfl
  | cons t ts ih => intro m l; rw [fill, ih]; exact chiSet_length ..
theorem fill_append (v : Nat → Int) : ∀ ts us m l, fill v (ts ++ us) m l = fill v us (m + ts.length) (fill v ts m l) := by
  intro ts
  induction ts with
  | nil => intro us m l; rfl
  | cons t ts ih => intro us m l; rw [List.cons_append, fill, ih, fill, List.length_cons]; congr 1; omega
/-- How x, y, z stand to a triple: the same up to an even exchange, an odd one, or not at all. -/
def par (t : T3) (x y z : Int) : Option Bool :=
  if (x = t.f0 ∧ y = t.f1 ∧ z = t.f2) ∨ (x = t.f1 ∧ y = t.f2 ∧ z = t.f0) ∨ (x = t.f2 ∧ y = t.f0 ∧ z = t.f1) then some true
  else if (x = t.f0 ∧ y = t.f2 ∧ z = t.f1) ∨ (x = t.f2 ∧ y = t.f1 ∧ z = t.f0) ∨ (x = t.f1 ∧ y = t.f0 ∧ z = t.f2) then some false else none
theorem rd_set (l : List Int) (p q : Nat) (v : Int) (h : p < l.length) : rd (l.set p v) q = if p = q then v else rd l q := by
  unfold rd
  rw [Int.toNat_natCast, List.getD_eq_getElem?_getD, List.getD_eq_getElem?_getD, List.getElem?_set]
  by_cases e : p = q
  · subst e
    simp [h]
  · simp [e]
theorem chiA_nat (l : List Int) (x y z : Nat) : chiA l x y z = rd l ((1 + x * 49 + y * 7 + z : Nat) : Int) := by
  unfold chiA
  congr 1
  omega
theorem pos_iff (a b c x y z : Nat) (ha : a < 7) (hb : b < 7) (hc : c < 7) (hx : x < 7) (hy : y < 7) (hz : z < 7) : (1 + a * 49 + b * 7 + c = 1 + x * 49 + y * 7 + z) ↔ (x = a ∧ y = b ∧ z = c) := by
  constructor
  · intro h
    have h1 : c = z := by have := congrArg (· % 7) (show a * 49 + b * 7 + c + 1 = x * 49 + y * 7 + z + 1 by omega); omega
    have h2 : b = y := by subst h1; omega
    exact ⟨by omega, h2.symm, h1.symm⟩
  · rintro ⟨rfl, rfl, rfl⟩
    rfl
theorem chiA_set (l : List Int) (hl : l.length = 344) (a b c : Nat) (ha : a < 7) (hb : b < 7) (hc : c < 7) (ab : a ≠ b) (bc : b ≠ c) (ac : a ≠ c) (v : Int) (x y z : Nat) (hx : x < 7) (hy : y < 7) (hz : z < 7) :
    chiA (chiSet l a b c v) x y z = match par ⟨a, b, c⟩ x y z with | some true => v | some false => wrap64 (-v) | none => chiA l x y z := by
  rw [chiA_nat, chiA_nat]
  unfold chiSet setL par
  simp only [Int.toNat_natCast]
  rw [rd_set _ _ _ _ (by first | (simp only [List.length_set]; omega) | omega), rd_set _ _ _ _ (by first | (simp only [List.length_set]; omega) | omega), rd_set _ _ _ _ (by first | (simp only [List.length_set]; omega) | omega), rd_set _ _ _ _ (by first | (simp only [List.length_set]; omega) | omega), rd_set _ _ _ _ (by first | (simp only [List.length_set]; omega) | omega), rd_set _ _ _ _ (by first | (simp only [List.length_set]; omega) | omega)]
  simp only [pos_iff a b c x y z (by omega) (by omega) (by omega) hx hy hz, pos_iff b c a x y z (by omega) (by omega) (by omega) hx hy hz, pos_iff c a b x y z (by omega) (by omega) (by omega) hx hy hz, pos_iff a c b x y z (by omega) (by omega) (by omega) hx hy hz, pos_iff c b a x y z (by omega) (by omega) (by omega) hx hy hz, pos_iff b a c x y z (by omega) (by omega) (by omega) hx hy hz]
  simp only [Int.natCast_inj]
  clear hl
  generalize rd l ((1 + x * 49 + y * 7 + z : Nat) : Int) = o
  by_cases k0 : x = a ∧ y = b ∧ z = c
  · have := k0
    have n1 : ¬ (x = b ∧ y = c ∧ z = a) := by omega
    have n2 : ¬ (x = c ∧ y = a ∧ z = b) := by omega
    have n3 : ¬ (x = a ∧ y = c ∧ z = b) := by omega
    have n4 : ¬ (x = c ∧ y = b ∧ z = a) := by omega
    have n5 : ¬ (x = b ∧ y = a ∧ z = c) := by omega
    clear this
    simp only [(eq_true k0), (eq_false n1), (eq_false n2), (eq_false n3), (eq_false n4), (eq_false n5), if_true, if_false, or_true, true_or, or_false, false_or]
  by_cases k1 : x = b ∧ y = c ∧ z = a
  · have := k1
    have n2 : ¬ (x = c ∧ y = a ∧ z = b) := by omega
    have n3 : ¬ (x = a ∧ y = c ∧ z = b) := by omega
    have n4 : ¬ (x = c ∧ y = b ∧ z = a) := by omega
    have n5 : ¬ (x = b ∧ y = a ∧ z = c) := by omega
    clear this
    simp only [(eq_false k0), (eq_true k1), (eq_false n2), (eq_false n3), (eq_false n4), (eq_false n5), if_true, if_false, or_true, true_or, or_false, false_or]
  by_cases k2 : x = c ∧ y = a ∧ z = b
  · have := k2
    have n3 : ¬ (x = a ∧ y = c ∧ z = b) := by omega
    have n4 : ¬ (x = c ∧ y = b ∧ z = a) := by omega
    have n5 : ¬ (x = b ∧ y = a ∧ z = c) := by omega
    clear this
    simp only [(eq_false k0), (eq_false k1), (eq_true k2), (eq_false n3), (eq_false n4), (eq_false n5), if_true, if_false, or_true, true_or, or_false, false_or]
  by_cases k3 : x = a ∧ y = c ∧ z = b
  · have := k3
    have n4 : ¬ (x = c ∧ y = b ∧ z = a) := by omega
    have n5 : ¬ (x = b ∧ y = a ∧ z = c) := by omega
    clear this
    simp only [(eq_false k0), (eq_false k1), (eq_false k2), (eq_true k3), (eq_false n4), (eq_false n5), if_true, if_false, or_true, true_or, or_false, false_or]
  by_cases k4 : x = c ∧ y = b ∧ z = a
  · have := k4
    have n5 : ¬ (x = b ∧ y = a ∧ z = c) := by omega
    clear this
    simp only [(eq_false k0), (eq_false k1), (eq_false k2), (eq_false k3), (eq_true k4), (eq_false n5), if_true, if_false, or_true, true_or, or_false, false_or]
  by_cases k5 : x = b ∧ y = a ∧ z = c
  · have := k5
    clear this
    simp only [(eq_false k0), (eq_false k1), (eq_false k2), (eq_false k3), (eq_false k4), (eq_true k5), if_true, if_false, or_true, true_or, or_false, false_or]
  simp only [(eq_false k0), (eq_false k1), (eq_false k2), (eq_false k3), (eq_false k4), (eq_false k5), if_true, if_false, or_true, true_or, or_false, false_or]
theorem chiA_put3 (l : List Int) (hl : l.length = 344) (t : T3) (ht : okT 7 t = true) (v : Int) (x y z : Nat) (hx : x < 7) (hy : y < 7) (hz : z < 7) :
    chiA (put3 l t v) x y z = match par t x y z with | some true => v | some false => wrap64 (-v) | none => chiA l x y z := by
  obtain ⟨a, b, c⟩ := t
  unfold okT at ht
  rw [decide_eq_true_eq] at ht
  obtain ⟨h0, h1, h2, h3⟩ := ht
  dsimp only at h0 h1 h2 h3
  obtain ⟨a, rfl⟩ := Int.eq_ofNat_of_zero_le h0
  obtain ⟨b, rfl⟩ := Int.eq_ofNat_of_zero_le (show 0 ≤ b by omega)
  obtain ⟨c, rfl⟩ := Int.eq_ofNat_of_zero_le (show 0 ≤ c by omega)
  exact chiA_set l hl a b c (by omega) (by omega) (by omega) (by omega) (by omega) (by omega) v x y z hx hy hz
theorem chiN_put3 (l : List Int) (hl : l.length = 344) (t : T3) (v : Int) : chiN (put3 l t v) = chiN l := by
  have h : ∀ (l : List Int) (p : Nat) (u : Int), rd (l.set (1 + p) u) 0 = rd l 0 := by
    intro l p u
    unfold rd
    simp [List.getD_eq_getElem?_getD, List.getElem?_set, show ¬ (1 + p = 0) by omega]
  unfold put3 chiSet setL chiN
  simp only [Nat.add_assoc, h]
/-- Which of the triples from m on decides over x, y, z: the last one that fits. -/
def src : List T3 → Nat → Int → Int → Int → Option (Nat × Bool)
  | [], _, _, _, _ => none
  | t :: ts, m, x, y, z => (src ts (m + 1) x y z).or ((par t x y z).map fun b => (m, b))
def sval (v : Nat → Int) (o : Int) : Option (Nat × Bool) → Int
  | some (m, true) => v m
  | some (m, false) => wrap64 (-v m)
  | none => o
theorem chiA_fill (v : Nat → Int) (x y z : Nat) (hx : x < 7) (hy : y < 7) (hz : z < 7) : ∀ (ts : List T3), ts.all (okT 7) = true → ∀ m l, l.length = 344 → chiA (fill v ts m l) x y z = sval v (chiA l x y z) (src ts m x y z) := by
  intro ts
  induction ts with
  | nil => intro _ m l _; rfl
  | cons t ts ih =>
    intro h m l hl
    rw [List.all_cons, Bool.and_eq_true] at h
    rw [fill, ih h.2 (m + 1) _ (by unfold put3; rw [chiSet_length]; exact hl), chiA_put3 l hl t h.1 (v m) x y z hx hy hz, src]
    cases hs : src ts (m + 1) x y z with
    | some p => obtain ⟨q, b⟩ := p; cases b <;> rfl
    | none =>
      cases hp : par t x y z with
      | none => rfl
      | some b => cases b <;> rfl
theorem chiN_fill (v : Nat → Int) : ∀ (ts : List T3) m l, l.length = 344 → chiN (fill v ts m l) = chiN l := by
  intro ts
  induction ts with
  | nil => intro m l _; rfl
  | cons t ts ih => intro m l hl; rw [fill, ih _ _ (by unfold put3; rw [chiSet_length]; exact hl), chiN_put3 l hl]
theorem okT_mono {n : Nat} (h : n ≤ 7) (t : T3) (ht : okT n t = true) : okT 7 t = true := by
  unfold okT at ht ⊢
  rw [decide_eq_true_eq] at ht ⊢
  omega
theorem tri_ok7 (n : Nat) (h : n ≤ 7) : (tri n).all (okT 7) = true := by
  have := tri_ok n h
  rw [List.all_eq_true] at this ⊢
  exact fun t ht => okT_mono h t (this t ht)
theorem chiA_new (n : Int) (x y z : Nat) (hx : x < 7) (hy : y < 7) (hz : z < 7) : chiA (chiNew n) x y z = 0 := by
  rw [chiA_nat, show 1 + x * 49 + y * 7 + z = (x * 49 + y * 7 + z) + 1 by omega]
  unfold rd chiNew
  rw [Int.toNat_natCast, List.getD_cons_succ, List.getD_eq_getElem?_getD, List.getElem?_replicate]
  rw [if_pos (by omega)]
  rfl
end Go.Proofs.Ytbmoaphiheoanaa.Pure

namespace Go.Proofs.Ytbmoaphiheoanaa.Pure
set_option linter.unusedSimpArgs false
set_option linter.unusedVariables false
open Go.RowKit Go.Proofs.YtbmoaphiheoanaaW.PrintWords Go.Proofs.Ytbmoaphiheoanaa.P Go.Proofs.Ytbmoaphiheoanaa.Pl
def isPM (s : ByteArray) (m : Nat) : Bool := bt s (m : Int) == 43 || bt s (m : Int) == 45
/-- Is it a text of signs of n elements? -/
def isS (n : Int) (s : ByteArray) : Bool := decide (3 ≤ n ∧ n ≤ 7 ∧ (s.size : Int) = Int.tdiv (n * (n - 1) * (n - 2)) 6) && (List.range s.size).all (isPM s)
theorem count3 {n : Int} (h3 : 3 ≤ n) (h7 : n ≤ 7) : wrap64 (wrap64 (n * wrap64 (n - 1)) * wrap64 (n - 2)) = n * (n - 1) * (n - 2) ∧ wrap64 (Int.tdiv (n * (n - 1) * (n - 2)) 6) = Int.tdiv (n * (n - 1) * (n - 2)) 6 ∧ 0 ≤ Int.tdiv (n * (n - 1) * (n - 2)) 6 ∧ Int.tdiv (n * (n - 1) * (n - 2)) 6 ≤ 35 := by
  have : n = 3 ∨ n = 4 ∨ n = 5 ∨ n = 6 ∨ n = 7 := by omega
  obtain rfl | rfl | rfl | rfl | rfl := this <;> (unfold wrap64; decide)
theorem range_drop' (n i : Nat) (h : i < n) : (List.range n).drop i = i :: (List.range n).drop (i + 1) := by
  rw [List.drop_eq_getElem_cons (by simpa using h)]
  simp
theorem l1In_is (x a b : Int) : spec_l1In.f x a b = some (decide (a ≤ x ∧ x ≤ b)) := by
  unfold spec_l1In.f
  by_cases h : x ≥ a
  · rw [if_pos h]
    simp [h]
  · rw [if_neg h]
    simp [show ¬ a ≤ x by omega]
theorem spec_AreSigns_ev (n : Int) (s : ByteArray) : Ev (fun k => spec_AreSigns.f k n s) (isS n s) := by
  unfold spec_AreSigns.f isS
  have no : ∀ x, Ev (fun k => spec_AreSigns.j0 k true n x) false := fun x => Ev.step (fun k => spec_AreSigns.j0.eq_2 ..) (Ev.ite_pos rfl (Ev.now _))
  by_cases h : 3 ≤ n ∧ n ≤ 7
  · obtain ⟨e1, e2, e3, e4⟩ := count3 h.1 h.2
    refine Ev.bind0 (l1In_is ..) (Ev.ite_pos (decide_eq_true h) ?_)
    rw [e1, e2]
    by_cases hc : (s.size : Int) = Int.tdiv (n * (n - 1) * (n - 2)) 6
    · rw [show decide (3 ≤ n ∧ n ≤ 7 ∧ (s.size : Int) = Int.tdiv (n * (n - 1) * (n - 2)) 6) = true from decide_eq_true ⟨h.1, h.2, hc⟩, Bool.true_and]
      refine Ev.step (fun k => spec_AreSigns.j0.eq_2 ..) (Ev.ite_neg (by simp [hc]) ?_)
      have key := Ev.loop_to (fun i k => spec_AreSigns.l0 k i n s) s.size (fun i => ((List.range s.size).drop i).all (isPM s)) ?_ ?_ 0 (by omega)
      · simpa using key
      · refine Ev.step (fun k => spec_AreSigns.l0.eq_2 ..) (Ev.ite_neg (by omega) (Ev.const ?_))
        rw [List.drop_of_length_le (by simp)]
        rfl
      · intro i hi ih
        rw [range_drop' _ _ hi, List.all_cons]
        refine Ev.step (fun k => spec_AreSigns.l0.eq_2 ..) (Ev.ite_pos (by omega) (Ev.ite_pos (by omega) ?_))
        rw [wrap_nat i (by omega)]
        rw [show isPM s i = (bt s (i : Int) == 43 || bt s (i : Int) == 45) from rfl]
        by_cases h43 : bt s (i : Int) = 43
        · refine Ev.ite_pos h43 ?_
          simpa [h43] using ih
        · refine Ev.ite_neg h43 ?_
          by_cases h45 : bt s (i : Int) = 45
          · refine Ev.ite_pos h45 ?_
            simpa [h45] using ih
          · refine Ev.ite_neg h45 (Ev.const ?_)
            simp [h43, h45]
    · rw [show decide (3 ≤ n ∧ n ≤ 7 ∧ (s.size : Int) = Int.tdiv (n * (n - 1) * (n - 2)) 6) = false from decide_eq_false (fun q => hc q.2.2), Bool.false_and]
      rw [show ((s.size : Int) != Int.tdiv (n * (n - 1) * (n - 2)) 6) = true by simpa using hc]
      exact no s
  · rw [show decide (3 ≤ n ∧ n ≤ 7 ∧ (s.size : Int) = Int.tdiv (n * (n - 1) * (n - 2)) 6) = false from decide_eq_false (fun q => h ⟨q.1, q.2.1⟩), Bool.false_and]
    exact Ev.bind0 (l1In_is ..) (Ev.ite_neg (by simpa using h) (no s))
theorem impl_AreSigns_ev (n : Int) (s : ByteArray) : Ev (fun k => impl_AreSigns.f k n s) (isS n s) := by
  unfold impl_AreSigns.f isS
  have no : ∀ x, Ev (fun k => impl_AreSigns.j0 k true n x) false := fun x => Ev.step (fun k => impl_AreSigns.j0.eq_2 ..) (Ev.ite_pos rfl (Ev.now _))
  by_cases h3 : n < 3
  · rw [show decide (3 ≤ n ∧ n ≤ 7 ∧ (s.size : Int) = Int.tdiv (n * (n - 1) * (n - 2)) 6) = false from decide_eq_false (fun q => by omega), Bool.false_and]
    exact Ev.ite_pos h3 (no s)
  · refine Ev.ite_neg h3 ?_
    by_cases h7 : n > 7
    · rw [show decide (3 ≤ n ∧ n ≤ 7 ∧ (s.size : Int) = Int.tdiv (n * (n - 1) * (n - 2)) 6) = false from decide_eq_false (fun q => by omega), Bool.false_and]
      exact Ev.ite_pos h7 (no s)
    · refine Ev.ite_neg h7 ?_
      obtain ⟨e1, e2, e3, e4⟩ := count3 (n := n) (by omega) (by omega)
      rw [e1, e2]
      by_cases hc : (s.size : Int) = Int.tdiv (n * (n - 1) * (n - 2)) 6
      · rw [show decide (3 ≤ n ∧ n ≤ 7 ∧ (s.size : Int) = Int.tdiv (n * (n - 1) * (n - 2)) 6) = true from decide_eq_true ⟨by omega, by omega, hc⟩, Bool.true_and]
        refine Ev.step (fun k => impl_AreSigns.j0.eq_2 ..) (Ev.ite_neg (by simp [hc]) ?_)
        have key := Ev.loop_to (fun i k => impl_AreSigns.l0 k i n s) s.size (fun i => ((List.range s.size).drop i).all (isPM s)) ?_ ?_ 0 (by omega)
        · simpa using key
        · refine Ev.step (fun k => impl_AreSigns.l0.eq_2 ..) (Ev.ite_neg (by omega) (Ev.const ?_))
          rw [List.drop_of_length_le (by simp)]
          rfl
        · intro i hi ih
          rw [range_drop' _ _ hi, List.all_cons]
          refine Ev.step (fun k => impl_AreSigns.l0.eq_2 ..) (Ev.ite_pos (by omega) (Ev.ite_pos (by omega) ?_))
          rw [wrap_nat i (by omega)]
          rw [show isPM s i = (bt s (i : Int) == 43 || bt s (i : Int) == 45) from rfl]
          by_cases h43 : bt s (i : Int) = 43
          · refine Ev.ite_pos h43 ?_
            simpa [h43] using ih
          · refine Ev.ite_neg h43 ?_
            by_cases h45 : bt s (i : Int) = 45
            · refine Ev.ite_pos h45 ?_
              simpa [h45] using ih
            · refine Ev.ite_neg h45 (Ev.const ?_)
              simp [h43, h45]
      · rw [show decide (3 ≤ n ∧ n ≤ 7 ∧ (s.size : Int) = Int.tdiv (n * (n - 1) * (n - 2)) 6) = false from decide_eq_false (fun q => hc q.2.2), Bool.false_and]
        rw [show ((s.size : Int) != Int.tdiv (n * (n - 1) * (n - 2)) 6) = true by simpa using hc]
        exact no s
theorem isS_bounds {n : Int} {s : ByteArray} (h : isS n s = true) : 3 ≤ n ∧ n ≤ 7 ∧ s.size = (tri n.toNat).length ∧ s.size ≤ 35 := by
  unfold isS at h
  rw [Bool.and_eq_true, decide_eq_true_eq] at h
  obtain ⟨⟨h3, h7, hc⟩, _⟩ := h
  have hb := (count3 h3 h7).2.2.2
  obtain ⟨m, rfl⟩ := Int.eq_ofNat_of_zero_le (show 0 ≤ n by omega)
  have ht := tri_length m (by omega)
  rw [Int.toNat_natCast]
  exact ⟨h3, h7, by omega, by omega⟩
/-- The sign that the m-th byte says. -/
def sgAt (s : ByteArray) (m : Nat) : Int := if bt s (m : Int) = 45 then -1 else 1
/-- The program's table of a text. -/
def tab (n : Nat) (s : ByteArray) : List Int := fill (sgAt s) (tri n) 0 (chiNew n)
/-- The sign of three elements. -/
def sg (n : Nat) (s : ByteArray) (x y z : Int) : Int := sval (sgAt s) 0 (src (tri n) 0 x y z)
theorem tab_length (n : Nat) (s : ByteArray) : (tab n s).length = 344 := by
  unfold tab
  rw [fill_length, chiNew_length]
theorem tab_n (n : Nat) (s : ByteArray) : chiN (tab n s) = n := by
  unfold tab
  rw [chiN_fill _ _ _ _ (chiNew_length _)]
  rfl
theorem tab_at (n : Nat) (hn : n ≤ 7) (s : ByteArray) (x y z : Nat) (hx : x < 7) (hy : y < 7) (hz : z < 7) : chiA (tab n s) x y z = sg n s x y z := by
  unfold tab sg
  rw [chiA_fill _ x y z hx hy hz _ (tri_ok7 n hn) 0 _ (chiNew_length _), chiA_new _ x y z hx hy hz]
theorem tri_at (n : Nat) (hn : n ≤ 7) (i : Nat) (hi : i < (tri n).length) : okT 7 (tri n)[i] = true := by
  have := tri_ok7 n hn
  rw [List.all_eq_true] at this
  exact this _ (List.getElem_mem hi)
theorem rdT_lt (l : List T3) (i : Nat) (h : i < l.length) : rd_T67 l (i : Int) = l[i] := by
  unfold rd_T67
  rw [Int.toNat_natCast, getD_lt _ _ _ h]
theorem tableOf_ev (n : Nat) (hn : n ≤ 7) (s : ByteArray) (hs : s.size = (tri n).length) : Ev (fun k => impl_tableOf.f k n s) (tab n s) := by
  unfold impl_tableOf.f
  refine Ev.bind (triplesOf_ev n hn) ?_
  have h35 : (tri n).length ≤ 1000 := by
    have : (List.range 8).all (fun n => decide ((tri n).length ≤ 1000)) = true := by decide +kernel
    rw [List.all_eq_true] at this
    simpa using this n (by simp; omega)
  have key := Ev.loop (fun i k => impl_tableOf.l0 k (fill (sgAt s) ((tri n).take i) 0 (chiNew n)) (tri n) (tri n).length i n s) (tri n).length (tab n s) ?_ ?_ 0 (by omega)
  · simpa [fill] using key
  · refine Ev.step (fun k => impl_tableOf.l0.eq_2 ..) (Ev.ite_neg (by omega) (Ev.const ?_))
    rw [List.take_length]
    rfl
  · intro i hi ih
    refine Ev.step (fun k => impl_tableOf.l0.eq_2 ..) (Ev.ite_pos (by omega) (Ev.ite_pos (by omega) (Ev.ite_pos (by omega) (Ev.ite_pos (by omega) ?_))))
    have ht := tri_at n hn i hi
    rw [wrap_nat i (by omega), rdT_lt _ i hi]
    rw [List.take_succ_eq_append_getElem hi, fill_append, Nat.zero_add, List.length_take, Nat.min_eq_left (by omega)] at ih
    have hl : (fill (sgAt s) ((tri n).take i) 0 (chiNew n)).length = 344 := by rw [fill_length, chiNew_length]
    generalize fill (sgAt s) ((tri n).take i) 0 (chiNew n) = l at ih hl ⊢
    generalize (tri n)[i] = t at ih ht ⊢
    unfold okT at ht
    rw [decide_eq_true_eq] at ht
    have hset : ∀ v, impl_chi_set.f l t.f0 t.f1 t.f2 v = some (put3 l t v) := by
      intro v
      unfold impl_chi_set.f
      rw [if_pos ⟨hl, by omega, by omega, by omega⟩]
      rfl
    rw [fill, fill] at ih
    unfold sgAt at ih
    by_cases h45 : bt s (i : Int) = 45
    · rw [if_pos h45] at ih
      exact Ev.ite_pos h45 (Ev.bind0 (hset _) ih)
    · rw [if_neg h45] at ih
      exact Ev.ite_neg h45 (Ev.bind0 (hset _) ih)
/-- Where the reference looks for three elements, and with which sign: as its nested tests go. -/
def srt2 (n x y z p : Int) : Option (Int × Int) := if x > y then (spec_l3Index.f 60 n y x z).map fun m => (m, -p) else (spec_l3Index.f 60 n x y z).map fun m => (m, p)
def srt1 (n x y z p : Int) : Option (Int × Int) := if y > z then srt2 n x z y (-p) else srt2 n x y z p
def srt (n x y z : Int) : Option (Int × Int) := if x > y then srt1 n y x z (-1) else srt1 n x y z 1
def okSrt (n : Nat) (x y z : Nat) : Bool :=
  match srt n x y z, src (tri n) 0 x y z with
  | some (m, p), some (q, b) => m == (q : Int) && decide (q < (tri n).length) && (p == if b then 1 else -1)
  | _, _ => false
theorem all_srt : (List.range 8).all (fun n => (List.range n).all fun x => (List.range n).all fun y => (List.range n).all fun z => x == y || y == z || x == z || okSrt n x y z) = true := by decide +kernel
theorem srt_ok (n x y z : Nat) (hn : n ≤ 7) (hx : x < n) (hy : y < n) (hz : z < n) (h1 : x ≠ y) (h2 : y ≠ z) (h3 : x ≠ z) : okSrt n x y z = true := by
  have h := all_srt
  rw [List.all_eq_true] at h
  have h := h n (by simp; omega)
  rw [List.all_eq_true] at h
  have h := h x (by simpa using hx)
  rw [List.all_eq_true] at h
  have h := h y (by simpa using hy)
  rw [List.all_eq_true] at h
  have h := h z (by simpa using hz)
  simpa [h1, h2, h3] using h
theorem l3Index_ev {n x y z m : Int} (h : spec_l3Index.f 60 n x y z = some m) : Ev (fun k => spec_l3Index.f k n x y z) m := Ev.of (spec_l3Index.mono _ _ _ _) h
/-- What the reference answers once the place is known. -/
def look (s : ByteArray) (m p : Int) : Int := if bt s m = 45 then wrap64 (-p) else p
theorem j1_ev (n x y z p m q : Int) (s : ByteArray) (hp : p = 1 ∨ p = -1) (h : srt2 n x y z p = some (m, q)) (hm : 0 ≤ m) (hs : m < (s.size : Int)) : Ev (fun k => spec_l3At.j1 k x y z p n s) (look s m q) := by
  refine Ev.step (fun k => spec_l3At.j1.eq_2 ..) ?_
  have hw : wrap64 (-p) = -p := wrap_in (by omega) (by omega)
  unfold srt2 at h
  unfold look
  by_cases hxy : x > y
  · rw [if_pos hxy] at h
    obtain ⟨m', h1, h2⟩ := Option.map_eq_some_iff.mp h
    cases h2
    refine Ev.ite_pos hxy (Ev.bind (l3Index_ev h1) (Ev.ite_pos hm (Ev.ite_pos hs ?_)))
    rw [hw]
    by_cases h45 : bt s m = 45
    · exact Ev.ite_pos h45 (Ev.const (by rw [if_pos h45]))
    · exact Ev.ite_neg h45 (Ev.const (by rw [if_neg h45]))
  · rw [if_neg hxy] at h
    obtain ⟨m', h1, h2⟩ := Option.map_eq_some_iff.mp h
    cases h2
    refine Ev.ite_neg hxy (Ev.bind (l3Index_ev h1) (Ev.ite_pos hm (Ev.ite_pos hs ?_)))
    by_cases h45 : bt s m = 45
    · exact Ev.ite_pos h45 (Ev.const (by rw [if_pos h45]))
    · exact Ev.ite_neg h45 (Ev.const (by rw [if_neg h45]))
theorem j0_ev (n x y z p m q : Int) (s : ByteArray) (hp : p = 1 ∨ p = -1) (h : srt1 n x y z p = some (m, q)) (hm : 0 ≤ m) (hs : m < (s.size : Int)) : Ev (fun k => spec_l3At.j0 k x y z p n s) (look s m q) := by
  refine Ev.step (fun k => spec_l3At.j0.eq_2 ..) ?_
  have hw : wrap64 (-p) = -p := wrap_in (by omega) (by omega)
  unfold srt1 at h
  by_cases hyz : y > z
  · rw [if_pos hyz] at h
    rw [hw]
    exact Ev.ite_pos hyz (j1_ev n x z y (-p) m q s (by omega) h hm hs)
  · rw [if_neg hyz] at h
    exact Ev.ite_neg hyz (j1_ev n x y z p m q s hp h hm hs)
theorem l3At_ev (n : Nat) (hn : n ≤ 7) (s : ByteArray) (hs : s.size = (tri n).length) (x y z : Nat) (hx : x < n) (hy : y < n) (hz : z < n) (h1 : x ≠ y) (h2 : y ≠ z) (h3 : x ≠ z) :
    Ev (fun k => spec_l3At.f k n s x y z) (sg n s x y z) := by
  have h := srt_ok n x y z hn hx hy hz h1 h2 h3
  unfold okSrt at h
  unfold spec_l3At.f sg
  cases ha : srt n x y z with
  | none => rw [ha] at h; cases h
  | some mp =>
    obtain ⟨m, p⟩ := mp
    cases hb : src (tri n) 0 x y z with
    | none => rw [ha, hb] at h; cases h
    | some qb =>
      obtain ⟨q, b⟩ := qb
      rw [ha, hb] at h
      simp only [Bool.and_eq_true, beq_iff_eq, decide_eq_true_eq] at h
      obtain ⟨⟨rfl, hq⟩, hp⟩ := h
      have e : sval (sgAt s) 0 (some (q, b)) = look s q p := by
        subst hp
        unfold sval look sgAt
        cases b <;> by_cases h45 : bt s (q : Int) = 45 <;> simp [h45, wrap64]
      rw [e]
      unfold srt at ha
      by_cases hxy : (x : Int) > y
      · rw [if_pos hxy] at ha
        exact Ev.ite_pos hxy (j0_ev n y x z (-1) q p s (by omega) ha (by omega) (by omega))
      · rw [if_neg hxy] at ha
        exact Ev.ite_neg hxy (j0_ev n x y z 1 q p s (by omega) ha (by omega) (by omega))
theorem sg_pm (n : Nat) (hn : n ≤ 7) (s : ByteArray) (x y z : Nat) (hx : x < n) (hy : y < n) (hz : z < n) (h1 : x ≠ y) (h2 : y ≠ z) (h3 : x ≠ z) : sg n s x y z = 1 ∨ sg n s x y z = -1 := by
  have h := srt_ok n x y z hn hx hy hz h1 h2 h3
  unfold okSrt at h
  unfold sg
  cases ha : srt n x y z with
  | none => rw [ha] at h; cases h
  | some mp =>
    cases hb : src (tri n) 0 x y z with
    | none => rw [ha, hb] at h; cases h
    | some qb =>
      obtain ⟨q, b⟩ := qb
      unfold sval sgAt
      cases b <;> by_cases h45 : bt s (q : Int) = 45 <;> simp [h45, wrap64]
theorem all_same : (List.range 8).all (fun n => (List.range 7).all fun x => (List.range 7).all fun y => (List.range 7).all fun z => !(x == y || y == z || x == z) || (src (tri n) 0 x y z == none)) = true := by decide +kernel
/-- Where two elements are the same there is no sign. -/
theorem sg_same (n : Nat) (hn : n ≤ 7) (s : ByteArray) (x y z : Nat) (hx : x < 7) (hy : y < 7) (hz : z < 7) (h : x = y ∨ y = z ∨ x = z) : sg n s x y z = 0 := by
  have g := all_same
  rw [List.all_eq_true] at g
  have g := g n (by simp; omega)
  rw [List.all_eq_true] at g
  have g := g x (by simpa using hx)
  rw [List.all_eq_true] at g
  have g := g y (by simpa using hy)
  rw [List.all_eq_true] at g
  have g := g z (by simpa using hz)
  have e : (x == y || y == z || x == z) = true := by rcases h with rfl | rfl | rfl <;> simp
  rw [e] at g
  have : src (tri n) 0 x y z = none := by simpa using g
  unfold sg
  rw [this]
  rfl
end Go.Proofs.Ytbmoaphiheoanaa.Pure

namespace Go.Proofs.Ytbmoaphiheoanaa.Pure
set_option linter.unusedSimpArgs false
set_option linter.unusedVariables false
open Go.RowKit Go.Proofs.YtbmoaphiheoanaaW.PrintWords Go.Proofs.Ytbmoaphiheoanaa.P Go.Proofs.Ytbmoaphiheoanaa.Pl
abbrev Q4 := S122
/-- The ascending lists of four of n elements, in order. -/
def quad : Nat → List Q4
  | 4 => [⟨0, 1, 2, 3⟩]
  | 5 => [⟨0, 1, 2, 3⟩, ⟨0, 1, 2, 4⟩, ⟨0, 1, 3, 4⟩, ⟨0, 2, 3, 4⟩, ⟨1, 2, 3, 4⟩]
  | 6 => [⟨0, 1, 2, 3⟩, ⟨0, 1, 2, 4⟩, ⟨0, 1, 2, 5⟩, ⟨0, 1, 3, 4⟩, ⟨0, 1, 3, 5⟩, ⟨0, 1, 4, 5⟩, ⟨0, 2, 3, 4⟩, ⟨0, 2, 3, 5⟩, ⟨0, 2, 4, 5⟩, ⟨0, 3, 4, 5⟩, ⟨1, 2, 3, 4⟩, ⟨1, 2, 3, 5⟩, ⟨1, 2, 4, 5⟩, ⟨1, 3, 4, 5⟩, ⟨2, 3, 4, 5⟩]
  | 7 => [⟨0, 1, 2, 3⟩, ⟨0, 1, 2, 4⟩, ⟨0, 1, 2, 5⟩, ⟨0, 1, 2, 6⟩, ⟨0, 1, 3, 4⟩, ⟨0, 1, 3, 5⟩, ⟨0, 1, 3, 6⟩, ⟨0, 1, 4, 5⟩, ⟨0, 1, 4, 6⟩, ⟨0, 1, 5, 6⟩, ⟨0, 2, 3, 4⟩, ⟨0, 2, 3, 5⟩, ⟨0, 2, 3, 6⟩, ⟨0, 2, 4, 5⟩, ⟨0, 2, 4, 6⟩, ⟨0, 2, 5, 6⟩, ⟨0, 3, 4, 5⟩, ⟨0, 3, 4, 6⟩, ⟨0, 3, 5, 6⟩, ⟨0, 4, 5, 6⟩, ⟨1, 2, 3, 4⟩, ⟨1, 2, 3, 5⟩, ⟨1, 2, 3, 6⟩, ⟨1, 2, 4, 5⟩, ⟨1, 2, 4, 6⟩, ⟨1, 2, 5, 6⟩, ⟨1, 3, 4, 5⟩, ⟨1, 3, 4, 6⟩, ⟨1, 3, 5, 6⟩, ⟨1, 4, 5, 6⟩, ⟨2, 3, 4, 5⟩, ⟨2, 3, 4, 6⟩, ⟨2, 3, 5, 6⟩, ⟨2, 4, 5, 6⟩, ⟨3, 4, 5, 6⟩]
  | _ => []
theorem quad_some : ∀ n : Nat, n ≤ 7 → impl_quadsOf.f 700 n = some (quad n)
  | 0, _ => by kernel_rfl
  | 1, _ => by kernel_rfl
  | 2, _ => by kernel_rfl
  | 3, _ => by kernel_rfl
  | 4, _ => by kernel_rfl
  | 5, _ => by kernel_rfl
  | 6, _ => by kernel_rfl
  | 7, _ => by kernel_rfl
  | n + 8, h => absurd h (by omega)
theorem quadsOf_ev (n : Nat) (h : n ≤ 7) : Ev (fun k => impl_quadsOf.f k n) (quad n) := Ev.of (impl_quadsOf.mono _) (quad_some n h)
def okQ (n : Nat) (q : Q4) : Bool := decide (0 ≤ q.f0 ∧ q.f0 < q.f1 ∧ q.f1 < q.f2 ∧ q.f2 < q.f3 ∧ q.f3 < n)
theorem all_q : (List.range 8).all (fun n => (quad n).all (okQ n) && decide ((quad n).length ≤ 1000)) = true := by decide +kernel
theorem quad_ok (n : Nat) (h : n ≤ 7) : (quad n).all (okQ n) = true ∧ (quad n).length ≤ 1000 := by
  have := all_q
  rw [List.all_eq_true] at this
  have := this n (by simp; omega)
  rw [Bool.and_eq_true, decide_eq_true_eq] at this
  exact this
/-- Do five elements break the rule? -/
def brk (n : Nat) (s : ByteArray) (a b c d e : Int) : Bool :=
  decide (wrap64 (sg n s a b c * sg n s a d e) = wrap64 (sg n s a b e * sg n s a c d)) && (wrap64 (sg n s a b e * sg n s a c d) == wrap64 ((wrap64 (-(sg n s a b d))) * sg n s a c e))
theorem breaks_eq (n : Nat) (hn : n ≤ 7) (s : ByteArray) (a b c d e : Nat) (ha : a < 7) (hb : b < 7) (hc : c < 7) (hd : d < 7) (he : e < 7) : impl_chi_breaks.f (tab n s) a b c d e = some (brk n s a b c d e) := by
  unfold impl_chi_breaks.f brk
  have hl := tab_length n s
  rw [if_pos (by omega), if_pos (by omega), if_pos (by omega), if_pos (by omega), if_pos (by omega), if_pos (by omega), if_pos (by omega), if_pos (by omega), if_pos (by omega), if_pos (by omega), if_pos (by omega)]
  rw [tab_at n hn s a b c ha hb hc, tab_at n hn s a d e ha hd he, tab_at n hn s a b e ha hb he, tab_at n hn s a c d ha hc hd, tab_at n hn s a b d ha hb hd, tab_at n hn s a c e ha hc he]
  by_cases h : wrap64 (sg n s a b c * sg n s a d e) = wrap64 (sg n s a b e * sg n s a c d)
  · rw [if_pos h, decide_eq_true h, Bool.true_and]
  · rw [if_neg h, decide_eq_false h, Bool.false_and]
theorem l4Breaks_ev (n : Nat) (hn : n ≤ 7) (s : ByteArray) (hs : s.size = (tri n).length) (a b c d e : Nat) (ha : a < n) (hb : b < n) (hc : c < n) (hd : d < n) (he : e < n)
    (hab : a ≠ b) (hac : a ≠ c) (had : a ≠ d) (hae : a ≠ e) (hbc : b < c) (hcd : c < d) (hde : d < e) : Ev (fun k => spec_l4Breaks.f k n s a b c d e) (brk n s a b c d e) := by
  unfold spec_l4Breaks.f brk
  refine Ev.bind (l3At_ev n hn s hs a b c ha hb hc hab (by omega) hac) (Ev.bind (l3At_ev n hn s hs a d e ha hd he had (by omega) hae) (Ev.bind (l3At_ev n hn s hs a b e ha hb he hab (by omega) hae) (Ev.bind (l3At_ev n hn s hs a c d ha hc hd hac (by omega) had) (Ev.bind (l3At_ev n hn s hs a b d ha hb hd hab (by omega) had) (Ev.bind (l3At_ev n hn s hs a c e ha hc he hac (by omega) hae) ?_)))))
  by_cases h : wrap64 (sg n s a b c * sg n s a d e) = wrap64 (sg n s a b e * sg n s a c d)
  · rw [decide_eq_true h, Bool.true_and]
    exact Ev.ite_pos h (Ev.now _)
  · rw [decide_eq_false h, Bool.false_and]
    exact Ev.ite_neg h (Ev.now _)
/-- A loop that hands back the first row that it finds: is the row empty? -/
theorem loopE (g : Nat → Nat → Option (List Int)) (m : Nat) (P : Nat → Bool) (X : Bool) (lo : Nat) (hlo : lo ≤ m) (hend : ∃ r, Ev (g m) r ∧ r.isEmpty = !X)
    (hstep : ∀ i, lo ≤ i → i < m → (∃ r, Ev (g (i + 1)) r ∧ r.isEmpty = !(((List.range m).drop (i + 1)).any P || X)) → ∃ r, Ev (g i) r ∧ r.isEmpty = !(P i || (((List.range m).drop (i + 1)).any P || X))) :
    ∃ r, Ev (g lo) r ∧ r.isEmpty = !(((List.range m).drop lo).any P || X) := by
  have key : ∀ d i, lo ≤ i → i + d = m → ∃ r, Ev (g i) r ∧ r.isEmpty = !(((List.range m).drop i).any P || X) := by
    intro d
    induction d with
    | zero =>
      intro i _ hi
      obtain rfl : i = m := by omega
      rw [List.drop_of_length_le (by simp)]
      simpa using hend
    | succ d ih =>
      intro i hl hi
      rw [range_drop' m i (by omega), List.any_cons, Bool.or_assoc]
      exact hstep i hl (by omega) (ih (i + 1) (by omega) (by omega))
  exact key (m - lo) lo (Nat.le_refl _) (by omega)
def avoid (a : Int) (q : Q4) : Bool := !(q.f0 == a || q.f1 == a || q.f2 == a || q.f3 == a)
def brkQ (n : Nat) (s : ByteArray) (a : Int) (q : Q4) : Bool := brk n s a q.f0 q.f1 q.f2 q.f3
/-- Does some element break the rule with four others? -/
def anyA (n : Nat) (s : ByteArray) (a : Nat) : Bool := (quad n).any fun q => avoid a q && brkQ n s a q
def anyB (n : Nat) (s : ByteArray) : Bool := (List.range n).any (anyA n s)
theorem any_range (l : List Q4) (P : Q4 → Bool) : (List.range l.length).any (fun i => P (rd_T122 l (i : Int))) = l.any P := by
  rw [Bool.eq_iff_iff, List.any_eq_true, List.any_eq_true]
  have hr : ∀ i (h : i < l.length), rd_T122 l (i : Int) = l[i] := by
    intro i h
    unfold rd_T122
    rw [Int.toNat_natCast, getD_lt _ _ _ h]
  constructor
  · rintro ⟨i, hi, hp⟩
    rw [List.mem_range] at hi
    rw [hr i hi] at hp
    exact ⟨_, List.getElem_mem hi, hp⟩
  · rintro ⟨q, hq, hp⟩
    obtain ⟨i, hi, rfl⟩ := List.getElem_of_mem hq
    exact ⟨i, by simpa using hi, by rw [hr i hi]; exact hp⟩
theorem impl_first_ev (n : Nat) (hn : n ≤ 7) (s : ByteArray) : ∃ r, Ev (fun k => impl_chi_firstBreak.f k (tab n s)) r ∧ r.isEmpty = !anyB n s := by
  have hl := tab_length n s
  obtain ⟨hq, hq1⟩ := quad_ok n hn
  unfold impl_chi_firstBreak.f
  have key := loopE (fun a k => impl_chi_firstBreak.l0 k (tab n s) a) n (anyA n s) false 0 (by omega) ?_ ?_
  · simpa [anyB] using key
  · refine ⟨[], Ev.step (fun k => impl_chi_firstBreak.l0.eq_2 ..) (Ev.ite_pos (by omega) (Ev.ite_neg (by rw [tab_n]; omega) (Ev.now _))), rfl⟩
  · intro a _ ha h0
    rw [Bool.or_false] at h0 ⊢
    have key2 := loopE (fun i k => impl_chi_firstBreak.l1 k (tab n s) a (quad n) (quad n).length i) (quad n).length (fun i => avoid a (rd_T122 (quad n) (i : Int)) && brkQ n s a (rd_T122 (quad n) (i : Int))) (((List.range n).drop (a + 1)).any (anyA n s)) 0 (by omega) ?_ ?_
    · obtain ⟨r, h1, h2⟩ := key2
      rw [List.drop_zero, any_range (quad n) (fun q => avoid a q && brkQ n s a q)] at h2
      refine ⟨r, Ev.step (fun k => impl_chi_firstBreak.l0.eq_2 ..) (Ev.ite_pos (by omega) (Ev.ite_pos (by rw [tab_n]; omega) ?_)), h2⟩
      rw [tab_n]
      exact Ev.bind (quadsOf_ev n hn) h1
    · obtain ⟨r, h1, h2⟩ := h0
      refine ⟨r, Ev.step (fun k => impl_chi_firstBreak.l1.eq_2 ..) (Ev.ite_neg (by omega) ?_), h2⟩
      rw [wrap_nat a (by omega)]
      exact h1
    · intro i _ hi h1
      have hr : rd_T122 (quad n) (i : Int) = (quad n)[i] := by
        unfold rd_T122
        rw [Int.toNat_natCast, getD_lt _ _ _ hi]
      rw [List.all_eq_true] at hq
      have ht := hq _ (List.getElem_mem hi)
      rw [← hr] at ht
      obtain ⟨r, h1, h2⟩ := h1
      rw [← wrap_nat i (by omega)] at h1
      by_cases hav : avoid a (rd_T122 (quad n) (i : Int)) = true
      · have hav' := hav
        unfold avoid at hav'
        simp only [Bool.not_eq_true', Bool.or_eq_false_iff, beq_eq_false_iff_ne] at hav'
        obtain ⟨⟨⟨e0, e1⟩, e2⟩, e3⟩ := hav'
        have hb : impl_chi_breaks.f (tab n s) a (rd_T122 (quad n) (i : Int)).f0 (rd_T122 (quad n) (i : Int)).f1 (rd_T122 (quad n) (i : Int)).f2 (rd_T122 (quad n) (i : Int)).f3 = some (brkQ n s a (rd_T122 (quad n) (i : Int))) := by
          generalize rd_T122 (quad n) (i : Int) = q at ht ⊢
          obtain ⟨b, c, d, e⟩ := q
          unfold okQ at ht
          rw [decide_eq_true_eq] at ht
          dsimp only at ht
          obtain ⟨b, rfl⟩ := Int.eq_ofNat_of_zero_le ht.1
          obtain ⟨c, rfl⟩ := Int.eq_ofNat_of_zero_le (show 0 ≤ c by omega)
          obtain ⟨d, rfl⟩ := Int.eq_ofNat_of_zero_le (show 0 ≤ d by omega)
          obtain ⟨e, rfl⟩ := Int.eq_ofNat_of_zero_le (show 0 ≤ e by omega)
          exact breaks_eq n hn s a b c d e (by omega) (by omega) (by omega) (by omega) (by omega)
        rw [hav, Bool.true_and]
        by_cases hbk : brkQ n s a (rd_T122 (quad n) (i : Int)) = true
        · rw [hbk, Bool.true_or]
          exact ⟨_, Ev.step (fun k => impl_chi_firstBreak.l1.eq_2 ..) (Ev.ite_pos (by omega) (Ev.ite_pos (by omega) (Ev.ite_pos (by omega) (Ev.ite_neg e0 (Ev.ite_neg e1 (Ev.ite_neg e2 (Ev.ite_neg e3 (Ev.bind0 hb (Ev.ite_pos hbk (Ev.now _)))))))))), rfl⟩
        · rw [Bool.eq_false_iff.mpr hbk, Bool.false_or]
          exact ⟨r, Ev.step (fun k => impl_chi_firstBreak.l1.eq_2 ..) (Ev.ite_pos (by omega) (Ev.ite_pos (by omega) (Ev.ite_pos (by omega) (Ev.ite_neg e0 (Ev.ite_neg e1 (Ev.ite_neg e2 (Ev.ite_neg e3 (Ev.bind0 hb (Ev.ite_neg hbk h1))))))))), h2⟩
      · rw [Bool.eq_false_iff.mpr hav, Bool.false_and, Bool.false_or]
        refine ⟨r, Ev.step (fun k => impl_chi_firstBreak.l1.eq_2 ..) (Ev.ite_pos (by omega) (Ev.ite_pos (by omega) (Ev.ite_pos (by omega) ?_))), h2⟩
        unfold avoid at hav
        by_cases e0 : (rd_T122 (quad n) (i : Int)).f0 = a
        · exact Ev.ite_pos e0 h1
        refine Ev.ite_neg e0 ?_
        by_cases e1 : (rd_T122 (quad n) (i : Int)).f1 = a
        · exact Ev.ite_pos e1 h1
        refine Ev.ite_neg e1 ?_
        by_cases e2 : (rd_T122 (quad n) (i : Int)).f2 = a
        · exact Ev.ite_pos e2 h1
        refine Ev.ite_neg e2 ?_
        by_cases e3 : (rd_T122 (quad n) (i : Int)).f3 = a
        · exact Ev.ite_pos e3 h1
        · exact absurd (by simp [e0, e1, e2, e3]) hav
/-- The other elements, in order. -/
def oth (n a : Nat) : List Int := ((List.range n).filter fun x => x != a).map fun x : Nat => (x : Int)
theorem all_oth : (List.range 8).all (fun n => (List.range n).all fun a => spec_l3Others.f 40 n a == some (oth n a)) = true := by decide +kernel
theorem l3Others_ev (n a : Nat) (hn : n ≤ 7) (ha : a < n) : Ev (fun k => spec_l3Others.f k n a) (oth n a) := by
  have h := all_oth
  rw [List.all_eq_true] at h
  have h := h n (by simp; omega)
  rw [List.all_eq_true] at h
  have h := h a (by simpa using ha)
  exact Ev.of (spec_l3Others.mono _ _) (k := 40) (by simpa using h)
theorem all_o : (List.range 8).all (fun n => (List.range n).all fun a => decide ((oth n a).length ≤ 7) && (List.range (oth n a).length).all fun i => decide (0 ≤ rd (oth n a) (i : Int) ∧ rd (oth n a) (i : Int) < n ∧ rd (oth n a) (i : Int) ≠ a) && (List.range i).all fun j => decide (rd (oth n a) (j : Int) < rd (oth n a) (i : Int))) = true := by decide +kernel
theorem oth_ok (n a : Nat) (hn : n ≤ 7) (ha : a < n) : (oth n a).length ≤ 7 ∧ ∀ i, i < (oth n a).length → (∃ u : Nat, rd (oth n a) (i : Int) = u ∧ u < n ∧ u ≠ a) ∧ ∀ j, j < i → rd (oth n a) (j : Int) < rd (oth n a) (i : Int) := by
  have h := all_o
  rw [List.all_eq_true] at h
  have h := h n (by simp; omega)
  rw [List.all_eq_true] at h
  have h := h a (by simpa using ha)
  rw [Bool.and_eq_true, decide_eq_true_eq, List.all_eq_true] at h
  refine ⟨h.1, fun i hi => ?_⟩
  have g := h.2 i (by simpa using hi)
  rw [Bool.and_eq_true, decide_eq_true_eq, List.all_eq_true] at g
  refine ⟨⟨(rd (oth n a) (i : Int)).toNat, by omega, by omega, by omega⟩, fun j hj => ?_⟩
  simpa using g.2 j (by simpa using hj)
def listQ (n a : Nat) : List Q4 :=
  ((List.range (oth n a).length).drop 0).flatMap fun b : Nat => ((List.range (oth n a).length).drop (b + 1)).flatMap fun c : Nat => ((List.range (oth n a).length).drop (c + 1)).flatMap fun d : Nat => ((List.range (oth n a).length).drop (d + 1)).map fun e : Nat =>
    (⟨rd (oth n a) (b : Int), rd (oth n a) (c : Int), rd (oth n a) (d : Int), rd (oth n a) (e : Int)⟩ : Q4)
def tup (q : Q4) : Int × Int × Int × Int := (q.f0, q.f1, q.f2, q.f3)
def untup (q : Int × Int × Int × Int) : Q4 := ⟨q.1, q.2.1, q.2.2.1, q.2.2.2⟩
theorem untup_map (l : List Q4) : (l.map tup).map untup = l := by
  rw [List.map_map]
  exact List.map_id' l
theorem all_list : (List.range 8).all (fun n => (List.range n).all fun a => (listQ n a).map tup == ((quad n).filter (avoid a)).map tup) = true := by decide +kernel
theorem listQ_eq (n a : Nat) (hn : n ≤ 7) (ha : a < n) : listQ n a = (quad n).filter (avoid a) := by
  have h := all_list
  rw [List.all_eq_true] at h
  have h := h n (by simp; omega)
  rw [List.all_eq_true] at h
  have h := h a (by simpa using ha)
  have h := congrArg (List.map untup) (eq_of_beq h)
  rwa [untup_map, untup_map] at h
section
variable (n : Nat) (s : ByteArray) (a : Nat)
def b4 (b c d e : Nat) : Bool := brk n s a (rd (oth n a) (b : Int)) (rd (oth n a) (c : Int)) (rd (oth n a) (d : Int)) (rd (oth n a) (e : Int))
def b3 (b c d : Nat) : Bool := ((List.range (oth n a).length).drop (d + 1)).any (b4 n s a b c d)
def b2 (b c : Nat) : Bool := ((List.range (oth n a).length).drop (c + 1)).any (b3 n s a b c)
def b1 (b : Nat) : Bool := ((List.range (oth n a).length).drop (b + 1)).any (b2 n s a b)
end
theorem b1_eq (n : Nat) (s : ByteArray) (a : Nat) (hn : n ≤ 7) (ha : a < n) : (List.range (oth n a).length).any (b1 n s a) = anyA n s a := by
  unfold anyA
  rw [← List.any_filter, ← listQ_eq n a hn ha]
  unfold listQ
  rw [List.drop_zero, List.any_flatMap]
  simp only [List.any_flatMap, List.any_map]
  rfl
theorem spec_first_ev (n : Nat) (hn : n ≤ 7) (s : ByteArray) (hA : isS n s = true) : ∃ r, Ev (fun k => spec_FirstBreak.f k n s) r ∧ r.isEmpty = !anyB n s := by
  have hS := spec_AreSigns_ev n s
  rw [hA] at hS
  obtain ⟨_, _, hs, _⟩ := isS_bounds hA
  rw [Int.toNat_natCast] at hs
  unfold spec_FirstBreak.f
  have key := loopE (fun a k => spec_FirstBreak.l0 k a n s) n (anyA n s) false 0 (by omega) ?_ ?_
  · simpa [anyB] using key
  · exact ⟨[], Ev.step (fun k => spec_FirstBreak.l0.eq_2 ..) (Ev.ite_neg (by omega) (Ev.step (fun k => spec_FirstBreak.j1.eq_2 ..) (Ev.ite_neg (by simp) (Ev.now _)))), rfl⟩
  · intro a _ ha h0
    rw [Bool.or_false] at h0 ⊢
    obtain ⟨ho, hok⟩ := oth_ok n a hn ha
    rw [← b1_eq n s a hn ha]
    have key1 := loopE (fun b k => spec_FirstBreak.l1 k a (oth n a) b n s) (oth n a).length (b1 n s a) (((List.range n).drop (a + 1)).any (anyA n s)) 0 (by omega) ?_ ?_
    · obtain ⟨r, h1, h2⟩ := key1
      rw [List.drop_zero] at h2
      exact ⟨r, Ev.step (fun k => spec_FirstBreak.l0.eq_2 ..) (Ev.ite_pos (by omega) (Ev.bind hS (Ev.step (fun k => spec_FirstBreak.j1.eq_2 ..) (Ev.ite_pos rfl (Ev.bind (l3Others_ev n a hn ha) h1))))), h2⟩
    · obtain ⟨r, h1, h2⟩ := h0
      refine ⟨r, Ev.step (fun k => spec_FirstBreak.l1.eq_2 ..) (Ev.ite_neg (by omega) ?_), h2⟩
      rw [wrap_nat a (by omega)]
      exact h1
    · intro b _ hb h1
      have key2 := loopE (fun c k => spec_FirstBreak.l2 k a (oth n a) b c n s) (oth n a).length (b2 n s a b) (((List.range (oth n a).length).drop (b + 1)).any (b1 n s a) || ((List.range n).drop (a + 1)).any (anyA n s)) (b + 1) (by omega) ?_ ?_
      · obtain ⟨r, g1, g2⟩ := key2
        refine ⟨r, Ev.step (fun k => spec_FirstBreak.l1.eq_2 ..) (Ev.ite_pos (by omega) ?_), g2⟩
        rw [wrap_nat b (by omega)]
        exact g1
      · obtain ⟨r, g1, g2⟩ := h1
        refine ⟨r, Ev.step (fun k => spec_FirstBreak.l2.eq_2 ..) (Ev.ite_neg (by omega) ?_), g2⟩
        rw [wrap_nat b (by omega)]
        exact g1
      · intro c hbc hc h2
        have key3 := loopE (fun d k => spec_FirstBreak.l3 k a (oth n a) b c d n s) (oth n a).length (b3 n s a b c) (((List.range (oth n a).length).drop (c + 1)).any (b2 n s a b) || (((List.range (oth n a).length).drop (b + 1)).any (b1 n s a) || ((List.range n).drop (a + 1)).any (anyA n s))) (c + 1) (by omega) ?_ ?_
        · obtain ⟨r, g1, g2⟩ := key3
          refine ⟨r, Ev.step (fun k => spec_FirstBreak.l2.eq_2 ..) (Ev.ite_pos (by omega) ?_), g2⟩
          rw [wrap_nat c (by omega)]
          exact g1
        · obtain ⟨r, g1, g2⟩ := h2
          refine ⟨r, Ev.step (fun k => spec_FirstBreak.l3.eq_2 ..) (Ev.ite_neg (by omega) ?_), g2⟩
          rw [wrap_nat c (by omega)]
          exact g1
        · intro d hcd hd h3
          have key4 := loopE (fun e k => spec_FirstBreak.l4 k a (oth n a) b c d e n s) (oth n a).length (b4 n s a b c d) (((List.range (oth n a).length).drop (d + 1)).any (b3 n s a b c) || (((List.range (oth n a).length).drop (c + 1)).any (b2 n s a b) || (((List.range (oth n a).length).drop (b + 1)).any (b1 n s a) || ((List.range n).drop (a + 1)).any (anyA n s)))) (d + 1) (by omega) ?_ ?_
          · obtain ⟨r, g1, g2⟩ := key4
            refine ⟨r, Ev.step (fun k => spec_FirstBreak.l3.eq_2 ..) (Ev.ite_pos (by omega) ?_), g2⟩
            rw [wrap_nat d (by omega)]
            exact g1
          · obtain ⟨r, g1, g2⟩ := h3
            refine ⟨r, Ev.step (fun k => spec_FirstBreak.l4.eq_2 ..) (Ev.ite_neg (by omega) ?_), g2⟩
            rw [wrap_nat d (by omega)]
            exact g1
          · intro e hde he h4
            have hord : b < c ∧ c < d ∧ d < e := ⟨by omega, by omega, by omega⟩
            obtain ⟨⟨ub, eb, lb, nb⟩, _⟩ := hok b hb
            obtain ⟨⟨uc, ec, lc, nc⟩, oc⟩ := hok c hc
            obtain ⟨⟨ud, ed, ld, nd⟩, od⟩ := hok d hd
            obtain ⟨⟨ue, ee, le, ne⟩, oe⟩ := hok e he
            have kb := oc b hord.1
            have kc := od c hord.2.1
            have kd := oe d hord.2.2
            rw [eb, ec] at kb
            rw [ec, ed] at kc
            rw [ed, ee] at kd
            have hbr : Ev (fun k => spec_l4Breaks.f k n s a (rd (oth n a) (b : Int)) (rd (oth n a) (c : Int)) (rd (oth n a) (d : Int)) (rd (oth n a) (e : Int))) (b4 n s a b c d e) := by
              unfold b4
              rw [eb, ec, ed, ee]
              exact l4Breaks_ev n hn s hs a ub uc ud ue ha lb lc ld le (Ne.symm nb) (Ne.symm nc) (Ne.symm nd) (Ne.symm ne) (by omega) (by omega) (by omega)
            obtain ⟨r, g1, g2⟩ := h4
            rw [← wrap_nat e (by omega)] at g1
            by_cases hbk : b4 n s a b c d e = true
            · rw [hbk] at hbr
              rw [hbk, Bool.true_or]
              exact ⟨_, Ev.step (fun k => spec_FirstBreak.l4.eq_2 ..) (Ev.ite_pos (by omega) (Ev.ite_pos (by omega) (Ev.ite_pos (by omega) (Ev.ite_pos (by omega) (Ev.ite_pos (by omega) (Ev.ite_pos (by omega) (Ev.ite_pos (by omega) (Ev.ite_pos (by omega) (Ev.bind hbr (Ev.ite_pos rfl (Ev.now _))))))))))), rfl⟩
            · rw [Bool.eq_false_iff.mpr hbk] at hbr
              rw [Bool.eq_false_iff.mpr hbk, Bool.false_or]
              exact ⟨r, Ev.step (fun k => spec_FirstBreak.l4.eq_2 ..) (Ev.ite_pos (by omega) (Ev.ite_pos (by omega) (Ev.ite_pos (by omega) (Ev.ite_pos (by omega) (Ev.ite_pos (by omega) (Ev.ite_pos (by omega) (Ev.ite_pos (by omega) (Ev.ite_pos (by omega) (Ev.bind hbr (Ev.ite_neg (by simp) g1)))))))))), g2⟩
/-- Is the rule kept? -/
def isM (n : Int) (s : ByteArray) : Bool := isS n s && !anyB n.toNat s
theorem len_empty (r : List Int) : ((r.length : Int) = 0) ↔ r.isEmpty = true := by
  rw [List.isEmpty_iff, ← List.length_eq_zero_iff]
  omega
theorem spec_IsMatroid_ev (n : Int) (s : ByteArray) : Ev (fun k => spec_IsMatroid.f k n s) (isM n s) := by
  have hS := spec_AreSigns_ev n s
  unfold spec_IsMatroid.f isM
  cases hA : isS n s with
  | false =>
    rw [hA] at hS
    exact Ev.bind hS (Ev.ite_neg (by simp) (Ev.now _))
  | true =>
    rw [hA] at hS
    obtain ⟨h3, h7, _, _⟩ := isS_bounds hA
    obtain ⟨n, rfl⟩ := Int.eq_ofNat_of_zero_le (show 0 ≤ n by omega)
    obtain ⟨r, h1, h2⟩ := spec_first_ev n (by omega) s hA
    rw [Int.toNat_natCast, Bool.true_and, ← h2]
    refine Ev.bind hS (Ev.ite_pos rfl (Ev.bind h1 (Ev.const (congrArg some ?_))))
    rw [Bool.eq_iff_iff, beq_iff_eq]
    exact len_empty r
theorem impl_IsMatroid_ev (n : Int) (s : ByteArray) : Ev (fun k => impl_IsMatroid.f k n s) (isM n s) := by
  have hS := impl_AreSigns_ev n s
  unfold impl_IsMatroid.f isM
  cases hA : isS n s with
  | false =>
    rw [hA] at hS
    exact Ev.bind hS (Ev.ite_neg (by simp) (Ev.now _))
  | true =>
    rw [hA] at hS
    obtain ⟨h3, h7, hs, _⟩ := isS_bounds hA
    obtain ⟨n, rfl⟩ := Int.eq_ofNat_of_zero_le (show 0 ≤ n by omega)
    rw [Int.toNat_natCast] at hs
    obtain ⟨r, h1, h2⟩ := impl_first_ev n (by omega) s
    rw [Int.toNat_natCast, Bool.true_and, ← h2]
    have hF : Ev (fun k => impl_FirstBreak.f k n s) r := by
      unfold impl_FirstBreak.f
      exact Ev.bind hS (Ev.ite_pos rfl (Ev.bind (tableOf_ev n (by omega) s hs) (Ev.bind h1 (Ev.now _))))
    refine Ev.bind hS (Ev.ite_pos rfl (Ev.bind hF ?_))
    cases he : r.isEmpty with
    | true => exact Ev.ite_pos ((len_empty r).mpr he) (Ev.now _)
    | false => exact Ev.ite_neg (fun h => by rw [(len_empty r).mp h] at he; cases he) (Ev.now _)
end Go.Proofs.Ytbmoaphiheoanaa.Pure

namespace Go.Proofs.Ytbmoaphiheoanaa.Pure
set_option linter.unusedSimpArgs false
set_option linter.unusedVariables false
open Go.RowKit Go.Proofs.YtbmoaphiheoanaaW.PrintWords Go.Proofs.Ytbmoaphiheoanaa.Pl
theorem strOf_snoc (xs : List Int) (n : Int) : strOfNums (xs ++ [n]) = strOfNums xs ++ (⟨#[UInt8.ofNat n.toNat]⟩ : ByteArray) := by
  apply ByteArray.ext
  simp [strOfNums]
theorem strOf_size (xs : List Int) : (strOfNums xs).size = xs.length := by
  simp [strOfNums, ByteArray.size]
theorem strOf_nil : strOfNums [] = (⟨#[]⟩ : ByteArray) := rfl
end Go.Proofs.Ytbmoaphiheoanaa.Pure

namespace Go.Proofs.Ytbmoaphiheoanaa.Pure
set_option linter.unusedSimpArgs false
set_option linter.unusedVariables false
open Go.RowKit Go.Proofs.YtbmoaphiheoanaaW.PrintWords Go.Proofs.Ytbmoaphiheoanaa.P Go.Proofs.Ytbmoaphiheoanaa.Pl
/-- The byte of a sign. -/
def pm (v : Int) : Int := if v > 0 then 43 else 45
def codesT (l : List Int) (ts : List T3) : List Int := ts.map fun t => pm (chiA l t.f0 t.f1 t.f2)
theorem signs_ev (n : Nat) (hn : n ≤ 7) (l : List Int) (hl : l.length = 344) (hc : chiN l = n) : Ev (fun k => impl_chi_signs.f k l) ((n : Int), strOfNums (codesT l (tri n))) := by
  unfold impl_chi_signs.f
  rw [hc]
  refine Ev.ite_pos (by omega) (Ev.bind (triplesOf_ev n hn) ?_)
  have h35 : (tri n).length ≤ 1000 := by
    have : (List.range 8).all (fun n => decide ((tri n).length ≤ 1000)) = true := by decide +kernel
    rw [List.all_eq_true] at this
    simpa using this n (by simp; omega)
  have key := Ev.loop (fun i k => impl_chi_signs.l0 k l (codesT l ((tri n).take i)) (tri n) (tri n).length i) (tri n).length ((n : Int), strOfNums (codesT l (tri n))) ?_ ?_ 0 (by omega)
  · simpa [codesT] using key
  · refine Ev.step (fun k => impl_chi_signs.l0.eq_2 ..) (Ev.ite_neg (by omega) (Ev.ite_pos (by omega) (Ev.const ?_)))
    rw [List.take_length, hc]
  · intro i hi ih
    have ht := tri_at n hn i hi
    have hlen : (codesT l ((tri n).take i)).length < 140737488355328 := by unfold codesT; simp; omega
    refine Ev.step (fun k => impl_chi_signs.l0.eq_2 ..) (Ev.ite_pos (by omega) (Ev.ite_pos (by omega) (Ev.ite_pos (by omega) (Ev.ite_pos (by omega) ?_))))
    rw [wrap_nat i (by omega), rdT_lt _ i hi]
    have hcod : codesT l ((tri n).take (i + 1)) = codesT l ((tri n).take i) ++ [pm (chiA l (tri n)[i].f0 (tri n)[i].f1 (tri n)[i].f2)] := by
      unfold codesT
      rw [List.take_succ_eq_append_getElem hi, List.map_append]
      rfl
    rw [hcod] at ih
    generalize (tri n)[i] = t at ih ht ⊢
    unfold okT at ht
    rw [decide_eq_true_eq] at ht
    refine Ev.ite_pos (by omega) (Ev.ite_pos (by omega) (Ev.ite_pos (by omega) (Ev.ite_pos (by omega) (Ev.ite_pos (by omega) (Ev.ite_pos (by omega) ?_)))))
    unfold pm at ih
    by_cases h : chiA l t.f0 t.f1 t.f2 > 0
    · rw [if_pos h] at ih
      exact Ev.ite_pos h (Ev.ite_pos hlen ih)
    · rw [if_neg h] at ih
      exact Ev.ite_neg h (Ev.ite_pos hlen ih)
theorem all_tri : (List.range 8).all (fun n => (List.range (tri n).length).all fun m => (let t := (tri n).getD m ⟨0, 0, 0⟩; src (tri n) 0 t.f0 t.f1 t.f2 == some (m, true))) = true := by decide +kernel
theorem tri_src (n : Nat) (hn : n ≤ 7) (m : Nat) (hm : m < (tri n).length) : src (tri n) 0 (tri n)[m].f0 (tri n)[m].f1 (tri n)[m].f2 = some (m, true) := by
  have g := all_tri
  rw [List.all_eq_true] at g
  have g := g n (by simp; omega)
  rw [List.all_eq_true] at g
  have g := g m (by simpa using hm)
  rw [getD_lt _ _ _ hm] at g
  simpa using g
/-- A triple's elements as natural numbers. -/
theorem tri_nat (n : Nat) (hn : n ≤ 7) (m : Nat) (hm : m < (tri n).length) : ∃ a b c : Nat, a < b ∧ b < c ∧ c < n ∧ (tri n)[m] = ⟨a, b, c⟩ := by
  have h := tri_ok n hn
  rw [List.all_eq_true] at h
  have h := h _ (List.getElem_mem hm)
  generalize (tri n)[m] = t at h ⊢
  obtain ⟨a, b, c⟩ := t
  unfold okT at h
  rw [decide_eq_true_eq] at h
  dsimp only at h
  obtain ⟨a, rfl⟩ := Int.eq_ofNat_of_zero_le h.1
  obtain ⟨b, rfl⟩ := Int.eq_ofNat_of_zero_le (show 0 ≤ b by omega)
  obtain ⟨c, rfl⟩ := Int.eq_ofNat_of_zero_le (show 0 ≤ c by omega)
  exact ⟨a, b, c, by omega, by omega, by omega, rfl⟩
theorem tab_tri (n : Nat) (hn : n ≤ 7) (s : ByteArray) (m : Nat) (hm : m < (tri n).length) : chiA (tab n s) (tri n)[m].f0 (tri n)[m].f1 (tri n)[m].f2 = sgAt s m := by
  obtain ⟨a, b, c, h1, h2, h3, e⟩ := tri_nat n hn m hm
  have hs := tri_src n hn m hm
  rw [e] at hs ⊢
  dsimp only at hs ⊢
  rw [tab_at n hn s a b c (by omega) (by omega) (by omega)]
  unfold sg
  rw [hs]
  rfl
end Go.Proofs.Ytbmoaphiheoanaa.Pure

namespace Go.Proofs.Ytbmoaphiheoanaa.Pure
set_option linter.unusedSimpArgs false
set_option linter.unusedVariables false
open Go.RowKit Go.Proofs.YtbmoaphiheoanaaW.PrintWords Go.Proofs.Ytbmoaphiheoanaa.P Go.Proofs.Ytbmoaphiheoanaa.Pl
def inE (n x : Int) : Bool := decide (0 ≤ x ∧ x < n)
def okD (n : Int) (l : List Int) (i : Nat) : Bool := inE n (rd l i) && !((List.range i).any fun j => rd l i == rd l j)
def diffFrom (n : Int) (l : List Int) (i : Nat) : Bool := ((List.range l.length).drop i).all (okD n l)
/-- Are these different elements of n? -/
def diffB (n : Int) (l : List Int) : Bool := diffFrom n l 0
theorem diffFrom_step (n : Int) (l : List Int) (i : Nat) (h : i < l.length) : diffFrom n l i = (okD n l i && diffFrom n l (i + 1)) := by
  unfold diffFrom
  rw [range_drop' _ _ h, List.all_cons]
theorem rd_takeI (l : List Int) (n j : Nat) (h : j < n) : rd (l.take n) (j : Int) = rd l (j : Int) := by
  unfold rd
  rw [Int.toNat_natCast]
  simp [List.getD_eq_getElem?_getD, h]
theorem containsI_ev (l : List Int) (n : Nat) (hn : n ≤ l.length) (hl : l.length ≤ 1000000) (x : Int) :
    Ev (fun k => slices_Contains_Sint_int.f k (l.take n) x) ((List.range n).any fun j => x == rd l j) := by
  have hlen : (l.take n).length = n := by rw [List.length_take]; omega
  have key : ∀ d i, i + d = n → ∃ r, Ev (fun k => slices_Index_Sint_int.l0 k (l.take n) x n i) r ∧ decide (r ≥ 0) = ((List.range n).drop i).any fun j => x == rd l j := by
    intro d
    induction d with
    | zero =>
      intro i hi
      obtain rfl : i = n := by omega
      refine ⟨-1, Ev.step (fun k => slices_Index_Sint_int.l0.eq_2 ..) (Ev.ite_neg (by omega) (Ev.now _)), ?_⟩
      rw [List.drop_of_length_le (by simp)]
      rfl
    | succ d ih =>
      intro i hi
      obtain ⟨r, hr, he⟩ := ih (i + 1) (by omega)
      rw [range_drop' n i (by omega), List.any_cons]
      by_cases hb : x = rd l (i : Int)
      · refine ⟨i, Ev.step (fun k => slices_Index_Sint_int.l0.eq_2 ..) (Ev.ite_pos (by omega) (Ev.ite_pos (by omega) (Ev.ite_pos (by omega) (Ev.ite_pos (by rw [rd_takeI l n i (by omega)]; exact hb) (Ev.now _))))), ?_⟩
        rw [show (x == rd l (i : Int)) = true by simpa using hb]
        simp
      · refine ⟨r, Ev.step (fun k => slices_Index_Sint_int.l0.eq_2 ..) (Ev.ite_pos (by omega) (Ev.ite_pos (by omega) (Ev.ite_pos (by omega) (Ev.ite_neg (by rw [rd_takeI l n i (by omega)]; exact hb) ?_)))), ?_⟩
        · rw [wrap_nat i (by omega)]
          exact hr
        · rw [he, show (x == rd l (i : Int)) = false by simpa using hb, Bool.false_or]
  obtain ⟨r, hr, he⟩ := key n 0 (by omega)
  unfold slices_Contains_Sint_int.f slices_Index_Sint_int.f
  rw [hlen]
  refine Ev.bind hr (Ev.const ?_)
  rw [he, List.drop_zero]
theorem isElement_eq (n x : Int) : impl_isElement.f n x = some (inE n x) := by
  unfold impl_isElement.f inE
  by_cases h : x ≥ 0
  · rw [if_pos h]
    simp [h]
  · rw [if_neg h]
    simp [show ¬ 0 ≤ x by omega]
theorem impl_areDifferent_ev (n : Int) (l : List Int) (hl : l.length ≤ 1000000) : Ev (fun k => impl_areDifferent.f k n l) (diffB n l) := by
  unfold impl_areDifferent.f diffB
  refine Ev.loop_to (fun i k => impl_areDifferent.l0 k n l l l.length i) l.length (diffFrom n l) ?_ ?_ 0 (by omega)
  · refine Ev.step (fun k => impl_areDifferent.l0.eq_2 ..) (Ev.ite_neg (by omega) (Ev.const ?_))
    unfold diffFrom
    rw [List.drop_of_length_le (by simp)]
    rfl
  · intro i hi ih
    rw [diffFrom_step n l i hi]
    unfold okD
    refine Ev.step (fun k => impl_areDifferent.l0.eq_2 ..) (Ev.ite_pos (by omega) (Ev.ite_pos (by omega) (Ev.ite_pos (by omega) (Ev.bind0 (isElement_eq ..) ?_))))
    cases he : inE n (rd l (i : Int)) with
    | false => exact Ev.ite_neg (by simp) (Ev.now _)
    | true =>
      refine Ev.ite_pos rfl (Ev.ite_pos (by omega) ?_)
      rw [Int.toNat_natCast, wrap_nat i (by omega)]
      refine Ev.bind (containsI_ev l i (by omega) hl _) ?_
      cases hb : (List.range i).any fun j => rd l (i : Int) == rd l (j : Int) with
      | true => exact Ev.ite_pos rfl (Ev.now _)
      | false => exact Ev.ite_neg (by simp) (by simpa using ih)
theorem diff2 {n x y : Int} (h : diffB n [x, y] = true) : (0 ≤ x ∧ x < n) ∧ (0 ≤ y ∧ y < n) ∧ x ≠ y := by
  simp [diffB, diffFrom, okD, inE, rd, List.range_succ] at h
  omega
theorem diff3 {n x y z : Int} (h : diffB n [x, y, z] = true) : (0 ≤ x ∧ x < n) ∧ (0 ≤ y ∧ y < n) ∧ (0 ≤ z ∧ z < n) ∧ x ≠ y ∧ y ≠ z ∧ x ≠ z := by
  simp [diffB, diffFrom, okD, inE, rd, List.range_succ] at h
  omega
end Go.Proofs.Ytbmoaphiheoanaa.Pure

namespace Go.Proofs.Ytbmoaphiheoanaa.Pure
set_option linter.unusedSimpArgs false
set_option linter.unusedVariables false
open Go.RowKit Go.Proofs.YtbmoaphiheoanaaW.PrintWords Go.Proofs.Ytbmoaphiheoanaa.P Go.Proofs.Ytbmoaphiheoanaa.Pl
def okEx (n x y z : Nat) : Bool :=
  match src (tri n) 0 x y z with
  | some (q, b) => (List.range (tri n).length).all fun m => (let t := (tri n).getD m ⟨0, 0, 0⟩; par ⟨x, y, z⟩ t.f0 t.f1 t.f2 == if m = q then some b else none)
  | none => false
theorem all_ex : (List.range 8).all (fun n => (List.range n).all fun x => (List.range n).all fun y => (List.range n).all fun z => x == y || y == z || x == z || okEx n x y z) = true := by decide +kernel
theorem ex_ok (n x y z : Nat) (hn : n ≤ 7) (hx : x < n) (hy : y < n) (hz : z < n) (h1 : x ≠ y) (h2 : y ≠ z) (h3 : x ≠ z) : okEx n x y z = true := by
  have h := all_ex
  rw [List.all_eq_true] at h
  have h := h n (by simp; omega)
  rw [List.all_eq_true] at h
  have h := h x (by simpa using hx)
  rw [List.all_eq_true] at h
  have h := h y (by simpa using hy)
  rw [List.all_eq_true] at h
  have h := h z (by simpa using hz)
  simpa [h1, h2, h3] using h
/-- The reference's way to the place of three elements. -/
def place (n x y z : Int) : Option Int :=
  (spec_l1Min.f y z).bind fun t => (spec_l1Min.f x t).bind fun lo => (spec_l1Max.f y z).bind fun t' => (spec_l1Max.f x t').bind fun hi => spec_l3Index.f 60 n lo (wrap64 ((wrap64 ((wrap64 ((wrap64 (x + y)) + z)) - lo)) - hi)) hi
def okPl (n x y z : Nat) : Bool :=
  match src (tri n) 0 x y z, place n x y z with
  | some (q, _), some m => m == (q : Int) && decide (q < (tri n).length)
  | _, _ => false
theorem all_pl : (List.range 8).all (fun n => (List.range n).all fun x => (List.range n).all fun y => (List.range n).all fun z => x == y || y == z || x == z || okPl n x y z) = true := by decide +kernel
theorem pl_ok (n x y z : Nat) (hn : n ≤ 7) (hx : x < n) (hy : y < n) (hz : z < n) (h1 : x ≠ y) (h2 : y ≠ z) (h3 : x ≠ z) : okPl n x y z = true := by
  have h := all_pl
  rw [List.all_eq_true] at h
  have h := h n (by simp; omega)
  rw [List.all_eq_true] at h
  have h := h x (by simpa using hx)
  rw [List.all_eq_true] at h
  have h := h y (by simpa using hy)
  rw [List.all_eq_true] at h
  have h := h z (by simpa using hz)
  simpa [h1, h2, h3] using h
/-- Where three different elements stand in the text. -/
theorem src_some (n x y z : Nat) (hn : n ≤ 7) (hx : x < n) (hy : y < n) (hz : z < n) (h1 : x ≠ y) (h2 : y ≠ z) (h3 : x ≠ z) : ∃ q b, src (tri n) 0 x y z = some (q, b) ∧ q < (tri n).length ∧ place n x y z = some (q : Int) := by
  have h := pl_ok n x y z hn hx hy hz h1 h2 h3
  unfold okPl at h
  cases ha : src (tri n) 0 x y z with
  | none => rw [ha] at h; cases h
  | some p =>
    obtain ⟨q, b⟩ := p
    cases hb : place n x y z with
    | none => rw [ha, hb] at h; cases h
    | some m =>
      rw [ha, hb] at h
      simp only [Bool.and_eq_true, beq_iff_eq, decide_eq_true_eq] at h
      exact ⟨q, b, rfl, h.2, by rw [h.1]⟩
/-- The bytes' numbers of a text, the q-th exchanged. -/
def codesX (s : ByteArray) (len q : Nat) : List Int := (List.range len).map fun m : Nat => if m = q then (if bt s (m : Int) = 43 then 45 else 43) else bt s (m : Int)
theorem codes_of_set (n x y z : Nat) (hn : n ≤ 7) (hx : x < n) (hy : y < n) (hz : z < n) (h1 : x ≠ y) (h2 : y ≠ z) (h3 : x ≠ z) (s : ByteArray) (hs : s.size = (tri n).length) (hpm : ∀ m, m < s.size → isPM s m = true) (q : Nat) (b : Bool) (hq : src (tri n) 0 x y z = some (q, b)) :
    codesT (chiSet (tab n s) x y z (wrap64 (-(chiA (tab n s) x y z)))) (tri n) = codesX s (tri n).length q := by
  have h := ex_ok n x y z hn hx hy hz h1 h2 h3
  unfold okEx at h
  rw [hq] at h
  dsimp only at h
  rw [List.all_eq_true] at h
  apply List.ext_getElem
  · simp [codesT, codesX]
  · intro m hm hm'
    have hm1 : m < (tri n).length := by simpa [codesT] using hm
    have g := h m (by simpa using hm1)
    rw [getD_lt _ _ _ hm1] at g
    simp only [codesT, codesX, List.getElem_map, List.getElem_range]
    have hp := hpm m (by omega)
    have ht := tab_tri n hn s m hm1
    obtain ⟨a, b', c, k1, k2, k3, e⟩ := tri_nat n hn m hm1
    rw [e] at g ht ⊢
    dsimp only at g ht ⊢
    rw [chiA_set (tab n s) (tab_length n s) x y z (by omega) (by omega) (by omega) h1 h2 h3 _ a b' c (by omega) (by omega) (by omega)]
    have g' : par ⟨x, y, z⟩ a b' c = if m = q then some b else none := by simpa using g
    rw [g', ht, tab_at n hn s x y z (by omega) (by omega) (by omega)]
    unfold isPM at hp
    simp only [Bool.or_eq_true, beq_iff_eq] at hp
    by_cases hmq : m = q
    · subst hmq
      rw [if_pos rfl, if_pos rfl]
      unfold sg
      rw [hq]
      unfold sval sgAt pm
      cases b <;> rcases hp with hp | hp <;> simp [hp, wrap64]
    · rw [if_neg hmq, if_neg hmq]
      unfold sgAt pm
      rcases hp with hp | hp <;> simp [hp]
theorem bt_get (s : ByteArray) (m : Nat) (h : m < s.size) : UInt8.ofNat (bt s (m : Int)).toNat = s.data[m]'h := by
  unfold bt
  rw [dif_pos (by simpa using h)]
  simp
  rfl
theorem text_of_codes (s : ByteArray) (q : Nat) (hq : q < s.size) (c : Int) (hc : c = if bt s (q : Int) = 43 then 45 else 43) :
    strOfNums (codesX s s.size q) = ((s.extract 0 q) ++ (⟨#[UInt8.ofNat c.toNat]⟩ : ByteArray)) ++ (s.extract (q + 1) s.size) := by
  apply ByteArray.ext
  apply Array.ext'
  have hL : (strOfNums (codesX s s.size q)).data.toList = s.data.toList.set q (UInt8.ofNat c.toNat) := by
    apply List.ext_getElem
    · rw [List.length_set]
      simp [strOfNums, codesX]
    · intro m hm hm'
      have hm1 : m < s.size := by simpa [strOfNums, codesX] using hm
      rw [List.getElem_set]
      simp only [strOfNums, codesX, List.getElem_map, List.getElem_range, List.map_map, Function.comp]
      by_cases e : q = m
      · subst e
        rw [if_pos rfl, if_pos rfl, ← hc]
      · rw [if_neg e, if_neg (fun h => e h.symm), bt_get s m hm1]
        rfl
  rw [hL, List.set_eq_take_append_cons_drop]
  have hq' : q < s.data.toList.length := hq
  rw [if_pos hq']
  rw [ByteArray.data_append, ByteArray.data_append, Array.toList_append, Array.toList_append, ByteArray.data_extract, ByteArray.data_extract, Array.toList_extract, Array.toList_extract]
  simp only [List.extract_eq_take_drop, List.drop_zero, Nat.sub_zero, List.append_assoc, List.singleton_append]
  congr 2
  rw [List.take_of_length_le]
  rw [List.length_drop]
  exact Nat.le_refl _
theorem diff3_of {n x y z : Int} (h : (0 ≤ x ∧ x < n) ∧ (0 ≤ y ∧ y < n) ∧ (0 ≤ z ∧ z < n) ∧ x ≠ y ∧ y ≠ z ∧ x ≠ z) : diffB n [x, y, z] = true := by
  simp [diffB, diffFrom, okD, inE, rd, List.range_succ]
  omega
/-- What SignAt comes to. -/
def sgOf (n : Int) (s : ByteArray) (x y z : Int) : Int := if isS n s = true ∧ diffB n [x, y, z] = true then sg n.toNat s x y z else 0
theorem SignAt_ev (n : Int) (s : ByteArray) (x y z : Int) : Ev (fun k => spec_SignAt.f k n s x y z) (sgOf n s x y z) := by
  have hS := spec_AreSigns_ev n s
  unfold spec_SignAt.f sgOf
  cases hA : isS n s with
  | false =>
    rw [hA] at hS
    rw [if_neg (by simp)]
    exact Ev.bind hS (Ev.ite_neg (by simp) (Ev.now _))
  | true =>
    rw [hA] at hS
    obtain ⟨h3, h7, hs, _⟩ := isS_bounds hA
    have hw : wrap64 (n - 1) = n - 1 := wrap_in (by omega) (by omega)
    refine Ev.bind hS (Ev.ite_pos rfl ?_)
    rw [hw]
    refine Ev.bind0 (l1In_is ..) ?_
    by_cases hx : 0 ≤ x ∧ x ≤ n - 1
    · refine Ev.ite_pos (decide_eq_true hx) (Ev.bind0 (l1In_is ..) ?_)
      by_cases hy : 0 ≤ y ∧ y ≤ n - 1
      · refine Ev.ite_pos (decide_eq_true hy) (Ev.bind0 (l1In_is ..) ?_)
        by_cases hz : 0 ≤ z ∧ z ≤ n - 1
        · refine Ev.ite_pos (decide_eq_true hz) ?_
          by_cases h1 : x = y
          · rw [if_neg (fun h => (diff3 h.2).2.2.2.1 h1)]
            exact Ev.ite_pos h1 (Ev.now _)
          · refine Ev.ite_neg h1 ?_
            by_cases h2 : y = z
            · rw [if_neg (fun h => (diff3 h.2).2.2.2.2.1 h2)]
              exact Ev.ite_pos h2 (Ev.now _)
            · refine Ev.ite_neg h2 ?_
              by_cases h3' : x = z
              · rw [if_neg (fun h => (diff3 h.2).2.2.2.2.2 h3')]
                exact Ev.ite_pos h3' (Ev.now _)
              · refine Ev.ite_neg h3' ?_
                rw [if_pos ⟨rfl, diff3_of ⟨by omega, by omega, by omega, h1, h2, h3'⟩⟩]
                obtain ⟨n, rfl⟩ := Int.eq_ofNat_of_zero_le (show 0 ≤ n by omega)
                obtain ⟨x, rfl⟩ := Int.eq_ofNat_of_zero_le hx.1
                obtain ⟨y, rfl⟩ := Int.eq_ofNat_of_zero_le hy.1
                obtain ⟨z, rfl⟩ := Int.eq_ofNat_of_zero_le hz.1
                rw [Int.toNat_natCast] at hs ⊢
                exact Ev.bind (l3At_ev n (by omega) s hs x y z (by omega) (by omega) (by omega) (by omega) (by omega) (by omega)) (Ev.now _)
        · rw [if_neg (fun h => hz (by have := diff3 h.2; omega))]
          exact Ev.ite_neg (by simpa using hz) (Ev.now _)
      · rw [if_neg (fun h => hy (by have := diff3 h.2; omega))]
        exact Ev.ite_neg (by simpa using hy) (Ev.now _)
    · rw [if_neg (fun h => hx (by have := diff3 h.2; omega))]
      exact Ev.ite_neg (by simpa using hx) (Ev.now _)
theorem isS_pm {n : Int} {s : ByteArray} (h : isS n s = true) (m : Nat) (hm : m < s.size) : isPM s m = true := by
  unfold isS at h
  rw [Bool.and_eq_true, List.all_eq_true] at h
  exact h.2 m (by simpa using hm)
theorem l14_eq (n : Int) (s : ByteArray) (q : Nat) (hq : q < s.size) (hs : s.size ≤ 1000) : spec_l14Exchange.f n s q = some (n, strOfNums (codesX s s.size q)) := by
  have hw : wrap64 ((q : Int) + 1) = ((q + 1 : Nat) : Int) := wrap_nat q (by omega)
  have e1 : ∀ c : UInt8, ((s.extract 0 q) ++ (⟨#[c]⟩ : ByteArray)).size = q + 1 := by
    intro c
    rw [ByteArray.size_append, ByteArray.size_extract]
    show min q s.size - 0 + 1 = q + 1
    omega
  have e2 : (s.extract 0 q).size = q := by rw [ByteArray.size_extract]; omega
  have e3 : (s.extract (q + 1) s.size).size ≤ 1000 := by rw [ByteArray.size_extract]; omega
  unfold spec_l14Exchange.f
  rw [if_pos (by omega), if_pos (by omega)]
  simp only [hw, Int.toNat_natCast]
  by_cases h43 : bt s (q : Int) = 43
  · rw [if_pos h43, if_pos (by omega), if_pos (by omega), if_pos (by omega), if_pos (by omega), if_pos (by rw [e1]; omega)]
    rw [text_of_codes s q hq 45 (by rw [if_pos h43])]
    rfl
  · rw [if_neg h43, if_pos (by omega), if_pos (by omega), if_pos (by omega), if_pos (by omega), if_pos (by rw [e1]; omega)]
    rw [text_of_codes s q hq 43 (by rw [if_neg h43])]
    rfl
/-- The text with one sign exchanged. -/
def exT (n : Nat) (s : ByteArray) (x y z : Int) : ByteArray := strOfNums (codesX s s.size (((src (tri n) 0 x y z).map Prod.fst).getD 0))
/-- ExchangeSign in plain words. -/
def exS (n : Int) (s : ByteArray) (x y z : Int) : Int × ByteArray × Bool := if isS n s = true ∧ diffB n [x, y, z] = true then (n, exT n.toNat s x y z, true) else (0, ⟨#[]⟩, false)
theorem spec_Exchange_ev (n : Int) (s : ByteArray) (x y z : Int) : Ev (fun k => spec_ExchangeSign.f k n s x y z) (exS n s x y z) := by
  have hA := SignAt_ev n s x y z
  unfold sgOf at hA
  unfold spec_ExchangeSign.f exS
  refine Ev.bind hA ?_
  by_cases h : isS n s = true ∧ diffB n [x, y, z] = true
  · rw [if_pos h, if_pos h]
    obtain ⟨h3, h7, hs, hs35⟩ := isS_bounds h.1
    have hd := diff3 h.2
    obtain ⟨n, rfl⟩ := Int.eq_ofNat_of_zero_le (show 0 ≤ n by omega)
    obtain ⟨x, rfl⟩ := Int.eq_ofNat_of_zero_le hd.1.1
    obtain ⟨y, rfl⟩ := Int.eq_ofNat_of_zero_le hd.2.1.1
    obtain ⟨z, rfl⟩ := Int.eq_ofNat_of_zero_le hd.2.2.1.1
    rw [Int.toNat_natCast] at hs ⊢
    have hpm := sg_pm n (by omega) s x y z (by omega) (by omega) (by omega) (by omega) (by omega) (by omega)
    obtain ⟨q, b, hq, hq1, hpl⟩ := src_some n x y z (by omega) (by omega) (by omega) (by omega) (by omega) (by omega) (by omega)
    refine Ev.ite_neg (by rcases hpm with h | h <;> rw [h] <;> decide) ?_
    unfold place at hpl
    obtain ⟨t1, p1, hpl⟩ := Option.bind_eq_some_iff.mp hpl
    obtain ⟨t2, p2, hpl⟩ := Option.bind_eq_some_iff.mp hpl
    obtain ⟨t3, p3, hpl⟩ := Option.bind_eq_some_iff.mp hpl
    obtain ⟨t4, p4, hpl⟩ := Option.bind_eq_some_iff.mp hpl
    refine Ev.bind0 p1 (Ev.bind0 p2 (Ev.bind0 p3 (Ev.bind0 p4 (Ev.bind (l3Index_ev hpl) (Ev.bind0 (l14_eq n s q (by omega) (by omega)) (Ev.const ?_))))))
    unfold exT
    rw [hq]
    rfl
  · rw [if_neg h, if_neg h]
    exact Ev.ite_pos rfl (Ev.now _)
theorem impl_Exchange_ev (n : Int) (s : ByteArray) (x y z : Int) : Ev (fun k => impl_ExchangeSign.f k n s x y z) (exS n s x y z) := by
  have hI := impl_AreSigns_ev n s
  unfold impl_ExchangeSign.f exS
  have none_ : Ev (fun k => impl_ExchangeSign.j0 k x y z true n s) ((0 : Int), (⟨#[]⟩ : ByteArray), false) := Ev.step (fun k => impl_ExchangeSign.j0.eq_2 ..) (Ev.ite_pos rfl (Ev.now _))
  cases hA : isS n s with
  | false =>
    rw [hA] at hI
    rw [if_neg (by simp)]
    exact Ev.bind hI (Ev.ite_neg (by simp) none_)
  | true =>
    rw [hA] at hI
    obtain ⟨h3, h7, hs, hs35⟩ := isS_bounds hA
    have dI := impl_areDifferent_ev n [x, y, z] (by simp)
    cases hD : diffB n [x, y, z] with
    | false =>
      rw [hD] at dI
      rw [if_neg (by simp)]
      exact Ev.bind hI (Ev.ite_pos rfl (Ev.bind dI none_))
    | true =>
      rw [hD] at dI
      rw [if_pos ⟨rfl, rfl⟩]
      have hd := diff3 hD
      have hpm := fun m hm => isS_pm hA m hm
      obtain ⟨n, rfl⟩ := Int.eq_ofNat_of_zero_le (show 0 ≤ n by omega)
      obtain ⟨x, rfl⟩ := Int.eq_ofNat_of_zero_le hd.1.1
      obtain ⟨y, rfl⟩ := Int.eq_ofNat_of_zero_le hd.2.1.1
      obtain ⟨z, rfl⟩ := Int.eq_ofNat_of_zero_le hd.2.2.1.1
      rw [Int.toNat_natCast] at hs ⊢
      obtain ⟨q, b, hq, hq1, _⟩ := src_some n x y z (by omega) (by omega) (by omega) (by omega) (by omega) (by omega) (by omega)
      have hl := tab_length n s
      have hset : impl_chi_set.f (tab n s) x y z (wrap64 (-(chiA (tab n s) x y z))) = some (chiSet (tab n s) x y z (wrap64 (-(chiA (tab n s) x y z)))) := by
        unfold impl_chi_set.f
        rw [if_pos ⟨hl, by omega, by omega, by omega⟩]
      have hcn : chiN (chiSet (tab n s) x y z (wrap64 (-(chiA (tab n s) x y z)))) = n := by
        have := chiN_put3 (tab n s) hl ⟨x, y, z⟩ (wrap64 (-(chiA (tab n s) x y z)))
        rw [tab_n] at this
        exact this
      have hsig := signs_ev n (by omega) _ (by rw [chiSet_length]; exact hl) hcn
      rw [codes_of_set n x y z (by omega) (by omega) (by omega) (by omega) (by omega) (by omega) (by omega) s hs hpm q b hq] at hsig
      refine Ev.bind hI (Ev.ite_pos rfl (Ev.bind dI (Ev.step (fun k => impl_ExchangeSign.j0.eq_2 ..) (Ev.ite_neg (by simp) (Ev.bind (tableOf_ev n (by omega) s hs) ?_)))))
      refine Ev.ite_pos (by omega) (Ev.ite_pos (by omega) (Ev.ite_pos (by omega) (Ev.ite_pos (by omega) (Ev.ite_pos (by omega) (Ev.ite_pos (by omega) (Ev.ite_pos (by omega) ?_))))))
      refine Ev.bind0 hset (Ev.bind hsig (Ev.const ?_))
      unfold exT
      rw [hq, hs]
      rfl
end Go.Proofs.Ytbmoaphiheoanaa.Pure

namespace Go.Proofs.Ytbmoaphiheoanaa.Pure
set_option linter.unusedSimpArgs false
set_option linter.unusedVariables false
open Go.RowKit Go.Proofs.YtbmoaphiheoanaaW.PrintWords Go.Proofs.Ytbmoaphiheoanaa.P Go.Proofs.Ytbmoaphiheoanaa.Pl Go.Proofs.Ytbmoaphiheoanaa.Rk
theorem szSigns_eqM (n : Int) (s : ByteArray) (a : Int) (h0 : 0 ≤ a) (h1 : a ≤ 1048576) (hl : s.size ≤ 9223372036854775807) : laws_szSigns.f n s a = some (if a < s.size then -1 else a - s.size) := by
  unfold laws_szSigns.f
  rw [wrap_in (by omega) (by omega)]
  by_cases h : a < (s.size : Int)
  · rw [if_pos h, if_pos (by omega)]
  · rw [if_neg h, if_neg (by omega)]
def isMut (n : Int) (s : ByteArray) (x y z : Int) : Bool := (exS n s x y z).2.2 && (isM n s && isM (exS n s x y z).1 (exS n s x y z).2.1)
theorem spec_mut_ev (n : Int) (s : ByteArray) (x y z : Int) : Ev (fun k => spec_IsMutation.f k n s x y z) (isMut n s x y z) := by
  unfold spec_IsMutation.f isMut
  refine Ev.bind (spec_Exchange_ev n s x y z) ?_
  cases (exS n s x y z).2.2 with
  | false => exact Ev.ite_neg (by simp) (Ev.now _)
  | true =>
    refine Ev.ite_pos rfl (Ev.bind (spec_IsMatroid_ev n s) ?_)
    cases isM n s with
    | false => exact Ev.ite_neg (by simp) (Ev.now _)
    | true => exact Ev.ite_pos rfl (Ev.bind (spec_IsMatroid_ev _ _) (Ev.now _))
theorem impl_mut_ev (n : Int) (s : ByteArray) (x y z : Int) : Ev (fun k => impl_IsMutation.f k n s x y z) (isMut n s x y z) := by
  unfold impl_IsMutation.f isMut
  refine Ev.bind (impl_Exchange_ev n s x y z) ?_
  cases (exS n s x y z).2.2 with
  | false => exact Ev.ite_neg (by simp) (Ev.now _)
  | true =>
    refine Ev.ite_pos rfl (Ev.bind (impl_IsMatroid_ev n s) ?_)
    cases isM n s with
    | false => exact Ev.ite_neg (by simp) (Ev.now _)
    | true => exact Ev.ite_pos rfl (Ev.bind (impl_IsMatroid_ev _ _) (Ev.now _))
theorem FnExactIsMutation (s0 : S23) (a1 a2 a3 : Int) (hq : Q23 s0) (_ : I64 a1) (_ : I64 a2) (_ : I64 a3) : ∃ k, laws_FnExactIsMutation.f k s0.f0 s0.f1 a1 a2 a3 = some true := by
  refine Ev.rounds (g := fun k => laws_FnExactIsMutation.f k s0.f0 s0.f1 a1 a2 a3) ?_
  unfold laws_FnExactIsMutation.f
  refine Ev.bind0 (szSigns_eqM _ _ 1048576 (by omega) (by omega) hq.2) ?_
  by_cases hs : 1048576 < (s0.f1.size : Int)
  · rw [if_pos hs]
    exact Ev.ite_pos (by omega) (Ev.now _)
  rw [if_neg hs]
  refine Ev.ite_neg (by omega) ?_
  refine Ev.bind0 rfl (Ev.bind (spec_mut_ev _ _ a1 a2 a3) (Ev.bind0 rfl (Ev.bind (impl_mut_ev _ _ a1 a2 a3) ?_)))
  exact Ev.ite_neg (by simp) (Ev.now _)
end Go.Proofs.Ytbmoaphiheoanaa.Pure
