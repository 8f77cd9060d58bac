/- What the law FnExactSeesAll reaches, part 9: functions as plain Lean functions with the proofs that their calls come to them, and plain lemmas over these. Put together by a program (wip/pack.py). -/
import Derived.Test.YtbglgapndefcfaaKFnExactSeesAllc
import Derived.Test.YtbglgapndefcfaaKFnExactSeesAllh
namespace Go.Proofs.Ytbglgapndefcfaa.P
open Go.RowKit Go.Proofs.YtbglgapndefcfaaW.PrintWords Go.Proofs.YtbglgapndefcfaaW.PrintLast Go.Proofs.YtbglgapndefcfaaW.PrintMore
attribute [local go_sem] ptrOf_slice
attribute [local go_sem] max2_int min2_int max_two min_two max_three min_three max_four min_four
set_option linter.unusedVariables false
set_option linter.unusedSimpArgs false
mutual
def impl_AreSigns.j0 : Nat → Bool → Int → ByteArray → Option (Bool)
 | 0, _, _, _ => none
 | k + 1, x28, x168000, x168001 => if x28 = true then (some false) else (impl_AreSigns.l0 k 0 x168000 x168001)
def impl_AreSigns.l0 : Nat → Int → Int → ByteArray → Option (Bool)
 | 0, _, _, _ => none
 | k + 1, x3, x168000, x168001 => if x3 < (x168001.size : Int) then (if 0 ≤ x3 then (if (bt x168001 x3) = 43 then (impl_AreSigns.l0 k (wrap64 (x3 + 1)) x168000 x168001) else (if (bt x168001 x3) = 45 then (impl_AreSigns.l0 k (wrap64 (x3 + 1)) x168000 x168001) else (some false))) else (none)) else (some true)
end
def impl_AreSigns.f (k : Nat) (a0_0 : Int) (a0_1 : ByteArray) : Option (Bool) := if a0_0 < 3 then (impl_AreSigns.j0 k true a0_0 a0_1) else (if a0_0 > 7 then (impl_AreSigns.j0 k true a0_0 a0_1) else (impl_AreSigns.j0 k ((a0_1.size : Int) != (wrap64 (Int.tdiv (wrap64 ((wrap64 (a0_0 * (wrap64 (a0_0 - 1)))) * (wrap64 (a0_0 - 2)))) 6))) a0_0 a0_1))
theorem impl_AreSigns.mono_l : ∀ k, (∀ y0 y1 y2, LeO (impl_AreSigns.j0 k y0 y1 y2) (impl_AreSigns.j0 (k + 1) y0 y1 y2)) ∧ (∀ y0 y1 y2, LeO (impl_AreSigns.l0 k y0 y1 y2) (impl_AreSigns.l0 (k + 1) y0 y1 y2))
 | 0 => ⟨fun _ _ _ r h => by simp [impl_AreSigns.j0] at h, fun _ _ _ r h => by simp [impl_AreSigns.l0] at h⟩
 | k + 1 => by
  obtain ⟨ih0, ih1⟩ := impl_AreSigns.mono_l k
  refine ⟨?_, ?_⟩
  ·intro y0 y1 y2
   unfold impl_AreSigns.j0
   repeat' first
   | (with_reducible exact ih0 _ _ _)
   | (with_reducible exact ih1 _ _ _)
   | (with_reducible exact LeO.refl _)
   | (with_reducible exact LeO.none _)
   | (with_reducible refine LeO.ite ?_ ?_)
   | (with_reducible refine LeO.bind ?_ (fun _ => ?_))
   | exact ih0 _ _ _
   | exact ih1 _ _ _
   | exact LeO.none _
   | refine LeO.ite ?_ ?_
   | refine LeO.bind ?_ (fun _ => ?_)
  ·intro y0 y1 y2
   unfold impl_AreSigns.l0
   repeat' first
   | (with_reducible exact ih0 _ _ _)
   | (with_reducible exact ih1 _ _ _)
   | (with_reducible exact LeO.refl _)
   | (with_reducible exact LeO.none _)
   | (with_reducible refine LeO.ite ?_ ?_)
   | (with_reducible refine LeO.bind ?_ (fun _ => ?_))
   | exact ih0 _ _ _
   | exact ih1 _ _ _
   | exact LeO.none _
   | refine LeO.ite ?_ ?_
   | refine LeO.bind ?_ (fun _ => ?_)
theorem impl_AreSigns.mono : ∀ a0 a1 k, LeO (impl_AreSigns.f k a0 a1) (impl_AreSigns.f (k + 1) a0 a1) := by
 intro a0 a1 k
 obtain ⟨ih0, ih1⟩ := impl_AreSigns.mono_l k
 unfold impl_AreSigns.f
 repeat' first
   | (with_reducible exact ih0 _ _ _)
   | (with_reducible exact ih1 _ _ _)
   | (with_reducible exact LeO.refl _)
   | (with_reducible exact LeO.none _)
   | (with_reducible refine LeO.ite ?_ ?_)
   | (with_reducible refine LeO.bind ?_ (fun _ => ?_))
   | exact ih0 _ _ _
   | exact ih1 _ _ _
   | exact LeO.none _
   | refine LeO.ite ?_ ?_
   | refine LeO.bind ?_ (fun _ => ?_)
set_option maxHeartbeats 8000000 in
set_option maxRecDepth 100000 in
theorem impl_AreSigns.calls (k : Nat) (a0_0 : Int) (a0_1 : ByteArray) (r : Bool) (w : World) (h : impl_AreSigns.f k a0_0 a0_1 = some r) :
  Calls Try.prog 94 #[.agg #[.int .i64 a0_0, .string a0_1]] w fun e w' => e = .returned (.bool r) ∧ Below w.heap.size w w' := by
 have hu26 := Try.underlying26
 have HB := Aside0.mk (Below.refl w.heap.size w)
 have H : (if a0_0 < 3 then (impl_AreSigns.j0 k true a0_0 a0_1) else (if a0_0 > 7 then (impl_AreSigns.j0 k true a0_0 a0_1) else (impl_AreSigns.j0 k ((a0_1.size : Int) != (wrap64 (Int.tdiv (wrap64 ((wrap64 (a0_0 * (wrap64 (a0_0 - 1)))) * (wrap64 (a0_0 - 2)))) 6))) a0_0 a0_1))) = some r := h
 clear h
 have HC2 := Aside0.mk H
 clear H
 go_enter Try.func94, Try.ntmps94
 go_upto_region 1 with (first | ((with_reducible refine gate_dst (N := 1) rfl ?_); (try (refine gate_guard (by rfl) ?_; dsimp only)); refine box_event ?hg (N := 1) ?hd (cs := #[.int .i64 a0_0, .string a0_1]) (t := 26) ?hr ?_; (case hd => rfl); (case hg => rfl); (case hr => first | (go_simp; done) | (go_simp; rfl)); intro gb167 hg w3 hbox hb; have n0_ := Aside0.mk (below_step (by repeat (first | (with_reducible first | exact HB.out | apply below_alloc | apply pw_below_drewN | apply below_drew1) | exact HB.out)) hb); have n1_ := Aside0.mk (hbox); have n2_ := Aside0.mk ((by rw [hg]; exact (below_size (by repeat (first | (with_reducible first | exact HB.out | apply below_alloc | apply pw_below_drewN | apply below_drew1) | exact HB.out))) : w.heap.size ≤ gb167)); have n3_ := Aside0.mk ((by rw [hg]; exact (below_size (by repeat (first | (with_reducible first | exact HB.out | apply below_alloc | apply pw_below_drewN | apply below_drew1) | exact HB.out))) : w.heap.size ≤ gb167)); clear HB; have HB := n0_; have BK167 := n1_; have GW167 := n2_; have GE167 := n3_; clear n0_ n1_ n2_ n3_; clear hb hbox hg))
 (try simp only [Act.put, List.setIfInBounds_toArray, List.set_cons_zero, List.set_cons_succ])
 go_cut [28] (fun v28 wc => ∃ (kq : Nat) (x28_1 : Bool), v28 = .bool x28_1 ∧ Aside0 (impl_AreSigns.j0 kq x28_1 a0_0 a0_1 = some r) ∧ Aside0 (kq ≤ k) ∧ Aside0 (wc.heap[gb167]? = some (.cells #[.int .i64 a0_0, .string a0_1] 26 (0, 0))) ∧ Aside0 (Below w.heap.size w wc))
 case first =>
  have H := HC2.out
  clear HC2
  by_cases c4 : a0_0 < 3
  ·rw [if_pos c4] at H
   have c4b0 : decide (a0_0 < 3) = true := decide_eq_true c4
   clear c4
   (first | rw [c4b0] | (simp only [i64_w, i32_w]; rw [c4b0]) | skip)
   have H' := Aside0.mk H
   clear H
   have hcz5_0 : w3.cell? ⟨gb167, 0, none⟩ = some (.int .i64 a0_0) := (blk_cell BK167.out 0).trans rfl
   have hcz5_1 : w3.cell? ⟨gb167, 1, none⟩ = some (.string a0_1) := (blk_cell BK167.out 1).trans rfl
   have hfz5_0 := blk_frozen BK167.out 0
   have hfz5_1 := blk_frozen BK167.out 1
   go_wp2
   go_meet
   case rel => exact ⟨_, (true), (by first | rfl | (simp; done) | (simp [*]; done)), H', ⟨by first | omega | exact Nat.le_refl _⟩, ⟨by (with_reducible repeat (first | refine blk_drewN ?_ _ | refine blk_drew ?_ | refine blk_alloc ?_ _)); exact BK167.out⟩, ⟨by repeat (first | (with_reducible first | exact HB.out | apply below_alloc | apply pw_below_drewN | apply below_drew1 | refine below_set ?_ GE167.out) | exact HB.out)⟩⟩
  ·rw [if_neg c4] at H
   have c4b0 : decide (a0_0 < 3) = false := decide_eq_false c4
   clear c4
   (first | rw [c4b0] | (simp only [i64_w, i32_w]; rw [c4b0]) | skip)
   by_cases c6 : a0_0 > 7
   ·rw [if_pos c6] at H
    have c6b0 : decide (7 < a0_0) = true := decide_eq_true c6
    clear c6
    have H' := Aside0.mk H
    clear H
    have hcz7_0 : w3.cell? ⟨gb167, 0, none⟩ = some (.int .i64 a0_0) := (blk_cell BK167.out 0).trans rfl
    have hcz7_1 : w3.cell? ⟨gb167, 1, none⟩ = some (.string a0_1) := (blk_cell BK167.out 1).trans rfl
    have hfz7_0 := blk_frozen BK167.out 0
    have hfz7_1 := blk_frozen BK167.out 1
    go_wp2
    go_meet
    case rel => exact ⟨_, (true), (by first | rfl | (simp; done) | (simp [*]; done)), H', ⟨by first | omega | exact Nat.le_refl _⟩, ⟨by (with_reducible repeat (first | refine blk_drewN ?_ _ | refine blk_drew ?_ | refine blk_alloc ?_ _)); exact BK167.out⟩, ⟨by repeat (first | (with_reducible first | exact HB.out | apply below_alloc | apply pw_below_drewN | apply below_drew1 | refine below_set ?_ GE167.out) | exact HB.out)⟩⟩
   ·rw [if_neg c6] at H
    have c6b0 : decide (7 < a0_0) = false := decide_eq_false c6
    clear c6
    have H' := Aside0.mk H
    clear H
    have hcz8_0 : w3.cell? ⟨gb167, 0, none⟩ = some (.int .i64 a0_0) := (blk_cell BK167.out 0).trans rfl
    have hcz8_1 : w3.cell? ⟨gb167, 1, none⟩ = some (.string a0_1) := (blk_cell BK167.out 1).trans rfl
    have hfz8_0 := blk_frozen BK167.out 0
    have hfz8_1 := blk_frozen BK167.out 1
    go_wp2
    go_meet
    case rel => exact ⟨_, (((a0_1.size : Int) != (wrap64 (Int.tdiv (wrap64 ((wrap64 (a0_0 * (wrap64 (a0_0 - 1)))) * (wrap64 (a0_0 - 2)))) 6)))), (by first | rfl | (simp; done) | (simp [*]; done)), H', ⟨by first | omega | exact Nat.le_refl _⟩, ⟨by (with_reducible repeat (first | refine blk_drewN ?_ _ | refine blk_drew ?_ | refine blk_alloc ?_ _)); exact BK167.out⟩, ⟨by repeat (first | (with_reducible first | exact HB.out | apply below_alloc | apply pw_below_drewN | apply below_drew1 | refine below_set ?_ GE167.out) | exact HB.out)⟩⟩
 case rest =>
  clear HC2
  try clear p2
  try clear c4
  try clear c4b0
  try clear c6
  try clear c6b0
  try clear p6
  try clear hcz5_0
  try clear hcz5_1
  try clear hcz7_0
  try clear hcz7_1
  try clear hcz8_0
  try clear hcz8_1
  try clear hfz5_0
  try clear hfz5_1
  try clear hfz7_0
  try clear hfz7_1
  try clear hfz8_0
  try clear hfz8_1
  obtain ⟨kq, x28_1, rfl, HA, HJ1, BK167, HB⟩ := hcut
  cases kq with
  | zero => exact absurd HA.out (by simp [impl_AreSigns.j0])
  | succ kj1 =>
   have H := HA.out
   clear HA
   simp only [impl_AreSigns.j0] at H
   by_cases c9 : x28_1 = true
   ·subst c9
    have H1 : (some false) = some r := by rw [if_pos rfl] at H; exact H
    clear H
    have H := H1
    clear H1
    obtain rfl := Option.some.inj H
    go_wp2
    go_ret
    exact ⟨by first | rfl | (simp [errW_none, errW_some] <;> rfl) | (simp [*, errW_none, errW_some] <;> rfl), by repeat (first | (with_reducible first | exact HB.out | apply below_alloc | apply pw_below_drewN | apply below_drew1 | refine below_set ?_ GE167.out) | exact HB.out)⟩
   ·replace c9 := Bool.eq_false_iff.mpr c9
    subst c9
    have H1 : (impl_AreSigns.l0 kj1 0 a0_0 a0_1) = some r := by rw [if_neg (show ¬ (false = true) by decide)] at H; exact H
    clear H
    have H := H1
    clear H1
    have H' := Aside0.mk H
    clear H
    go_wp2
    go_loopg [3] kj1 (fun kq v3 w' => ∃ (x3_2 : Int), v3 = .int .i64 x3_2 ∧ Aside0 (impl_AreSigns.l0 kq x3_2 a0_0 a0_1 = some r) ∧ Aside0 (kq ≤ kj1) ∧ Aside0 (w'.heap[gb167]? = some (.cells #[.int .i64 a0_0, .string a0_1] 26 (0, 0))) ∧ Aside0 (Below w.heap.size w w'))
    case atStart => exact ⟨(0), (by first | rfl | (simp; done) | (simp [*]; done)), H', ⟨Nat.le_refl _⟩, ⟨by (with_reducible repeat (first | refine blk_drewN ?_ _ | refine blk_drew ?_ | refine blk_alloc ?_ _)); exact BK167.out⟩, ⟨by repeat (first | (with_reducible first | exact HB.out | apply below_alloc | apply pw_below_drewN | apply below_drew1 | refine below_set ?_ GE167.out) | exact HB.out)⟩⟩
    case round =>
     clear H'
     try clear p2
     try clear c4
     try clear c4b0
     try clear c6
     try clear c6b0
     try clear p6
     try clear c9
     try clear hcz5_0
     try clear hcz5_1
     try clear hcz7_0
     try clear hcz7_1
     try clear hcz8_0
     try clear hcz8_1
     try clear hfz5_0
     try clear hfz5_1
     try clear hfz7_0
     try clear hfz7_1
     try clear hfz8_0
     try clear hfz8_1
     try clear p2
     try clear p6
     obtain ⟨x3_2, rfl, HA, HK2, BK167, HB⟩ := hrel
     cases gk with
     | zero => exact absurd HA.out (by simp [impl_AreSigns.l0])
     | succ k2 =>
      have H := HA.out
      clear HA
      simp only [impl_AreSigns.l0] at H
      by_cases c10 : x3_2 < (a0_1.size : Int)
      ·rw [if_pos c10] at H
       have c10b0 : decide (x3_2 < (a0_1.size : Int)) = true := decide_eq_true c10
       clear c10
       by_cases c11 : 0 ≤ x3_2
       ·rw [if_pos c11] at H
        have c11b0 : decide (0 ≤ x3_2) = true := decide_eq_true c11
        clear c11
        by_cases c13 : (bt a0_1 x3_2) = 43
        ·rw [if_pos c13] at H
         have c13b0 : ((bt a0_1 x3_2) == 43) = true := beq_iff_eq.mpr c13
         have c13b1 : ((bt a0_1 x3_2) != 43) = false := bne_eq_false_iff_eq.mpr c13
         clear c13
         have H' := Aside0.mk H
         clear H
         have hcz14_0 : wr.cell? ⟨gb167, 0, none⟩ = some (.int .i64 a0_0) := (blk_cell BK167.out 0).trans rfl
         have hcz14_1 : wr.cell? ⟨gb167, 1, none⟩ = some (.string a0_1) := (blk_cell BK167.out 1).trans rfl
         have hfz14_0 := blk_frozen BK167.out 0
         have hfz14_1 := blk_frozen BK167.out 1
         have p12 : 0 ≤ (x3_2 : Int) := of_decide_eq_true (by first | (with_reducible assumption) | assumption)
         have q12 : x3_2 < (a0_1.size : Int) := of_decide_eq_true (by first | (with_reducible assumption) | assumption)
         have hx12 := bt_at a0_1 x3_2
         replace p12 := eq_true p12
         replace q12 := eq_true q12
         go_wp2
         go_roundg k2
         case measure => have := HJ1.out; have := HK2.out; omega
         case rel => exact ⟨(wrap64 (x3_2 + 1)), (by first | rfl | (simp; done) | (simp [*]; done)), H', ⟨by have := HJ1.out; have := HK2.out; omega⟩, ⟨by (with_reducible repeat (first | refine blk_drewN ?_ _ | refine blk_drew ?_ | refine blk_alloc ?_ _)); exact BK167.out⟩, ⟨by repeat (first | (with_reducible first | exact HB.out | apply below_alloc | apply pw_below_drewN | apply below_drew1 | refine below_set ?_ GE167.out) | exact HB.out)⟩⟩
        ·rw [if_neg c13] at H
         have c13b0 : ((bt a0_1 x3_2) == 43) = false := beq_eq_false_iff_ne.mpr c13
         have c13b1 : ((bt a0_1 x3_2) != 43) = true := bne_iff_ne.mpr c13
         by_cases c16 : (bt a0_1 x3_2) = 45
         ·rw [if_pos c16] at H
          have c16b0 : ((bt a0_1 x3_2) == 45) = true := beq_iff_eq.mpr c16
          have c16b1 : ((bt a0_1 x3_2) != 45) = false := bne_eq_false_iff_eq.mpr c16
          clear c16
          have H' := Aside0.mk H
          clear H
          have hcz17_0 : wr.cell? ⟨gb167, 0, none⟩ = some (.int .i64 a0_0) := (blk_cell BK167.out 0).trans rfl
          have hcz17_1 : wr.cell? ⟨gb167, 1, none⟩ = some (.string a0_1) := (blk_cell BK167.out 1).trans rfl
          have hfz17_0 := blk_frozen BK167.out 0
          have hfz17_1 := blk_frozen BK167.out 1
          have p12 : 0 ≤ (x3_2 : Int) := of_decide_eq_true (by first | (with_reducible assumption) | assumption)
          have q12 : x3_2 < (a0_1.size : Int) := of_decide_eq_true (by first | (with_reducible assumption) | assumption)
          have hx12 := bt_at a0_1 x3_2
          replace p12 := eq_true p12
          replace q12 := eq_true q12
          have p15 : 0 ≤ (x3_2 : Int) := of_decide_eq_true (by first | (with_reducible assumption) | assumption)
          have q15 : x3_2 < (a0_1.size : Int) := of_decide_eq_true (by first | (with_reducible assumption) | assumption)
          have hx15 := bt_at a0_1 x3_2
          replace p15 := eq_true p15
          replace q15 := eq_true q15
          go_wp2
          go_roundg k2
          case measure => have := HJ1.out; have := HK2.out; omega
          case rel => exact ⟨(wrap64 (x3_2 + 1)), (by first | rfl | (simp; done) | (simp [*]; done)), H', ⟨by have := HJ1.out; have := HK2.out; omega⟩, ⟨by (with_reducible repeat (first | refine blk_drewN ?_ _ | refine blk_drew ?_ | refine blk_alloc ?_ _)); exact BK167.out⟩, ⟨by repeat (first | (with_reducible first | exact HB.out | apply below_alloc | apply pw_below_drewN | apply below_drew1 | refine below_set ?_ GE167.out) | exact HB.out)⟩⟩
         ·rw [if_neg c16] at H
          have c16b0 : ((bt a0_1 x3_2) == 45) = false := beq_eq_false_iff_ne.mpr c16
          have c16b1 : ((bt a0_1 x3_2) != 45) = true := bne_iff_ne.mpr c16
          obtain rfl := Option.some.inj H
          have hcz18_0 : wr.cell? ⟨gb167, 0, none⟩ = some (.int .i64 a0_0) := (blk_cell BK167.out 0).trans rfl
          have hcz18_1 : wr.cell? ⟨gb167, 1, none⟩ = some (.string a0_1) := (blk_cell BK167.out 1).trans rfl
          have hfz18_0 := blk_frozen BK167.out 0
          have hfz18_1 := blk_frozen BK167.out 1
          have p12 : 0 ≤ (x3_2 : Int) := of_decide_eq_true (by first | (with_reducible assumption) | assumption)
          have q12 : x3_2 < (a0_1.size : Int) := of_decide_eq_true (by first | (with_reducible assumption) | assumption)
          have hx12 := bt_at a0_1 x3_2
          replace p12 := eq_true p12
          replace q12 := eq_true q12
          have p15 : 0 ≤ (x3_2 : Int) := of_decide_eq_true (by first | (with_reducible assumption) | assumption)
          have q15 : x3_2 < (a0_1.size : Int) := of_decide_eq_true (by first | (with_reducible assumption) | assumption)
          have hx15 := bt_at a0_1 x3_2
          replace p15 := eq_true p15
          replace q15 := eq_true q15
          go_wp2
          go_ret
          exact ⟨by first | rfl | (simp [errW_none, errW_some] <;> rfl) | (simp [*, errW_none, errW_some] <;> rfl), by repeat (first | (with_reducible first | exact HB.out | apply below_alloc | apply pw_below_drewN | apply below_drew1 | refine below_set ?_ GE167.out) | exact HB.out)⟩
       ·rw [if_neg c11] at H
        exact absurd H (by simp)
      ·rw [if_neg c10] at H
       have c10b0 : decide (x3_2 < (a0_1.size : Int)) = false := decide_eq_false c10
       clear c10
       obtain rfl := Option.some.inj H
       have hcz19_0 : wr.cell? ⟨gb167, 0, none⟩ = some (.int .i64 a0_0) := (blk_cell BK167.out 0).trans rfl
       have hcz19_1 : wr.cell? ⟨gb167, 1, none⟩ = some (.string a0_1) := (blk_cell BK167.out 1).trans rfl
       have hfz19_0 := blk_frozen BK167.out 0
       have hfz19_1 := blk_frozen BK167.out 1
       go_wp2
       go_ret
       exact ⟨by first | rfl | (simp [errW_none, errW_some] <;> rfl) | (simp [*, errW_none, errW_some] <;> rfl), by repeat (first | (with_reducible first | exact HB.out | apply below_alloc | apply pw_below_drewN | apply below_drew1 | refine below_set ?_ GE167.out) | exact HB.out)⟩
mutual
def impl_quadsOf.l0 : Nat → Int → List (S97) → List (S107) → Int → Int → Option ((List (S97)))
 | 0, _, _, _, _, _ => none
 | k + 1, x0, x3, x8, x9, x10 => if x10 < x9 then (if 0 ≤ x10 then (if x10 < (x8.length : Int) then (impl_quadsOf.l1 k x0 x3 (wrap64 (((rd_T107 x8 x10).f2) + 1)) x8 x9 x10 ((rd_T107 x8 x10).f0) ((rd_T107 x8 x10).f1) ((rd_T107 x8 x10).f2)) else (none)) else (none)) else (some x3)
def impl_quadsOf.l1 : Nat → Int → List (S97) → Int → List (S107) → Int → Int → Int → Int → Int → Option ((List (S97)))
 | 0, _, _, _, _, _, _, _, _, _ => none
 | k + 1, x0, x3, x6, x8, x9, x10, x435000, x435001, x435002 => if x6 < x0 then (if x3.length < 4398046511104 then (impl_quadsOf.l1 k x0 (x3 ++ [(⟨x435000, x435001, x435002, x6⟩ : S97)]) (wrap64 (x6 + 1)) x8 x9 x10 x435000 x435001 x435002) else (none)) else (impl_quadsOf.l0 k x0 x3 x8 x9 (wrap64 (x10 + 1)))
end
def impl_quadsOf.f (k : Nat) (a0 : Int) : Option ((List (S97))) := (impl_triplesOf.f k a0).bind fun t430 => (impl_quadsOf.l0 k a0 ([] : List (S97)) t430 (t430.length : Int) 0)
theorem impl_quadsOf.mono_l : ∀ k, (∀ y0 y1 y2 y3 y4, LeO (impl_quadsOf.l0 k y0 y1 y2 y3 y4) (impl_quadsOf.l0 (k + 1) y0 y1 y2 y3 y4)) ∧ (∀ y0 y1 y2 y3 y4 y5 y6 y7 y8, LeO (impl_quadsOf.l1 k y0 y1 y2 y3 y4 y5 y6 y7 y8) (impl_quadsOf.l1 (k + 1) y0 y1 y2 y3 y4 y5 y6 y7 y8))
 | 0 => ⟨fun _ _ _ _ _ r h => by simp [impl_quadsOf.l0] at h, fun _ _ _ _ _ _ _ _ _ r h => by simp [impl_quadsOf.l1] at h⟩
 | k + 1 => by
  obtain ⟨ih0, ih1⟩ := impl_quadsOf.mono_l k
  refine ⟨?_, ?_⟩
  ·intro y0 y1 y2 y3 y4
   unfold impl_quadsOf.l0
   repeat' first
   | (with_reducible exact ih0 _ _ _ _ _)
   | (with_reducible exact ih1 _ _ _ _ _ _ _ _ _)
   | (with_reducible exact impl_triplesOf.mono _ _)
   | (with_reducible exact LeO.refl _)
   | (with_reducible exact LeO.none _)
   | (with_reducible refine LeO.ite ?_ ?_)
   | (with_reducible refine LeO.bind ?_ (fun _ => ?_))
   | exact ih0 _ _ _ _ _
   | exact ih1 _ _ _ _ _ _ _ _ _
   | exact impl_triplesOf.mono _ _
   | exact LeO.none _
   | refine LeO.ite ?_ ?_
   | refine LeO.bind ?_ (fun _ => ?_)
  ·intro y0 y1 y2 y3 y4 y5 y6 y7 y8
   unfold impl_quadsOf.l1
   repeat' first
   | (with_reducible exact ih0 _ _ _ _ _)
   | (with_reducible exact ih1 _ _ _ _ _ _ _ _ _)
   | (with_reducible exact impl_triplesOf.mono _ _)
   | (with_reducible exact LeO.refl _)
   | (with_reducible exact LeO.none _)
   | (with_reducible refine LeO.ite ?_ ?_)
   | (with_reducible refine LeO.bind ?_ (fun _ => ?_))
   | exact ih0 _ _ _ _ _
   | exact ih1 _ _ _ _ _ _ _ _ _
   | exact impl_triplesOf.mono _ _
   | exact LeO.none _
   | refine LeO.ite ?_ ?_
   | refine LeO.bind ?_ (fun _ => ?_)
theorem impl_quadsOf.mono : ∀ a0 k, LeO (impl_quadsOf.f k a0) (impl_quadsOf.f (k + 1) a0) := by
 intro a0 k
 obtain ⟨ih0, ih1⟩ := impl_quadsOf.mono_l k
 unfold impl_quadsOf.f
 repeat' first
   | (with_reducible exact ih0 _ _ _ _ _)
   | (with_reducible exact ih1 _ _ _ _ _ _ _ _ _)
   | (with_reducible exact impl_triplesOf.mono _ _)
   | (with_reducible exact LeO.refl _)
   | (with_reducible exact LeO.none _)
   | (with_reducible refine LeO.ite ?_ ?_)
   | (with_reducible refine LeO.bind ?_ (fun _ => ?_))
   | exact ih0 _ _ _ _ _
   | exact ih1 _ _ _ _ _ _ _ _ _
   | exact impl_triplesOf.mono _ _
   | exact LeO.none _
   | refine LeO.ite ?_ ?_
   | refine LeO.bind ?_ (fun _ => ?_)
set_option maxHeartbeats 8000000 in
set_option maxRecDepth 100000 in
theorem impl_quadsOf.calls (k : Nat) (a0 : Int) (r : List (S97)) (w : World) (h : impl_quadsOf.f k a0 = some r) :
  Calls Try.prog 117 #[.int .i64 a0] w fun e w' => ∃ v0_ : Value, e = .returned (v0_) ∧ Kd.R k97 97 w' w.heap.size (fun _ => True) v0_ r ∧ Below w.heap.size w w' := by
 have hu107 := Try.underlying107
 have hu97 := Try.underlying97
 have HB := Aside0.mk (Below.refl w.heap.size w)
 have H : ((impl_triplesOf.f k a0).bind fun t430 => (impl_quadsOf.l0 k a0 ([] : List (S97)) t430 (t430.length : Int) 0)) = some r := h
 clear h
 replace H := Option.bind_eq_some_iff.mp H
 obtain ⟨t430, A20, H⟩ := H
 replace H : (impl_quadsOf.l0 k a0 ([] : List (S97)) t430 (t430.length : Int) 0) = some r := H
 have A2 := Aside0.mk A20
 clear A20
 have H' := Aside0.mk H
 clear H
 go_enter Try.func117, Try.ntmps117
 go_wp2_with (first | ((with_reducible refine gate_callee (f := 128) rfl ?_); refine goesL_ (some 8) rfl rfl Try.func128 (by kernel_rfl) rfl #[.int .i64 a0] rfl (by (try simp only [List.map_toArray, List.map_cons, List.map_nil]); first | done | rfl | (simp only [List.length_drop, List.length_take]; rfl)) ?_; (with_reducible refine (impl_triplesOf.calls k a0 t430 _ A2.out).mono ?_); rintro e w3 ⟨v431, rfl, ho0, hb⟩; refine ⟨_, rfl, ?_⟩; have n0_ := Aside0.mk (Kd.R_lower ho0 (below_size (by repeat (first | (with_reducible first | exact HB.out | apply below_alloc | apply pw_below_drewN | apply below_drew1) | exact HB.out)))); have n1_ := Aside0.mk (below_step (by repeat (first | (with_reducible first | exact HB.out | apply below_alloc | apply pw_below_drewN | apply below_drew1) | exact HB.out)) hb); clear HB; have HO432 := n0_; have HB := n1_; clear n0_ n1_; (try clear hb); (try clear hb2); (try clear hk); (try clear hi); (try clear ho0); obtain ⟨Ao4, co4, eo4⟩ := Kd.R_slice HO432.out; subst eo4))
 go_loopg [3, 10] k (fun kq v3 v10 w' => ∃ (x3_1 : List (S97)) (x10_1 : Int), v10 = .int .i64 x10_1 ∧ Aside0 (impl_quadsOf.l0 kq a0 x3_1 t430 (t430.length : Int) x10_1 = some r) ∧ Aside0 (kq ≤ k) ∧ Aside0 (Kd.R k97 97 w' w.heap.size (fun _ => True) v3 x3_1) ∧ Aside0 (Kd.R k107 107 w' w.heap.size (fun _ => True) (.slice Ao4 t430.length co4) t430) ∧ Aside0 (Below w.heap.size w w'))
 case atStart => exact ⟨(([] : List (S97))), (0), (by first | rfl | (simp; done) | (simp [*]; done)), H', ⟨Nat.le_refl _⟩, ⟨by first | exact Kd.R_nil _ _ _ _ _ | exact Kd.N_nil _ _ _ _ _ | exact Kd.V_nil _ _ _ _ _ | exact Kd.Q_nil _ _ _ _ _ | exact Kd.S_nil _ _ _ _ _⟩, ⟨by (with_reducible repeat (first | apply Kd.R_alloc | apply Kd.R_drewN | apply Kd.R_drew)); exact HO432.out⟩, ⟨by repeat (first | (with_reducible first | exact HB.out | apply below_alloc | apply pw_below_drewN | apply below_drew1) | exact HB.out)⟩⟩
 case round =>
  clear H'
  try clear c1
  try clear p2
  obtain ⟨x3_1, x10_1, rfl, HA, HK1, HO_3, HO_8, HB⟩ := hrel
  cases gk with
  | zero => exact absurd HA.out (by simp [impl_quadsOf.l0])
  | succ k1 =>
   have H := HA.out
   clear HA
   simp only [impl_quadsOf.l0] at H
   by_cases c5 : x10_1 < (t430.length : Int)
   ·rw [if_pos c5] at H
    have c5b0 : decide (x10_1 < (t430.length : Int)) = true := decide_eq_true c5
    clear c5
    by_cases c6 : 0 ≤ x10_1
    ·rw [if_pos c6] at H
     have c6b0 : decide (0 ≤ x10_1) = true := decide_eq_true c6
     clear c6
     by_cases c7 : x10_1 < (t430.length : Int)
     ·rw [if_pos c7] at H
      have c7b0 : decide (x10_1 < (t430.length : Int)) = true := decide_eq_true c7
      clear c7
      have H' := Aside0.mk H
      clear H
      have p433 : 0 ≤ (x10_1 : Int) := of_decide_eq_true (by first | (with_reducible assumption) | assumption)
      have q433 : x10_1 < (t430.length : Int) := of_decide_eq_true (by first | (with_reducible assumption) | assumption)
      obtain ⟨ad433, e433, hx433_0, hx433_1, hx433_2⟩ := at_T107 (Kd.R_reads' HO_8.out).2.2 x10_1 p433 q433
      cases e433
      replace p433 := eq_true p433
      replace q433 := eq_true q433
      go_wp2_with (first | ((with_reducible refine gate_dst (N := 5) rfl ?_); refine box_event ?hg (N := 5) ?hd (cs := #[.int .i64 0, .int .i64 0, .int .i64 0]) (t := 107) ?hr ?_; (case hd => rfl); (case hg => rfl); (case hr => first | (go_simp; done) | (go_simp; rfl)); intro gb434 hg w8 hbox hb; have n0_ := Aside0.mk (Kd.R_below (by (with_reducible repeat (first | apply Kd.R_alloc | apply Kd.R_drewN | apply Kd.R_drew)); exact HO_3.out) hb); have n1_ := Aside0.mk (Kd.R_below (Kd.R_elderB (by (with_reducible repeat (first | apply Kd.R_alloc | apply Kd.R_drewN | apply Kd.R_drew)); exact HO_8.out) gb434 (Nat.le_of_eq hg.symm)) hb); have n2_ := Aside0.mk (below_step (by repeat (first | (with_reducible first | exact HB.out | apply below_alloc | apply pw_below_drewN | apply below_drew1) | exact HB.out)) hb); have n3_ := Aside0.mk (hbox); have n4_ := Aside0.mk ((by rw [hg]; exact (below_size (by repeat (first | (with_reducible first | exact HB.out | apply below_alloc | apply pw_below_drewN | apply below_drew1) | exact HB.out))) : w.heap.size ≤ gb434)); have n5_ := Aside0.mk ((by rw [hg]; exact (below_size (by repeat (first | (with_reducible first | exact HB.out | apply below_alloc | apply pw_below_drewN | apply below_drew1) | exact HB.out))) : w.heap.size ≤ gb434)); clear HO_3; clear HO_8; clear HB; have HO_3 := n0_; have HO_8 := n1_; have HB := n2_; have BK434 := n3_; have GW434 := n4_; have GE434 := n5_; clear n0_ n1_ n2_ n3_ n4_ n5_; clear hb hbox hg; have hcz9_0 : w8.cell? ⟨gb434, 0, none⟩ = some (.int .i64 0) := (blk_cell BK434.out 0).trans rfl; have hcz9_1 : w8.cell? ⟨gb434, 1, none⟩ = some (.int .i64 0) := (blk_cell BK434.out 1).trans rfl; have hcz9_2 : w8.cell? ⟨gb434, 2, none⟩ = some (.int .i64 0) := (blk_cell BK434.out 2).trans rfl; have hfz9_0 := blk_frozen BK434.out 0; have hfz9_1 := blk_frozen BK434.out 1; have hfz9_2 := blk_frozen BK434.out 2))
      go_loopg [3, 6] k1 (fun kq v3 v6 w' => ∃ (x3_2 : List (S97)) (x6_2 : Int), v6 = .int .i64 x6_2 ∧ Aside0 (impl_quadsOf.l1 kq a0 x3_2 x6_2 t430 (t430.length : Int) x10_1 ((rd_T107 t430 x10_1).f0) ((rd_T107 t430 x10_1).f1) ((rd_T107 t430 x10_1).f2) = some r) ∧ Aside0 (kq ≤ k1) ∧ Aside0 (Kd.R k97 97 w' w.heap.size (fun _ => True) v3 x3_2) ∧ Aside0 (Kd.R k107 107 w' w.heap.size (fun k_ => k_ ≠ gb434) (.slice (some ad433) t430.length co4) t430) ∧ Aside0 (w'.heap[gb434]? = some (.cells #[.int .i64 ((rd_T107 t430 x10_1).f0), .int .i64 ((rd_T107 t430 x10_1).f1), .int .i64 ((rd_T107 t430 x10_1).f2)] 107 (0, 0))) ∧ Aside0 (Below w.heap.size w w'))
      case atStart => exact ⟨(x3_1), (wrap64 (((rd_T107 t430 x10_1).f2) + 1)), (by first | rfl | (simp; done) | (simp [*]; done)), H', ⟨Nat.le_refl _⟩, ⟨by (with_reducible repeat (first | apply Kd.R_alloc | apply Kd.R_drewN | apply Kd.R_drew)); exact Kd.R_mono (Kd.R_far (p := ⟨gb434, 2, none⟩) (Kd.R_far (p := ⟨gb434, 1, none⟩) (Kd.R_far (p := ⟨gb434, 0, none⟩) (Kd.R_types HO_3.out BK434.out (by decide)) (fun _ hk => hk.2) (.int .i64 ((rd_T107 t430 x10_1).f0))) (fun _ hk => hk.2) (.int .i64 ((rd_T107 t430 x10_1).f1))) (fun _ hk => hk.2) (.int .i64 ((rd_T107 t430 x10_1).f2))) (fun _ hk => trivial)⟩, ⟨by (with_reducible repeat (first | apply Kd.R_alloc | apply Kd.R_drewN | apply Kd.R_drew)); exact Kd.R_mono (Kd.R_far (p := ⟨gb434, 2, none⟩) (Kd.R_far (p := ⟨gb434, 1, none⟩) (Kd.R_far (p := ⟨gb434, 0, none⟩) (Kd.R_mono HO_8.out (fun k_ hk => (⟨hk, hk.2⟩ : _ ∧ k_ ≠ gb434))) (fun _ hk => hk.2) (.int .i64 ((rd_T107 t430 x10_1).f0))) (fun _ hk => hk.2) (.int .i64 ((rd_T107 t430 x10_1).f1))) (fun _ hk => hk.2) (.int .i64 ((rd_T107 t430 x10_1).f2))) (fun _ hk => hk.1.2)⟩, ⟨by (with_reducible repeat (first | refine blk_drewN ?_ _ | refine blk_drew ?_ | refine blk_alloc ?_ _)); refine blk_put (cs := #[.int .i64 ((rd_T107 t430 x10_1).f0), .int .i64 ((rd_T107 t430 x10_1).f1), .int .i64 0]) ?_ 2 _ rfl; (with_reducible repeat (first | refine blk_drewN ?_ _ | refine blk_drew ?_ | refine blk_alloc ?_ _)); refine blk_put (cs := #[.int .i64 ((rd_T107 t430 x10_1).f0), .int .i64 0, .int .i64 0]) ?_ 1 _ rfl; (with_reducible repeat (first | refine blk_drewN ?_ _ | refine blk_drew ?_ | refine blk_alloc ?_ _)); refine blk_put (cs := #[.int .i64 0, .int .i64 0, .int .i64 0]) ?_ 0 _ rfl; (with_reducible repeat (first | refine blk_drewN ?_ _ | refine blk_drew ?_ | refine blk_alloc ?_ _)); exact BK434.out⟩, ⟨by repeat (first | (with_reducible first | exact HB.out | apply below_alloc | apply pw_below_drewN | apply below_drew1 | refine below_set ?_ GE434.out) | exact HB.out)⟩⟩
      case round =>
       clear H'
       try clear c1
       try clear p2
       try clear p4
       try clear q4
       try clear hx4
       try clear c5
       try clear c5b0
       try clear c6
       try clear c6b0
       try clear p6
       try clear c7
       try clear c7b0
       try clear hcz9_0
       try clear hcz9_1
       try clear hcz9_2
       try clear hfz9_0
       try clear hfz9_1
       try clear hfz9_2
       try clear hx433_0
       try clear hx433_1
       try clear hx433_2
       try clear p2
       try clear p433
       try clear q433
       obtain ⟨x3_2, x6_2, rfl, HA, HK2, HO_3, HO_8, BK434, HB⟩ := hrel
       cases gk with
       | zero => exact absurd HA.out (by simp [impl_quadsOf.l1])
       | succ k2 =>
        have H := HA.out
        clear HA
        simp only [impl_quadsOf.l1] at H
        by_cases c10 : x6_2 < a0
        ·rw [if_pos c10] at H
         have c10b0 : decide (x6_2 < a0) = true := decide_eq_true c10
         clear c10
         by_cases c11 : x3_2.length < 4398046511104
         ·rw [if_pos c11] at H
          have LMc11 := Aside0.mk c11
          clear c11
          obtain ⟨y435, hy435⟩ : ∃ y_ : List (S97), y_ = (x3_2 ++ [(⟨((rd_T107 t430 x10_1).f0), ((rd_T107 t430 x10_1).f1), ((rd_T107 t430 x10_1).f2), x6_2⟩ : S97)]) := ⟨_, rfl⟩
          replace H : (impl_quadsOf.l1 k2 a0 y435 (wrap64 (x6_2 + 1)) t430 (t430.length : Int) x10_1 ((rd_T107 t430 x10_1).f0) ((rd_T107 t430 x10_1).f1) ((rd_T107 t430 x10_1).f2)) = some r := by first | (rw [hy435]; with_reducible exact H) | (have H2_ := (Option.bind_some _ _).symm.trans H; rw [hy435]; with_reducible exact H2_) | (have H2_ := (Option.bind_some _ _).symm.trans H; with_reducible exact H2_) | with_reducible exact H | (rw [hy435]; exact H) | exact H
          have Ny435 := Aside0.mk hy435
          clear hy435
          have H' := Aside0.mk H
          clear H
          have hcz12_0 : wr.cell? ⟨gb434, 0, none⟩ = some (.int .i64 ((rd_T107 t430 x10_1).f0)) := (blk_cell BK434.out 0).trans rfl
          have hcz12_1 : wr.cell? ⟨gb434, 1, none⟩ = some (.int .i64 ((rd_T107 t430 x10_1).f1)) := (blk_cell BK434.out 1).trans rfl
          have hcz12_2 : wr.cell? ⟨gb434, 2, none⟩ = some (.int .i64 ((rd_T107 t430 x10_1).f2)) := (blk_cell BK434.out 2).trans rfl
          have hfz12_0 := blk_frozen BK434.out 0
          have hfz12_1 := blk_frozen BK434.out 1
          have hfz12_2 := blk_frozen BK434.out 2
          go_wp2_with (first | ((with_reducible refine gate_builtin (b := .append) (xs := #[.tmp 22, .tmp 31]) rfl ?_); at_builtin; refine Kd.R_append k97 (w0 := w) w.heap.size rfl (.tmp 22) (.tmp 31) 95 97 (.agg #[(.int .i64 0), (.int .i64 0), (.int .i64 0), (.int .i64 0)]) 32 rfl Try.underlying95 info97 rfl (by decide) (by omega) u3 x3_2 (⟨((rd_T107 t430 x10_1).f0), ((rd_T107 t430 x10_1).f1), ((rd_T107 t430 x10_1).f2), x6_2⟩ : S97) [.int .i64 ((rd_T107 t430 x10_1).f0), .int .i64 ((rd_T107 t430 x10_1).f1), .int .i64 ((rd_T107 t430 x10_1).f2), .int .i64 x6_2] (fun _ => True) (fun _ => False) rfl rfl ?aP (fun _ hk => hk.elim) ?aF ?aO ?aB ?aS ?aL ?_; (case aP => exact k97_mkM _ _ _ (⟨((rd_T107 t430 x10_1).f0), ((rd_T107 t430 x10_1).f1), ((rd_T107 t430 x10_1).f2), x6_2⟩ : S97)); (case aB => exact (by repeat (first | (with_reducible first | exact HB.out | apply below_alloc | apply pw_below_drewN | apply below_drew1 | refine below_set ?_ GE434.out) | exact HB.out))); (case aF => exact (fun _ _ => trivial)); (case aO => exact (by (with_reducible repeat (first | apply Kd.R_alloc | apply Kd.R_drewN | apply Kd.R_drew)); exact HO_3.out)); (case aS => exact (below_size (by repeat (first | (with_reducible first | exact HB.out | apply below_alloc | apply pw_below_drewN | apply below_drew1 | refine below_set ?_ GE434.out) | exact HB.out)))); (case aL => have := LMc11.out; omega); intro v436 w13 ho hb hg hat; rw [← Ny435.out] at ho; have n0_ := Aside0.mk (Kd.R_over' (by (with_reducible repeat (first | apply Kd.R_alloc | apply Kd.R_drewN | apply Kd.R_drew)); exact HO_8.out) (Kd.R_typed (by (with_reducible repeat (first | apply Kd.R_alloc | apply Kd.R_drewN | apply Kd.R_drew)); exact HO_3.out)) (by decide) hg); have n1_ := Aside0.mk (blk_grown (g := gb434) (o := .cells #[.int .i64 ((rd_T107 t430 x10_1).f0), .int .i64 ((rd_T107 t430 x10_1).f1), .int .i64 ((rd_T107 t430 x10_1).f2)] 107 (0, 0)) (by (with_reducible repeat (first | refine blk_drewN ?_ _ | refine blk_drew ?_ | refine blk_alloc ?_ _)); exact BK434.out) hg (Kd.R_ne HO_3.out BK434.out (by decide))); have n2_ := Aside0.mk (hb); have n3_ := Aside0.mk (ho); clear HO_8; clear BK434; clear HB; clear HO_3; have HO_8 := n0_; have BK434 := n1_; have HB := n2_; have HO437 := n3_; clear n0_ n1_ n2_ n3_; clear ho hb hg hat))
          go_roundg k2
          case measure => have := HK1.out; have := HK2.out; omega
          case rel => exact ⟨(y435), (wrap64 (x6_2 + 1)), (by first | rfl | (simp; done) | (simp [*]; done)), H', ⟨by have := HK1.out; have := HK2.out; omega⟩, ⟨by (with_reducible repeat (first | apply Kd.R_alloc | apply Kd.R_drewN | apply Kd.R_drew)); exact HO437.out⟩, ⟨by (with_reducible repeat (first | apply Kd.R_alloc | apply Kd.R_drewN | apply Kd.R_drew)); exact HO_8.out⟩, ⟨by (with_reducible repeat (first | refine blk_drewN ?_ _ | refine blk_drew ?_ | refine blk_alloc ?_ _)); exact BK434.out⟩, ⟨by repeat (first | (with_reducible first | exact HB.out | apply below_alloc | apply pw_below_drewN | apply below_drew1 | refine below_set ?_ GE434.out) | exact HB.out)⟩⟩
         ·rw [if_neg c11] at H
          exact absurd H (by simp)
        ·rw [if_neg c10] at H
         have c10b0 : decide (x6_2 < a0) = false := decide_eq_false c10
         clear c10
         have H' := Aside0.mk H
         clear H
         go_wp2
         go_roundg k2
         case measure => have := HK1.out; have := HK2.out; omega
         case rel => exact ⟨(x3_2), (wrap64 (x10_1 + 1)), (by first | rfl | (simp; done) | (simp [*]; done)), H', ⟨by have := HK1.out; have := HK2.out; omega⟩, ⟨by (with_reducible repeat (first | apply Kd.R_alloc | apply Kd.R_drewN | apply Kd.R_drew)); exact HO_3.out⟩, ⟨by (with_reducible repeat (first | apply Kd.R_alloc | apply Kd.R_drewN | apply Kd.R_drew)); exact Kd.R_mono HO_8.out (fun _ hk => trivial)⟩, ⟨by repeat (first | (with_reducible first | exact HB.out | apply below_alloc | apply pw_below_drewN | apply below_drew1 | refine below_set ?_ GE434.out) | exact HB.out)⟩⟩
     ·rw [if_neg c7] at H
      exact absurd H (by simp)
    ·rw [if_neg c6] at H
     exact absurd H (by simp)
   ·rw [if_neg c5] at H
    have c5b0 : decide (x10_1 < (t430.length : Int)) = false := decide_eq_false c5
    clear c5
    obtain rfl := Option.some.inj H
    go_wp2
    go_ret
    exact ⟨_, by first | rfl | (simp [errW_none, errW_some] <;> rfl) | (simp [*, errW_none, errW_some] <;> rfl), by (with_reducible repeat (first | apply Kd.R_alloc | apply Kd.R_drewN | apply Kd.R_drew)); exact HO_3.out, by repeat (first | (with_reducible first | exact HB.out | apply below_alloc | apply pw_below_drewN | apply below_drew1) | exact HB.out)⟩
def impl_chi_breaks.f (l0 : List Int) (a1 : Int) (a2 : Int) (a3 : Int) (a4 : Int) (a5 : Int) : Option (Bool) := if 344 ≤ (l0.length : Int) then (if 0 ≤ a1 then (if a1 < 7 then (if 0 ≤ a2 then (if a2 < 7 then (if 0 ≤ a3 then (if a3 < 7 then (if 0 ≤ a4 then (if a4 < 7 then (if 0 ≤ a5 then (if a5 < 7 then (if (wrap64 ((chiA l0 a1 a2 a3) * (chiA l0 a1 a4 a5))) = (wrap64 ((chiA l0 a1 a2 a5) * (chiA l0 a1 a3 a4))) then (some ((wrap64 ((chiA l0 a1 a2 a5) * (chiA l0 a1 a3 a4))) == (wrap64 ((wrap64 (-(chiA l0 a1 a2 a4))) * (chiA l0 a1 a3 a5))))) else (some false)) else (none)) else (none)) else (none)) else (none)) else (none)) else (none)) else (none)) else (none)) else (none)) else (none)) else (none)
set_option maxHeartbeats 8000000 in
set_option maxRecDepth 100000 in
theorem impl_chi_breaks.calls (A0 : Option Addr) (c0 : Nat) (l0 : List Int) (a1 : Int) (a2 : Int) (a3 : Int) (a4 : Int) (a5 : Int) (r : Bool) (w : World) (hr0 : Kd.C (Kd.int .i64) w A0 l0.length l0) (hc0 : l0.length ≤ c0) (h : impl_chi_breaks.f l0 a1 a2 a3 a4 a5 = some r) :
  Calls Try.prog 148 #[.pointer A0, .int .i64 a1, .int .i64 a2, .int .i64 a3, .int .i64 a4, .int .i64 a5] w fun e w' => e = .returned (.bool r) ∧ Drawn0 w w' := by
 have HR0 := Aside0.mk hr0
 have HC0 := Aside0.mk hc0
 clear hr0 hc0
 have H : (if 344 ≤ (l0.length : Int) then (if 0 ≤ a1 then (if a1 < 7 then (if 0 ≤ a2 then (if a2 < 7 then (if 0 ≤ a3 then (if a3 < 7 then (if 0 ≤ a4 then (if a4 < 7 then (if 0 ≤ a5 then (if a5 < 7 then (if (wrap64 ((chiA l0 a1 a2 a3) * (chiA l0 a1 a4 a5))) = (wrap64 ((chiA l0 a1 a2 a5) * (chiA l0 a1 a3 a4))) then (some ((wrap64 ((chiA l0 a1 a2 a5) * (chiA l0 a1 a3 a4))) == (wrap64 ((wrap64 (-(chiA l0 a1 a2 a4))) * (chiA l0 a1 a3 a5))))) else (some false)) else (none)) else (none)) else (none)) else (none)) else (none)) else (none)) else (none)) else (none)) else (none)) else (none)) else (none)) = some r := h
 clear h
 by_cases c7 : 344 ≤ (l0.length : Int)
 ·rw [if_pos c7] at H
  have c7b0 := eq_true c7
  have c7b1 : decide (344 ≤ (l0.length : Int)) = true := decide_eq_true c7
  clear c7
  by_cases c8 : 0 ≤ a1
  ·rw [if_pos c8] at H
   have c8b0 : decide (0 ≤ a1) = true := decide_eq_true c8
   clear c8
   by_cases c9 : a1 < 7
   ·rw [if_pos c9] at H
    have c9b0 : decide (a1 < 7) = true := decide_eq_true c9
    clear c9
    by_cases c10 : 0 ≤ a2
    ·rw [if_pos c10] at H
     have c10b0 : decide (0 ≤ a2) = true := decide_eq_true c10
     clear c10
     by_cases c11 : a2 < 7
     ·rw [if_pos c11] at H
      have c11b0 : decide (a2 < 7) = true := decide_eq_true c11
      clear c11
      by_cases c12 : 0 ≤ a3
      ·rw [if_pos c12] at H
       have c12b0 : decide (0 ≤ a3) = true := decide_eq_true c12
       clear c12
       by_cases c13 : a3 < 7
       ·rw [if_pos c13] at H
        have c13b0 : decide (a3 < 7) = true := decide_eq_true c13
        clear c13
        by_cases c14 : 0 ≤ a4
        ·rw [if_pos c14] at H
         have c14b0 : decide (0 ≤ a4) = true := decide_eq_true c14
         clear c14
         by_cases c15 : a4 < 7
         ·rw [if_pos c15] at H
          have c15b0 : decide (a4 < 7) = true := decide_eq_true c15
          clear c15
          by_cases c16 : 0 ≤ a5
          ·rw [if_pos c16] at H
           have c16b0 : decide (0 ≤ a5) = true := decide_eq_true c16
           clear c16
           by_cases c17 : a5 < 7
           ·rw [if_pos c17] at H
            have c17b0 : decide (a5 < 7) = true := decide_eq_true c17
            clear c17
            by_cases c18 : (wrap64 ((chiA l0 a1 a2 a3) * (chiA l0 a1 a4 a5))) = (wrap64 ((chiA l0 a1 a2 a5) * (chiA l0 a1 a3 a4)))
            ·rw [if_pos c18] at H
             have c18b0 : ((wrap64 ((chiA l0 a1 a2 a3) * (chiA l0 a1 a4 a5))) == (wrap64 ((chiA l0 a1 a2 a5) * (chiA l0 a1 a3 a4)))) = true := beq_iff_eq.mpr c18
             have c18b1 : ((wrap64 ((chiA l0 a1 a2 a3) * (chiA l0 a1 a4 a5))) != (wrap64 ((chiA l0 a1 a2 a5) * (chiA l0 a1 a3 a4)))) = false := bne_eq_false_iff_eq.mpr c18
             clear c18
             obtain rfl := Option.some.inj H
             have q438 : 344 ≤ (l0.length : Int) := of_decide_eq_true (by first | (with_reducible assumption) | assumption)
             have p438_0a : 0 ≤ (a1 : Int) := of_decide_eq_true (by first | (with_reducible assumption) | assumption)
             have p438_0b : (a1 : Int) < 7 := of_decide_eq_true (by first | (with_reducible assumption) | assumption)
             have p438_1a : 0 ≤ (a2 : Int) := of_decide_eq_true (by first | (with_reducible assumption) | assumption)
             have p438_1b : (a2 : Int) < 7 := of_decide_eq_true (by first | (with_reducible assumption) | assumption)
             have p438_2a : 0 ≤ (a3 : Int) := of_decide_eq_true (by first | (with_reducible assumption) | assumption)
             have p438_2b : (a3 : Int) < 7 := of_decide_eq_true (by first | (with_reducible assumption) | assumption)
             obtain ⟨ad438, e438, hx438_0⟩ := chi_at HR0.out q438 p438_0a p438_0b p438_1a p438_1b p438_2a p438_2b
             cases e438
             replace p438_0a := eq_true p438_0a
             replace p438_0b := eq_true p438_0b
             replace p438_1a := eq_true p438_1a
             replace p438_1b := eq_true p438_1b
             replace p438_2a := eq_true p438_2a
             replace p438_2b := eq_true p438_2b
             have q439 : 344 ≤ (l0.length : Int) := of_decide_eq_true (by first | (with_reducible assumption) | assumption)
             have p439_0a : 0 ≤ (a1 : Int) := of_decide_eq_true (by first | (with_reducible assumption) | assumption)
             have p439_0b : (a1 : Int) < 7 := of_decide_eq_true (by first | (with_reducible assumption) | assumption)
             have p439_1a : 0 ≤ (a4 : Int) := of_decide_eq_true (by first | (with_reducible assumption) | assumption)
             have p439_1b : (a4 : Int) < 7 := of_decide_eq_true (by first | (with_reducible assumption) | assumption)
             have p439_2a : 0 ≤ (a5 : Int) := of_decide_eq_true (by first | (with_reducible assumption) | assumption)
             have p439_2b : (a5 : Int) < 7 := of_decide_eq_true (by first | (with_reducible assumption) | assumption)
             obtain ⟨ad439, e439, hx439_0⟩ := chi_at HR0.out q439 p439_0a p439_0b p439_1a p439_1b p439_2a p439_2b
             obtain rfl : ad438 = ad439 := (by injection e439)
             replace p439_0a := eq_true p439_0a
             replace p439_0b := eq_true p439_0b
             replace p439_1a := eq_true p439_1a
             replace p439_1b := eq_true p439_1b
             replace p439_2a := eq_true p439_2a
             replace p439_2b := eq_true p439_2b
             have q440 : 344 ≤ (l0.length : Int) := of_decide_eq_true (by first | (with_reducible assumption) | assumption)
             have p440_0a : 0 ≤ (a1 : Int) := of_decide_eq_true (by first | (with_reducible assumption) | assumption)
             have p440_0b : (a1 : Int) < 7 := of_decide_eq_true (by first | (with_reducible assumption) | assumption)
             have p440_1a : 0 ≤ (a2 : Int) := of_decide_eq_true (by first | (with_reducible assumption) | assumption)
             have p440_1b : (a2 : Int) < 7 := of_decide_eq_true (by first | (with_reducible assumption) | assumption)
             have p440_2a : 0 ≤ (a5 : Int) := of_decide_eq_true (by first | (with_reducible assumption) | assumption)
             have p440_2b : (a5 : Int) < 7 := of_decide_eq_true (by first | (with_reducible assumption) | assumption)
             obtain ⟨ad440, e440, hx440_0⟩ := chi_at HR0.out q440 p440_0a p440_0b p440_1a p440_1b p440_2a p440_2b
             obtain rfl : ad438 = ad440 := (by injection e440)
             replace p440_0a := eq_true p440_0a
             replace p440_0b := eq_true p440_0b
             replace p440_1a := eq_true p440_1a
             replace p440_1b := eq_true p440_1b
             replace p440_2a := eq_true p440_2a
             replace p440_2b := eq_true p440_2b
             have q441 : 344 ≤ (l0.length : Int) := of_decide_eq_true (by first | (with_reducible assumption) | assumption)
             have p441_0a : 0 ≤ (a1 : Int) := of_decide_eq_true (by first | (with_reducible assumption) | assumption)
             have p441_0b : (a1 : Int) < 7 := of_decide_eq_true (by first | (with_reducible assumption) | assumption)
             have p441_1a : 0 ≤ (a3 : Int) := of_decide_eq_true (by first | (with_reducible assumption) | assumption)
             have p441_1b : (a3 : Int) < 7 := of_decide_eq_true (by first | (with_reducible assumption) | assumption)
             have p441_2a : 0 ≤ (a4 : Int) := of_decide_eq_true (by first | (with_reducible assumption) | assumption)
             have p441_2b : (a4 : Int) < 7 := of_decide_eq_true (by first | (with_reducible assumption) | assumption)
             obtain ⟨ad441, e441, hx441_0⟩ := chi_at HR0.out q441 p441_0a p441_0b p441_1a p441_1b p441_2a p441_2b
             obtain rfl : ad438 = ad441 := (by injection e441)
             replace p441_0a := eq_true p441_0a
             replace p441_0b := eq_true p441_0b
             replace p441_1a := eq_true p441_1a
             replace p441_1b := eq_true p441_1b
             replace p441_2a := eq_true p441_2a
             replace p441_2b := eq_true p441_2b
             have q442 : 344 ≤ (l0.length : Int) := of_decide_eq_true (by first | (with_reducible assumption) | assumption)
             have p442_0a : 0 ≤ (a1 : Int) := of_decide_eq_true (by first | (with_reducible assumption) | assumption)
             have p442_0b : (a1 : Int) < 7 := of_decide_eq_true (by first | (with_reducible assumption) | assumption)
             have p442_1a : 0 ≤ (a2 : Int) := of_decide_eq_true (by first | (with_reducible assumption) | assumption)
             have p442_1b : (a2 : Int) < 7 := of_decide_eq_true (by first | (with_reducible assumption) | assumption)
             have p442_2a : 0 ≤ (a4 : Int) := of_decide_eq_true (by first | (with_reducible assumption) | assumption)
             have p442_2b : (a4 : Int) < 7 := of_decide_eq_true (by first | (with_reducible assumption) | assumption)
             obtain ⟨ad442, e442, hx442_0⟩ := chi_at HR0.out q442 p442_0a p442_0b p442_1a p442_1b p442_2a p442_2b
             obtain rfl : ad438 = ad442 := (by injection e442)
             replace p442_0a := eq_true p442_0a
             replace p442_0b := eq_true p442_0b
             replace p442_1a := eq_true p442_1a
             replace p442_1b := eq_true p442_1b
             replace p442_2a := eq_true p442_2a
             replace p442_2b := eq_true p442_2b
             have q443 : 344 ≤ (l0.length : Int) := of_decide_eq_true (by first | (with_reducible assumption) | assumption)
             have p443_0a : 0 ≤ (a1 : Int) := of_decide_eq_true (by first | (with_reducible assumption) | assumption)
             have p443_0b : (a1 : Int) < 7 := of_decide_eq_true (by first | (with_reducible assumption) | assumption)
             have p443_1a : 0 ≤ (a3 : Int) := of_decide_eq_true (by first | (with_reducible assumption) | assumption)
             have p443_1b : (a3 : Int) < 7 := of_decide_eq_true (by first | (with_reducible assumption) | assumption)
             have p443_2a : 0 ≤ (a5 : Int) := of_decide_eq_true (by first | (with_reducible assumption) | assumption)
             have p443_2b : (a5 : Int) < 7 := of_decide_eq_true (by first | (with_reducible assumption) | assumption)
             obtain ⟨ad443, e443, hx443_0⟩ := chi_at HR0.out q443 p443_0a p443_0b p443_1a p443_1b p443_2a p443_2b
             obtain rfl : ad438 = ad443 := (by injection e443)
             replace p443_0a := eq_true p443_0a
             replace p443_0b := eq_true p443_0b
             replace p443_1a := eq_true p443_1a
             replace p443_1b := eq_true p443_1b
             replace p443_2a := eq_true p443_2a
             replace p443_2b := eq_true p443_2b
             go_enter Try.func148, Try.ntmps148
             go_wp2
             repeat (go_quiet (fail); try go_wp2)
             go_ret
             exact ⟨by first | rfl | (simp; done) | (simp [*]; done), by repeat (first | exact Drawn0.refl _ | apply Drawn0.step)⟩
            ·rw [if_neg c18] at H
             have c18b0 : ((wrap64 ((chiA l0 a1 a2 a3) * (chiA l0 a1 a4 a5))) == (wrap64 ((chiA l0 a1 a2 a5) * (chiA l0 a1 a3 a4)))) = false := beq_eq_false_iff_ne.mpr c18
             have c18b1 : ((wrap64 ((chiA l0 a1 a2 a3) * (chiA l0 a1 a4 a5))) != (wrap64 ((chiA l0 a1 a2 a5) * (chiA l0 a1 a3 a4)))) = true := bne_iff_ne.mpr c18
             obtain rfl := Option.some.inj H
             have q438 : 344 ≤ (l0.length : Int) := of_decide_eq_true (by first | (with_reducible assumption) | assumption)
             have p438_0a : 0 ≤ (a1 : Int) := of_decide_eq_true (by first | (with_reducible assumption) | assumption)
             have p438_0b : (a1 : Int) < 7 := of_decide_eq_true (by first | (with_reducible assumption) | assumption)
             have p438_1a : 0 ≤ (a2 : Int) := of_decide_eq_true (by first | (with_reducible assumption) | assumption)
             have p438_1b : (a2 : Int) < 7 := of_decide_eq_true (by first | (with_reducible assumption) | assumption)
             have p438_2a : 0 ≤ (a3 : Int) := of_decide_eq_true (by first | (with_reducible assumption) | assumption)
             have p438_2b : (a3 : Int) < 7 := of_decide_eq_true (by first | (with_reducible assumption) | assumption)
             obtain ⟨ad438, e438, hx438_0⟩ := chi_at HR0.out q438 p438_0a p438_0b p438_1a p438_1b p438_2a p438_2b
             cases e438
             replace p438_0a := eq_true p438_0a
             replace p438_0b := eq_true p438_0b
             replace p438_1a := eq_true p438_1a
             replace p438_1b := eq_true p438_1b
             replace p438_2a := eq_true p438_2a
             replace p438_2b := eq_true p438_2b
             have q439 : 344 ≤ (l0.length : Int) := of_decide_eq_true (by first | (with_reducible assumption) | assumption)
             have p439_0a : 0 ≤ (a1 : Int) := of_decide_eq_true (by first | (with_reducible assumption) | assumption)
             have p439_0b : (a1 : Int) < 7 := of_decide_eq_true (by first | (with_reducible assumption) | assumption)
             have p439_1a : 0 ≤ (a4 : Int) := of_decide_eq_true (by first | (with_reducible assumption) | assumption)
             have p439_1b : (a4 : Int) < 7 := of_decide_eq_true (by first | (with_reducible assumption) | assumption)
             have p439_2a : 0 ≤ (a5 : Int) := of_decide_eq_true (by first | (with_reducible assumption) | assumption)
             have p439_2b : (a5 : Int) < 7 := of_decide_eq_true (by first | (with_reducible assumption) | assumption)
             obtain ⟨ad439, e439, hx439_0⟩ := chi_at HR0.out q439 p439_0a p439_0b p439_1a p439_1b p439_2a p439_2b
             obtain rfl : ad438 = ad439 := (by injection e439)
             replace p439_0a := eq_true p439_0a
             replace p439_0b := eq_true p439_0b
             replace p439_1a := eq_true p439_1a
             replace p439_1b := eq_true p439_1b
             replace p439_2a := eq_true p439_2a
             replace p439_2b := eq_true p439_2b
             have q440 : 344 ≤ (l0.length : Int) := of_decide_eq_true (by first | (with_reducible assumption) | assumption)
             have p440_0a : 0 ≤ (a1 : Int) := of_decide_eq_true (by first | (with_reducible assumption) | assumption)
             have p440_0b : (a1 : Int) < 7 := of_decide_eq_true (by first | (with_reducible assumption) | assumption)
             have p440_1a : 0 ≤ (a2 : Int) := of_decide_eq_true (by first | (with_reducible assumption) | assumption)
             have p440_1b : (a2 : Int) < 7 := of_decide_eq_true (by first | (with_reducible assumption) | assumption)
             have p440_2a : 0 ≤ (a5 : Int) := of_decide_eq_true (by first | (with_reducible assumption) | assumption)
             have p440_2b : (a5 : Int) < 7 := of_decide_eq_true (by first | (with_reducible assumption) | assumption)
             obtain ⟨ad440, e440, hx440_0⟩ := chi_at HR0.out q440 p440_0a p440_0b p440_1a p440_1b p440_2a p440_2b
             obtain rfl : ad438 = ad440 := (by injection e440)
             replace p440_0a := eq_true p440_0a
             replace p440_0b := eq_true p440_0b
             replace p440_1a := eq_true p440_1a
             replace p440_1b := eq_true p440_1b
             replace p440_2a := eq_true p440_2a
             replace p440_2b := eq_true p440_2b
             have q441 : 344 ≤ (l0.length : Int) := of_decide_eq_true (by first | (with_reducible assumption) | assumption)
             have p441_0a : 0 ≤ (a1 : Int) := of_decide_eq_true (by first | (with_reducible assumption) | assumption)
             have p441_0b : (a1 : Int) < 7 := of_decide_eq_true (by first | (with_reducible assumption) | assumption)
             have p441_1a : 0 ≤ (a3 : Int) := of_decide_eq_true (by first | (with_reducible assumption) | assumption)
             have p441_1b : (a3 : Int) < 7 := of_decide_eq_true (by first | (with_reducible assumption) | assumption)
             have p441_2a : 0 ≤ (a4 : Int) := of_decide_eq_true (by first | (with_reducible assumption) | assumption)
             have p441_2b : (a4 : Int) < 7 := of_decide_eq_true (by first | (with_reducible assumption) | assumption)
             obtain ⟨ad441, e441, hx441_0⟩ := chi_at HR0.out q441 p441_0a p441_0b p441_1a p441_1b p441_2a p441_2b
             obtain rfl : ad438 = ad441 := (by injection e441)
             replace p441_0a := eq_true p441_0a
             replace p441_0b := eq_true p441_0b
             replace p441_1a := eq_true p441_1a
             replace p441_1b := eq_true p441_1b
             replace p441_2a := eq_true p441_2a
             replace p441_2b := eq_true p441_2b
             have q442 : 344 ≤ (l0.length : Int) := of_decide_eq_true (by first | (with_reducible assumption) | assumption)
             have p442_0a : 0 ≤ (a1 : Int) := of_decide_eq_true (by first | (with_reducible assumption) | assumption)
             have p442_0b : (a1 : Int) < 7 := of_decide_eq_true (by first | (with_reducible assumption) | assumption)
             have p442_1a : 0 ≤ (a2 : Int) := of_decide_eq_true (by first | (with_reducible assumption) | assumption)
             have p442_1b : (a2 : Int) < 7 := of_decide_eq_true (by first | (with_reducible assumption) | assumption)
             have p442_2a : 0 ≤ (a4 : Int) := of_decide_eq_true (by first | (with_reducible assumption) | assumption)
             have p442_2b : (a4 : Int) < 7 := of_decide_eq_true (by first | (with_reducible assumption) | assumption)
             obtain ⟨ad442, e442, hx442_0⟩ := chi_at HR0.out q442 p442_0a p442_0b p442_1a p442_1b p442_2a p442_2b
             obtain rfl : ad438 = ad442 := (by injection e442)
             replace p442_0a := eq_true p442_0a
             replace p442_0b := eq_true p442_0b
             replace p442_1a := eq_true p442_1a
             replace p442_1b := eq_true p442_1b
             replace p442_2a := eq_true p442_2a
             replace p442_2b := eq_true p442_2b
             have q443 : 344 ≤ (l0.length : Int) := of_decide_eq_true (by first | (with_reducible assumption) | assumption)
             have p443_0a : 0 ≤ (a1 : Int) := of_decide_eq_true (by first | (with_reducible assumption) | assumption)
             have p443_0b : (a1 : Int) < 7 := of_decide_eq_true (by first | (with_reducible assumption) | assumption)
             have p443_1a : 0 ≤ (a3 : Int) := of_decide_eq_true (by first | (with_reducible assumption) | assumption)
             have p443_1b : (a3 : Int) < 7 := of_decide_eq_true (by first | (with_reducible assumption) | assumption)
             have p443_2a : 0 ≤ (a5 : Int) := of_decide_eq_true (by first | (with_reducible assumption) | assumption)
             have p443_2b : (a5 : Int) < 7 := of_decide_eq_true (by first | (with_reducible assumption) | assumption)
             obtain ⟨ad443, e443, hx443_0⟩ := chi_at HR0.out q443 p443_0a p443_0b p443_1a p443_1b p443_2a p443_2b
             obtain rfl : ad438 = ad443 := (by injection e443)
             replace p443_0a := eq_true p443_0a
             replace p443_0b := eq_true p443_0b
             replace p443_1a := eq_true p443_1a
             replace p443_1b := eq_true p443_1b
             replace p443_2a := eq_true p443_2a
             replace p443_2b := eq_true p443_2b
             go_enter Try.func148, Try.ntmps148
             go_wp2
             repeat (go_quiet (fail); try go_wp2)
             go_ret
             exact ⟨by first | rfl | (simp; done) | (simp [*]; done), by repeat (first | exact Drawn0.refl _ | apply Drawn0.step)⟩
           ·rw [if_neg c17] at H
            exact absurd H (by simp)
          ·rw [if_neg c16] at H
           exact absurd H (by simp)
         ·rw [if_neg c15] at H
          exact absurd H (by simp)
        ·rw [if_neg c14] at H
         exact absurd H (by simp)
       ·rw [if_neg c13] at H
        exact absurd H (by simp)
      ·rw [if_neg c12] at H
       exact absurd H (by simp)
     ·rw [if_neg c11] at H
      exact absurd H (by simp)
    ·rw [if_neg c10] at H
     exact absurd H (by simp)
   ·rw [if_neg c9] at H
    exact absurd H (by simp)
  ·rw [if_neg c8] at H
   exact absurd H (by simp)
 ·rw [if_neg c7] at H
  exact absurd H (by simp)
mutual
def impl_chi_firstBreak.l0 : Nat → List Int → Int → Option (List Int)
 | 0, _, _ => none
 | k + 1, x0, x3 => if 344 ≤ (x0.length : Int) then (if x3 < (chiN x0) then ((impl_quadsOf.f k (chiN x0)).bind fun t446 => (impl_chi_firstBreak.l1 k x0 x3 t446 (t446.length : Int) 0)) else (some ([] : List Int))) else (none)
def impl_chi_firstBreak.l1 : Nat → List Int → Int → List (S97) → Int → Int → Option (List Int)
 | 0, _, _, _, _, _ => none
 | k + 1, x0, x3, x18, x19, x20 => if x20 < x19 then (if 0 ≤ x20 then (if x20 < (x18.length : Int) then (if ((rd_T97 x18 x20).f0) = x3 then (impl_chi_firstBreak.l1 k x0 x3 x18 x19 (wrap64 (x20 + 1))) else (if ((rd_T97 x18 x20).f1) = x3 then (impl_chi_firstBreak.l1 k x0 x3 x18 x19 (wrap64 (x20 + 1))) else (if ((rd_T97 x18 x20).f2) = x3 then (impl_chi_firstBreak.l1 k x0 x3 x18 x19 (wrap64 (x20 + 1))) else (if ((rd_T97 x18 x20).f3) = x3 then (impl_chi_firstBreak.l1 k x0 x3 x18 x19 (wrap64 (x20 + 1))) else ((impl_chi_breaks.f x0 x3 ((rd_T97 x18 x20).f0) ((rd_T97 x18 x20).f1) ((rd_T97 x18 x20).f2) ((rd_T97 x18 x20).f3)).bind fun t451 => (if t451 = true then (some (([x3, (rd_T97 x18 x20).f0, (rd_T97 x18 x20).f1, (rd_T97 x18 x20).f2, (rd_T97 x18 x20).f3] : List Int))) else (impl_chi_firstBreak.l1 k x0 x3 x18 x19 (wrap64 (x20 + 1))))))))) else (none)) else (none)) else (impl_chi_firstBreak.l0 k x0 (wrap64 (x3 + 1)))
end
def impl_chi_firstBreak.f (k : Nat) (l0 : List Int) : Option (List Int) := impl_chi_firstBreak.l0 k l0 0
theorem impl_chi_firstBreak.mono_l : ∀ k, (∀ y0 y1, LeO (impl_chi_firstBreak.l0 k y0 y1) (impl_chi_firstBreak.l0 (k + 1) y0 y1)) ∧ (∀ y0 y1 y2 y3 y4, LeO (impl_chi_firstBreak.l1 k y0 y1 y2 y3 y4) (impl_chi_firstBreak.l1 (k + 1) y0 y1 y2 y3 y4))
 | 0 => ⟨fun _ _ r h => by simp [impl_chi_firstBreak.l0] at h, fun _ _ _ _ _ r h => by simp [impl_chi_firstBreak.l1] at h⟩
 | k + 1 => by
  obtain ⟨ih0, ih1⟩ := impl_chi_firstBreak.mono_l k
  refine ⟨?_, ?_⟩
  ·intro y0 y1
   unfold impl_chi_firstBreak.l0
   repeat' first
   | (with_reducible exact ih0 _ _)
   | (with_reducible exact ih1 _ _ _ _ _)
   | (with_reducible exact impl_quadsOf.mono _ _)
   | (with_reducible exact LeO.refl _)
   | (with_reducible exact LeO.none _)
   | (with_reducible refine LeO.ite ?_ ?_)
   | (with_reducible refine LeO.bind ?_ (fun _ => ?_))
   | exact ih0 _ _
   | exact ih1 _ _ _ _ _
   | exact impl_quadsOf.mono _ _
   | exact LeO.none _
   | refine LeO.ite ?_ ?_
   | refine LeO.bind ?_ (fun _ => ?_)
  ·intro y0 y1 y2 y3 y4
   unfold impl_chi_firstBreak.l1
   repeat' first
   | (with_reducible exact ih0 _ _)
   | (with_reducible exact ih1 _ _ _ _ _)
   | (with_reducible exact impl_quadsOf.mono _ _)
   | (with_reducible exact LeO.refl _)
   | (with_reducible exact LeO.none _)
   | (with_reducible refine LeO.ite ?_ ?_)
   | (with_reducible refine LeO.bind ?_ (fun _ => ?_))
   | exact ih0 _ _
   | exact ih1 _ _ _ _ _
   | exact impl_quadsOf.mono _ _
   | exact LeO.none _
   | refine LeO.ite ?_ ?_
   | refine LeO.bind ?_ (fun _ => ?_)
theorem impl_chi_firstBreak.mono : ∀ a0 k, LeO (impl_chi_firstBreak.f k a0) (impl_chi_firstBreak.f (k + 1) a0) := by
 intro a0 k
 obtain ⟨ih0, ih1⟩ := impl_chi_firstBreak.mono_l k
 unfold impl_chi_firstBreak.f
 repeat' first
   | (with_reducible exact ih0 _ _)
   | (with_reducible exact ih1 _ _ _ _ _)
   | (with_reducible exact impl_quadsOf.mono _ _)
   | (with_reducible exact LeO.refl _)
   | (with_reducible exact LeO.none _)
   | (with_reducible refine LeO.ite ?_ ?_)
   | (with_reducible refine LeO.bind ?_ (fun _ => ?_))
   | exact ih0 _ _
   | exact ih1 _ _ _ _ _
   | exact impl_quadsOf.mono _ _
   | exact LeO.none _
   | refine LeO.ite ?_ ?_
   | refine LeO.bind ?_ (fun _ => ?_)
set_option maxHeartbeats 8000000 in
set_option maxRecDepth 100000 in
theorem impl_chi_firstBreak.calls (k : Nat) (A0 : Option Addr) (c0 : Nat) (l0 : List Int) (r : List Int) (w : World) (hr0 : Kd.C (Kd.int .i64) w A0 l0.length l0) (hc0 : l0.length ≤ c0) (h : impl_chi_firstBreak.f k l0 = some r) :
  Calls Try.prog 136 #[.pointer A0] w fun e w' => ∃ v0_ : Value, e = .returned (v0_) ∧ (Kd.R (Kd.int .i64) 3 w' w.heap.size (fun _ => True) v0_ r ∧ NZ v0_ r) ∧ Below w.heap.size w w' := by
 have hu97 := Try.underlying97
 have HR0 := Aside0.mk hr0
 have HC0 := Aside0.mk hc0
 clear hr0 hc0
 have HB := Aside0.mk (Below.refl w.heap.size w)
 have H : (impl_chi_firstBreak.l0 k l0 0) = some r := h
 clear h
 have H' := Aside0.mk H
 clear H
 go_enter Try.func136, Try.ntmps136
 go_wp2
 go_loopg [3] k (fun kq v3 w' => ∃ (x3_1 : Int), v3 = .int .i64 x3_1 ∧ Aside0 (impl_chi_firstBreak.l0 kq l0 x3_1 = some r) ∧ Aside0 (kq ≤ k) ∧ Aside0 (Below w.heap.size w w'))
 case atStart => exact ⟨(0), (by first | rfl | (simp; done) | (simp [*]; done)), H', ⟨Nat.le_refl _⟩, ⟨by repeat (first | (with_reducible first | exact HB.out | apply below_alloc | apply pw_below_drewN | apply below_drew1) | exact HB.out)⟩⟩
 case round =>
  clear H'
  try clear c1
  obtain ⟨x3_1, rfl, HA, HK1, HB⟩ := hrel
  cases gk with
  | zero => exact absurd HA.out (by simp [impl_chi_firstBreak.l0])
  | succ k1 =>
   have H := HA.out
   clear HA
   simp only [impl_chi_firstBreak.l0] at H
   by_cases c2 : 344 ≤ (l0.length : Int)
   ·rw [if_pos c2] at H
    have c2b0 := eq_true c2
    have c2b1 : decide (344 ≤ (l0.length : Int)) = true := decide_eq_true c2
    clear c2
    by_cases c3 : x3_1 < (chiN l0)
    ·rw [if_pos c3] at H
     have c3b0 : decide (x3_1 < (chiN l0)) = true := decide_eq_true c3
     clear c3
     replace H := Option.bind_eq_some_iff.mp H
     obtain ⟨t446, A40, H⟩ := H
     replace H : (impl_chi_firstBreak.l1 k1 l0 x3_1 t446 (t446.length : Int) 0) = some r := H
     have A4 := Aside0.mk A40
     clear A40
     have H' := Aside0.mk H
     clear H
     have q444 : 344 ≤ (l0.length : Int) := of_decide_eq_true (by first | (with_reducible assumption) | assumption)
     obtain ⟨ad444, e444, hx444_0⟩ := chi_n HR0.out q444
     cases e444
     replace hx444_0 := (HB.out.cell (World.block_lt_of_cell? w _ hx444_0)).trans hx444_0
     have q445 : 344 ≤ (l0.length : Int) := of_decide_eq_true (by first | (with_reducible assumption) | assumption)
     obtain ⟨ad445, e445, hx445_0⟩ := chi_n HR0.out q445
     obtain rfl : ad444 = ad445 := (by injection e445)
     replace hx445_0 := (HB.out.cell (World.block_lt_of_cell? w _ hx445_0)).trans hx445_0
     go_wp2_with (first | ((with_reducible refine gate_callee (f := 117) rfl ?_); refine goesL_ (some 18) rfl rfl Try.func117 (by kernel_rfl) rfl #[.int .i64 (chiN l0)] rfl (by (try simp only [List.map_toArray, List.map_cons, List.map_nil]); first | done | rfl | (simp only [List.length_drop, List.length_take]; rfl)) ?_; (with_reducible refine (impl_quadsOf.calls k1 (chiN l0) t446 _ A4.out).mono ?_); rintro e w5 ⟨v447, rfl, ho0, hb⟩; refine ⟨_, rfl, ?_⟩; have n0_ := Aside0.mk (Kd.R_lower ho0 (below_size (by repeat (first | (with_reducible first | exact HB.out | apply below_alloc | apply pw_below_drewN | apply below_drew1) | exact HB.out)))); have n1_ := Aside0.mk (below_step (by repeat (first | (with_reducible first | exact HB.out | apply below_alloc | apply pw_below_drewN | apply below_drew1) | exact HB.out)) hb); clear HB; have HO448 := n0_; have HB := n1_; clear n0_ n1_; (try clear hb); (try clear hb2); (try clear hk); (try clear hi); (try clear ho0); obtain ⟨Ao6, co6, eo6⟩ := Kd.R_slice HO448.out; subst eo6))
     go_loopg [20] k1 (fun kq v20 w' => ∃ (x20_2 : Int), v20 = .int .i64 x20_2 ∧ Aside0 (impl_chi_firstBreak.l1 kq l0 x3_1 t446 (t446.length : Int) x20_2 = some r) ∧ Aside0 (kq ≤ k1) ∧ Aside0 (Kd.R k97 97 w' w.heap.size (fun _ => True) (.slice Ao6 t446.length co6) t446) ∧ Aside0 (Below w.heap.size w w'))
     case atStart => exact ⟨(0), (by first | rfl | (simp; done) | (simp [*]; done)), H', ⟨Nat.le_refl _⟩, ⟨by (with_reducible repeat (first | apply Kd.R_alloc | apply Kd.R_drewN | apply Kd.R_drew)); exact HO448.out⟩, ⟨by repeat (first | (with_reducible first | exact HB.out | apply below_alloc | apply pw_below_drewN | apply below_drew1) | exact HB.out)⟩⟩
     case round =>
      clear H'
      try clear c1
      try clear c2
      try clear c2b0
      try clear c2b1
      try clear p2
      try clear c3
      try clear c3b0
      try clear q4
      try clear hx4
      try clear hx444_0
      try clear hx445_0
      try clear q444
      try clear q445
      obtain ⟨x20_2, rfl, HA, HK2, HO_18, HB⟩ := hrel
      cases gk with
      | zero => exact absurd HA.out (by simp [impl_chi_firstBreak.l1])
      | succ k2 =>
       have H := HA.out
       clear HA
       simp only [impl_chi_firstBreak.l1] at H
       by_cases c7 : x20_2 < (t446.length : Int)
       ·rw [if_pos c7] at H
        have c7b0 : decide (x20_2 < (t446.length : Int)) = true := decide_eq_true c7
        clear c7
        by_cases c8 : 0 ≤ x20_2
        ·rw [if_pos c8] at H
         have c8b0 : decide (0 ≤ x20_2) = true := decide_eq_true c8
         clear c8
         by_cases c9 : x20_2 < (t446.length : Int)
         ·rw [if_pos c9] at H
          have c9b0 : decide (x20_2 < (t446.length : Int)) = true := decide_eq_true c9
          clear c9
          by_cases c10 : ((rd_T97 t446 x20_2).f0) = x3_1
          ·rw [if_pos c10] at H
           have c10b0 : (((rd_T97 t446 x20_2).f0) == x3_1) = true := beq_iff_eq.mpr c10
           have c10b1 : (((rd_T97 t446 x20_2).f0) != x3_1) = false := bne_eq_false_iff_eq.mpr c10
           clear c10
           have H' := Aside0.mk H
           clear H
           have p449 : 0 ≤ (x20_2 : Int) := of_decide_eq_true (by first | (with_reducible assumption) | assumption)
           have q449 : x20_2 < (t446.length : Int) := of_decide_eq_true (by first | (with_reducible assumption) | assumption)
           obtain ⟨ad449, e449, hx449_0, hx449_1, hx449_2, hx449_3⟩ := at_T97 (Kd.R_reads' HO_18.out).2.2 x20_2 p449 q449
           cases e449
           replace p449 := eq_true p449
           replace q449 := eq_true q449
           go_wp2_with (first | ((with_reducible refine gate_dst (N := 5) rfl ?_); refine box_event ?hg (N := 5) ?hd (cs := #[.int .i64 0, .int .i64 0, .int .i64 0, .int .i64 0]) (t := 97) ?hr ?_; (case hd => rfl); (case hg => rfl); (case hr => first | (go_simp; done) | (go_simp; rfl)); intro gb450 hg w11 hbox hb; have n0_ := Aside0.mk (Kd.R_below (Kd.R_elderB (by (with_reducible repeat (first | apply Kd.R_alloc | apply Kd.R_drewN | apply Kd.R_drew)); exact HO_18.out) gb450 (Nat.le_of_eq hg.symm)) hb); have n1_ := Aside0.mk (below_step (by repeat (first | (with_reducible first | exact HB.out | apply below_alloc | apply pw_below_drewN | apply below_drew1) | exact HB.out)) hb); have n2_ := Aside0.mk (hbox); have n3_ := Aside0.mk ((by rw [hg]; exact (below_size (by repeat (first | (with_reducible first | exact HB.out | apply below_alloc | apply pw_below_drewN | apply below_drew1) | exact HB.out))) : w.heap.size ≤ gb450)); have n4_ := Aside0.mk ((by rw [hg]; exact (below_size (by repeat (first | (with_reducible first | exact HB.out | apply below_alloc | apply pw_below_drewN | apply below_drew1) | exact HB.out))) : w.heap.size ≤ gb450)); clear HO_18; clear HB; have HO_18 := n0_; have HB := n1_; have BK450 := n2_; have GW450 := n3_; have GE450 := n4_; clear n0_ n1_ n2_ n3_ n4_; clear hb hbox hg; have hcz12_0 : w11.cell? ⟨gb450, 0, none⟩ = some (.int .i64 0) := (blk_cell BK450.out 0).trans rfl; have hcz12_1 : w11.cell? ⟨gb450, 1, none⟩ = some (.int .i64 0) := (blk_cell BK450.out 1).trans rfl; have hcz12_2 : w11.cell? ⟨gb450, 2, none⟩ = some (.int .i64 0) := (blk_cell BK450.out 2).trans rfl; have hcz12_3 : w11.cell? ⟨gb450, 3, none⟩ = some (.int .i64 0) := (blk_cell BK450.out 3).trans rfl; have hfz12_0 := blk_frozen BK450.out 0; have hfz12_1 := blk_frozen BK450.out 1; have hfz12_2 := blk_frozen BK450.out 2; have hfz12_3 := blk_frozen BK450.out 3))
           go_roundg k2
           case measure => have := HK1.out; have := HK2.out; omega
           case rel => exact ⟨(wrap64 (x20_2 + 1)), (by first | rfl | (simp; done) | (simp [*]; done)), H', ⟨by have := HK1.out; have := HK2.out; omega⟩, ⟨by (with_reducible repeat (first | apply Kd.R_alloc | apply Kd.R_drewN | apply Kd.R_drew)); exact Kd.R_mono (Kd.R_far (p := ⟨gb450, 3, none⟩) (Kd.R_far (p := ⟨gb450, 2, none⟩) (Kd.R_far (p := ⟨gb450, 1, none⟩) (Kd.R_far (p := ⟨gb450, 0, none⟩) (Kd.R_mono HO_18.out (fun k_ hk => (⟨hk, hk.2⟩ : _ ∧ k_ ≠ gb450))) (fun _ hk => hk.2) (.int .i64 ((rd_T97 t446 x20_2).f0))) (fun _ hk => hk.2) (.int .i64 ((rd_T97 t446 x20_2).f1))) (fun _ hk => hk.2) (.int .i64 ((rd_T97 t446 x20_2).f2))) (fun _ hk => hk.2) (.int .i64 ((rd_T97 t446 x20_2).f3))) (fun _ hk => trivial)⟩, ⟨by repeat (first | (with_reducible first | exact HB.out | apply below_alloc | apply pw_below_drewN | apply below_drew1 | refine below_set ?_ GE450.out) | exact HB.out)⟩⟩
          ·rw [if_neg c10] at H
           have c10b0 : (((rd_T97 t446 x20_2).f0) == x3_1) = false := beq_eq_false_iff_ne.mpr c10
           have c10b1 : (((rd_T97 t446 x20_2).f0) != x3_1) = true := bne_iff_ne.mpr c10
           by_cases c13 : ((rd_T97 t446 x20_2).f1) = x3_1
           ·rw [if_pos c13] at H
            have c13b0 : (((rd_T97 t446 x20_2).f1) == x3_1) = true := beq_iff_eq.mpr c13
            have c13b1 : (((rd_T97 t446 x20_2).f1) != x3_1) = false := bne_eq_false_iff_eq.mpr c13
            clear c13
            have H' := Aside0.mk H
            clear H
            have p449 : 0 ≤ (x20_2 : Int) := of_decide_eq_true (by first | (with_reducible assumption) | assumption)
            have q449 : x20_2 < (t446.length : Int) := of_decide_eq_true (by first | (with_reducible assumption) | assumption)
            obtain ⟨ad449, e449, hx449_0, hx449_1, hx449_2, hx449_3⟩ := at_T97 (Kd.R_reads' HO_18.out).2.2 x20_2 p449 q449
            cases e449
            replace p449 := eq_true p449
            replace q449 := eq_true q449
            go_wp2_with (first | ((with_reducible refine gate_dst (N := 5) rfl ?_); refine box_event ?hg (N := 5) ?hd (cs := #[.int .i64 0, .int .i64 0, .int .i64 0, .int .i64 0]) (t := 97) ?hr ?_; (case hd => rfl); (case hg => rfl); (case hr => first | (go_simp; done) | (go_simp; rfl)); intro gb450 hg w14 hbox hb; have n0_ := Aside0.mk (Kd.R_below (Kd.R_elderB (by (with_reducible repeat (first | apply Kd.R_alloc | apply Kd.R_drewN | apply Kd.R_drew)); exact HO_18.out) gb450 (Nat.le_of_eq hg.symm)) hb); have n1_ := Aside0.mk (below_step (by repeat (first | (with_reducible first | exact HB.out | apply below_alloc | apply pw_below_drewN | apply below_drew1) | exact HB.out)) hb); have n2_ := Aside0.mk (hbox); have n3_ := Aside0.mk ((by rw [hg]; exact (below_size (by repeat (first | (with_reducible first | exact HB.out | apply below_alloc | apply pw_below_drewN | apply below_drew1) | exact HB.out))) : w.heap.size ≤ gb450)); have n4_ := Aside0.mk ((by rw [hg]; exact (below_size (by repeat (first | (with_reducible first | exact HB.out | apply below_alloc | apply pw_below_drewN | apply below_drew1) | exact HB.out))) : w.heap.size ≤ gb450)); clear HO_18; clear HB; have HO_18 := n0_; have HB := n1_; have BK450 := n2_; have GW450 := n3_; have GE450 := n4_; clear n0_ n1_ n2_ n3_ n4_; clear hb hbox hg; have hcz15_0 : w14.cell? ⟨gb450, 0, none⟩ = some (.int .i64 0) := (blk_cell BK450.out 0).trans rfl; have hcz15_1 : w14.cell? ⟨gb450, 1, none⟩ = some (.int .i64 0) := (blk_cell BK450.out 1).trans rfl; have hcz15_2 : w14.cell? ⟨gb450, 2, none⟩ = some (.int .i64 0) := (blk_cell BK450.out 2).trans rfl; have hcz15_3 : w14.cell? ⟨gb450, 3, none⟩ = some (.int .i64 0) := (blk_cell BK450.out 3).trans rfl; have hfz15_0 := blk_frozen BK450.out 0; have hfz15_1 := blk_frozen BK450.out 1; have hfz15_2 := blk_frozen BK450.out 2; have hfz15_3 := blk_frozen BK450.out 3))
            go_roundg k2
            case measure => have := HK1.out; have := HK2.out; omega
            case rel => exact ⟨(wrap64 (x20_2 + 1)), (by first | rfl | (simp; done) | (simp [*]; done)), H', ⟨by have := HK1.out; have := HK2.out; omega⟩, ⟨by (with_reducible repeat (first | apply Kd.R_alloc | apply Kd.R_drewN | apply Kd.R_drew)); exact Kd.R_mono (Kd.R_far (p := ⟨gb450, 3, none⟩) (Kd.R_far (p := ⟨gb450, 2, none⟩) (Kd.R_far (p := ⟨gb450, 1, none⟩) (Kd.R_far (p := ⟨gb450, 0, none⟩) (Kd.R_mono HO_18.out (fun k_ hk => (⟨hk, hk.2⟩ : _ ∧ k_ ≠ gb450))) (fun _ hk => hk.2) (.int .i64 ((rd_T97 t446 x20_2).f0))) (fun _ hk => hk.2) (.int .i64 ((rd_T97 t446 x20_2).f1))) (fun _ hk => hk.2) (.int .i64 ((rd_T97 t446 x20_2).f2))) (fun _ hk => hk.2) (.int .i64 ((rd_T97 t446 x20_2).f3))) (fun _ hk => trivial)⟩, ⟨by repeat (first | (with_reducible first | exact HB.out | apply below_alloc | apply pw_below_drewN | apply below_drew1 | refine below_set ?_ GE450.out) | exact HB.out)⟩⟩
           ·rw [if_neg c13] at H
            have c13b0 : (((rd_T97 t446 x20_2).f1) == x3_1) = false := beq_eq_false_iff_ne.mpr c13
            have c13b1 : (((rd_T97 t446 x20_2).f1) != x3_1) = true := bne_iff_ne.mpr c13
            by_cases c16 : ((rd_T97 t446 x20_2).f2) = x3_1
            ·rw [if_pos c16] at H
             have c16b0 : (((rd_T97 t446 x20_2).f2) == x3_1) = true := beq_iff_eq.mpr c16
             have c16b1 : (((rd_T97 t446 x20_2).f2) != x3_1) = false := bne_eq_false_iff_eq.mpr c16
             clear c16
             have H' := Aside0.mk H
             clear H
             have p449 : 0 ≤ (x20_2 : Int) := of_decide_eq_true (by first | (with_reducible assumption) | assumption)
             have q449 : x20_2 < (t446.length : Int) := of_decide_eq_true (by first | (with_reducible assumption) | assumption)
             obtain ⟨ad449, e449, hx449_0, hx449_1, hx449_2, hx449_3⟩ := at_T97 (Kd.R_reads' HO_18.out).2.2 x20_2 p449 q449
             cases e449
             replace p449 := eq_true p449
             replace q449 := eq_true q449
             go_wp2_with (first | ((with_reducible refine gate_dst (N := 5) rfl ?_); refine box_event ?hg (N := 5) ?hd (cs := #[.int .i64 0, .int .i64 0, .int .i64 0, .int .i64 0]) (t := 97) ?hr ?_; (case hd => rfl); (case hg => rfl); (case hr => first | (go_simp; done) | (go_simp; rfl)); intro gb450 hg w17 hbox hb; have n0_ := Aside0.mk (Kd.R_below (Kd.R_elderB (by (with_reducible repeat (first | apply Kd.R_alloc | apply Kd.R_drewN | apply Kd.R_drew)); exact HO_18.out) gb450 (Nat.le_of_eq hg.symm)) hb); have n1_ := Aside0.mk (below_step (by repeat (first | (with_reducible first | exact HB.out | apply below_alloc | apply pw_below_drewN | apply below_drew1) | exact HB.out)) hb); have n2_ := Aside0.mk (hbox); have n3_ := Aside0.mk ((by rw [hg]; exact (below_size (by repeat (first | (with_reducible first | exact HB.out | apply below_alloc | apply pw_below_drewN | apply below_drew1) | exact HB.out))) : w.heap.size ≤ gb450)); have n4_ := Aside0.mk ((by rw [hg]; exact (below_size (by repeat (first | (with_reducible first | exact HB.out | apply below_alloc | apply pw_below_drewN | apply below_drew1) | exact HB.out))) : w.heap.size ≤ gb450)); clear HO_18; clear HB; have HO_18 := n0_; have HB := n1_; have BK450 := n2_; have GW450 := n3_; have GE450 := n4_; clear n0_ n1_ n2_ n3_ n4_; clear hb hbox hg; have hcz18_0 : w17.cell? ⟨gb450, 0, none⟩ = some (.int .i64 0) := (blk_cell BK450.out 0).trans rfl; have hcz18_1 : w17.cell? ⟨gb450, 1, none⟩ = some (.int .i64 0) := (blk_cell BK450.out 1).trans rfl; have hcz18_2 : w17.cell? ⟨gb450, 2, none⟩ = some (.int .i64 0) := (blk_cell BK450.out 2).trans rfl; have hcz18_3 : w17.cell? ⟨gb450, 3, none⟩ = some (.int .i64 0) := (blk_cell BK450.out 3).trans rfl; have hfz18_0 := blk_frozen BK450.out 0; have hfz18_1 := blk_frozen BK450.out 1; have hfz18_2 := blk_frozen BK450.out 2; have hfz18_3 := blk_frozen BK450.out 3))
             go_roundg k2
             case measure => have := HK1.out; have := HK2.out; omega
             case rel => exact ⟨(wrap64 (x20_2 + 1)), (by first | rfl | (simp; done) | (simp [*]; done)), H', ⟨by have := HK1.out; have := HK2.out; omega⟩, ⟨by (with_reducible repeat (first | apply Kd.R_alloc | apply Kd.R_drewN | apply Kd.R_drew)); exact Kd.R_mono (Kd.R_far (p := ⟨gb450, 3, none⟩) (Kd.R_far (p := ⟨gb450, 2, none⟩) (Kd.R_far (p := ⟨gb450, 1, none⟩) (Kd.R_far (p := ⟨gb450, 0, none⟩) (Kd.R_mono HO_18.out (fun k_ hk => (⟨hk, hk.2⟩ : _ ∧ k_ ≠ gb450))) (fun _ hk => hk.2) (.int .i64 ((rd_T97 t446 x20_2).f0))) (fun _ hk => hk.2) (.int .i64 ((rd_T97 t446 x20_2).f1))) (fun _ hk => hk.2) (.int .i64 ((rd_T97 t446 x20_2).f2))) (fun _ hk => hk.2) (.int .i64 ((rd_T97 t446 x20_2).f3))) (fun _ hk => trivial)⟩, ⟨by repeat (first | (with_reducible first | exact HB.out | apply below_alloc | apply pw_below_drewN | apply below_drew1 | refine below_set ?_ GE450.out) | exact HB.out)⟩⟩
            ·rw [if_neg c16] at H
             have c16b0 : (((rd_T97 t446 x20_2).f2) == x3_1) = false := beq_eq_false_iff_ne.mpr c16
             have c16b1 : (((rd_T97 t446 x20_2).f2) != x3_1) = true := bne_iff_ne.mpr c16
             by_cases c19 : ((rd_T97 t446 x20_2).f3) = x3_1
             ·rw [if_pos c19] at H
              have c19b0 : (((rd_T97 t446 x20_2).f3) == x3_1) = true := beq_iff_eq.mpr c19
              have c19b1 : (((rd_T97 t446 x20_2).f3) != x3_1) = false := bne_eq_false_iff_eq.mpr c19
              clear c19
              have H' := Aside0.mk H
              clear H
              have p449 : 0 ≤ (x20_2 : Int) := of_decide_eq_true (by first | (with_reducible assumption) | assumption)
              have q449 : x20_2 < (t446.length : Int) := of_decide_eq_true (by first | (with_reducible assumption) | assumption)
              obtain ⟨ad449, e449, hx449_0, hx449_1, hx449_2, hx449_3⟩ := at_T97 (Kd.R_reads' HO_18.out).2.2 x20_2 p449 q449
              cases e449
              replace p449 := eq_true p449
              replace q449 := eq_true q449
              go_wp2_with (first | ((with_reducible refine gate_dst (N := 5) rfl ?_); refine box_event ?hg (N := 5) ?hd (cs := #[.int .i64 0, .int .i64 0, .int .i64 0, .int .i64 0]) (t := 97) ?hr ?_; (case hd => rfl); (case hg => rfl); (case hr => first | (go_simp; done) | (go_simp; rfl)); intro gb450 hg w20 hbox hb; have n0_ := Aside0.mk (Kd.R_below (Kd.R_elderB (by (with_reducible repeat (first | apply Kd.R_alloc | apply Kd.R_drewN | apply Kd.R_drew)); exact HO_18.out) gb450 (Nat.le_of_eq hg.symm)) hb); have n1_ := Aside0.mk (below_step (by repeat (first | (with_reducible first | exact HB.out | apply below_alloc | apply pw_below_drewN | apply below_drew1) | exact HB.out)) hb); have n2_ := Aside0.mk (hbox); have n3_ := Aside0.mk ((by rw [hg]; exact (below_size (by repeat (first | (with_reducible first | exact HB.out | apply below_alloc | apply pw_below_drewN | apply below_drew1) | exact HB.out))) : w.heap.size ≤ gb450)); have n4_ := Aside0.mk ((by rw [hg]; exact (below_size (by repeat (first | (with_reducible first | exact HB.out | apply below_alloc | apply pw_below_drewN | apply below_drew1) | exact HB.out))) : w.heap.size ≤ gb450)); clear HO_18; clear HB; have HO_18 := n0_; have HB := n1_; have BK450 := n2_; have GW450 := n3_; have GE450 := n4_; clear n0_ n1_ n2_ n3_ n4_; clear hb hbox hg; have hcz21_0 : w20.cell? ⟨gb450, 0, none⟩ = some (.int .i64 0) := (blk_cell BK450.out 0).trans rfl; have hcz21_1 : w20.cell? ⟨gb450, 1, none⟩ = some (.int .i64 0) := (blk_cell BK450.out 1).trans rfl; have hcz21_2 : w20.cell? ⟨gb450, 2, none⟩ = some (.int .i64 0) := (blk_cell BK450.out 2).trans rfl; have hcz21_3 : w20.cell? ⟨gb450, 3, none⟩ = some (.int .i64 0) := (blk_cell BK450.out 3).trans rfl; have hfz21_0 := blk_frozen BK450.out 0; have hfz21_1 := blk_frozen BK450.out 1; have hfz21_2 := blk_frozen BK450.out 2; have hfz21_3 := blk_frozen BK450.out 3))
              go_roundg k2
              case measure => have := HK1.out; have := HK2.out; omega
              case rel => exact ⟨(wrap64 (x20_2 + 1)), (by first | rfl | (simp; done) | (simp [*]; done)), H', ⟨by have := HK1.out; have := HK2.out; omega⟩, ⟨by (with_reducible repeat (first | apply Kd.R_alloc | apply Kd.R_drewN | apply Kd.R_drew)); exact Kd.R_mono (Kd.R_far (p := ⟨gb450, 3, none⟩) (Kd.R_far (p := ⟨gb450, 2, none⟩) (Kd.R_far (p := ⟨gb450, 1, none⟩) (Kd.R_far (p := ⟨gb450, 0, none⟩) (Kd.R_mono HO_18.out (fun k_ hk => (⟨hk, hk.2⟩ : _ ∧ k_ ≠ gb450))) (fun _ hk => hk.2) (.int .i64 ((rd_T97 t446 x20_2).f0))) (fun _ hk => hk.2) (.int .i64 ((rd_T97 t446 x20_2).f1))) (fun _ hk => hk.2) (.int .i64 ((rd_T97 t446 x20_2).f2))) (fun _ hk => hk.2) (.int .i64 ((rd_T97 t446 x20_2).f3))) (fun _ hk => trivial)⟩, ⟨by repeat (first | (with_reducible first | exact HB.out | apply below_alloc | apply pw_below_drewN | apply below_drew1 | refine below_set ?_ GE450.out) | exact HB.out)⟩⟩
             ·rw [if_neg c19] at H
              have c19b0 : (((rd_T97 t446 x20_2).f3) == x3_1) = false := beq_eq_false_iff_ne.mpr c19
              have c19b1 : (((rd_T97 t446 x20_2).f3) != x3_1) = true := bne_iff_ne.mpr c19
              replace H := Option.bind_eq_some_iff.mp H
              obtain ⟨t451, A220, H⟩ := H
              replace H : (if t451 = true then (some (([x3_1, (rd_T97 t446 x20_2).f0, (rd_T97 t446 x20_2).f1, (rd_T97 t446 x20_2).f2, (rd_T97 t446 x20_2).f3] : List Int))) else (impl_chi_firstBreak.l1 k2 l0 x3_1 t446 (t446.length : Int) (wrap64 (x20_2 + 1)))) = some r := H
              have A22 := Aside0.mk A220
              clear A220
              by_cases c23 : t451 = true
              ·subst c23
               have H1 : (some (([x3_1, (rd_T97 t446 x20_2).f0, (rd_T97 t446 x20_2).f1, (rd_T97 t446 x20_2).f2, (rd_T97 t446 x20_2).f3] : List Int))) = some r := by rw [if_pos rfl] at H; exact H
               clear H
               have H := H1
               clear H1
               obtain ⟨y452, hy452⟩ : ∃ y_ : List Int, y_ = (([x3_1, (rd_T97 t446 x20_2).f0, (rd_T97 t446 x20_2).f1, (rd_T97 t446 x20_2).f2, (rd_T97 t446 x20_2).f3] : List Int)) := ⟨_, rfl⟩
               replace H : (some y452) = some r := by first | (rw [hy452]; with_reducible exact H) | (have H2_ := (Option.bind_some _ _).symm.trans H; rw [hy452]; with_reducible exact H2_) | (have H2_ := (Option.bind_some _ _).symm.trans H; with_reducible exact H2_) | with_reducible exact H | (rw [hy452]; exact H) | exact H
               have Ny452 := Aside0.mk hy452
               clear hy452
               obtain rfl := Option.some.inj H
               have p449 : 0 ≤ (x20_2 : Int) := of_decide_eq_true (by first | (with_reducible assumption) | assumption)
               have q449 : x20_2 < (t446.length : Int) := of_decide_eq_true (by first | (with_reducible assumption) | assumption)
               obtain ⟨ad449, e449, hx449_0, hx449_1, hx449_2, hx449_3⟩ := at_T97 (Kd.R_reads' HO_18.out).2.2 x20_2 p449 q449
               cases e449
               replace p449 := eq_true p449
               replace q449 := eq_true q449
               go_wp2_with (first | ((with_reducible refine gate_dst (N := 5) rfl ?_); refine box_event ?hg (N := 5) ?hd (cs := #[.int .i64 0, .int .i64 0, .int .i64 0, .int .i64 0]) (t := 97) ?hr ?_; (case hd => rfl); (case hg => rfl); (case hr => first | (go_simp; done) | (go_simp; rfl)); intro gb450 hg w24 hbox hb; have n0_ := Aside0.mk (Kd.R_below (Kd.R_elderB (by (with_reducible repeat (first | apply Kd.R_alloc | apply Kd.R_drewN | apply Kd.R_drew)); exact HO_18.out) gb450 (Nat.le_of_eq hg.symm)) hb); have n1_ := Aside0.mk (below_step (by repeat (first | (with_reducible first | exact HB.out | apply below_alloc | apply pw_below_drewN | apply below_drew1) | exact HB.out)) hb); have n2_ := Aside0.mk (hbox); have n3_ := Aside0.mk ((by rw [hg]; exact (below_size (by repeat (first | (with_reducible first | exact HB.out | apply below_alloc | apply pw_below_drewN | apply below_drew1) | exact HB.out))) : w.heap.size ≤ gb450)); have n4_ := Aside0.mk ((by rw [hg]; exact (below_size (by repeat (first | (with_reducible first | exact HB.out | apply below_alloc | apply pw_below_drewN | apply below_drew1) | exact HB.out))) : w.heap.size ≤ gb450)); clear HO_18; clear HB; have HO_18 := n0_; have HB := n1_; have BK450 := n2_; have GW450 := n3_; have GE450 := n4_; clear n0_ n1_ n2_ n3_ n4_; clear hb hbox hg; have hcz25_0 : w24.cell? ⟨gb450, 0, none⟩ = some (.int .i64 0) := (blk_cell BK450.out 0).trans rfl; have hcz25_1 : w24.cell? ⟨gb450, 1, none⟩ = some (.int .i64 0) := (blk_cell BK450.out 1).trans rfl; have hcz25_2 : w24.cell? ⟨gb450, 2, none⟩ = some (.int .i64 0) := (blk_cell BK450.out 2).trans rfl; have hcz25_3 : w24.cell? ⟨gb450, 3, none⟩ = some (.int .i64 0) := (blk_cell BK450.out 3).trans rfl; have hfz25_0 := blk_frozen BK450.out 0; have hfz25_1 := blk_frozen BK450.out 1; have hfz25_2 := blk_frozen BK450.out 2; have hfz25_3 := blk_frozen BK450.out 3) | (go_at_call 148; (refine (impl_chi_breaks.calls _ c0 l0 x3_1 ((rd_T97 t446 x20_2).f0) ((rd_T97 t446 x20_2).f1) ((rd_T97 t446 x20_2).f2) ((rd_T97 t446 x20_2).f3) true _ ?side1 ?side2 A22.out).mono ?_); (case side1 => exact Kd.C_below HR0.out (by repeat (first | (with_reducible first | exact HB.out | apply below_alloc | apply pw_below_drewN | apply below_drew1 | refine below_set ?_ GE450.out) | exact HB.out))); (case side2 => exact HC0.out); rintro e w' ⟨rfl, ⟨nd, rfl⟩⟩) | ((with_reducible refine gate_dst (N := 68) rfl ?_); refine Kd.R_lit (Kd.int .i64) _ 3 ?hg (N := 68) ?hd (xs := ([x3_1, (rd_T97 t446 x20_2).f0, (rd_T97 t446 x20_2).f1, (rd_T97 t446 x20_2).f2, (rd_T97 t446 x20_2).f3] : List Int)) (inner := [.int .i64 x3_1, .int .i64 ((rd_T97 t446 x20_2).f0), .int .i64 ((rd_T97 t446 x20_2).f1), .int .i64 ((rd_T97 t446 x20_2).f2), .int .i64 ((rd_T97 t446 x20_2).f3)]) (ok := fun _ => True) (okp := fun _ => True) ?hr ?hp (fun _ hk => hk) trivial (Below.refl _ _) (Nat.le_refl _) (by simp) ?_; (case hd => rfl); (case hg => rfl); (case hr => first | (go_simp; done) | (go_simp; rfl)); (case hp => exact (Reps.one (show Kd.M (Kd.int .i64) _ _ _ x3_1 [.int .i64 x3_1] from rfl) (Reps.one (show Kd.M (Kd.int .i64) _ _ _ ((rd_T97 t446 x20_2).f0) [.int .i64 ((rd_T97 t446 x20_2).f0)] from rfl) (Reps.one (show Kd.M (Kd.int .i64) _ _ _ ((rd_T97 t446 x20_2).f1) [.int .i64 ((rd_T97 t446 x20_2).f1)] from rfl) (Reps.one (show Kd.M (Kd.int .i64) _ _ _ ((rd_T97 t446 x20_2).f2) [.int .i64 ((rd_T97 t446 x20_2).f2)] from rfl) (Reps.one (show Kd.M (Kd.int .i64) _ _ _ ((rd_T97 t446 x20_2).f3) [.int .i64 ((rd_T97 t446 x20_2).f3)] from rfl) (Reps.none _ _))))))); intro v453 w26 ho27 hb hg_ hnew_; clear hg_ hnew_; (first | rw [← Ny452.out] at ho27 | (simp only [Int.reduceToNat] at ho27; rw [← Ny452.out] at ho27)); have n0_ := Aside0.mk (Kd.R_below (by (with_reducible repeat (first | apply Kd.R_alloc | apply Kd.R_drewN | apply Kd.R_drew)); exact (Kd.R_mono (Kd.R_far (p := ⟨gb450, 3, none⟩) (Kd.R_far (p := ⟨gb450, 2, none⟩) (Kd.R_far (p := ⟨gb450, 1, none⟩) (Kd.R_far (p := ⟨gb450, 0, none⟩) (Kd.R_mono HO_18.out (fun k_ hk => (⟨hk, hk.2⟩ : _ ∧ k_ ≠ gb450))) (fun _ hk => hk.2) (.int .i64 ((rd_T97 t446 x20_2).f0))) (fun _ hk => hk.2) (.int .i64 ((rd_T97 t446 x20_2).f1))) (fun _ hk => hk.2) (.int .i64 ((rd_T97 t446 x20_2).f2))) (fun _ hk => hk.2) (.int .i64 ((rd_T97 t446 x20_2).f3))) (fun _ h_ => h_.1))) hb); have n1_ := Aside0.mk (Kd.R_lower ho27 (below_size (by repeat (first | (with_reducible first | exact HB.out | apply below_alloc | apply pw_below_drewN | apply below_drew1 | refine below_set ?_ GE450.out) | exact HB.out)))); have n2_ := Aside0.mk (blk_below (g := gb450) (o := .cells #[.int .i64 ((rd_T97 t446 x20_2).f0), .int .i64 ((rd_T97 t446 x20_2).f1), .int .i64 ((rd_T97 t446 x20_2).f2), .int .i64 ((rd_T97 t446 x20_2).f3)] 97 (0, 0)) (by (with_reducible repeat (first | refine blk_drewN ?_ _ | refine blk_drew ?_ | refine blk_alloc ?_ _)); refine blk_put (cs := #[.int .i64 ((rd_T97 t446 x20_2).f0), .int .i64 ((rd_T97 t446 x20_2).f1), .int .i64 ((rd_T97 t446 x20_2).f2), .int .i64 0]) ?_ 3 _ rfl; (with_reducible repeat (first | refine blk_drewN ?_ _ | refine blk_drew ?_ | refine blk_alloc ?_ _)); refine blk_put (cs := #[.int .i64 ((rd_T97 t446 x20_2).f0), .int .i64 ((rd_T97 t446 x20_2).f1), .int .i64 0, .int .i64 0]) ?_ 2 _ rfl; (with_reducible repeat (first | refine blk_drewN ?_ _ | refine blk_drew ?_ | refine blk_alloc ?_ _)); refine blk_put (cs := #[.int .i64 ((rd_T97 t446 x20_2).f0), .int .i64 0, .int .i64 0, .int .i64 0]) ?_ 1 _ rfl; (with_reducible repeat (first | refine blk_drewN ?_ _ | refine blk_drew ?_ | refine blk_alloc ?_ _)); refine blk_put (cs := #[.int .i64 0, .int .i64 0, .int .i64 0, .int .i64 0]) ?_ 0 _ rfl; (with_reducible repeat (first | refine blk_drewN ?_ _ | refine blk_drew ?_ | refine blk_alloc ?_ _)); exact BK450.out) hb); have n3_ := Aside0.mk (below_step (by repeat (first | (with_reducible first | exact HB.out | apply below_alloc | apply pw_below_drewN | apply below_drew1 | refine below_set ?_ GE450.out) | exact HB.out)) hb); clear HO_18; clear BK450; clear HB; have HO_18 := n0_; have HO454 := n1_; have BK450 := n2_; have HB := n3_; clear n0_ n1_ n2_ n3_; clear hb ho27))
               go_ret
               exact ⟨_, by first | rfl | (simp [errW_none, errW_some] <;> rfl) | (simp [*, errW_none, errW_some] <;> rfl), ⟨by (with_reducible repeat (first | apply Kd.R_alloc | apply Kd.R_drewN | apply Kd.R_drew)); exact HO454.out, by first | exact nz_nil _ | exact nz_cons rfl | assumption | exact Aside0.out (by assumption) | exact nz_cons (Aside0.out (by assumption))⟩, by repeat (first | (with_reducible first | exact HB.out | apply below_alloc | apply pw_below_drewN | apply below_drew1 | refine below_set ?_ GE450.out) | exact HB.out)⟩
              ·replace c23 := Bool.eq_false_iff.mpr c23
               subst c23
               have H1 : (impl_chi_firstBreak.l1 k2 l0 x3_1 t446 (t446.length : Int) (wrap64 (x20_2 + 1))) = some r := by rw [if_neg (show ¬ (false = true) by decide)] at H; exact H
               clear H
               have H := H1
               clear H1
               have H' := Aside0.mk H
               clear H
               have p449 : 0 ≤ (x20_2 : Int) := of_decide_eq_true (by first | (with_reducible assumption) | assumption)
               have q449 : x20_2 < (t446.length : Int) := of_decide_eq_true (by first | (with_reducible assumption) | assumption)
               obtain ⟨ad449, e449, hx449_0, hx449_1, hx449_2, hx449_3⟩ := at_T97 (Kd.R_reads' HO_18.out).2.2 x20_2 p449 q449
               cases e449
               replace p449 := eq_true p449
               replace q449 := eq_true q449
               go_wp2_with (first | ((with_reducible refine gate_dst (N := 5) rfl ?_); refine box_event ?hg (N := 5) ?hd (cs := #[.int .i64 0, .int .i64 0, .int .i64 0, .int .i64 0]) (t := 97) ?hr ?_; (case hd => rfl); (case hg => rfl); (case hr => first | (go_simp; done) | (go_simp; rfl)); intro gb450 hg w28 hbox hb; have n0_ := Aside0.mk (Kd.R_below (Kd.R_elderB (by (with_reducible repeat (first | apply Kd.R_alloc | apply Kd.R_drewN | apply Kd.R_drew)); exact HO_18.out) gb450 (Nat.le_of_eq hg.symm)) hb); have n1_ := Aside0.mk (below_step (by repeat (first | (with_reducible first | exact HB.out | apply below_alloc | apply pw_below_drewN | apply below_drew1) | exact HB.out)) hb); have n2_ := Aside0.mk (hbox); have n3_ := Aside0.mk ((by rw [hg]; exact (below_size (by repeat (first | (with_reducible first | exact HB.out | apply below_alloc | apply pw_below_drewN | apply below_drew1) | exact HB.out))) : w.heap.size ≤ gb450)); have n4_ := Aside0.mk ((by rw [hg]; exact (below_size (by repeat (first | (with_reducible first | exact HB.out | apply below_alloc | apply pw_below_drewN | apply below_drew1) | exact HB.out))) : w.heap.size ≤ gb450)); clear HO_18; clear HB; have HO_18 := n0_; have HB := n1_; have BK450 := n2_; have GW450 := n3_; have GE450 := n4_; clear n0_ n1_ n2_ n3_ n4_; clear hb hbox hg; have hcz29_0 : w28.cell? ⟨gb450, 0, none⟩ = some (.int .i64 0) := (blk_cell BK450.out 0).trans rfl; have hcz29_1 : w28.cell? ⟨gb450, 1, none⟩ = some (.int .i64 0) := (blk_cell BK450.out 1).trans rfl; have hcz29_2 : w28.cell? ⟨gb450, 2, none⟩ = some (.int .i64 0) := (blk_cell BK450.out 2).trans rfl; have hcz29_3 : w28.cell? ⟨gb450, 3, none⟩ = some (.int .i64 0) := (blk_cell BK450.out 3).trans rfl; have hfz29_0 := blk_frozen BK450.out 0; have hfz29_1 := blk_frozen BK450.out 1; have hfz29_2 := blk_frozen BK450.out 2; have hfz29_3 := blk_frozen BK450.out 3) | (go_at_call 148; (refine (impl_chi_breaks.calls _ c0 l0 x3_1 ((rd_T97 t446 x20_2).f0) ((rd_T97 t446 x20_2).f1) ((rd_T97 t446 x20_2).f2) ((rd_T97 t446 x20_2).f3) false _ ?side1 ?side2 A22.out).mono ?_); (case side1 => exact Kd.C_below HR0.out (by repeat (first | (with_reducible first | exact HB.out | apply below_alloc | apply pw_below_drewN | apply below_drew1 | refine below_set ?_ GE450.out) | exact HB.out))); (case side2 => exact HC0.out); rintro e w' ⟨rfl, ⟨nd, rfl⟩⟩))
               go_roundg k2
               case measure => have := HK1.out; have := HK2.out; omega
               case rel => exact ⟨(wrap64 (x20_2 + 1)), (by first | rfl | (simp; done) | (simp [*]; done)), H', ⟨by have := HK1.out; have := HK2.out; omega⟩, ⟨by (with_reducible repeat (first | apply Kd.R_alloc | apply Kd.R_drewN | apply Kd.R_drew)); exact Kd.R_mono (Kd.R_far (p := ⟨gb450, 3, none⟩) (Kd.R_far (p := ⟨gb450, 2, none⟩) (Kd.R_far (p := ⟨gb450, 1, none⟩) (Kd.R_far (p := ⟨gb450, 0, none⟩) (Kd.R_mono HO_18.out (fun k_ hk => (⟨hk, hk.2⟩ : _ ∧ k_ ≠ gb450))) (fun _ hk => hk.2) (.int .i64 ((rd_T97 t446 x20_2).f0))) (fun _ hk => hk.2) (.int .i64 ((rd_T97 t446 x20_2).f1))) (fun _ hk => hk.2) (.int .i64 ((rd_T97 t446 x20_2).f2))) (fun _ hk => hk.2) (.int .i64 ((rd_T97 t446 x20_2).f3))) (fun _ hk => trivial)⟩, ⟨by repeat (first | (with_reducible first | exact HB.out | apply below_alloc | apply pw_below_drewN | apply below_drew1 | refine below_set ?_ GE450.out) | exact HB.out)⟩⟩
         ·rw [if_neg c9] at H
          exact absurd H (by simp)
        ·rw [if_neg c8] at H
         exact absurd H (by simp)
       ·rw [if_neg c7] at H
        have c7b0 : decide (x20_2 < (t446.length : Int)) = false := decide_eq_false c7
        clear c7
        have H' := Aside0.mk H
        clear H
        go_wp2
        go_roundg k2
        case measure => have := HK1.out; have := HK2.out; omega
        case rel => exact ⟨(wrap64 (x3_1 + 1)), (by first | rfl | (simp; done) | (simp [*]; done)), H', ⟨by have := HK1.out; have := HK2.out; omega⟩, ⟨by repeat (first | (with_reducible first | exact HB.out | apply below_alloc | apply pw_below_drewN | apply below_drew1) | exact HB.out)⟩⟩
    ·rw [if_neg c3] at H
     have c3b0 : decide (x3_1 < (chiN l0)) = false := decide_eq_false c3
     clear c3
     obtain rfl := Option.some.inj H
     have q444 : 344 ≤ (l0.length : Int) := of_decide_eq_true (by first | (with_reducible assumption) | assumption)
     obtain ⟨ad444, e444, hx444_0⟩ := chi_n HR0.out q444
     cases e444
     replace hx444_0 := (HB.out.cell (World.block_lt_of_cell? w _ hx444_0)).trans hx444_0
     go_wp2
     go_ret
     exact ⟨_, by first | rfl | (simp [errW_none, errW_some] <;> rfl) | (simp [*, errW_none, errW_some] <;> rfl), ⟨by first | exact Kd.R_nil _ _ _ _ _ | exact Kd.N_nil _ _ _ _ _ | exact Kd.V_nil _ _ _ _ _ | exact Kd.Q_nil _ _ _ _ _ | exact Kd.S_nil _ _ _ _ _, by first | exact nz_nil _ | exact nz_cons rfl | assumption | exact Aside0.out (by assumption) | exact nz_cons (Aside0.out (by assumption))⟩, by repeat (first | (with_reducible first | exact HB.out | apply below_alloc | apply pw_below_drewN | apply below_drew1) | exact HB.out)⟩
   ·rw [if_neg c2] at H
    exact absurd H (by simp)
end Go.Proofs.Ytbglgapndefcfaa.P
