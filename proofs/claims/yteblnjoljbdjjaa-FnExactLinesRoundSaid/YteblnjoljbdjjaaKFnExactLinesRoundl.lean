/- What the law FnExactLinesRound reaches, part 12: functions as plain Lean functions with the proofs that their calls come to them, and plain lemmas over these. Put together by a program (wip/pack.py). -/
import Derived.Test.YteblnjoljbdjjaaKFnExactLinesRoundc
import Derived.Test.YteblnjoljbdjjaaKFnExactLinesRoundi
import Derived.Test.YteblnjoljbdjjaaKFnExactLinesRoundk
import Derived.Test.YteblnjoljbdjjaaKFnExactLinesRoundh
namespace Go.Proofs.Yteblnjoljbdjjaa.P
open Go.RowKit Go.Proofs.YteblnjoljbdjjaaW.PrintWords Go.Proofs.YteblnjoljbdjjaaW.PrintLast Go.Proofs.YteblnjoljbdjjaaW.PrintMore
attribute [local go_sem] ptrOf_slice
attribute [local go_sem] max2_int min2_int max_two min_two max_three min_three max_four min_four
set_option linter.unusedVariables false
set_option linter.unusedSimpArgs false
def impl_orderOf.f (k : Nat) (a0_0 : Int) (a0_1 : ByteArray) : Option (List Int × Bool) := (impl_IsAcyclic.f k a0_0 a0_1).bind fun t766 => (if t766 = true then ((impl_tableOf.f k a0_0 a0_1).bind fun t767 => (some (t767, true))) else (some (([] : List Int), false)))
theorem impl_orderOf.mono : ∀ a0 a1 k, LeO (impl_orderOf.f k a0 a1) (impl_orderOf.f (k + 1) a0 a1) := by
 intro a0 a1 k
 unfold impl_orderOf.f
 repeat' first
   | (with_reducible exact impl_IsAcyclic.mono _ _ _)
   | (with_reducible exact impl_tableOf.mono _ _ _)
   | (with_reducible exact LeO.refl _)
   | (with_reducible exact LeO.none _)
   | (with_reducible refine LeO.ite ?_ ?_)
   | (with_reducible refine LeO.bind ?_ (fun _ => ?_))
   | exact impl_IsAcyclic.mono _ _ _
   | exact impl_tableOf.mono _ _ _
   | exact LeO.none _
   | refine LeO.ite ?_ ?_
   | refine LeO.bind ?_ (fun _ => ?_)
set_option maxHeartbeats 8000000 in
set_option maxRecDepth 100000 in
theorem impl_orderOf.calls (k : Nat) (a0_0 : Int) (a0_1 : ByteArray) (r1 : List Int) (r2 : Bool) (w : World) (h : impl_orderOf.f k a0_0 a0_1 = some (r1, r2)) :
  Calls Try.prog 72 #[.agg #[.int .i64 a0_0, .string a0_1]] w fun e w' => ∃ v0_ : Value, e = .returned (.tuple #[ptrOf v0_, .bool r2]) ∧ Kd.R (Kd.int .i64) 93 w' w.heap.size (fun _ => True) v0_ r1 ∧ Below w.heap.size w w' := by
 have hu25 := Try.underlying25
 have HB := Aside0.mk (Below.refl w.heap.size w)
 have H : ((impl_IsAcyclic.f k a0_0 a0_1).bind fun t766 => (if t766 = true then ((impl_tableOf.f k a0_0 a0_1).bind fun t767 => (some (t767, true))) else (some (([] : List Int), false)))) = some (r1, r2) := h
 clear h
 replace H := Option.bind_eq_some_iff.mp H
 obtain ⟨t766, A20, H⟩ := H
 replace H : (if t766 = true then ((impl_tableOf.f k a0_0 a0_1).bind fun t767 => (some (t767, true))) else (some (([] : List Int), false))) = some (r1, r2) := H
 have A2 := Aside0.mk A20
 clear A20
 by_cases c3 : t766 = true
 ·subst c3
  have H1 : ((impl_tableOf.f k a0_0 a0_1).bind fun t767 => (some (t767, true))) = some (r1, r2) := by rw [if_pos rfl] at H; exact H
  clear H
  have H := H1
  clear H1
  replace H := Option.bind_eq_some_iff.mp H
  obtain ⟨t767, A40, H⟩ := H
  replace H : (some (t767, true)) = some (r1, r2) := H
  have A4 := Aside0.mk A40
  clear A40
  simp only [Option.some.injEq, Prod.mk.injEq] at H
  obtain ⟨rfl, rfl⟩ := H
  go_enter Try.func72, Try.ntmps72
  go_wp2_with (first | ((with_reducible refine gate_dst (N := 1) rfl ?_); refine box_event ?hg (N := 1) ?hd (cs := #[.int .i64 a0_0, .string a0_1]) (t := 25) ?hr ?_; (case hd => rfl); (case hg => rfl); (case hr => first | (go_simp; done) | (go_simp; rfl)); intro gb765 hg w5 hbox hb; have n0_ := Aside0.mk (below_step (by repeat (first | (with_reducible first | exact HB.out | apply below_alloc | apply pw_below_drewN | apply below_drew1) | exact HB.out)) hb); have n1_ := Aside0.mk (hbox); have n2_ := Aside0.mk ((by rw [hg]; exact (below_size (by repeat (first | (with_reducible first | exact HB.out | apply below_alloc | apply pw_below_drewN | apply below_drew1) | exact HB.out))) : w.heap.size ≤ gb765)); have n3_ := Aside0.mk ((by rw [hg]; exact (below_size (by repeat (first | (with_reducible first | exact HB.out | apply below_alloc | apply pw_below_drewN | apply below_drew1) | exact HB.out))) : w.heap.size ≤ gb765)); clear HB; have HB := n0_; have BK765 := n1_; have GW765 := n2_; have GE765 := n3_; clear n0_ n1_ n2_ n3_; clear hb hbox hg; have hcz6_0 : w5.cell? ⟨gb765, 0, none⟩ = some (.int .i64 a0_0) := (blk_cell BK765.out 0).trans rfl; have hcz6_1 : w5.cell? ⟨gb765, 1, none⟩ = some (.string a0_1) := (blk_cell BK765.out 1).trans rfl; have hfz6_0 := blk_frozen BK765.out 0; have hfz6_1 := blk_frozen BK765.out 1) | ((with_reducible refine gate_callee (f := 119) rfl ?_); refine goesL_ (some 5) rfl rfl Try.func119 (by kernel_rfl) rfl #[.agg #[.int .i64 a0_0, .string a0_1]] rfl (by (try simp only [List.map_toArray, List.map_cons, List.map_nil]); first | done | rfl | (simp only [List.length_drop, List.length_take]; rfl)) ?_; (with_reducible refine (impl_IsAcyclic.calls k a0_0 a0_1 true _ A2.out).mono ?_); rintro e w7 ⟨rfl, hb⟩; refine ⟨_, rfl, ?_⟩; have n0_ := Aside0.mk (blk_below (g := gb765) (o := .cells #[.int .i64 a0_0, .string a0_1] 25 (0, 0)) (by (with_reducible repeat (first | refine blk_drewN ?_ _ | refine blk_drew ?_ | refine blk_alloc ?_ _)); exact BK765.out) hb); have n1_ := Aside0.mk (below_step (by repeat (first | (with_reducible first | exact HB.out | apply below_alloc | apply pw_below_drewN | apply below_drew1 | refine below_set ?_ GE765.out) | exact HB.out)) hb); clear BK765; clear HB; have BK765 := n0_; have HB := n1_; clear n0_ n1_; (try clear hb); (try clear hb2); (try clear hk); (try clear hi); have hcz8_0 : w7.cell? ⟨gb765, 0, none⟩ = some (.int .i64 a0_0) := (blk_cell BK765.out 0).trans rfl; have hcz8_1 : w7.cell? ⟨gb765, 1, none⟩ = some (.string a0_1) := (blk_cell BK765.out 1).trans rfl; have hfz8_0 := blk_frozen BK765.out 0; have hfz8_1 := blk_frozen BK765.out 1) | ((with_reducible refine gate_callee (f := 93) rfl ?_); refine goesL_ (some 8) rfl rfl Try.func93 (by kernel_rfl) rfl #[.agg #[.int .i64 a0_0, .string a0_1]] rfl (by (try simp only [List.map_toArray, List.map_cons, List.map_nil]); first | done | rfl | (simp only [List.length_drop, List.length_take]; rfl)) ?_; (with_reducible refine (impl_tableOf.calls k a0_0 a0_1 t767 _ A4.out).mono ?_); rintro e w9 ⟨v768, rfl, ho0, hb⟩; refine ⟨_, rfl, ?_⟩; have n0_ := Aside0.mk (Kd.R_lower ho0 (below_size (by repeat (first | (with_reducible first | exact HB.out | apply below_alloc | apply pw_below_drewN | apply below_drew1 | refine below_set ?_ GE765.out) | exact HB.out)))); have n1_ := Aside0.mk (blk_below (g := gb765) (o := .cells #[.int .i64 a0_0, .string a0_1] 25 (0, 0)) (by (with_reducible repeat (first | refine blk_drewN ?_ _ | refine blk_drew ?_ | refine blk_alloc ?_ _)); exact BK765.out) hb); have n2_ := Aside0.mk (below_step (by repeat (first | (with_reducible first | exact HB.out | apply below_alloc | apply pw_below_drewN | apply below_drew1 | refine below_set ?_ GE765.out) | exact HB.out)) hb); clear BK765; clear HB; have HO769 := n0_; have BK765 := n1_; have HB := n2_; clear n0_ n1_ n2_; (try clear hb); (try clear hb2); (try clear hk); (try clear hi); (try clear ho0)))
  go_ret2
  exact ⟨(v768), by first | rfl | (simp [errW_none, errW_some] <;> rfl) | (simp [*, errW_none, errW_some] <;> rfl), by (with_reducible repeat (first | apply Kd.R_alloc | apply Kd.R_drewN | apply Kd.R_drew)); exact HO769.out, by repeat (first | (with_reducible first | exact HB.out | apply below_alloc | apply pw_below_drewN | apply below_drew1 | refine below_set ?_ GE765.out) | exact HB.out)⟩
 ·replace c3 := Bool.eq_false_iff.mpr c3
  subst c3
  have H1 : (some (([] : List Int), false)) = some (r1, r2) := by rw [if_neg (show ¬ (false = true) by decide)] at H; exact H
  clear H
  have H := H1
  clear H1
  simp only [Option.some.injEq, Prod.mk.injEq] at H
  obtain ⟨rfl, rfl⟩ := H
  go_enter Try.func72, Try.ntmps72
  go_wp2_with (first | ((with_reducible refine gate_dst (N := 1) rfl ?_); refine box_event ?hg (N := 1) ?hd (cs := #[.int .i64 a0_0, .string a0_1]) (t := 25) ?hr ?_; (case hd => rfl); (case hg => rfl); (case hr => first | (go_simp; done) | (go_simp; rfl)); intro gb765 hg w10 hbox hb; have n0_ := Aside0.mk (below_step (by repeat (first | (with_reducible first | exact HB.out | apply below_alloc | apply pw_below_drewN | apply below_drew1) | exact HB.out)) hb); have n1_ := Aside0.mk (hbox); have n2_ := Aside0.mk ((by rw [hg]; exact (below_size (by repeat (first | (with_reducible first | exact HB.out | apply below_alloc | apply pw_below_drewN | apply below_drew1) | exact HB.out))) : w.heap.size ≤ gb765)); have n3_ := Aside0.mk ((by rw [hg]; exact (below_size (by repeat (first | (with_reducible first | exact HB.out | apply below_alloc | apply pw_below_drewN | apply below_drew1) | exact HB.out))) : w.heap.size ≤ gb765)); clear HB; have HB := n0_; have BK765 := n1_; have GW765 := n2_; have GE765 := n3_; clear n0_ n1_ n2_ n3_; clear hb hbox hg; have hcz11_0 : w10.cell? ⟨gb765, 0, none⟩ = some (.int .i64 a0_0) := (blk_cell BK765.out 0).trans rfl; have hcz11_1 : w10.cell? ⟨gb765, 1, none⟩ = some (.string a0_1) := (blk_cell BK765.out 1).trans rfl; have hfz11_0 := blk_frozen BK765.out 0; have hfz11_1 := blk_frozen BK765.out 1) | ((with_reducible refine gate_callee (f := 119) rfl ?_); refine goesL_ (some 5) rfl rfl Try.func119 (by kernel_rfl) rfl #[.agg #[.int .i64 a0_0, .string a0_1]] rfl (by (try simp only [List.map_toArray, List.map_cons, List.map_nil]); first | done | rfl | (simp only [List.length_drop, List.length_take]; rfl)) ?_; (with_reducible refine (impl_IsAcyclic.calls k a0_0 a0_1 false _ A2.out).mono ?_); rintro e w12 ⟨rfl, hb⟩; refine ⟨_, rfl, ?_⟩; have n0_ := Aside0.mk (blk_below (g := gb765) (o := .cells #[.int .i64 a0_0, .string a0_1] 25 (0, 0)) (by (with_reducible repeat (first | refine blk_drewN ?_ _ | refine blk_drew ?_ | refine blk_alloc ?_ _)); exact BK765.out) hb); have n1_ := Aside0.mk (below_step (by repeat (first | (with_reducible first | exact HB.out | apply below_alloc | apply pw_below_drewN | apply below_drew1 | refine below_set ?_ GE765.out) | exact HB.out)) hb); clear BK765; clear HB; have BK765 := n0_; have HB := n1_; clear n0_ n1_; (try clear hb); (try clear hb2); (try clear hk); (try clear hi)))
  go_ret2
  exact ⟨(.slice none 0 0), by first | rfl | (simp [errW_none, errW_some] <;> rfl) | (simp [*, errW_none, errW_some] <;> rfl), by first | exact Kd.R_nil _ _ _ _ _ | exact Kd.N_nil _ _ _ _ _ | exact Kd.V_nil _ _ _ _ _ | exact Kd.Q_nil _ _ _ _ _ | exact Kd.S_nil _ _ _ _ _, by repeat (first | (with_reducible first | exact HB.out | apply below_alloc | apply pw_below_drewN | apply below_drew1 | refine below_set ?_ GE765.out) | exact HB.out)⟩
def impl_isElement.f (a0 : Int) (a1 : Int) : Option (Bool) := if a1 ≥ 0 then (some (decide (a1 < a0))) else (some false)
set_option maxHeartbeats 8000000 in
set_option maxRecDepth 100000 in
theorem impl_isElement.calls (a0 : Int) (a1 : Int) (r : Bool) (w : World) (h : impl_isElement.f a0 a1 = some r) :
  Calls Try.prog 79 #[.int .i64 a0, .int .i64 a1] w fun e w' => e = .returned (.bool r) ∧ Drawn0 w w' := by
 have H : (if a1 ≥ 0 then (some (decide (a1 < a0))) else (some false)) = some r := h
 clear h
 by_cases c3 : a1 ≥ 0
 ·rw [if_pos c3] at H
  have c3b0 : decide (0 ≤ a1) = true := decide_eq_true c3
  clear c3
  obtain rfl := Option.some.inj H
  go_enter Try.func79, Try.ntmps79
  go_wp2
  go_ret
  exact ⟨by first | rfl | (simp; done) | (simp [*]; done), by repeat (first | exact Drawn0.refl _ | apply Drawn0.step)⟩
 ·rw [if_neg c3] at H
  have c3b0 : decide (0 ≤ a1) = false := decide_eq_false c3
  clear c3
  obtain rfl := Option.some.inj H
  go_enter Try.func79, Try.ntmps79
  go_wp2
  go_ret
  exact ⟨by first | rfl | (simp; done) | (simp [*]; done), by repeat (first | exact Drawn0.refl _ | apply Drawn0.step)⟩
end Go.Proofs.Yteblnjoljbdjjaa.P
namespace Go.Proofs.Yteblnjoljbdjjaa.P
open Go.RowKit Go.Proofs.YteblnjoljbdjjaaW.PrintWords Go.Proofs.YteblnjoljbdjjaaW.PrintLast Go.Proofs.YteblnjoljbdjjaaW.PrintMore
attribute [local go_sem] ptrOf_slice
set_option linter.unusedVariables false
set_option linter.unusedSimpArgs false
def impl_LinesRound.f (k : Nat) (a0_0 : Int) (a0_1 : ByteArray) (a1 : Int) : Option (List Int) := (impl_orderOf.f k a0_0 a0_1).bind fun bt => (if bt.2 = true then ((impl_isElement.f a0_0 a1).bind fun t => (if t = true then turnF k (linesB bt.1 a1) bt.1 a1 else (some ([] : List Int)))) else (some ([] : List Int)))
theorem impl_LinesRound.mono : ∀ a0 a1 a2 k, LeO (impl_LinesRound.f k a0 a1 a2) (impl_LinesRound.f (k + 1) a0 a1 a2) := by
  intro a0 a1 a2 k
  refine LeO.bind (impl_orderOf.mono _ _ _) (fun _ => LeO.ite (LeO.bind (LeO.refl _) (fun _ => LeO.ite (turnF.mono _ _ _ _) (LeO.refl _))) (LeO.refl _))
set_option maxHeartbeats 8000000 in
set_option maxRecDepth 2000 in
theorem impl_LinesRound.calls (k : Nat) (a0_0 : Int) (a0_1 : ByteArray) (a1 : Int) (r : List Int) (w : World) (h : impl_LinesRound.f k a0_0 a0_1 a1 = some r) :
    Calls Try.prog 38 #[.agg #[.int .i64 a0_0, .string a0_1], .int .i64 a1] w fun e w' => ∃ v0_ : Value, e = .returned (v0_) ∧ Kd.R (Kd.int .i64) 3 w' w.heap.size (fun _ => True) v0_ r ∧ Below w.heap.size w w' := by
  have eg : ∀ args w, (callFunc 84 args).run Try.prog w = .ok (.enter 84 args) w := enters_of Try.func84 (by kernel_rfl) rfl
  have EG := Aside0.mk eg
  have hu25 := Try.underlying25
  obtain ⟨⟨tl, tb⟩, h1, h⟩ := Option.bind_eq_some_iff.mp h
  replace h : (if tb = true then ((impl_isElement.f a0_0 a1).bind fun t => (if t = true then turnF k (linesB tl a1) tl a1 else (some ([] : List Int)))) else (some ([] : List Int))) = some r := h
  have A1 := Aside0.mk h1
  clear h1 eg
  cases tb with
  | false =>
    obtain rfl := Option.some.inj (show some ([] : List Int) = some r from h)
    clear h
    go_enter Try.func38, Try.ntmps38
    go_wp2_with (first
      | ((with_reducible refine gate_dst (N := 2) rfl ?_); refine box_event ?hg (N := 2) ?hd (cs := #[.int .i64 a0_0, .string a0_1]) (t := 25) ?hr ?_; (case hd => rfl); (case hg => rfl); (case hr => first | (go_simp; done) | (go_simp; rfl)); intro gb2 hg2 w1 hb2 hB1; have BX2 := Aside0.mk hb2; have HB1 := Aside0.mk hB1; clear hg2 hb2 hB1)
      | ((with_reducible refine gate_dst (N := 3) rfl ?_); refine box_event ?hg (N := 3) ?hd (cs := #[.int .i64 a1]) (t := 3) ?hr ?_; (case hd => rfl); (case hg => rfl); (case hr => first | (go_simp; done) | (go_simp; rfl)); intro gb3 hg3 w2 hb3 hB2; have BX3 := Aside0.mk hb3; have BX2' := Aside0.mk ((hB2.block gb2 (Array.getElem?_eq_some_iff.1 BX2.out).1).trans BX2.out); have HB2 := Aside0.mk (below_step HB1.out hB2); have x20_ : w2.cell? ⟨gb2, 0, none⟩ = some (.int .i64 a0_0) := (blk_cell BX2'.out 0).trans rfl; have x21_ : w2.cell? ⟨gb2, 1, none⟩ = some (.string a0_1) := (blk_cell BX2'.out 1).trans rfl; clear hg3 hb3 hB2)
      | (go_at_call 72
         refine (impl_orderOf.calls k a0_0 a0_1 tl false _ A1.out).mono ?_
         rintro e w3 ⟨v0, rfl, hR, hB3⟩
         obtain ⟨A, c, rfl⟩ := Kd.R_slice hR
         rw [ptrOf_slice]
         have HR := Aside0.mk hR
         have HB3 := Aside0.mk (below_step HB2.out hB3)
         have Y2 := Aside0.mk ((hB3.block gb2 (Array.getElem?_eq_some_iff.1 BX2'.out).1).trans BX2'.out)
         have Y3 := Aside0.mk ((hB3.block gb3 (Array.getElem?_eq_some_iff.1 BX3.out).1).trans BX3.out)
         have y20_ : ∀ o : Obj, (w3.alloc o).cell? ⟨gb2, 0, none⟩ = some (.int .i64 a0_0) := fun o => (blk_cell (((below_alloc (Below.refl w3.heap.size w3) o).block gb2 (Array.getElem?_eq_some_iff.1 Y2.out).1).trans Y2.out) 0).trans rfl
         have y3_ : ∀ o : Obj, (w3.alloc o).cell? ⟨gb3, 0, none⟩ = some (.int .i64 a1) := fun o => (blk_cell (((below_alloc (Below.refl w3.heap.size w3) o).block gb3 (Array.getElem?_eq_some_iff.1 Y3.out).1).trans Y3.out) 0).trans rfl
         clear hR hB3 x20_ x21_))
    go_ret
    exact ⟨_, rfl, Kd.R_nil _ _ _ _ _, by repeat (first | exact HB3.out | apply below_alloc | apply pw_below_drewN)⟩
  | true =>
    obtain ⟨te, h2, h⟩ := Option.bind_eq_some_iff.mp (show ((impl_isElement.f a0_0 a1).bind fun t => (if t = true then turnF k (linesB tl a1) tl a1 else (some ([] : List Int)))) = some r from h)
    have A2 := Aside0.mk h2
    clear h2
    cases te with
    | false =>
      obtain rfl := Option.some.inj (show some ([] : List Int) = some r from h)
      clear h
      go_enter Try.func38, Try.ntmps38
      go_wp2_with (first
        | ((with_reducible refine gate_dst (N := 2) rfl ?_); refine box_event ?hg (N := 2) ?hd (cs := #[.int .i64 a0_0, .string a0_1]) (t := 25) ?hr ?_; (case hd => rfl); (case hg => rfl); (case hr => first | (go_simp; done) | (go_simp; rfl)); intro gb2 hg2 w1 hb2 hB1; have BX2 := Aside0.mk hb2; have HB1 := Aside0.mk hB1; clear hg2 hb2 hB1)
        | ((with_reducible refine gate_dst (N := 3) rfl ?_); refine box_event ?hg (N := 3) ?hd (cs := #[.int .i64 a1]) (t := 3) ?hr ?_; (case hd => rfl); (case hg => rfl); (case hr => first | (go_simp; done) | (go_simp; rfl)); intro gb3 hg3 w2 hb3 hB2; have BX3 := Aside0.mk hb3; have BX2' := Aside0.mk ((hB2.block gb2 (Array.getElem?_eq_some_iff.1 BX2.out).1).trans BX2.out); have HB2 := Aside0.mk (below_step HB1.out hB2); have x20_ : w2.cell? ⟨gb2, 0, none⟩ = some (.int .i64 a0_0) := (blk_cell BX2'.out 0).trans rfl; have x21_ : w2.cell? ⟨gb2, 1, none⟩ = some (.string a0_1) := (blk_cell BX2'.out 1).trans rfl; clear hg3 hb3 hB2)
        | (go_at_call 72
           refine (impl_orderOf.calls k a0_0 a0_1 tl true _ A1.out).mono ?_
           rintro e w3 ⟨v0, rfl, hR, hB3⟩
           obtain ⟨A, c, rfl⟩ := Kd.R_slice hR
           rw [ptrOf_slice]
           have HR := Aside0.mk hR
           have HB3 := Aside0.mk (below_step HB2.out hB3)
           have Y2 := Aside0.mk ((hB3.block gb2 (Array.getElem?_eq_some_iff.1 BX2'.out).1).trans BX2'.out)
           have Y3 := Aside0.mk ((hB3.block gb3 (Array.getElem?_eq_some_iff.1 BX3.out).1).trans BX3.out)
           have y20_ : ∀ o : Obj, (w3.alloc o).cell? ⟨gb2, 0, none⟩ = some (.int .i64 a0_0) := fun o => (blk_cell (((below_alloc (Below.refl w3.heap.size w3) o).block gb2 (Array.getElem?_eq_some_iff.1 Y2.out).1).trans Y2.out) 0).trans rfl
           have y3_ : ∀ o : Obj, (w3.alloc o).cell? ⟨gb3, 0, none⟩ = some (.int .i64 a1) := fun o => (blk_cell (((below_alloc (Below.refl w3.heap.size w3) o).block gb3 (Array.getElem?_eq_some_iff.1 Y3.out).1).trans Y3.out) 0).trans rfl
           clear hR hB3 x20_ x21_)
        | (go_at_call 79
           refine (impl_isElement.calls a0_0 a1 false _ A2.out).mono ?_
           rintro e w4 ⟨rfl, ⟨nd, rfl⟩⟩))
      go_ret
      exact ⟨_, rfl, Kd.R_nil _ _ _ _ _, by repeat (first | exact HB3.out | apply below_alloc | apply pw_below_drewN)⟩
    | true =>
      have HQ := Aside0.mk (show turnF k (linesB tl a1) tl a1 = some r from h)
      clear h
      go_enter Try.func38, Try.ntmps38
      go_wp2_with (first
        | ((with_reducible refine gate_dst (N := 2) rfl ?_); refine box_event ?hg (N := 2) ?hd (cs := #[.int .i64 a0_0, .string a0_1]) (t := 25) ?hr ?_; (case hd => rfl); (case hg => rfl); (case hr => first | (go_simp; done) | (go_simp; rfl)); intro gb2 hg2 w1 hb2 hB1; have BX2 := Aside0.mk hb2; have HB1 := Aside0.mk hB1; clear hg2 hb2 hB1)
        | ((with_reducible refine gate_dst (N := 3) rfl ?_); refine box_event ?hg (N := 3) ?hd (cs := #[.int .i64 a1]) (t := 3) ?hr ?_; (case hd => rfl); (case hg => rfl); (case hr => first | (go_simp; done) | (go_simp; rfl)); intro gb3 hg3 w2 hb3 hB2; have BX3 := Aside0.mk hb3; have BX2' := Aside0.mk ((hB2.block gb2 (Array.getElem?_eq_some_iff.1 BX2.out).1).trans BX2.out); have HB2 := Aside0.mk (below_step HB1.out hB2); have x20_ : w2.cell? ⟨gb2, 0, none⟩ = some (.int .i64 a0_0) := (blk_cell BX2'.out 0).trans rfl; have x21_ : w2.cell? ⟨gb2, 1, none⟩ = some (.string a0_1) := (blk_cell BX2'.out 1).trans rfl; clear hg3 hb3 hB2)
        | (go_at_call 72
           refine (impl_orderOf.calls k a0_0 a0_1 tl true _ A1.out).mono ?_
           rintro e w3 ⟨v0, rfl, hR, hB3⟩
           obtain ⟨A, c, rfl⟩ := Kd.R_slice hR
           rw [ptrOf_slice]
           have HR := Aside0.mk hR
           have HB3 := Aside0.mk (below_step HB2.out hB3)
           have Y2 := Aside0.mk ((hB3.block gb2 (Array.getElem?_eq_some_iff.1 BX2'.out).1).trans BX2'.out)
           have Y3 := Aside0.mk ((hB3.block gb3 (Array.getElem?_eq_some_iff.1 BX3.out).1).trans BX3.out)
           have y20_ : ∀ o : Obj, (w3.alloc o).cell? ⟨gb2, 0, none⟩ = some (.int .i64 a0_0) := fun o => (blk_cell (((below_alloc (Below.refl w3.heap.size w3) o).block gb2 (Array.getElem?_eq_some_iff.1 Y2.out).1).trans Y2.out) 0).trans rfl
           have y3_ : ∀ o : Obj, (w3.alloc o).cell? ⟨gb3, 0, none⟩ = some (.int .i64 a1) := fun o => (blk_cell (((below_alloc (Below.refl w3.heap.size w3) o).block gb3 (Array.getElem?_eq_some_iff.1 Y3.out).1).trans Y3.out) 0).trans rfl
           clear hR hB3 x20_ x21_)
        | (go_at_call 79
           refine (impl_isElement.calls a0_0 a1 true _ A2.out).mono ?_
           rintro e w4 ⟨rfl, ⟨nd, rfl⟩⟩)
        | (go_at_call 83
           have hO_ := below_alloc (Below.refl w3.heap.size w3) (Obj.cells #[.pointer A] 77 (0, 0))
           have hN_ : (w3.alloc (Obj.cells #[.pointer A] 77 (0, 0))).heap[w3.heap.size]? = some (Obj.cells #[.pointer A] 77 (0, 0)) := blk_new w3 _
           have hD_ := pw_below_drewN hO_ nd
           have hZ_ : ((w3.alloc (Obj.cells #[.pointer A] 77 (0, 0))).drewN nd).heap[w3.heap.size]? = some (Obj.cells #[.pointer A] 77 (0, 0)) := hN_
           generalize ((w3.alloc (Obj.cells #[.pointer A] 77 (0, 0))).drewN nd) = w5 at hD_ hZ_ ⊢
           have hz3_ := (hD_.block gb3 (Array.getElem?_eq_some_iff.1 Y3.out).1).trans Y3.out
           have hC_ := Kd.C_below (Kd.R_reads' HR.out).2.2 hD_
           have hw5_ := below_step HB3.out hD_
           refine (turnF_calls k 84 #[.pointer (some ⟨w3.heap.size, 0, none⟩), .pointer (some ⟨gb3, 0, none⟩)] EG.out (linesB tl a1) tl a1 r A w5 hC_ HQ.out (fun hl hi W hW a b c ha hb hc => lines1.calls tl a1 a b c A w3.heap.size gb3 W (Kd.C_below hC_ hW) hl hi ha hb hc ((hW.block w3.heap.size (Array.getElem?_eq_some_iff.1 hZ_).1).trans hZ_) ((hW.block gb3 (Array.getElem?_eq_some_iff.1 hz3_).1).trans hz3_))).mono ?_
           rintro e w6 ⟨v6, rfl, hR6, hB6⟩
           have HR6 := Aside0.mk (Kd.R_lower hR6 hw5_.size)
           have HB6 := Aside0.mk (below_step hw5_ hB6)
           clear hR6 hB6 hC_ hw5_ hz3_ hN_ hO_ hZ_ hD_))
      go_ret
      exact ⟨_, rfl, HR6.out, HB6.out⟩
end Go.Proofs.Yteblnjoljbdjjaa.P
