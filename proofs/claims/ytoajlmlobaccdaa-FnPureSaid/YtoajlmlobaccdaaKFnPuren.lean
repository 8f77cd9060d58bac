/- What the law FnPure reaches, part 14: functions as plain Lean functions with the proofs that their calls come to them, and plain lemmas over these. Put together by a program (wip/pack.py). -/
import Derived.Test.YtoajlmlobaccdaaKFnPured
import Derived.Test.YtoajlmlobaccdaaKFnPuree
import Derived.Test.YtoajlmlobaccdaaKFnPuref
import Derived.Test.YtoajlmlobaccdaaKFnPureg
import Derived.Test.YtoajlmlobaccdaaKFnPureh
import Derived.Test.YtoajlmlobaccdaaKFnPurei
import Derived.Test.YtoajlmlobaccdaaKFnPurej
import Derived.Test.YtoajlmlobaccdaaKFnPurem
import Derived.Test.YtoajlmlobaccdaaKFnPurea
import Derived.ChangeArms
import Derived.Deep.Slices
import Derived.Deep.Fields
import Derived.WideShapes
import Derived.Test.YtoajlmlobaccdaaKFnPurec
import Derived.KernelRfl
namespace Go.Proofs.Ytoajlmlobaccdaa.P
open Go.RowKit Go.Proofs.YtoajlmlobaccdaaW.PrintWords Go.Proofs.YtoajlmlobaccdaaW.PrintLast Go.Proofs.YtoajlmlobaccdaaW.PrintMore
attribute [local go_sem] ptrOf_slice
attribute [local go_sem] min2_str max2_int min2_int max_two min_two max_three min_three max_four min_four
set_option linter.unusedVariables false
set_option linter.unusedSimpArgs false
def smallP (t : List Int) (a : List (List Int)) (p : List S56) (c : List (List Int)) : Bool := decide (t.length ≤ 100000) && (decide (a.length ≤ 100000) && ((a.all fun l => decide (l.length ≤ 100000)) && (decide (p.length ≤ 100000) && (decide (c.length ≤ 100000) && (c.all fun l => decide (l.length ≤ 100000))))))
def laws_FnPure.f (k : Nat) (l0 : List Int) : Option Bool := (laws_big.f l0).bind fun b => if b = true then some true else
  (spec_DrawIsWiring.f k l0).bind fun nw => (spec_DrawArePoints.f k l0).bind fun ps => if nw.2.length ≤ 100000 ∧ ps.length ≤ 100000 then
    (impl_TurnWiring.f k nw.1 nw.2).bind fun tk => (impl_SwapsOf.f k nw.1 nw.2).bind fun a => (impl_SortPoints.f k ps).bind fun p => (impl_CellTable.f k nw.1 nw.2).bind fun c => if smallP tk.1 a p c = true then
      (spec_TurnWiring.f k nw.1 nw.2).bind fun sk => (laws_sameInts.f k nw.2 nw.2).bind fun e1 => (laws_samePoints.f k ps ps).bind fun e2 => (laws_sameInts.f k tk.1 sk.1).bind fun e3 =>
      (spec_SwapsOf.f k nw.1 nw.2).bind fun a2 => (laws_sameLists.f k a a2).bind fun e4 => (spec_SortPoints.f k ps).bind fun p2 => (laws_samePoints.f k p p2).bind fun e5 =>
      (spec_CellTable.f k nw.1 nw.2).bind fun c2 => (laws_sameLists.f k c c2).bind fun e6 => if (e1 && (e2 && ((tk.2 == sk.2) && (e3 && (e4 && (e5 && e6)))))) = true then some true else none
    else none else none
theorem cst_ {α : Type} {d : Kd α} {w W W1 : World} {A : Option Addr} {n : Nat} {xs : List α} (h : Aside0 (d.C w A n xs)) (hb : Below W.heap.size W W1) (f : d.C w A n xs → d.C W A n xs := by intro H_; (repeat (first | exact H_ | (with_reducible refine Kd.C_alloc ?_ _) | (with_reducible refine Kd.C_drewN ?_ _) | (with_reducible refine Kd.C_drew ?_)))) : Aside0 (d.C W1 A n xs) := ⟨Kd.C_below (f h.out) hb⟩
theorem cC_ {p q : Prop} (h : Aside0 q) (f : q → p := by intro H_; (repeat (first | exact H_ | (with_reducible refine Kd.C_alloc ?_ _) | (with_reducible refine Kd.C_drewN ?_ _) | (with_reducible refine Kd.C_drew ?_)))) : p := f h.out
theorem kx0_ {w W W1 : World} {S : Nat → Prop} (h : Kept w W S) (f : Kept w W S → Kept w W1 S := by intro H_; repeat (first | (with_reducible first | exact H_ | apply Kept.alloc | apply Kept.drewN | apply Kept.drew) | exact H_)) : Aside0 (Kept w W1 S) := ⟨f h⟩
theorem all_getD (a : List (List Int)) (h : (a.all fun l => decide (l.length ≤ 100000)) = true) (j : Nat) : (a.getD j []).length ≤ 100000 := by
  rw [List.getD_eq_getElem?_getD]
  by_cases hj : j < a.length
  · rw [List.getElem?_eq_getElem hj]
    exact of_decide_eq_true (List.all_eq_true.1 h _ (List.getElem_mem hj))
  · rw [List.getElem?_eq_none (by omega)]
    exact Nat.zero_le _
theorem set_getD (a : List (List Int)) (i : Nat) (y : List Int) (h : ∀ j, (a.getD j []).length ≤ 100000) (hy : y.length ≤ 100000) (j : Nat) : ((a.set i y).getD j []).length ≤ 100000 := by
  rw [List.getD_eq_getElem?_getD, List.getElem?_set]
  have hj := h j
  rw [List.getD_eq_getElem?_getD] at hj
  split
  · split
    · exact hy
    · exact Nat.zero_le _
  · exact hj
set_option maxHeartbeats 8000000 in
set_option maxRecDepth 100000 in
theorem laws_FnPure.calls (k : Nat) (A0 : Option Addr) (c0 : Nat) (l0 : List Int) (r : Bool) (w : World) (hr0 : Kd.C (Kd.int .u8) w A0 l0.length l0) (hc0 : l0.length ≤ c0) (h : laws_FnPure.f k l0 = some r) :
    Calls Try.prog 8 #[.slice A0 l0.length c0] w fun e w' => e = .returned (.bool r) ∧ Below w.heap.size w w' := by
  have HR0 := Aside0.mk hr0
  have HC0 := Aside0.mk hc0
  clear hr0 hc0
  have HB := Aside0.mk (Below.refl w.heap.size w)
  unfold laws_FnPure.f at h
  replace h := bnd_ h
  obtain ⟨b, A2, h⟩ := h
  cases b with
  | true =>
    rw [if_pos rfl] at h
    obtain rfl := Option.some.inj h
    clear h
    go_enter Try.func8, Try.ntmps8
    go_wp2_with (first | ((with_reducible refine gate_callee (f := 32) rfl ?_); refine goesL_ (some 24) rfl rfl Try.func32 (by kernel_rfl) rfl #[.slice A0 l0.length c0] rfl (by (try simp only [List.map_toArray, List.map_cons, List.map_nil]); first | done | rfl | (simp only [List.length_drop, List.length_take]; rfl)) ?_; (with_reducible refine (laws_big.calls _ _ l0 true _ ?side1 ?side2 A2.out).mono ?_); (case side1 => repeat (first | exact HR0.out | (with_reducible refine Kd.C_alloc ?_ _) | (with_reducible refine Kd.C_drewN ?_ _) | (with_reducible refine Kd.C_drew ?_))); (case side2 => exact HC0.out); rintro e w' ⟨rfl, ⟨nd, rfl⟩⟩; refine ⟨_, rfl, ?_⟩))
    go_ret
    exact ⟨er_, bx0 HB.out⟩
  | false =>
    rw [if_neg (by simp)] at h
    replace h := bnd_ h
    obtain ⟨⟨t1558, t1559⟩, A4, h⟩ := h
    replace h := bnd_ h
    obtain ⟨t1562, A5, h⟩ := h
    by_cases hg : t1559.length ≤ 100000 ∧ t1562.length ≤ 100000
    case neg => rw [if_neg hg] at h; cases h
    rw [if_pos hg] at h
    replace h := bnd_ h
    obtain ⟨⟨t1577, t1578⟩, A8, h⟩ := h
    replace h := bnd_ h
    obtain ⟨t1581, A9, h⟩ := h
    replace h := bnd_ h
    obtain ⟨t1584, A10, h⟩ := h
    replace h := bnd_ h
    obtain ⟨t1587, A11, h⟩ := h
    by_cases hs : smallP t1577 t1581 t1584 t1587 = true
    case neg => rw [if_neg hs] at h; cases h
    rw [if_pos hs] at h
    replace h := bnd_ h
    obtain ⟨⟨su, sk⟩, B1, h⟩ := h
    replace h := bnd_ h
    obtain ⟨e1, B2, h⟩ := h
    replace h := bnd_ h
    obtain ⟨e2, B3, h⟩ := h
    replace h := bnd_ h
    obtain ⟨e3, B4, h⟩ := h
    replace h := bnd_ h
    obtain ⟨a2, B5, h⟩ := h
    replace h := bnd_ h
    obtain ⟨e4, B6, h⟩ := h
    replace h := bnd_ h
    obtain ⟨p2, B7, h⟩ := h
    replace h := bnd_ h
    obtain ⟨e5, B8, h⟩ := h
    replace h := bnd_ h
    obtain ⟨d2, B9, h⟩ := h
    replace h := bnd_ h
    obtain ⟨e6, B10, h⟩ := h
    by_cases he : (e1 && (e2 && ((t1578 == sk) && (e3 && (e4 && (e5 && e6)))))) = true
    case neg => rw [if_neg he] at h; cases h
    rw [if_pos he] at h
    obtain rfl := Option.some.inj h
    clear h
    simp only [Bool.and_eq_true] at he
    obtain ⟨rfl, rfl, heq, rfl, rfl, rfl, rfl⟩ := he
    obtain rfl := beq_iff_eq.1 heq
    clear heq
    unfold smallP at hs
    simp only [Bool.and_eq_true, decide_eq_true_eq] at hs
    have HS1 := am_ hs.1
    have HS2 := am_ hs.2.1
    have HS3 := am_ (all_getD _ hs.2.2.1)
    have HS4 := am_ hs.2.2.2.1
    have HS5 := am_ hs.2.2.2.2.1
    have HS6 := am_ (all_getD _ hs.2.2.2.2.2)
    clear hs
    obtain ⟨y1565, hy⟩ : ∃ y_ : List Int, y_ = ([] : List Int) := ⟨_, rfl⟩
    have Ny1565 := am_ hy
    clear hy
    obtain ⟨y1568, hy⟩ : ∃ y_ : List Int, y_ = y1565 ++ t1559 := ⟨_, rfl⟩
    have Ny1568 := am_ hy
    clear hy
    obtain ⟨y1571, hy⟩ : ∃ y_ : List S56, y_ = ([] : List S56) := ⟨_, rfl⟩
    have Ny1571 := am_ hy
    clear hy
    obtain ⟨y1574, hy⟩ : ∃ y_ : List S56, y_ = y1571 ++ t1562 := ⟨_, rfl⟩
    have Ny1574 := am_ hy
    clear hy
    have LMc6 := am_ (show y1565.length + t1559.length < 17592186044416 from by rw [Ny1565.out]; have := hg.1; simp; omega)
    have LMc7 := am_ (show y1571.length + t1562.length < 8796093022208 from by rw [Ny1571.out]; have := hg.2; simp; omega)
    clear hg
    go_enter Try.func8, Try.ntmps8
    go_wp2_with (first
      | ((with_reducible refine gate_callee (f := 32) rfl ?_); refine goesL_ (some 24) rfl rfl Try.func32 (by kernel_rfl) rfl #[.slice A0 l0.length c0] rfl (by (try simp only [List.map_toArray, List.map_cons, List.map_nil]); first | done | rfl | (simp only [List.length_drop, List.length_take]; rfl)) ?_; (with_reducible refine (laws_big.calls _ _ l0 false _ ?side1 ?side2 A2.out).mono ?_); (case side1 => repeat (first | exact HR0.out | (with_reducible refine Kd.C_alloc ?_ _) | (with_reducible refine Kd.C_drewN ?_ _) | (with_reducible refine Kd.C_drew ?_))); (case side2 => exact HC0.out); rintro e w' ⟨rfl, ⟨nd, rfl⟩⟩; refine ⟨_, rfl, ?_⟩)
      | ((with_reducible refine gate_callee (f := 33) rfl ?_); refine goesL_ (some 27) rfl rfl Try.func33 (by kernel_rfl) rfl #[.slice A0 l0.length c0] rfl (by (try simp only [List.map_toArray, List.map_cons, List.map_nil]); first | done | rfl | (simp only [List.length_drop, List.length_take]; rfl)) ?_; (with_reducible refine (spec_DrawIsWiring.calls k _ _ l0 t1558 t1559 _ ?side1 ?side2 A4.out).mono ?_); (case side1 => repeat (first | exact HR0.out | (with_reducible refine Kd.C_alloc ?_ _) | (with_reducible refine Kd.C_drewN ?_ _) | (with_reducible refine Kd.C_drew ?_))); (case side2 => exact HC0.out); rintro e w12 ⟨v1560, rfl, ho0, hb⟩; refine ⟨_, rfl, ?_⟩; have n0_ := Aside0.mk (Kd.R_lower ho0 (below_size (by repeat (first | (with_reducible first | exact HB.out | apply below_alloc | apply pw_below_drewN | apply below_drew1) | exact HB.out)))); have n1_ := Aside0.mk (below_step (by repeat (first | (with_reducible first | exact HB.out | apply below_alloc | apply pw_below_drewN | apply below_drew1) | exact HB.out)) hb); clear HB; have HO1561 := n0_; have HB := n1_; clear n0_ n1_; (try clear hb); (try clear hb2); (try clear hk); (try clear hi); (try clear ho0))
      | ((with_reducible refine gate_callee (f := 34) rfl ?_); refine goesL_ (some 31) rfl rfl Try.func34 (by kernel_rfl) rfl #[.slice A0 l0.length c0] rfl (by (try simp only [List.map_toArray, List.map_cons, List.map_nil]); first | done | rfl | (simp only [List.length_drop, List.length_take]; rfl)) ?_; (with_reducible refine (spec_DrawArePoints.calls k _ _ l0 t1562 _ ?side1 ?side2 A5.out).mono ?_); (case side1 => repeat (first | exact (Kd.C_below HR0.out HB.out) | (with_reducible refine Kd.C_alloc ?_ _) | (with_reducible refine Kd.C_drewN ?_ _) | (with_reducible refine Kd.C_drew ?_))); (case side2 => exact HC0.out); rintro e w13 ⟨v1563, rfl, ho0, hb⟩; refine ⟨_, rfl, ?_⟩; have n0_ := Aside0.mk (Kd.R_below (by (with_reducible repeat (first | apply Kd.R_alloc | apply Kd.R_drewN | apply Kd.R_drew)); exact HO1561.out) hb); have n1_ := Aside0.mk (Kd.R_lower ho0 (below_size (by repeat (first | (with_reducible first | exact HB.out | apply below_alloc | apply pw_below_drewN | apply below_drew1) | exact HB.out)))); have n2_ := Aside0.mk (below_step (by repeat (first | (with_reducible first | exact HB.out | apply below_alloc | apply pw_below_drewN | apply below_drew1) | exact HB.out)) hb); clear HO1561; clear HB; have HO1561 := n0_; have HO1564 := n1_; have HB := n2_; clear n0_ n1_ n2_; (try clear hb); (try clear hb2); (try clear hk); (try clear hi); (try clear ho0))
      | ((with_reducible refine gate_dst (N := 32) rfl ?_); refine Kd.R_lit (Kd.int .i64) _ 3 ?hg (N := 32) ?hd (xs := ([] : List Int)) (inner := []) (ok := fun _ => True) (okp := fun _ => True) ?hr ?hp (fun _ hk => hk) trivial (Below.refl _ _) (Nat.le_refl _) (by simp) ?_; (case hd => rfl); (case hg => rfl); (case hr => first | (go_simp; done) | (go_simp; rfl)); (case hp => exact (Reps.none _ _)); intro v1566 w14 ho15 hb hg_ hnew_; clear hg_ hnew_; (first | rw [← Ny1565.out] at ho15 | (simp only [Int.reduceToNat] at ho15; rw [← Ny1565.out] at ho15)); have n0_ := Aside0.mk (Kd.R_elder' (by (with_reducible repeat (first | apply Kd.R_alloc | apply Kd.R_drewN | apply Kd.R_drew)); exact HO1561.out) (Kd.R_base ho15) hb); have n1_ := Aside0.mk (Kd.R_below (by (with_reducible repeat (first | apply Kd.R_alloc | apply Kd.R_drewN | apply Kd.R_drew)); exact HO1564.out) hb); have n2_ := Aside0.mk (Kd.R_lower (Kd.R_new' ho15 (Kd.R_lt (by (with_reducible repeat (first | apply Kd.R_alloc | apply Kd.R_drewN | apply Kd.R_drew)); exact HO1561.out))) (below_size (by repeat (first | (with_reducible first | exact HB.out | apply below_alloc | apply pw_below_drewN | apply below_drew1) | exact HB.out)))); have n3_ := Aside0.mk (below_step (by repeat (first | (with_reducible first | exact HB.out | apply below_alloc | apply pw_below_drewN | apply below_drew1) | exact HB.out)) hb); clear HO1561; clear HO1564; clear HB; have HO1561 := n0_; have HO1564 := n1_; have HO1567 := n2_; have HB := n3_; clear n0_ n1_ n2_ n3_; clear hb ho15; obtain ⟨Ao17, co17, eo17⟩ := Kd.R_slice HO1561.out; subst eo17)
      | ((with_reducible refine gate_builtin (b := .append) (xs := #[.tmp 32, .tmp 33]) rfl ?_); at_builtin; refine Kd.R_append_rows (Kd.int .i64) (w0 := w) w.heap.size rfl (.tmp 32) (.tmp 33) 34 3 (.int .i64 0) 8 rfl Try.underlying34 info3 rfl (by decide) (by omega) v1566 y1565 t1559 _ _ _ (fun k_ => some k_ ≠ (.slice Ao17 t1559.length co17 : Value).ownBlock) (fun _ => False) rfl rfl ?aO ?aR (fun _ _ h => h) (fun _ h => h.elim) ?aF ?aB ?aS ?aL ?_; (case aR => repeat (first | exact (Kd.R_reads' HO1561.out).2.2 | (with_reducible refine Kd.C_alloc ?_ _) | (with_reducible refine Kd.C_drewN ?_ _) | (with_reducible refine Kd.C_drew ?_))); (case aB => exact (by repeat (first | (with_reducible first | exact HB.out | apply below_alloc | apply pw_below_drewN | apply below_drew1) | exact HB.out))); (case aF => exact (fun k_ hk => Kd.fresh' (Kd.R_lt (by (with_reducible repeat (first | apply Kd.R_alloc | apply Kd.R_drewN | apply Kd.R_drew)); exact HO1561.out)) k_ hk)); (case aO => exact (by (with_reducible repeat (first | apply Kd.R_alloc | apply Kd.R_drewN | apply Kd.R_drew)); exact Kd.R_mono HO1567.out (fun _ hk => hk.2))); (case aS => exact (below_size (by repeat (first | (with_reducible first | exact HB.out | apply below_alloc | apply pw_below_drewN | apply below_drew1) | exact HB.out)))); (case aL => have := LMc6.out; omega); intro v1569 w16 ho hb hg hat; rw [← Ny1568.out] at ho; have n0_ := Aside0.mk (Kd.R_after (ok := (fun _ => True)) (by (with_reducible repeat (first | apply Kd.R_alloc | apply Kd.R_drewN | apply Kd.R_drew)); exact HO1561.out) hg hat); have n1_ := Aside0.mk (Kd.R_over' (by (with_reducible repeat (first | apply Kd.R_alloc | apply Kd.R_drewN | apply Kd.R_drew)); exact HO1564.out) (Kd.R_typed (by (with_reducible repeat (first | apply Kd.R_alloc | apply Kd.R_drewN | apply Kd.R_drew)); exact HO1567.out)) (by decide) hg); have n2_ := Aside0.mk (hb); have n3_ := Aside0.mk (ho); clear HO1561; clear HO1564; clear HB; clear HO1567; have HO1561 := n0_; have HO1564 := n1_; have HB := n2_; have HO1570 := n3_; clear n0_ n1_ n2_ n3_; clear ho hb hg hat)
      | ((with_reducible refine gate_dst (N := 35) rfl ?_); refine Kd.R_lit k56 _ 56 ?hg (N := 35) ?hd (xs := ([] : List (S56))) (inner := []) (ok := fun _ => True) (okp := fun _ => True) ?hr ?hp (fun _ hk => hk) trivial (Below.refl _ _) (Nat.le_refl _) (by simp) ?_; (case hd => rfl); (case hg => rfl); (case hr => first | (go_simp; done) | (go_simp; rfl)); (case hp => exact (Reps.none _ _)); intro v1572 w18 ho19 hb hg_ hnew_; clear hg_ hnew_; (first | rw [← Ny1571.out] at ho19 | (simp only [Int.reduceToNat] at ho19; rw [← Ny1571.out] at ho19)); have n0_ := Aside0.mk (Kd.R_below (by (with_reducible repeat (first | apply Kd.R_alloc | apply Kd.R_drewN | apply Kd.R_drew)); exact HO1561.out) hb); have n1_ := Aside0.mk (Kd.R_elder' (by (with_reducible repeat (first | apply Kd.R_alloc | apply Kd.R_drewN | apply Kd.R_drew)); exact HO1564.out) (Kd.R_base ho19) hb); have n2_ := Aside0.mk (Kd.R_below (by (with_reducible repeat (first | apply Kd.R_alloc | apply Kd.R_drewN | apply Kd.R_drew)); exact HO1570.out) hb); have n3_ := Aside0.mk (Kd.R_lower (Kd.R_new' ho19 (Kd.R_lt (by (with_reducible repeat (first | apply Kd.R_alloc | apply Kd.R_drewN | apply Kd.R_drew)); exact HO1564.out))) (below_size (by repeat (first | (with_reducible first | exact HB.out | apply below_alloc | apply pw_below_drewN | apply below_drew1) | exact HB.out)))); have n4_ := Aside0.mk (below_step (by repeat (first | (with_reducible first | exact HB.out | apply below_alloc | apply pw_below_drewN | apply below_drew1) | exact HB.out)) hb); clear HO1561; clear HO1564; clear HO1570; clear HB; have HO1561 := n0_; have HO1564 := n1_; have HO1570 := n2_; have HO1573 := n3_; have HB := n4_; clear n0_ n1_ n2_ n3_ n4_; clear hb ho19; obtain ⟨Ao21, co21, eo21⟩ := Kd.R_slice HO1564.out; subst eo21)
      | ((with_reducible refine gate_builtin (b := .append) (xs := #[.tmp 35, .tmp 36]) rfl ?_); at_builtin; refine Kd.R_append_rows k56 (w0 := w) w.heap.size rfl (.tmp 35) (.tmp 36) 50 56 (.agg #[(.int .i64 0), (.int .i64 0)]) 16 rfl Try.underlying50 info56 rfl (by decide) (by omega) v1572 y1571 t1562 _ _ _ (fun k_ => some k_ ≠ (.slice Ao21 t1562.length co21 : Value).ownBlock) (fun _ => False) rfl rfl ?aO ?aR (fun _ _ h => h) (fun _ h => h.elim) ?aF ?aB ?aS ?aL ?_; (case aR => repeat (first | exact (Kd.R_reads' HO1564.out).2.2 | (with_reducible refine Kd.C_alloc ?_ _) | (with_reducible refine Kd.C_drewN ?_ _) | (with_reducible refine Kd.C_drew ?_))); (case aB => exact (by repeat (first | (with_reducible first | exact HB.out | apply below_alloc | apply pw_below_drewN | apply below_drew1) | exact HB.out))); (case aF => exact (fun k_ hk => Kd.fresh' (Kd.R_lt (by (with_reducible repeat (first | apply Kd.R_alloc | apply Kd.R_drewN | apply Kd.R_drew)); exact HO1564.out)) k_ hk)); (case aO => exact (by (with_reducible repeat (first | apply Kd.R_alloc | apply Kd.R_drewN | apply Kd.R_drew)); exact Kd.R_mono HO1573.out (fun _ hk => hk.2))); (case aS => exact (below_size (by repeat (first | (with_reducible first | exact HB.out | apply below_alloc | apply pw_below_drewN | apply below_drew1) | exact HB.out)))); (case aL => have := LMc7.out; omega); intro v1575 w20 ho hb hg hat; rw [← Ny1574.out] at ho; have n0_ := Aside0.mk (Kd.R_over' (by (with_reducible repeat (first | apply Kd.R_alloc | apply Kd.R_drewN | apply Kd.R_drew)); exact HO1561.out) (Kd.R_typed (by (with_reducible repeat (first | apply Kd.R_alloc | apply Kd.R_drewN | apply Kd.R_drew)); exact HO1573.out)) (by decide) hg); have n1_ := Aside0.mk (Kd.R_after (ok := (fun _ => True)) (by (with_reducible repeat (first | apply Kd.R_alloc | apply Kd.R_drewN | apply Kd.R_drew)); exact HO1564.out) hg hat); have n2_ := Aside0.mk (Kd.R_over' (by (with_reducible repeat (first | apply Kd.R_alloc | apply Kd.R_drewN | apply Kd.R_drew)); exact HO1570.out) (Kd.R_typed (by (with_reducible repeat (first | apply Kd.R_alloc | apply Kd.R_drewN | apply Kd.R_drew)); exact HO1573.out)) (by decide) hg); have n3_ := Aside0.mk (hb); have n4_ := Aside0.mk (ho); clear HO1561; clear HO1564; clear HO1570; clear HB; clear HO1573; have HO1561 := n0_; have HO1564 := n1_; have HO1570 := n2_; have HB := n3_; have HO1576 := n4_; clear n0_ n1_ n2_ n3_ n4_; clear ho hb hg hat)
      | ((with_reducible refine gate_callee (f := 35) rfl ?_); refine goesL_ (some 41) rfl rfl Try.func35 (by kernel_rfl) rfl #[.int .i64 t1558, .slice Ao17 t1559.length co17] rfl (by (try simp only [List.map_toArray, List.map_cons, List.map_nil]); first | done | rfl | (simp only [List.length_drop, List.length_take]; rfl)) ?_; (with_reducible refine (impl_TurnWiring.calls k t1558 _ _ t1559 t1577 t1578 _ ?side1 ?side2 A8.out).mono ?_); (case side1 => repeat (first | exact (Kd.R_reads' HO1561.out).2.2 | (with_reducible refine Kd.C_alloc ?_ _) | (with_reducible refine Kd.C_drewN ?_ _) | (with_reducible refine Kd.C_drew ?_))); (case side2 => exact (Kd.R_reads' HO1561.out).2.1); rintro e w22 ⟨v1579, rfl, ho0, hb⟩; refine ⟨_, rfl, ?_⟩; obtain ⟨N0_, n0a, n0b, n0c, n0d, n0t, n0z⟩ : ∃ N_ : Nat, Kd.R (Kd.int .i64) 3 w22 w.heap.size (fun k_ => k_ < N_) (.slice Ao17 t1559.length co17) t1559 ∧ Kd.R k56 56 w22 w.heap.size (fun k_ => k_ < N_) (.slice Ao21 t1562.length co21) t1562 ∧ Kd.R (Kd.int .i64) 3 w22 w.heap.size (fun k_ => k_ < N_) v1569 y1568 ∧ Kd.R k56 56 w22 w.heap.size (fun k_ => k_ < N_) v1575 y1574 ∧ Kd.R (Kd.int .i64) 3 w22 w.heap.size (fun k_ => N_ ≤ k_) v1579 t1577 ∧ N_ ≤ w22.heap.size := ⟨_, Kd.R_mono (Kd.R_old (rx_ HO1561.out) hb) (fun _ h_ => h_.2), Kd.R_mono (Kd.R_old (rx_ HO1564.out) hb) (fun _ h_ => h_.2), Kd.R_mono (Kd.R_old (rx_ HO1570.out) hb) (fun _ h_ => h_.2), Kd.R_mono (Kd.R_old (rx_ HO1576.out) hb) (fun _ h_ => h_.2), Kd.R_lower (Kd.R_mono (Kd.R_bound ho0) (fun _ h_ => h_.2.1)) (below_size (bx0 HB.out)), hb.size⟩; have z_ := bs0_ HB hb; clear HB HO1561 HO1564 HO1570 HO1576 hb ho0; have HB := z_; clear z_; have FW := am_ n0a; have FL := am_ n0b; have FB := am_ n0c; have FP := am_ n0d; have FT := am_ n0t; have Z0 := am_ n0z; clear n0a n0b n0c n0d n0t n0z)
      | ((with_reducible refine gate_callee (f := 36) rfl ?_); refine goesL_ (some 46) rfl rfl Try.func36 (by kernel_rfl) rfl #[.int .i64 t1558, .slice Ao17 t1559.length co17] rfl (by (try simp only [List.map_toArray, List.map_cons, List.map_nil]); first | done | rfl | (simp only [List.length_drop, List.length_take]; rfl)) ?_; (with_reducible refine (impl_SwapsOf.calls k t1558 _ _ t1559 t1581 _ ?side1 ?side2 A9.out).mono ?_); (case side1 => repeat (first | exact (Kd.R_reads' FW.out).2.2 | (with_reducible refine Kd.C_alloc ?_ _) | (with_reducible refine Kd.C_drewN ?_ _) | (with_reducible refine Kd.C_drew ?_))); (case side2 => exact (Kd.R_reads' FW.out).2.1); rintro e w23 ⟨v1582, rfl, ho0, hb⟩; refine ⟨_, rfl, ?_⟩; obtain ⟨N1_, na, nb, nc, nd⟩ : ∃ N_ : Nat, Kd.R (Kd.int .i64) 3 w23 w.heap.size (fun k_ => N0_ ≤ k_ ∧ k_ < N_) v1579 t1577 ∧ Kd.S (Kd.slice 3 (Kd.int .i64)) 34 w23 w.heap.size (fun k_ => N_ ≤ k_) v1582 t1581 ∧ N0_ ≤ N_ ∧ N_ ≤ w23.heap.size := ⟨_, Kd.R_old (rx_ FT.out) hb, Kd.S_lower (Kd.S_mono (Kd.S_bound ho0) (fun _ h_ => h_.2.1)) (below_size (bx0 HB.out)), Z0.out, hb.size⟩; have z_ := am_ na; clear FT; have FT := z_; clear z_; have FA := am_ nb; have O1 := am_ nc; have Z1 := am_ nd; clear na nb nc nd; have z_ := rb_ FW hb; clear FW; have FW := z_; clear z_; have z_ := rb_ FL hb; clear FL; have FL := z_; clear z_; have z_ := rb_ FB hb; clear FB; have FB := z_; clear z_; have z_ := rb_ FP hb; clear FP; have FP := z_; clear z_; have z_ := bs0_ HB hb; clear HB hb ho0; have HB := z_; clear z_)
      | ((with_reducible refine gate_callee (f := 37) rfl ?_); refine goesL_ (some 48) rfl rfl Try.func37 (by kernel_rfl) rfl #[.slice Ao21 t1562.length co21] rfl (by (try simp only [List.map_toArray, List.map_cons, List.map_nil]); first | done | rfl | (simp only [List.length_drop, List.length_take]; rfl)) ?_; (with_reducible refine (impl_SortPoints.calls k _ _ t1562 t1584 _ ?side1 ?side2 A10.out).mono ?_); (case side1 => repeat (first | exact (Kd.R_reads' FL.out).2.2 | (with_reducible refine Kd.C_alloc ?_ _) | (with_reducible refine Kd.C_drewN ?_ _) | (with_reducible refine Kd.C_drew ?_))); (case side2 => exact (Kd.R_reads' FL.out).2.1); rintro e w24 ⟨v1585, rfl, ho0, hb⟩; refine ⟨_, rfl, ?_⟩; obtain ⟨N2_, na, nb, nc, nd⟩ : ∃ N_ : Nat, Kd.S (Kd.slice 3 (Kd.int .i64)) 34 w24 w.heap.size (fun k_ => N1_ ≤ k_ ∧ k_ < N_) v1582 t1581 ∧ Kd.R k56 56 w24 w.heap.size (fun k_ => N_ ≤ k_) v1585 t1584 ∧ N1_ ≤ N_ ∧ N_ ≤ w24.heap.size := ⟨_, Kd.S_old (sx_ FA.out) hb, Kd.R_lower (Kd.R_mono (Kd.R_bound ho0) (fun _ h_ => h_.2.1)) (below_size (bx0 HB.out)), Z1.out, hb.size⟩; have z_ := am_ na; clear FA; have FA := z_; clear z_; have FQ := am_ nb; have O2 := am_ nc; have Z2 := am_ nd; clear na nb nc nd; have z_ := rb_ FW hb; clear FW; have FW := z_; clear z_; have z_ := rb_ FL hb; clear FL; have FL := z_; clear z_; have z_ := rb_ FB hb; clear FB; have FB := z_; clear z_; have z_ := rb_ FP hb; clear FP; have FP := z_; clear z_; have z_ := rb_ FT hb; clear FT; have FT := z_; clear z_; have z_ := bs0_ HB hb; clear HB hb ho0; have HB := z_; clear z_)
      | ((with_reducible refine gate_callee (f := 38) rfl ?_); refine goesL_ (some 51) rfl rfl Try.func38 (by kernel_rfl) rfl #[.int .i64 t1558, .slice Ao17 t1559.length co17] rfl (by (try simp only [List.map_toArray, List.map_cons, List.map_nil]); first | done | rfl | (simp only [List.length_drop, List.length_take]; rfl)) ?_; (with_reducible refine (impl_CellTable.calls k t1558 _ _ t1559 t1587 _ ?side1 ?side2 A11.out).mono ?_); (case side1 => repeat (first | exact (Kd.R_reads' FW.out).2.2 | (with_reducible refine Kd.C_alloc ?_ _) | (with_reducible refine Kd.C_drewN ?_ _) | (with_reducible refine Kd.C_drew ?_))); (case side2 => exact (Kd.R_reads' FW.out).2.1); rintro e w25 ⟨v1588, rfl, ho0, hb⟩; refine ⟨_, rfl, ?_⟩; obtain ⟨N3_, na, nb, nc, nd⟩ : ∃ N_ : Nat, Kd.R k56 56 w25 w.heap.size (fun k_ => N2_ ≤ k_ ∧ k_ < N_) v1585 t1584 ∧ Kd.S (Kd.slice 3 (Kd.int .i64)) 34 w25 w.heap.size (fun k_ => N_ ≤ k_) v1588 t1587 ∧ N2_ ≤ N_ ∧ N_ ≤ w25.heap.size := ⟨_, Kd.R_old (rx_ FQ.out) hb, Kd.S_lower (Kd.S_mono (Kd.S_bound ho0) (fun _ h_ => h_.2.1)) (below_size (bx0 HB.out)), Z2.out, hb.size⟩; have z_ := am_ na; clear FQ; have FQ := z_; clear z_; have FC := am_ nb; have O3 := am_ nc; have Z3 := am_ nd; clear na nb nc nd; have z_ := rb_ FW hb; clear FW; have FW := z_; clear z_; have z_ := rb_ FL hb; clear FL; have FL := z_; clear z_; have z_ := rb_ FB hb; clear FB; have FB := z_; clear z_; have z_ := rb_ FP hb; clear FP; have FP := z_; clear z_; have z_ := rb_ FT hb; clear FT; have FT := z_; clear z_; have z_ := am_ (Kd.S_below (sx_ FA.out) hb); clear FA; have FA := z_; clear z_; have z_ := bs0_ HB hb; clear HB hb ho0; have HB := z_; clear z_))
    have z_ := am_ (show Kd.R (Kd.int .i64) 3 _ w.heap.size (fun k_ => k_ < N0_) v1569 t1559 from (by rw [Ny1568.out, Ny1565.out, List.nil_append] : y1568 = t1559) ▸ FB.out)
    clear FB
    have FB := z_
    clear z_
    have z_ := am_ (show Kd.R k56 56 _ w.heap.size (fun k_ => k_ < N0_) v1575 t1562 from (by rw [Ny1574.out, Ny1571.out, List.nil_append] : y1574 = t1562) ▸ FP.out)
    clear FP
    have FP := z_
    clear z_
    obtain ⟨AFT, cFT, e_⟩ := Kd.R_slice FT.out
    subst e_
    go_loopg [13] t1577.length (fun kq v_ w' => ∃ (i_ : Int) (x_ : List Int), v_ = .int .i64 i_ ∧ Aside0 (0 ≤ i_ ∧ (kq : Int) + i_ = (t1577.length : Int)) ∧ Aside0 (Kd.R (Kd.int .i64) 3 w' w.heap.size (fun k_ => N0_ ≤ k_ ∧ k_ < N1_) (.slice AFT t1577.length cFT) x_) ∧ Aside0 (Kept w25 w' (fun k_ => N0_ ≤ k_ ∧ k_ < N1_)) ∧ Aside0 (Below w.heap.size w w'))
    case atStart => exact ⟨0, t1577, vt_, ⟨by omega⟩, rX_ FT, kx0_ (Kept.refl _ _), bX0_ HB⟩
    case round =>
      clear HB FT
      obtain ⟨i_, x_, rfl, HI, HO, HK, HB⟩ := hrel
      by_cases ci_ : i_ < (t1577.length : Int)
      · cases gk with
        | zero => exact absurd ci_ (by have := HI.out; omega)
        | succ k1_ =>
          have p5 : 0 ≤ i_ := HI.out.1
          have q5 : i_ < (t1577.length : Int) := ci_
          have n5 := am_ (Kd.R_reads' HO.out).1
          obtain ⟨go5, co5, eo5, gb5, gl5, cl5, HG5⟩ := Kd.R_form HO.out (by have := n5.out; omega)
          (first | cases eo5 | (injection eo5 with ea_ en_ ec_; (first | subst ea_ | (injection ea_ with ea_; subst ea_)); subst ec_; clear en_))
          have GO5 := am_ (HO.out.1 _ rfl)
          have GB5 := am_ gb5
          clear gb5 gl5 HG5
          obtain ⟨hx5, hf5⟩ := Kd.R_celln 0 HO.out i_ p5 q5
          have HP := Kd.R_putg HO.out i_ 99
          have e5 : wrap64 (i_ + 1) = i_ + 1 := wrap64_small (by omega) (by have := HS1.out; omega)
          have E5 := am_ e5
          clear e5
          have cb_ : decide (i_ < (t1577.length : Int)) = true := decide_eq_true ci_
          have ci2_ := eq_true ci_
          replace p5 := eq_true p5
          replace q5 := eq_true q5
          clear ci_
          go_wp2_with (first | ((with_reducible refine gate_store (t := 3) (p := 60) rfl ?_); refine store_event (t := 3) (p := 60) (v := ?vo_wT2) (w1 := (wr.setCell ⟨go5, i_.toNat, none⟩ (.int .i64 99))) ?hg ?ho ?hn ?hr ?_; (case ho => rfl); (case hg => rfl); (case hn => rfl); (case hr => first | (go_simp; done) | (go_simp; rfl)); intro wT2 hw; have hg := am_ (show wr.grownBy wT2 (some go5) from (by rw [hw]; exact HP.2)); have hp_ := am_ (show Kd.R (Kd.int .i64) 3 wT2 w.heap.size (fun k_ => N0_ ≤ k_ ∧ k_ < N1_) (.slice (some ⟨go5, 0, none⟩) t1577.length cFT) (x_.set i_.toNat 99) from (by rw [hw]; exact HP.1)); clear HP hw))
          have HK2 := am_ (Kept.of_grown hg.out HK.out (fun k_ h_ => .inl (by injection h_ with h_; subst h_; exact GO5.out)))
          have HB2 := am_ (pw_below_grown HB.out _ (below_size HB.out) hg.out (fun k_ h_ => by injection h_ with h_; subst h_; exact GB5.out))
          go_roundg k1_
          case measure => omega
          case rel => exact ⟨wrap64 (i_ + 1), _, vt_, ⟨by rw [E5.out]; have := HI.out; omega⟩, hp_, HK2, HB2⟩
      · have cb_ : decide (i_ < (t1577.length : Int)) = false := decide_eq_false ci_
        have ci2_ := eq_false ci_
        clear ci_
        have z_ := am_ (Kd.R_kept FW.out HK.out (fun k_ h1_ h2_ => by have h3_ := O1.out; have h4_ := O2.out; have h5_ := O3.out; omega))
        clear FW
        have FW := z_
        clear z_
        have z_ := am_ (Kd.R_kept FL.out HK.out (fun k_ h1_ h2_ => by have h3_ := O1.out; have h4_ := O2.out; have h5_ := O3.out; omega))
        clear FL
        have FL := z_
        clear z_
        have z_ := am_ (Kd.R_kept FB.out HK.out (fun k_ h1_ h2_ => by have h3_ := O1.out; have h4_ := O2.out; have h5_ := O3.out; omega))
        clear FB
        have FB := z_
        clear z_
        have z_ := am_ (Kd.R_kept FP.out HK.out (fun k_ h1_ h2_ => by have h3_ := O1.out; have h4_ := O2.out; have h5_ := O3.out; omega))
        clear FP
        have FP := z_
        clear z_
        have z_ := am_ (Kd.S_kept FA.out HK.out (fun k_ h1_ h2_ => by have h3_ := O1.out; have h4_ := O2.out; have h5_ := O3.out; omega))
        clear FA
        have FA := z_
        clear z_
        have z_ := am_ (Kd.R_kept FQ.out HK.out (fun k_ h1_ h2_ => by have h3_ := O1.out; have h4_ := O2.out; have h5_ := O3.out; omega))
        clear FQ
        have FQ := z_
        clear z_
        have z_ := am_ (Kd.S_kept FC.out HK.out (fun k_ h1_ h2_ => by have h3_ := O1.out; have h4_ := O2.out; have h5_ := O3.out; omega))
        clear FC
        have FC := z_
        clear z_
        obtain ⟨w1_, hw1_⟩ : ∃ w_ : World, w_ = wr := ⟨_, rfl⟩
        subst hw1_
        clear HO HK
        obtain ⟨AFA, cFA, e_⟩ := Kd.S_slice FA.out
        subst e_
        go_wp2
        go_loopg [14] t1581.length (fun kq v_ w' => ∃ (i_ : Int) (x_ : List (List Int)), v_ = .int .i64 i_ ∧ Aside0 (0 ≤ i_ ∧ (kq : Int) + i_ = (t1581.length : Int)) ∧ Aside0 (∀ j, (x_.getD j []).length ≤ 100000) ∧ Aside0 (Kd.S (Kd.slice 3 (Kd.int .i64)) 34 w' w.heap.size (fun k_ => N1_ ≤ k_ ∧ k_ < N2_) (.slice AFA t1581.length cFA) x_) ∧ Aside0 (Kept w1_ w' (fun k_ => N1_ ≤ k_ ∧ k_ < N2_)) ∧ Aside0 (Below w.heap.size w w'))
        case atStart => exact ⟨0, t1581, vt_, ⟨by omega⟩, HS3, ⟨sx_ FA.out⟩, kx0_ (Kept.refl _ _), bX0_ HB⟩
        case round =>
          clear HB FA
          obtain ⟨i_, x_, rfl, HI, HL_, HO, HK, HB⟩ := hrel
          by_cases ci_ : i_ < (t1581.length : Int)
          · cases gk with
            | zero => exact absurd ci_ (by have := HI.out; omega)
            | succ k1_ =>
              have p5 : 0 ≤ i_ := HI.out.1
              have n5 := am_ (Kd.S_reads' HO.out).1
              obtain ⟨go5, co5, eo5, gb5, gl5, cl5, HG5⟩ := Kd.S_form HO.out (by have := n5.out; omega)
              (first | cases eo5 | (injection eo5 with ea_ en_ ec_; (first | subst ea_ | (injection ea_ with ea_; subst ea_)); subst ec_; clear en_))
              clear gl5 HG5
              obtain ⟨oki, cs, hcl, hM, hcc, hoki, hH⟩ := Kd.S_lend HO.out ([] : List Int) i_ p5 ci_
              obtain ⟨v1_, rfl, hR⟩ := hM
              obtain ⟨A1_, c1_, rfl⟩ := Kd.R_slice hR
              have hx := hcc 0 _ rfl
              rw [Nat.add_zero, show ((Kd.slice 3 (Kd.int .i64))).sz = 1 from rfl, Nat.mul_one] at hx
              clear hcc hcl
              have HX := am_ hx
              have HR := am_ hR
              have HH := am_ hH
              have HOK := am_ hoki
              have GB5 := am_ gb5
              clear hx hR hH hoki gb5 n5
              have HN := am_ (HL_.out i_.toNat)
              generalize hL : x_.getD i_.toNat [] = row_ at *
              clear hL
              have e5 : wrap64 (i_ + 1) = i_ + 1 := wrap64_small (by omega) (by have := HS2.out; omega)
              have E5 := am_ e5
              clear e5
              have cb_ : decide (i_ < (t1581.length : Int)) = true := decide_eq_true ci_
              have ci2_ := eq_true ci_
              replace p5 := eq_true p5
              clear ci_
              go_wp2
              have HK0 := HK
              have HB0 := HB
              go_loopg [15] row_.length (fun kq v_ w' => ∃ (j_ : Int) (y_ : List Int), v_ = .int .i64 j_ ∧ Aside0 (0 ≤ j_ ∧ (kq : Int) + j_ = (row_.length : Int)) ∧ Aside0 (Kd.R (Kd.int .i64) 3 w' w.heap.size oki (.slice A1_ row_.length c1_) y_) ∧ Aside0 (Kept wr w' oki) ∧ Aside0 (Below w.heap.size w w'))
              case atStart => exact ⟨0, row_, vt_, ⟨by omega⟩, rX_ HR, kx0_ (Kept.refl _ _), bX0_ HB⟩
              case round =>
                clear HB HR HK
                obtain ⟨j_, y_, rfl, HJ, HR, HK, HB⟩ := hrel
                have hx := cell_kept HX.out HK.out (fun h_ => (HOK.out _ h_).2 rfl)
                by_cases cj_ : j_ < (row_.length : Int)
                · cases gk with
                  | zero => exact absurd cj_ (by have := HJ.out; omega)
                  | succ k2_ =>
                    have p6 : 0 ≤ j_ := HJ.out.1
                    have q6 : j_ < (row_.length : Int) := cj_
                    have n6 := am_ (Kd.R_reads' HR.out).1
                    obtain ⟨go6, co6, eo6, gb6, gl6, cl6, HG6⟩ := Kd.R_form HR.out (by have := n6.out; omega)
                    (first | cases eo6 | (injection eo6 with ea_ en_ ec_; (first | subst ea_ | (injection ea_ with ea_; subst ea_)); subst ec_; clear en_))
                    have GO6 := am_ (HR.out.1 _ rfl)
                    have GB6 := am_ gb6
                    clear gb6 gl6 HG6
                    obtain ⟨hx6, hf6⟩ := Kd.R_celln 0 HR.out j_ p6 q6
                    have HP := Kd.R_putg HR.out j_ 99
                    have e6 : wrap64 (j_ + 1) = j_ + 1 := wrap64_small (by omega) (by have := HN.out; omega)
                    have E6 := am_ e6
                    clear e6
                    have cbj_ : decide (j_ < (row_.length : Int)) = true := decide_eq_true cj_
                    have cj2_ := eq_true cj_
                    replace p6 := eq_true p6
                    replace q6 := eq_true q6
                    clear cj_
                    go_wp2_with (first | ((with_reducible refine gate_store (t := 3) (p := 81) rfl ?_); refine store_event (t := 3) (p := 81) (v := ?vo_wA2) (w1 := (wr.setCell ⟨go6, j_.toNat, none⟩ (.int .i64 99))) ?hg ?ho ?hn ?hr ?_; (case ho => rfl); (case hg => rfl); (case hn => rfl); (case hr => first | (go_simp; done) | (go_simp; rfl)); intro wA2 hw; have hg := am_ (show wr.grownBy wA2 (some go6) from (by rw [hw]; exact HP.2)); have hp_ := am_ (show Kd.R (Kd.int .i64) 3 wA2 w.heap.size oki (.slice (some ⟨go6, 0, none⟩) row_.length c1_) (y_.set j_.toNat 99) from (by rw [hw]; exact HP.1)); clear HP hw))
                    have HK2 := am_ (Kept.of_grown hg.out HK.out (fun k_ h_ => .inl (by injection h_ with h_; subst h_; exact GO6.out)))
                    have HB2 := am_ (pw_below_grown HB.out _ (below_size HB.out) hg.out (fun k_ h_ => by injection h_ with h_; subst h_; exact GB6.out))
                    go_roundg k2_
                    case measure => omega
                    case rel => exact ⟨wrap64 (j_ + 1), _, vt_, ⟨by rw [E6.out]; have := HJ.out; omega⟩, hp_, HK2, HB2⟩
                · have cbj_ : decide (j_ < (row_.length : Int)) = false := decide_eq_false cj_
                  have cj2_ := eq_false cj_
                  clear cj_
                  have hM2 : (Kd.slice 3 (Kd.int .i64)).M _ w.heap.size oki y_ [.slice A1_ row_.length c1_] := ⟨_, rfl, Kd.R_mono (Kd.R_tight rfl HR.out) (fun k_ hk_ => HR.out.1 k_ hk_.symm)⟩
                  have hH2 := Kd.H_kept HH.out HK.out (fun k_ _ hn_ => hn_)
                  have hS2 := am_ (Kd.H_back hH2 hM2 (fun _ hk_ => hk_))
                  have hK2 := am_ (Kept.then_ HK0.out HK.out (fun k_ hk_ => .inl (HOK.out k_ hk_).1))
                  have hN2 := am_ (set_getD x_ i_.toNat y_ HL_.out (by have h1_ := (Kd.R_reads' HR.out).1; have := HN.out; omega))
                  clear hM2 hH2
                  go_wp2
                  go_roundg k1_
                  case measure => omega
                  case rel => exact ⟨wrap64 (i_ + 1), _, vt_, ⟨by rw [E5.out]; have := HI.out; omega⟩, hN2, hS2, hK2, HB⟩
          · have cb_ : decide (i_ < (t1581.length : Int)) = false := decide_eq_false ci_
            have ci2_ := eq_false ci_
            clear ci_
            have z_ := am_ (Kd.R_kept FW.out HK.out (fun k_ h1_ h2_ => by have h3_ := O1.out; have h4_ := O2.out; have h5_ := O3.out; omega))
            clear FW
            have FW := z_
            clear z_
            have z_ := am_ (Kd.R_kept FL.out HK.out (fun k_ h1_ h2_ => by have h3_ := O1.out; have h4_ := O2.out; have h5_ := O3.out; omega))
            clear FL
            have FL := z_
            clear z_
            have z_ := am_ (Kd.R_kept FB.out HK.out (fun k_ h1_ h2_ => by have h3_ := O1.out; have h4_ := O2.out; have h5_ := O3.out; omega))
            clear FB
            have FB := z_
            clear z_
            have z_ := am_ (Kd.R_kept FP.out HK.out (fun k_ h1_ h2_ => by have h3_ := O1.out; have h4_ := O2.out; have h5_ := O3.out; omega))
            clear FP
            have FP := z_
            clear z_
            have z_ := am_ (Kd.R_kept FQ.out HK.out (fun k_ h1_ h2_ => by have h3_ := O1.out; have h4_ := O2.out; have h5_ := O3.out; omega))
            clear FQ
            have FQ := z_
            clear z_
            have z_ := am_ (Kd.S_kept FC.out HK.out (fun k_ h1_ h2_ => by have h3_ := O1.out; have h4_ := O2.out; have h5_ := O3.out; omega))
            clear FC
            have FC := z_
            clear z_
            obtain ⟨w2_, hw2_⟩ : ∃ w_ : World, w_ = wr := ⟨_, rfl⟩
            subst hw2_
            clear HO HK
            go_wp2
            obtain ⟨AFQ, cFQ, e_⟩ := Kd.R_slice FQ.out
            subst e_
            go_loopg [16] t1584.length (fun kq v_ w' => ∃ (i_ : Int) (x_ : List S56), v_ = .int .i64 i_ ∧ Aside0 (0 ≤ i_ ∧ (kq : Int) + i_ = (t1584.length : Int)) ∧ Aside0 (Kd.R k56 56 w' w.heap.size (fun k_ => N2_ ≤ k_ ∧ k_ < N3_) (.slice AFQ t1584.length cFQ) x_) ∧ Aside0 (Kept w2_ w' (fun k_ => N2_ ≤ k_ ∧ k_ < N3_)) ∧ Aside0 (Below w.heap.size w w'))
            case atStart => exact ⟨0, t1584, vt_, ⟨by omega⟩, rX_ FQ, kx0_ (Kept.refl _ _), bX0_ HB⟩
            case round =>
              clear HB FQ
              obtain ⟨i_, x_, rfl, HI, HO, HK, HB⟩ := hrel
              by_cases ci_ : i_ < (t1584.length : Int)
              · cases gk with
                | zero => exact absurd ci_ (by have := HI.out; omega)
                | succ k1_ =>
                  have p5 : 0 ≤ i_ := HI.out.1
                  have q5 : i_ < (t1584.length : Int) := ci_
                  have n5 := am_ (Kd.R_reads' HO.out).1
                  obtain ⟨go5, co5, eo5, gb5, gl5, cl5, HG5⟩ := Kd.R_form HO.out (by have := n5.out; omega)
                  (first | cases eo5 | (injection eo5 with ea_ en_ ec_; (first | subst ea_ | (injection ea_ with ea_; subst ea_)); subst ec_; clear en_))
                  have GO5 := am_ (HO.out.1 _ rfl)
                  have GB5 := am_ gb5
                  clear gb5 gl5 HG5
                  obtain ⟨ce5, hcl5, hM5, hcc5, hfr5⟩ := Kd.R_elem HO.out z56 i_ p5 q5
                  obtain rfl := k56_openM hM5
                  have HP := Kd.R_seg HO.out i_ p5 q5 (seg := [.int .i64 99]) (j := 0) hcl5 hcc5 (show 1 ≤ 2 from by decide) (x' := (⟨99, (rd_T56 x_ i_).f1⟩ : S56)) (k56_mkM _ _ _ (⟨99, (rd_T56 x_ i_).f1⟩ : S56)) (fun _ hk => hk)
                  have hx5_0 := hcc5 0 _ rfl
                  have hx5_1 : wr.cell? ⟨go5, i_.toNat * 2 + 1, none⟩ = some (.int .i64 ((rd_T56 x_ i_).f1)) := hcc5 1 _ rfl
                  (try simp only [show (k56).sz = 2 from rfl, Nat.mul_one, Nat.add_zero] at hx5_0)
                  have hf5_0 := hfr5 0
                  (try simp only [show (k56).sz = 2 from rfl, Nat.mul_one, Nat.add_zero] at hf5_0)
                  clear hcl5 hcc5 hfr5 hM5
                  have e5 : wrap64 (i_ + 1) = i_ + 1 := wrap64_small (by omega) (by have := HS4.out; omega)
                  have E5 := am_ e5
                  clear e5
                  have cb_ : decide (i_ < (t1584.length : Int)) = true := decide_eq_true ci_
                  have ci2_ := eq_true ci_
                  replace p5 := eq_true p5
                  replace q5 := eq_true q5
                  clear ci_
                  go_wp2_with (first | ((with_reducible refine gate_store (t := 3) (p := 91) rfl ?_); refine store_event (t := 3) (p := 91) (v := ?vo_wQ2) (w1 := (wr.setCell ⟨go5, i_.toNat * 2, none⟩ (.int .i64 99))) ?hg ?ho ?hn ?hr ?_; (case ho => rfl); (case hg => rfl); (case hn => rfl); (case hr => first | (go_simp; done) | (go_simp; rfl)); intro wQ2 hw; have hg := am_ (show wr.grownBy wQ2 (some go5) from (by rw [hw]; exact HP.2)); have hp_ := am_ (show Kd.R k56 56 wQ2 w.heap.size (fun k_ => N2_ ≤ k_ ∧ k_ < N3_) (.slice (some ⟨go5, 0, none⟩) t1584.length cFQ) (x_.set i_.toNat (⟨99, (rd_T56 x_ i_).f1⟩ : S56)) from (by rw [hw]; exact HP.1)); clear HP hw))
                  have HK2 := am_ (Kept.of_grown hg.out HK.out (fun k_ h_ => .inl (by injection h_ with h_; subst h_; exact GO5.out)))
                  have HB2 := am_ (pw_below_grown HB.out _ (below_size HB.out) hg.out (fun k_ h_ => by injection h_ with h_; subst h_; exact GB5.out))
                  go_roundg k1_
                  case measure => omega
                  case rel => exact ⟨wrap64 (i_ + 1), _, vt_, ⟨by rw [E5.out]; have := HI.out; omega⟩, hp_, HK2, HB2⟩
              · have cb_ : decide (i_ < (t1584.length : Int)) = false := decide_eq_false ci_
                have ci2_ := eq_false ci_
                clear ci_
                have z_ := am_ (Kd.R_kept FW.out HK.out (fun k_ h1_ h2_ => by have h3_ := O1.out; have h4_ := O2.out; have h5_ := O3.out; omega))
                clear FW
                have FW := z_
                clear z_
                have z_ := am_ (Kd.R_kept FL.out HK.out (fun k_ h1_ h2_ => by have h3_ := O1.out; have h4_ := O2.out; have h5_ := O3.out; omega))
                clear FL
                have FL := z_
                clear z_
                have z_ := am_ (Kd.R_kept FB.out HK.out (fun k_ h1_ h2_ => by have h3_ := O1.out; have h4_ := O2.out; have h5_ := O3.out; omega))
                clear FB
                have FB := z_
                clear z_
                have z_ := am_ (Kd.R_kept FP.out HK.out (fun k_ h1_ h2_ => by have h3_ := O1.out; have h4_ := O2.out; have h5_ := O3.out; omega))
                clear FP
                have FP := z_
                clear z_
                have z_ := am_ (Kd.S_kept FC.out HK.out (fun k_ h1_ h2_ => by have h3_ := O1.out; have h4_ := O2.out; have h5_ := O3.out; omega))
                clear FC
                have FC := z_
                clear z_
                obtain ⟨w3_, hw3_⟩ : ∃ w_ : World, w_ = wr := ⟨_, rfl⟩
                subst hw3_
                clear HO HK
                obtain ⟨AFC, cFC, e_⟩ := Kd.S_slice FC.out
                subst e_
                go_wp2
                go_loopg [17] t1587.length (fun kq v_ w' => ∃ (i_ : Int) (x_ : List (List Int)), v_ = .int .i64 i_ ∧ Aside0 (0 ≤ i_ ∧ (kq : Int) + i_ = (t1587.length : Int)) ∧ Aside0 (∀ j, (x_.getD j []).length ≤ 100000) ∧ Aside0 (Kd.S (Kd.slice 3 (Kd.int .i64)) 34 w' w.heap.size (fun k_ => N3_ ≤ k_) (.slice AFC t1587.length cFC) x_) ∧ Aside0 (Kept w3_ w' (fun k_ => N3_ ≤ k_)) ∧ Aside0 (Below w.heap.size w w'))
                case atStart => exact ⟨0, t1587, vt_, ⟨by omega⟩, HS6, ⟨sx_ FC.out⟩, kx0_ (Kept.refl _ _), bX0_ HB⟩
                case round =>
                  clear HB FC
                  obtain ⟨i_, x_, rfl, HI, HL_, HO, HK, HB⟩ := hrel
                  by_cases ci_ : i_ < (t1587.length : Int)
                  · cases gk with
                    | zero => exact absurd ci_ (by have := HI.out; omega)
                    | succ k1_ =>
                      have p5 : 0 ≤ i_ := HI.out.1
                      have n5 := am_ (Kd.S_reads' HO.out).1
                      obtain ⟨go5, co5, eo5, gb5, gl5, cl5, HG5⟩ := Kd.S_form HO.out (by have := n5.out; omega)
                      (first | cases eo5 | (injection eo5 with ea_ en_ ec_; (first | subst ea_ | (injection ea_ with ea_; subst ea_)); subst ec_; clear en_))
                      clear gl5 HG5
                      obtain ⟨oki, cs, hcl, hM, hcc, hoki, hH⟩ := Kd.S_lend HO.out ([] : List Int) i_ p5 ci_
                      obtain ⟨v1_, rfl, hR⟩ := hM
                      obtain ⟨A1_, c1_, rfl⟩ := Kd.R_slice hR
                      have hx := hcc 0 _ rfl
                      rw [Nat.add_zero, show ((Kd.slice 3 (Kd.int .i64))).sz = 1 from rfl, Nat.mul_one] at hx
                      clear hcc hcl
                      have HX := am_ hx
                      have HR := am_ hR
                      have HH := am_ hH
                      have HOK := am_ hoki
                      have GB5 := am_ gb5
                      clear hx hR hH hoki gb5 n5
                      have HN := am_ (HL_.out i_.toNat)
                      generalize hL : x_.getD i_.toNat [] = row_ at *
                      clear hL
                      have e5 : wrap64 (i_ + 1) = i_ + 1 := wrap64_small (by omega) (by have := HS5.out; omega)
                      have E5 := am_ e5
                      clear e5
                      have cb_ : decide (i_ < (t1587.length : Int)) = true := decide_eq_true ci_
                      have ci2_ := eq_true ci_
                      replace p5 := eq_true p5
                      clear ci_
                      go_wp2
                      have HK0 := HK
                      have HB0 := HB
                      go_loopg [18] row_.length (fun kq v_ w' => ∃ (j_ : Int) (y_ : List Int), v_ = .int .i64 j_ ∧ Aside0 (0 ≤ j_ ∧ (kq : Int) + j_ = (row_.length : Int)) ∧ Aside0 (Kd.R (Kd.int .i64) 3 w' w.heap.size oki (.slice A1_ row_.length c1_) y_) ∧ Aside0 (Kept wr w' oki) ∧ Aside0 (Below w.heap.size w w'))
                      case atStart => exact ⟨0, row_, vt_, ⟨by omega⟩, rX_ HR, kx0_ (Kept.refl _ _), bX0_ HB⟩
                      case round =>
                        clear HB HR HK
                        obtain ⟨j_, y_, rfl, HJ, HR, HK, HB⟩ := hrel
                        have hx := cell_kept HX.out HK.out (fun h_ => (HOK.out _ h_).2 rfl)
                        by_cases cj_ : j_ < (row_.length : Int)
                        · cases gk with
                          | zero => exact absurd cj_ (by have := HJ.out; omega)
                          | succ k2_ =>
                            have p6 : 0 ≤ j_ := HJ.out.1
                            have q6 : j_ < (row_.length : Int) := cj_
                            have n6 := am_ (Kd.R_reads' HR.out).1
                            obtain ⟨go6, co6, eo6, gb6, gl6, cl6, HG6⟩ := Kd.R_form HR.out (by have := n6.out; omega)
                            (first | cases eo6 | (injection eo6 with ea_ en_ ec_; (first | subst ea_ | (injection ea_ with ea_; subst ea_)); subst ec_; clear en_))
                            have GO6 := am_ (HR.out.1 _ rfl)
                            have GB6 := am_ gb6
                            clear gb6 gl6 HG6
                            obtain ⟨hx6, hf6⟩ := Kd.R_celln 0 HR.out j_ p6 q6
                            have HP := Kd.R_putg HR.out j_ 99
                            have e6 : wrap64 (j_ + 1) = j_ + 1 := wrap64_small (by omega) (by have := HN.out; omega)
                            have E6 := am_ e6
                            clear e6
                            have cbj_ : decide (j_ < (row_.length : Int)) = true := decide_eq_true cj_
                            have cj2_ := eq_true cj_
                            replace p6 := eq_true p6
                            replace q6 := eq_true q6
                            clear cj_
                            go_wp2_with (first | ((with_reducible refine gate_store (t := 3) (p := 112) rfl ?_); refine store_event (t := 3) (p := 112) (v := ?vo_wC2) (w1 := (wr.setCell ⟨go6, j_.toNat, none⟩ (.int .i64 99))) ?hg ?ho ?hn ?hr ?_; (case ho => rfl); (case hg => rfl); (case hn => rfl); (case hr => first | (go_simp; done) | (go_simp; rfl)); intro wC2 hw; have hg := am_ (show wr.grownBy wC2 (some go6) from (by rw [hw]; exact HP.2)); have hp_ := am_ (show Kd.R (Kd.int .i64) 3 wC2 w.heap.size oki (.slice (some ⟨go6, 0, none⟩) row_.length c1_) (y_.set j_.toNat 99) from (by rw [hw]; exact HP.1)); clear HP hw))
                            have HK2 := am_ (Kept.of_grown hg.out HK.out (fun k_ h_ => .inl (by injection h_ with h_; subst h_; exact GO6.out)))
                            have HB2 := am_ (pw_below_grown HB.out _ (below_size HB.out) hg.out (fun k_ h_ => by injection h_ with h_; subst h_; exact GB6.out))
                            go_roundg k2_
                            case measure => omega
                            case rel => exact ⟨wrap64 (j_ + 1), _, vt_, ⟨by rw [E6.out]; have := HJ.out; omega⟩, hp_, HK2, HB2⟩
                        · have cbj_ : decide (j_ < (row_.length : Int)) = false := decide_eq_false cj_
                          have cj2_ := eq_false cj_
                          clear cj_
                          have hM2 : (Kd.slice 3 (Kd.int .i64)).M _ w.heap.size oki y_ [.slice A1_ row_.length c1_] := ⟨_, rfl, Kd.R_mono (Kd.R_tight rfl HR.out) (fun k_ hk_ => HR.out.1 k_ hk_.symm)⟩
                          have hH2 := Kd.H_kept HH.out HK.out (fun k_ _ hn_ => hn_)
                          have hS2 := am_ (Kd.H_back hH2 hM2 (fun _ hk_ => hk_))
                          have hK2 := am_ (Kept.then_ HK0.out HK.out (fun k_ hk_ => .inl (HOK.out k_ hk_).1))
                          have hN2 := am_ (set_getD x_ i_.toNat y_ HL_.out (by have h1_ := (Kd.R_reads' HR.out).1; have := HN.out; omega))
                          clear hM2 hH2
                          go_wp2
                          go_roundg k1_
                          case measure => omega
                          case rel => exact ⟨wrap64 (i_ + 1), _, vt_, ⟨by rw [E5.out]; have := HI.out; omega⟩, hN2, hS2, hK2, HB⟩
                  · have cb_ : decide (i_ < (t1587.length : Int)) = false := decide_eq_false ci_
                    have ci2_ := eq_false ci_
                    clear ci_
                    have z_ := am_ (Kd.R_kept FW.out HK.out (fun k_ h1_ h2_ => by have h3_ := O1.out; have h4_ := O2.out; have h5_ := O3.out; omega))
                    clear FW
                    have FW := z_
                    clear z_
                    have z_ := am_ (Kd.R_kept FL.out HK.out (fun k_ h1_ h2_ => by have h3_ := O1.out; have h4_ := O2.out; have h5_ := O3.out; omega))
                    clear FL
                    have FL := z_
                    clear z_
                    have z_ := am_ (Kd.R_kept FB.out HK.out (fun k_ h1_ h2_ => by have h3_ := O1.out; have h4_ := O2.out; have h5_ := O3.out; omega))
                    clear FB
                    have FB := z_
                    clear z_
                    have z_ := am_ (Kd.R_kept FP.out HK.out (fun k_ h1_ h2_ => by have h3_ := O1.out; have h4_ := O2.out; have h5_ := O3.out; omega))
                    clear FP
                    have FP := z_
                    clear z_
                    clear HO HK
                    obtain ⟨AB_, cB_, e_⟩ := Kd.R_slice FB.out
                    subst e_
                    obtain ⟨AP_, cP_, e_⟩ := Kd.R_slice FP.out
                    subst e_
                    have CW := am_ (Kd.R_reads' FW.out).2.2
                    have LW := am_ (Kd.R_reads' FW.out).2.1
                    have CL := am_ (Kd.R_reads' FL.out).2.2
                    have LL := am_ (Kd.R_reads' FL.out).2.1
                    have CB := am_ (Kd.R_reads' FB.out).2.2
                    have LB := am_ (Kd.R_reads' FB.out).2.1
                    have CP := am_ (Kd.R_reads' FP.out).2.2
                    have LP := am_ (Kd.R_reads' FP.out).2.1
                    clear FW FL FB FP
                    have hq1 : (t1578 == t1578) = true := beq_self_eq_true _
                    have hq2 : decide (t1578 = t1578) = true := decide_eq_true rfl
                    go_wp2_with (first
                      | (go_at_call 35; (with_reducible refine (impl_TurnWiring.calls k t1558 _ _ t1559 t1577 t1578 _ ?side1 ?side2 A8.out).mono ?_); (case side1 => exact cC_ CW); (case side2 => exact LW.out); rintro e w_U ⟨v_, rfl, ho0, hb⟩; obtain ⟨AU, cU, e_⟩ := Kd.R_slice ho0; subst e_; have CU := am_ (Kd.R_reads' ho0).2.2; have LU := am_ (Kd.R_reads' ho0).2.1; have z_ := cst_ CW hb; clear CW; have CW := z_; clear z_; have z_ := cst_ CL hb; clear CL; have CL := z_; clear z_; have z_ := cst_ CB hb; clear CB; have CB := z_; clear z_; have z_ := cst_ CP hb; clear CP; have CP := z_; clear z_; have z_ := bs0_ HB hb; clear HB hb ho0; have HB := z_; clear z_)
                      | (go_at_call 39; (with_reducible refine (spec_TurnWiring.calls k t1558 _ _ t1559 su t1578 _ ?side1 ?side2 B1.out).mono ?_); (case side1 => exact cC_ CW); (case side2 => exact LW.out); rintro e w_V ⟨v_, rfl, ho0, hb⟩; obtain ⟨AV, cV, e_⟩ := Kd.R_slice ho0; subst e_; have CV := am_ (Kd.R_reads' ho0).2.2; have LV := am_ (Kd.R_reads' ho0).2.1; have z_ := cst_ CW hb; clear CW; have CW := z_; clear z_; have z_ := cst_ CL hb; clear CL; have CL := z_; clear z_; have z_ := cst_ CB hb; clear CB; have CB := z_; clear z_; have z_ := cst_ CP hb; clear CP; have CP := z_; clear z_; have z_ := cst_ CU hb; clear CU; have CU := z_; clear z_; have z_ := bs0_ HB hb; clear HB hb ho0; have HB := z_; clear z_)
                      | (go_at_call 40; (with_reducible refine (laws_sameInts.calls k _ _ t1559 _ _ t1559 true _ ?side1 ?side2 ?side3 ?side4 B2.out).mono ?_); (case side1 => exact cC_ CW); (case side2 => exact LW.out); (case side3 => exact cC_ CB); (case side4 => exact LB.out); rintro e w' ⟨rfl, ⟨nd, rfl⟩⟩)
                      | (go_at_call 41; (with_reducible refine (laws_samePoints.calls k _ _ t1562 _ _ t1562 true _ ?side1 ?side2 ?side3 ?side4 B3.out).mono ?_); (case side1 => exact cC_ CL); (case side2 => exact LL.out); (case side3 => exact cC_ CP); (case side4 => exact LP.out); rintro e w' ⟨rfl, ⟨nd, rfl⟩⟩)
                      | (go_at_call 40; (with_reducible refine (laws_sameInts.calls k _ _ t1577 _ _ su true _ ?side1 ?side2 ?side3 ?side4 B4.out).mono ?_); (case side1 => exact cC_ CU); (case side2 => exact LU.out); (case side3 => exact cC_ CV); (case side4 => exact LV.out); rintro e w' ⟨rfl, ⟨nd, rfl⟩⟩)
                      | (go_at_call 36; (with_reducible refine (impl_SwapsOf.calls k t1558 _ _ t1559 t1581 _ ?side1 ?side2 A9.out).mono ?_); (case side1 => exact cC_ CW); (case side2 => exact LW.out); rintro e w_X ⟨v_, rfl, ho0, hb⟩; obtain ⟨AX, cX, e_⟩ := Kd.S_slice ho0; subst e_; have CX := am_ (Kd.S_reads' ho0).2.2; have LX := am_ (Kd.S_reads' ho0).2.1; have z_ := cst_ CW hb; clear CW; have CW := z_; clear z_; have z_ := cst_ CL hb; clear CL; have CL := z_; clear z_; have z_ := bs0_ HB hb; clear HB hb ho0; have HB := z_; clear z_)
                      | (go_at_call 43; (with_reducible refine (spec_SwapsOf.calls k t1558 _ _ t1559 a2 _ ?side1 ?side2 B5.out).mono ?_); (case side1 => exact cC_ CW); (case side2 => exact LW.out); rintro e w_Y ⟨v_, rfl, ho0, hb⟩; obtain ⟨AY, cY, e_⟩ := Kd.S_slice ho0; subst e_; have CY := am_ (Kd.S_reads' ho0).2.2; have LY := am_ (Kd.S_reads' ho0).2.1; have z_ := cst_ CW hb; clear CW; have CW := z_; clear z_; have z_ := cst_ CL hb; clear CL; have CL := z_; clear z_; have z_ := cst_ CX hb; clear CX; have CX := z_; clear z_; have z_ := bs0_ HB hb; clear HB hb ho0; have HB := z_; clear z_)
                      | (go_at_call 42; (with_reducible refine (laws_sameLists.calls k _ _ t1581 _ _ a2 true _ ?side1 ?side2 ?side3 ?side4 B6.out).mono ?_); (case side1 => exact cC_ CX); (case side2 => exact LX.out); (case side3 => exact cC_ CY); (case side4 => exact LY.out); rintro e w' ⟨rfl, ⟨nd, rfl⟩⟩)
                      | (go_at_call 37; (with_reducible refine (impl_SortPoints.calls k _ _ t1562 t1584 _ ?side1 ?side2 A10.out).mono ?_); (case side1 => exact cC_ CL); (case side2 => exact LL.out); rintro e w_E ⟨v_, rfl, ho0, hb⟩; obtain ⟨AE, cE, e_⟩ := Kd.R_slice ho0; subst e_; have CE := am_ (Kd.R_reads' ho0).2.2; have LE := am_ (Kd.R_reads' ho0).2.1; have z_ := cst_ CW hb; clear CW; have CW := z_; clear z_; have z_ := cst_ CL hb; clear CL; have CL := z_; clear z_; have z_ := bs0_ HB hb; clear HB hb ho0; have HB := z_; clear z_)
                      | (go_at_call 44; (with_reducible refine (spec_SortPoints.calls k _ _ t1562 p2 _ ?side1 ?side2 B7.out).mono ?_); (case side1 => exact cC_ CL); (case side2 => exact LL.out); rintro e w_G ⟨v_, rfl, ho0, hb⟩; obtain ⟨AG, cG, e_⟩ := Kd.R_slice ho0; subst e_; have CG := am_ (Kd.R_reads' ho0).2.2; have LG := am_ (Kd.R_reads' ho0).2.1; have z_ := cst_ CW hb; clear CW; have CW := z_; clear z_; have z_ := cst_ CL hb; clear CL; have CL := z_; clear z_; have z_ := cst_ CE hb; clear CE; have CE := z_; clear z_; have z_ := bs0_ HB hb; clear HB hb ho0; have HB := z_; clear z_)
                      | (go_at_call 41; (with_reducible refine (laws_samePoints.calls k _ _ t1584 _ _ p2 true _ ?side1 ?side2 ?side3 ?side4 B8.out).mono ?_); (case side1 => exact cC_ CE); (case side2 => exact LE.out); (case side3 => exact cC_ CG); (case side4 => exact LG.out); rintro e w' ⟨rfl, ⟨nd, rfl⟩⟩)
                      | (go_at_call 38; (with_reducible refine (impl_CellTable.calls k t1558 _ _ t1559 t1587 _ ?side1 ?side2 A11.out).mono ?_); (case side1 => exact cC_ CW); (case side2 => exact LW.out); rintro e w_H ⟨v_, rfl, ho0, hb⟩; obtain ⟨AH, cH, e_⟩ := Kd.S_slice ho0; subst e_; have CH := am_ (Kd.S_reads' ho0).2.2; have LH := am_ (Kd.S_reads' ho0).2.1; have z_ := cst_ CW hb; clear CW; have CW := z_; clear z_; have z_ := bs0_ HB hb; clear HB hb ho0; have HB := z_; clear z_)
                      | (go_at_call 45; (with_reducible refine (spec_CellTable.calls k t1558 _ _ t1559 d2 _ ?side1 ?side2 B9.out).mono ?_); (case side1 => exact cC_ CW); (case side2 => exact LW.out); rintro e w_I ⟨v_, rfl, ho0, hb⟩; obtain ⟨AI, cI, e_⟩ := Kd.S_slice ho0; subst e_; have CI := am_ (Kd.S_reads' ho0).2.2; have LI := am_ (Kd.S_reads' ho0).2.1; have z_ := cst_ CW hb; clear CW; have CW := z_; clear z_; have z_ := cst_ CH hb; clear CH; have CH := z_; clear z_; have z_ := bs0_ HB hb; clear HB hb ho0; have HB := z_; clear z_)
                      | (go_at_call 42; (with_reducible refine (laws_sameLists.calls k _ _ t1587 _ _ d2 true _ ?side1 ?side2 ?side3 ?side4 B10.out).mono ?_); (case side1 => exact cC_ CH); (case side2 => exact LH.out); (case side3 => exact cC_ CI); (case side4 => exact LI.out); rintro e w' ⟨rfl, ⟨nd, rfl⟩⟩))
                    go_ret
                    exact ⟨er_, bx0 HB.out⟩
end Go.Proofs.Ytoajlmlobaccdaa.P
namespace Go.Proofs.Ytoajlmlobaccdaa.Rk
open Go.RowKit Go.ChangeShapes Go.WideShapes Go.Deep Go.Proofs.YtoajlmlobaccdaaW.PrintWords
def I64 (n : Int) : Prop := -9223372036854775808 ≤ n ∧ n ≤ 9223372036854775807
section
variable {H : Type} {enc : TypeId × Value → H} {P : Program} {w : World} {base : Nat} {spare : Nat → Bool} {held : Bool} {α : Type}
def Elem (enc : TypeId × Value → H) (P : Program) (w : World) (base : Nat) (spare : Nat → Bool) (held : Bool) (e : TypeId) (d : Kd α) (Q : α → Prop) : Prop :=
  ∀ (fuel : Nat) (cs : List Value) (x : DataW H × List MemPlace), DataW.trod enc P w base spare held fuel e cs = some x → ∃ y, d.K w y cs ∧ Q y
theorem row_of [Inhabited α] {t e : TypeId} {d : Kd α} {Q : α → Prop} {a : Option Addr} {len cap : Nat} {D : DataW H} {ps : List MemPlace} (ht : P.underlying t = some (.slice e)) (hC : P.cellsOf e = d.sz) (he : Elem enc P w base spare held e d Q)
    (h : DataW.Trod enc P w base spare held t (.slice a len cap) D ps) : ∃ l : List α, len = l.length ∧ d.C w a l.length l ∧ l.length ≤ cap ∧ l.length ≤ 9223372036854775807 ∧ ∀ y ∈ l, Q y := by
  obtain ⟨fuel, hf⟩ := h
  rcases open_slice ht hf with ⟨hcs, _⟩ | ⟨ad, len', cap', m, n, D', Pl, hcs, _, hl, hm, hmm, _, hi⟩
  · simp [Value.cells] at hcs
    obtain ⟨rfl, rfl, rfl⟩ := hcs
    exact ⟨[], rfl, Kd.C_nil d w, Nat.zero_le _, by simp, fun y hy => by simp at hy⟩
  · simp [Value.cells] at hcs
    obtain ⟨rfl, rfl, rfl⟩ := hcs
    have hlm : len ≤ m := by rw [hmm]; split <;> omega
    have key : ∀ i, i < len → ∃ y : α, ∃ cs : List Value, cs.length = d.sz ∧ d.K w y cs ∧ Q y ∧ ∀ j u, cs[j]? = some u → w.cell? (ad.add (i * d.sz + j)) = some u := by
      intro i hil
      obtain ⟨cs', hc, htr⟩ := hi i (by omega)
      rw [hC] at hc
      obtain ⟨_, hcl, hat⟩ := World.cells?_some hc
      obtain ⟨y, hK, hQ⟩ := he _ _ _ htr
      refine ⟨y, cs', hcl, hK, hQ, fun j u hu => ?_⟩
      have hj : j < d.sz := by rw [← hcl]; exact (List.getElem?_eq_some_iff.1 hu).1
      rw [← Deep.add_add, hat j hj]
      exact hu
    obtain ⟨f, hff⟩ := choose_lt key
    unfold maxLen at hm
    refine ⟨(List.range len).map f, by simp, ⟨rfl, by simp; omega, fun hn => ⟨ad, rfl, fun j p hp => ?_⟩⟩, by simpa using hl, by simp; omega, fun y hy => ?_⟩
    · have hjl : j < len := by simpa using (List.getElem?_eq_some_iff.1 hp).1
      have : p = f j := by simpa [hjl] using hp.symm
      subst this
      obtain ⟨cs, h1, h2, _, h4⟩ := hff j hjl
      exact ⟨cs, h1, h2, h4⟩
    · obtain ⟨i, hi2, rfl⟩ := List.mem_map.1 hy
      exact (hff i (List.mem_range.1 hi2)).choose_spec.2.2.1
theorem ints_of {t e : TypeId} {k : IntKind} {a : Option Addr} {len cap : Nat} {D : DataW H} {ps : List MemPlace} (ht : P.underlying t = some (.slice e)) (hu : P.underlying e = some (.int k)) (hC : P.cellsOf e = 1)
    (h : DataW.Trod enc P w base spare held t (.slice a len cap) D ps) : ∃ l : List Int, len = l.length ∧ (Kd.int k).C w a l.length l ∧ l.length ≤ cap ∧ l.length ≤ 9223372036854775807 ∧ ∀ y ∈ l, (Lit.int k y).wf = true :=
  row_of (d := Kd.int k) (Q := fun y => (Lit.int k y).wf = true) ht hC (fun fuel cs x hx => by
    obtain ⟨n, rfl, _, hw⟩ := DataW.trod_int hu hx
    exact ⟨n, rfl, hw⟩) h
end
end Go.Proofs.Ytoajlmlobaccdaa.Rk
namespace Go.Proofs.Ytoajlmlobaccdaa.P
open Go.RowKit Go.ChangeShapes Go.WideShapes Go.Deep Go.Proofs.Ytoajlmlobaccdaa.Rk Go.Proofs.YtoajlmlobaccdaaW.PrintWords
def Q101 (x : S101) : Prop := I64 x.f0 ∧ I64 x.f1 ∧ I64 x.f2 ∧ I64 x.f3 ∧ I64 x.f4
instance : Inhabited S101 := ⟨z101⟩
def Q31 (x : S31) : Prop := I64 x.f0 ∧ x.f1.size ≤ 9223372036854775807
instance : Inhabited S31 := ⟨z31⟩
def Q56 (x : S56) : Prop := I64 x.f0 ∧ I64 x.f1
instance : Inhabited S56 := ⟨z56⟩
def Q28 (x : S28) : Prop := I64 x.f0 ∧ x.f1.size ≤ 9223372036854775807
instance : Inhabited S28 := ⟨z28⟩
end Go.Proofs.Ytoajlmlobaccdaa.P
namespace Go.Proofs.Ytoajlmlobaccdaa.Pl
set_option linter.unusedSimpArgs false
set_option linter.unusedVariables false
open Go.RowKit Go.Proofs.YtoajlmlobaccdaaW.PrintWords
theorem wrap_in {n : Int} (h0 : -9223372036854775808 ≤ n) (h1 : n ≤ 9223372036854775807) : wrap64 n = n := by
  unfold wrap64
  omega
theorem wrap_nat (i : Nat) (h : i < 9223372036854775807) : wrap64 ((i : Int) + 1) = ((i + 1 : Nat) : Int) := by
  unfold wrap64
  omega
theorem Ev.const {α : Type} {x : Option α} {r : α} (h : x = some r) : Ev (fun _ => x) r := ⟨0, fun _ _ => h⟩
theorem Ev.ite_pos {α : Type} {c : Prop} [Decidable c] {g f : Nat → Option α} {r : α} (h : c) (k : Ev g r) : Ev (fun n => if c then g n else f n) r := by
  simpa only [if_pos h] using k
theorem Ev.ite_neg {α : Type} {c : Prop} [Decidable c] {g f : Nat → Option α} {r : α} (h : ¬ c) (k : Ev f r) : Ev (fun n => if c then g n else f n) r := by
  simpa only [if_neg h] using k
theorem Ev.bind0 {α β : Type} {x : Option α} {f : Nat → α → Option β} {a : α} {r : β} (h : x = some a) (k : Ev (fun n => f n a) r) : Ev (fun n => x.bind (f n)) r := by
  subst h
  exact k
theorem Ev.loop {ρ : Type} (g : Nat → Nat → Option ρ) (n : Nat) (r : ρ) (hend : Ev (g n) r) (hstep : ∀ i, i < n → Ev (g (i + 1)) r → Ev (g i) r) : ∀ i, i ≤ n → Ev (g i) r := by
  have key : ∀ d i, i + d = n → Ev (g i) r := by
    intro d
    induction d with
    | zero => intro i hi; obtain rfl : i = n := by omega
              exact hend
    | succ d ih => intro i hi; exact hstep i (by omega) (ih (i + 1) (by omega))
  intro i hi
  exact key (n - i) i (by omega)
theorem Ev.loop_to {ρ : Type} (g : Nat → Nat → Option ρ) (n : Nat) (R : Nat → ρ) (hend : Ev (g n) (R n)) (hstep : ∀ i, i < n → Ev (g (i + 1)) (R (i + 1)) → Ev (g i) (R i)) : ∀ i, i ≤ n → Ev (g i) (R i) := by
  have key : ∀ d i, i + d = n → Ev (g i) (R i) := by
    intro d
    induction d with
    | zero => intro i hi; obtain rfl : i = n := by omega
              exact hend
    | succ d ih => intro i hi; exact hstep i (by omega) (ih (i + 1) (by omega))
  intro i hi
  exact key (n - i) i (by omega)
theorem getD_lt {α : Type} (l : List α) (d : α) (i : Nat) (h : i < l.length) : l.getD i d = l[i] := by
  rw [List.getD_eq_getElem?_getD, List.getElem?_eq_getElem h]
  rfl
end Go.Proofs.Ytoajlmlobaccdaa.Pl
namespace Go.Proofs.Ytoajlmlobaccdaa.Pure
set_option linter.unusedSimpArgs false
set_option linter.unusedVariables false
open Go.RowKit Go.Proofs.YtoajlmlobaccdaaW.PrintWords Go.Proofs.Ytoajlmlobaccdaa.P Go.Proofs.Ytoajlmlobaccdaa.Pl
def okAt (l : List Int) (p : Int) : Prop := 0 ≤ p ∧ p ≤ (l.length : Int) - 2 ∧ rd l p ≤ rd l (p + 1)
instance (l : List Int) (p : Int) : Decidable (okAt l p) := by unfold okAt; infer_instance
def swp (l : List Int) (p : Int) : List Int := (l.set p.toNat (rd l (p + 1))).set (p + 1).toNat (rd l p)
theorem swp_length (l : List Int) (p : Int) : (swp l p).length = l.length := by simp [swp]
def runW : List Int → List Int → Option (List Int)
  | l, [] => some l
  | l, p :: w => if okAt l p then runW (swp l p) w else none
def upTo (n : Nat) : List Int := (List.range n).map fun i : Nat => (i : Int)
theorem upTo_length (n : Nat) : (upTo n).length = n := by simp [upTo]
theorem upTo_succ (n : Nat) : upTo (n + 1) = upTo n ++ [(n : Int)] := by simp [upTo, List.range_succ]
def isW (n : Int) (w : List Int) : Bool := decide (3 ≤ n ∧ n ≤ 6 ∧ (w.length : Int) = Int.tdiv (n * (n - 1)) 2) && (runW (upTo n.toNat) w).isSome
theorem impl_upTo_ev (n : Nat) (h : n ≤ 1000) : Ev (fun k => impl_upTo.f k n) (upTo n) := by
  have key := Ev.loop (fun i k => impl_upTo.l0 k n (upTo i) i) n (upTo n) ?_ ?_ 0 (by omega)
  · exact key
  · refine Ev.step (fun k => impl_upTo.l0.eq_2 ..) ?_
    exact Ev.ite_neg (by omega) (Ev.now _)
  · intro i hi ih
    refine Ev.step (fun k => impl_upTo.l0.eq_2 ..) ?_
    refine Ev.ite_pos (by omega) (Ev.ite_pos (by rw [upTo_length]; omega) ?_)
    rw [wrap_nat i (by omega), ← upTo_succ]
    exact ih
theorem spec_l12Start_ev (n : Nat) (h : n ≤ 1000) : Ev (fun k => spec_l12Start.f k n) (upTo n) := by
  have key := Ev.loop (fun i k => spec_l12Start.l0 k n (upTo i) i) n (upTo n) ?_ ?_ 0 (by omega)
  · exact key
  · refine Ev.step (fun k => spec_l12Start.l0.eq_2 ..) ?_
    exact Ev.ite_neg (by omega) (Ev.now _)
  · intro i hi ih
    refine Ev.step (fun k => spec_l12Start.l0.eq_2 ..) ?_
    refine Ev.ite_pos (by omega) (Ev.ite_pos (by rw [upTo_length]; omega) ?_)
    rw [wrap_nat i (by omega), ← upTo_succ]
    exact ih
theorem l12Swap_eq (l : List Int) (p : Int) (hl : l.length ≤ 1000) (hn : 2 ≤ l.length) : spec_l12Swap.f l p = some (if okAt l p then (true, swp l p) else (false, l)) := by
  unfold spec_l12Swap.f spec_l1In.f
  rw [wrap_in (n := (l.length : Int) - 2) (by omega) (by omega)]
  by_cases h0 : p ≥ 0
  · rw [if_pos h0]
    by_cases h1 : p ≤ (l.length : Int) - 2
    · have hw : wrap64 (p + 1) = p + 1 := wrap_in (by omega) (by omega)
      simp only [hw, h1, decide_true, Option.bind_some, if_true]
      rw [if_pos (by omega), if_pos (by omega), if_pos (by omega), if_pos (by omega)]
      by_cases h2 : rd l p > rd l (p + 1)
      · rw [if_pos h2, if_neg (by unfold okAt; omega)]
      · rw [if_neg h2, if_pos (by unfold okAt; omega)]
        rfl
    · simp only [h1, decide_false, Option.bind_some]
      rw [if_neg (by simp), if_neg (by unfold okAt; omega)]
  · rw [if_neg h0]
    simp only [Option.bind_some]
    rw [if_neg (by simp), if_neg (by unfold okAt; omega)]
theorem drop_rd (w : List Int) (i : Nat) (h : i < w.length) : w.drop i = rd w (i : Int) :: w.drop (i + 1) := by
  rw [List.drop_eq_getElem_cons h]
  unfold rd
  rw [Int.toNat_natCast, getD_lt _ _ _ h]
theorem spec_loop (w : List Int) (hw : w.length ≤ 1000) : ∀ d i, i + d = w.length → ∀ l : List Int, l.length ≤ 1000 → 2 ≤ l.length → Ev (fun k => spec_IsWiring.l0 k w l i) (runW l (w.drop i)).isSome := by
  intro d
  induction d with
  | zero =>
    intro i hi l _ _
    refine Ev.step (fun k => spec_IsWiring.l0.eq_2 ..) ?_
    rw [List.drop_of_length_le (by omega)]
    exact Ev.ite_neg (by omega) (Ev.now _)
  | succ d ih =>
    intro i hi l hl h2
    refine Ev.step (fun k => spec_IsWiring.l0.eq_2 ..) ?_
    rw [drop_rd w i (by omega)]
    refine Ev.ite_pos (by omega) (Ev.ite_pos (by omega) (Ev.bind0 (l12Swap_eq l _ hl h2) ?_))
    unfold runW
    by_cases ho : okAt l (rd w (i : Int))
    · rw [if_pos ho, if_pos ho, wrap_nat i (by omega)]
      exact Ev.ite_pos rfl (ih (i + 1) (by omega) _ (by rw [swp_length]; exact hl) (by rw [swp_length]; exact h2))
    · rw [if_neg ho, if_neg ho]
      exact Ev.ite_neg (by simp) (Ev.now _)
theorem impl_loop (n : Nat) (hn : 2 ≤ n) (hn6 : n ≤ 1000) (w : List Int) (hw : w.length ≤ 1000) : ∀ d i, i + d = w.length → ∀ l : List Int, l.length = n → Ev (fun k => impl_run_impl_IsWiring_1.l0 k n l w w.length i) (runW l (w.drop i)).isSome := by
  intro d
  induction d with
  | zero =>
    intro i hi l _
    refine Ev.step (fun k => impl_run_impl_IsWiring_1.l0.eq_2 ..) ?_
    rw [List.drop_of_length_le (by omega)]
    exact Ev.ite_neg (by omega) (Ev.now _)
  | succ d ih =>
    intro i hi l hl
    refine Ev.step (fun k => impl_run_impl_IsWiring_1.l0.eq_2 ..) ?_
    rw [drop_rd w i (by omega)]
    generalize rd w (i : Int) = p
    refine Ev.ite_pos (by omega) (Ev.ite_pos (by omega) (Ev.ite_pos (by omega) ?_))
    rw [wrap_in (n := (n : Int) - 2) (by omega) (by omega)]
    unfold runW
    by_cases h0 : p < 0
    · rw [if_neg (by unfold okAt; omega)]
      exact Ev.ite_pos h0 (Ev.now _)
    refine Ev.ite_neg h0 ?_
    by_cases h1 : p > (n : Int) - 2
    · rw [if_neg (by unfold okAt; omega)]
      exact Ev.ite_pos h1 (Ev.now _)
    refine Ev.ite_neg h1 ?_
    rw [wrap_in (n := p + 1) (by omega) (by omega)]
    refine Ev.ite_pos (by omega) (Ev.ite_pos (by omega) (Ev.ite_pos (by omega) (Ev.ite_pos (by omega) ?_)))
    by_cases h2 : rd l p > rd l (p + 1)
    · rw [if_neg (by unfold okAt; omega)]
      exact Ev.ite_pos h2 (Ev.now _)
    refine Ev.ite_neg h2 (Ev.bind0 rfl ?_)
    rw [if_pos (by unfold okAt; omega), wrap_nat i (by omega)]
    exact ih (i + 1) (by omega) _ (by rw [← hl]; exact swp_length l p)
theorem count_small {n : Int} (h3 : 3 ≤ n) (h6 : n ≤ 6) : wrap64 (n * wrap64 (n - 1)) = n * (n - 1) ∧ wrap64 (Int.tdiv (n * (n - 1)) 2) = Int.tdiv (n * (n - 1)) 2 ∧ 0 ≤ Int.tdiv (n * (n - 1)) 2 ∧ Int.tdiv (n * (n - 1)) 2 ≤ 15 := by
  have : n = 3 ∨ n = 4 ∨ n = 5 ∨ n = 6 := by omega
  obtain rfl | rfl | rfl | rfl := this <;> (unfold wrap64; decide)
theorem spec_IsWiring_ev (n : Int) (w : List Int) : Ev (fun k => spec_IsWiring.f k n w) (isW n w) := by
  unfold spec_IsWiring.f isW
  by_cases h3 : n ≥ 3
  · by_cases h6 : n ≤ 6
    · obtain ⟨e1, e2, e3, e4⟩ := count_small h3 h6
      refine Ev.bind0 (a := true) (by unfold spec_l1In.f; rw [if_pos h3]; simp [h6]) (Ev.ite_pos rfl ?_)
      rw [e1, e2]
      refine Ev.step (fun k => spec_IsWiring.j0.eq_2 ..) ?_
      by_cases hc : (w.length : Int) = Int.tdiv (n * (n - 1)) 2
      · rw [show decide (3 ≤ n ∧ n ≤ 6 ∧ (w.length : Int) = Int.tdiv (n * (n - 1)) 2) = true from decide_eq_true ⟨h3, h6, hc⟩, Bool.true_and]
        refine Ev.ite_neg (by simp [hc]) ?_
        obtain ⟨m, rfl⟩ := Int.eq_ofNat_of_zero_le (show 0 ≤ n by omega)
        refine Ev.bind (spec_l12Start_ev m (by omega)) ?_
        exact spec_loop w (by omega) w.length 0 (by omega) (upTo m) (by rw [upTo_length]; omega) (by rw [upTo_length]; omega)
      · rw [show decide (3 ≤ n ∧ n ≤ 6 ∧ (w.length : Int) = Int.tdiv (n * (n - 1)) 2) = false from decide_eq_false (fun h => hc h.2.2), Bool.false_and]
        exact Ev.ite_pos (by simp [hc]) (Ev.now _)
    · rw [show decide (3 ≤ n ∧ n ≤ 6 ∧ (w.length : Int) = Int.tdiv (n * (n - 1)) 2) = false from decide_eq_false (fun h => h6 h.2.1), Bool.false_and]
      refine Ev.bind0 (a := false) (by unfold spec_l1In.f; rw [if_pos h3]; simp [h6]) (Ev.ite_neg (by simp) ?_)
      refine Ev.step (fun k => spec_IsWiring.j0.eq_2 ..) ?_
      exact Ev.ite_pos rfl (Ev.now _)
  · rw [show decide (3 ≤ n ∧ n ≤ 6 ∧ (w.length : Int) = Int.tdiv (n * (n - 1)) 2) = false from decide_eq_false (fun h => h3 h.1), Bool.false_and]
    refine Ev.bind0 (a := false) (by unfold spec_l1In.f; rw [if_neg h3]) (Ev.ite_neg (by simp) ?_)
    refine Ev.step (fun k => spec_IsWiring.j0.eq_2 ..) ?_
    exact Ev.ite_pos rfl (Ev.now _)
theorem impl_IsWiring_ev (n : Int) (w : List Int) : Ev (fun k => impl_IsWiring.f k n w) (isW n w) := by
  unfold impl_IsWiring.f isW
  by_cases h3 : n ≥ 3
  · by_cases h6 : n ≤ 6
    · obtain ⟨e1, e2, e3, e4⟩ := count_small h3 h6
      refine Ev.bind0 (a := true) (by unfold impl_isWires.f; rw [if_pos h3]; simp [h6]) (Ev.ite_pos rfl ?_)
      rw [e1, e2]
      by_cases hc : (w.length : Int) = Int.tdiv (n * (n - 1)) 2
      · rw [show decide (3 ≤ n ∧ n ≤ 6 ∧ (w.length : Int) = Int.tdiv (n * (n - 1)) 2) = true from decide_eq_true ⟨h3, h6, hc⟩, Bool.true_and]
        refine Ev.ite_pos hc ?_
        obtain ⟨m, rfl⟩ := Int.eq_ofNat_of_zero_le (show 0 ≤ n by omega)
        refine Ev.bind (a := (runW (upTo m) w).isSome) ?_ (Ev.now _)
        unfold impl_run_impl_IsWiring_1.f
        refine Ev.bind (impl_upTo_ev m (by omega)) ?_
        exact impl_loop m (by omega) (by omega) w (by omega) w.length 0 (by omega) (upTo m) (upTo_length m)
      · rw [show decide (3 ≤ n ∧ n ≤ 6 ∧ (w.length : Int) = Int.tdiv (n * (n - 1)) 2) = false from decide_eq_false (fun h => hc h.2.2), Bool.false_and]
        exact Ev.ite_neg hc (Ev.now _)
    · rw [show decide (3 ≤ n ∧ n ≤ 6 ∧ (w.length : Int) = Int.tdiv (n * (n - 1)) 2) = false from decide_eq_false (fun h => h6 h.2.1), Bool.false_and]
      refine Ev.bind0 (a := false) (by unfold impl_isWires.f; rw [if_pos h3]; simp [h6]) (Ev.ite_neg (by simp) (Ev.now _))
  · rw [show decide (3 ≤ n ∧ n ≤ 6 ∧ (w.length : Int) = Int.tdiv (n * (n - 1)) 2) = false from decide_eq_false (fun h => h3 h.1), Bool.false_and]
    exact Ev.bind0 (a := false) (by unfold impl_isWires.f; rw [if_neg h3]) (Ev.ite_neg (by simp) (Ev.now _))
theorem isW_bounds {n : Int} {w : List Int} (h : isW n w = true) : 3 ≤ n ∧ n ≤ 6 ∧ w.length ≤ 15 := by
  unfold isW at h
  rw [Bool.and_eq_true, decide_eq_true_eq] at h
  obtain ⟨⟨h3, h6, hc⟩, _⟩ := h
  exact ⟨h3, h6, by have := (count_small h3 h6).2.2.2; omega⟩
def inv : List Int → Nat
  | [] => 0
  | x :: l => l.countP (fun y => decide (y < x)) + inv l
theorem inv_swap (a b : Int) (hab : a < b) (B : List Int) : ∀ A : List Int, inv (A ++ b :: a :: B) = inv (A ++ a :: b :: B) + 1
  | [] => by
    simp only [List.nil_append, inv, List.countP_cons]
    rw [show decide (a < b) = true from decide_eq_true hab, show decide (b < a) = false from decide_eq_false (by omega)]
    simp
    omega
  | x :: A => by
    have ih := inv_swap a b hab B A
    simp only [List.cons_append, inv, ih, List.countP_append, List.countP_cons]
    omega
def but (i : Int) (l : List Int) : List Int := l.filter fun x => decide (x ≠ i)
theorem cutAt (l : List Int) (p : Int) (h : okAt l p) : ∃ A B : List Int, l = A ++ rd l p :: rd l (p + 1) :: B ∧ (A.length : Int) = p ∧ swp l p = A ++ rd l (p + 1) :: rd l p :: B := by
  obtain ⟨h0, h1, h2⟩ := h
  obtain ⟨m, rfl⟩ := Int.eq_ofNat_of_zero_le h0
  have hm : m + 1 < l.length := by omega
  have e0 : rd l (m : Int) = l[m] := by unfold rd; rw [Int.toNat_natCast]; exact getD_lt _ _ _ (by omega)
  have e1 : rd l ((m : Int) + 1) = l[m + 1] := by unfold rd; rw [show ((m : Int) + 1).toNat = m + 1 by omega]; exact getD_lt _ _ _ hm
  have hl : l = l.take m ++ l[m] :: l[m + 1] :: l.drop (m + 2) := by
    rw [← List.drop_eq_getElem_cons hm, ← List.drop_eq_getElem_cons (by omega), List.take_append_drop]
  refine ⟨l.take m, l.drop (m + 2), ?_, ?_, ?_⟩
  · rw [e0, e1]; exact hl
  · rw [List.length_take]; omega
  · unfold swp
    rw [show ((m : Int) + 1).toNat = m + 1 by omega, Int.toNat_natCast, e0, e1]
    generalize l[m] = a at hl ⊢
    generalize l[m + 1] = b at hl ⊢
    have hlt : (l.take m).length = m := by rw [List.length_take]; omega
    conv => lhs; rw [hl]
    rw [List.set_append_right _ _ (by omega), List.set_append_right _ _ (by omega), hlt, Nat.sub_self, show m + 1 - m = 1 by omega]
    rfl
def swL : List Int → List Int → List (List Int)
  | _, [] => []
  | l, p :: w => [rd l p, rd l (p + 1)] :: swL (swp l p) w
def dec1 (i x : Int) : Int := if x > i then x - 1 else x
def outOf (i : Int) (s : List (List Int)) : List (List Int) := (s.filter fun x => !(x.contains i)).map fun x => x.map (dec1 i)
def dropL (i : Int) : List Int → List Int → List Int
  | _, [] => []
  | l, p :: w => if rd l p ≠ i ∧ rd l (p + 1) ≠ i then (p - (if (l.idxOf i : Int) < p then 1 else 0)) :: dropL i (swp l p) w else dropL i (swp l p) w
def fromW : List Int → List (List Int) → Option (List Int)
  | _, [] => some []
  | l, x :: s => if x.length = 2 ∧ rd x 0 < rd x 1 ∧ l.idxOf (rd x 0) + 1 < l.length ∧ rd l ((l.idxOf (rd x 0) : Int) + 1) = rd x 1 then (fromW (swp l (l.idxOf (rd x 0))) s).map ((l.idxOf (rd x 0) : Int) :: ·) else none
def less (i : Int) (l : List Int) : List Int := (but i l).map (dec1 i)
theorem swap_nodup {A B : List Int} {a b : Int} (h : (A ++ a :: b :: B).Nodup) : (A ++ b :: a :: B).Nodup :=
  (List.Perm.nodup_iff (List.Perm.append_left A (List.Perm.swap a b B))).2 h
theorem upTo_facts (n : Nat) (h3 : 3 ≤ n) (h6 : n ≤ 6) (i : Int) (h0 : 0 ≤ i) (hi : i < n) : (upTo n).Nodup ∧ i ∈ upTo n ∧ less i (upTo n) = upTo (n - 1) ∧ inv (upTo n) = 0 := by
  obtain ⟨j, rfl⟩ := Int.eq_ofNat_of_zero_le h0
  have key : ∀ n : Fin 7, 3 ≤ n.val → ∀ j : Fin 6, j.val < n.val → (upTo n.val).Nodup ∧ ((j.val : Nat) : Int) ∈ upTo n.val ∧ less ((j.val : Nat) : Int) (upTo n.val) = upTo (n.val - 1) ∧ inv (upTo n.val) = 0 := by decide +kernel
  exact key ⟨n, by omega⟩ h3 ⟨j, by omega⟩ (by show j < n; omega)
theorem and255 (y : Int) : 0 ≤ Go.bits .and .i64 y 255 ∧ Go.bits .and .i64 y 255 ≤ 255 := by
  show 0 ≤ IntKind.i64.wrap ((BitVec.ofInt 64 y &&& BitVec.ofInt 64 255).toNat : Int) ∧ IntKind.i64.wrap ((BitVec.ofInt 64 y &&& BitVec.ofInt 64 255).toNat : Int) ≤ 255
  rw [BitVec.toNat_and, show (BitVec.ofInt 64 255).toNat = 255 from rfl]
  have h := @Nat.and_le_right (BitVec.ofInt 64 y).toNat 255
  rw [IntKind.wrap_i64]
  omega
def CurOk (b : List Int) (i : Int) : Prop := 0 ≤ i ∧ i ≤ b.length ∧ b.length ≤ 1048576
theorem byte_ok (b : List Int) (i h : Int) (hc : CurOk b i) : ∃ x i' h', spec_l1Byte.f b i h = some (x, i', h') ∧ 0 ≤ x ∧ x ≤ 255 ∧ CurOk b i' := by
  obtain ⟨h0, h1, h2⟩ := hc
  unfold spec_l1Byte.f
  by_cases c : i < (b.length : Int)
  · rw [if_pos c, if_pos h0]
    exact ⟨_, _, _, rfl, (and255 _).1, (and255 _).2, by rw [wrap_in (by omega) (by omega)]; exact ⟨by omega, by omega, h2⟩⟩
  · rw [if_neg c]
    exact ⟨_, _, _, rfl, (and255 _).1, (and255 _).2, h0, h1, h2⟩
theorem below_ok (b : List Int) (i h n : Int) (hc : CurOk b i) (hn : n ≤ 256) : ∃ x i' h', spec_l1Below.f b i h n = some (x, i', h') ∧ 0 ≤ x ∧ (0 < n → x < n) ∧ (n ≤ 0 → x = 0) ∧ CurOk b i' := by
  unfold spec_l1Below.f
  by_cases c : n ≤ 0
  · rw [if_pos c]
    exact ⟨0, i, h, rfl, by omega, by omega, fun _ => rfl, hc⟩
  · rw [if_neg c, if_pos hn]
    obtain ⟨x, i', h', e, x0, x1, hc'⟩ := byte_ok b i h hc
    rw [e, Option.bind_some, if_neg (by omega)]
    refine ⟨_, _, _, rfl, Int.tmod_nonneg _ x0, fun _ => Int.tmod_lt_of_pos _ (by omega), fun h => absurd h c, hc'⟩
theorem pick_ok (b : List Int) (i h : Int) (l : List Int) (hc : CurOk b i) (h0 : 0 < l.length) (h1 : l.length ≤ 256) : ∃ x i' h', spec_l1PickInt.f b i h l = some (x, i', h') ∧ x ∈ l ∧ CurOk b i' := by
  obtain ⟨x, i', h', e, x0, x1, _, hc'⟩ := below_ok b i h l.length hc (by omega)
  unfold spec_l1PickInt.f
  rw [e, Option.bind_some, if_pos x0, if_pos (x1 (by omega))]
  refine ⟨_, _, _, rfl, ?_, hc'⟩
  show rd l x ∈ l
  unfold rd
  have hx := x1 (by omega)
  rw [getD_lt _ _ _ (by omega)]
  exact List.getElem_mem _
theorem new_ok (l : List Int) (hl : l.length ≤ 1048576) : ∃ h, Ev (fun k => spec_l1New.f k l) (l, 0, h) := by
  unfold spec_l1New.f
  have key : ∀ d i x, i + d = l.length → ∃ h, Ev (fun k => spec_l1New.l0 k l x (i : Nat)) (l, 0, h) := by
    intro d
    induction d with
    | zero =>
      intro i x hi
      exact ⟨x, Ev.step (fun k => spec_l1New.l0.eq_2 ..) (Ev.ite_neg (by omega) (Ev.now _))⟩
    | succ d ih =>
      intro i x hi
      by_cases c : (i : Int) < 4000
      · obtain ⟨h, e⟩ := ih (i + 1) (Go.bits .and .i64 (wrap64 ((wrap64 ((wrap64 (x * 131)) + (wrap64 (rd l i)))) + 7)) 1073741823) (by omega)
        refine ⟨h, Ev.step (fun k => spec_l1New.l0.eq_2 ..) (Ev.ite_pos (by omega) (Ev.ite_pos c (Ev.ite_pos (by omega) ?_)))⟩
        rw [wrap_nat i (by omega)]
        exact e
      · exact ⟨x, Ev.step (fun k => spec_l1New.l0.eq_2 ..) (Ev.ite_pos (by omega) (Ev.ite_neg c (Ev.now _)))⟩
  exact key l.length 0 _ (by omega)
def desc : List Int → Prop
  | [] => True
  | [_] => True
  | x :: y :: l => y < x ∧ desc (y :: l)
theorem desc_lt : ∀ (l : List Int) (x : Int), desc (x :: l) → ∀ y ∈ l, y < x
  | [], _, _, _, h => by cases h
  | z :: l, x, h, y, hy => by
    rcases List.mem_cons.1 hy with rfl | hy
    · exact h.1
    · have := desc_lt l z h.2 y hy
      have := h.1
      omega
theorem desc_tail (l : List Int) (x : Int) (h : desc (x :: l)) : desc l := by
  cases l with
  | nil => trivial
  | cons y l => exact h.2
theorem inv_desc : ∀ l : List Int, desc l → 2 * inv l = l.length * (l.length - 1)
  | [], _ => rfl
  | x :: l, h => by
    have ih := inv_desc l (desc_tail l x h)
    have h1 : l.countP (fun y => decide (y < x)) = l.length := by
      rw [List.countP_eq_length]
      intro y hy
      exact decide_eq_true (desc_lt l x h y hy)
    unfold inv
    rw [h1, List.length_cons, Nat.add_sub_cancel]
    cases hl : l.length with
    | zero => rw [hl] at ih; omega
    | succ m =>
      rw [hl, Nat.add_sub_cancel] at ih
      have e1 : (m + 1 + 1) * (m + 1) = (m + 1) * m + 2 * (m + 1) := by rw [Nat.add_mul (m + 1) 1, Nat.mul_add (m + 1) m 1]; omega
      omega
theorem desc_of : ∀ l : List Int, (∀ p : Nat, p + 1 < l.length → rd l ((p + 1 : Nat) : Int) < rd l (p : Int)) → desc l
  | [], _ => trivial
  | [_], _ => trivial
  | x :: y :: l, h => ⟨h 0 (by simp), desc_of (y :: l) (fun p hp => h (p + 1) (by simp only [List.length_cons] at hp ⊢; omega))⟩
theorem rises (l : List Int) (hn : l.Nodup) (hi : 2 * inv l < l.length * (l.length - 1)) : ∃ p : Nat, p + 1 < l.length ∧ rd l (p : Int) < rd l ((p + 1 : Nat) : Int) := by
  by_cases c : ∃ p : Nat, p + 1 < l.length ∧ rd l (p : Int) < rd l ((p + 1 : Nat) : Int)
  · exact c
  · exfalso
    have hd : desc l := desc_of l (fun p hp => by
      have h1 : ¬ rd l (p : Int) < rd l ((p + 1 : Nat) : Int) := fun h => c ⟨p, hp, h⟩
      have h2 : rd l (p : Int) ≠ rd l ((p + 1 : Nat) : Int) := by
        unfold rd
        rw [Int.toNat_natCast, Int.toNat_natCast, getD_lt _ _ _ (by omega), getD_lt _ _ _ hp]
        intro e
        have := (List.getElem_inj hn).1 e
        omega
      omega)
    have := inv_desc l hd
    omega
theorem least {P : Nat → Prop} (h : ∃ d, P d) : ∃ d, P d ∧ ∀ e, e < d → ¬ P e := by
  obtain ⟨d, hd⟩ := h
  induction d using Nat.strongRecOn with
  | ind d ih =>
    by_cases c : ∃ e, e < d ∧ P e
    · obtain ⟨e, he, hp⟩ := c
      exact ih e he hp
    · exact ⟨d, hd, fun e he hp => c ⟨e, he, hp⟩⟩
theorem l12_go (n : Nat) (h3 : 3 ≤ n) (h6 : n ≤ 6) (w l b : List Int) (i h : Int) (hl : l.length = n) (hw : w.length ≤ 100) (hnd : l.Nodup) (q : Nat) (hq1 : q + 1 < n) (hq2 : rd l (q : Int) < rd l ((q + 1 : Nat) : Int)) (r : Int × List Int × Int × Int) (hE : Ev (fun k => spec_l12Draw.l0 k n (w ++ [(q : Int)]) (swp l q) b i h) r) :
    ∀ (d p : Nat), p + 1 < n → (q = p + d ∨ q + (n - 1) = p + d) → (∀ e, e < d → ∀ q', (q' = p + e ∨ q' + (n - 1) = p + e) → q' + 1 < n → ¬ rd l (q' : Int) < rd l ((q' + 1 : Nat) : Int)) →
    Ev (fun k => spec_l12Draw.l1 k n w l (p : Nat) b i h) r
  | 0, p, hp, hq4, _ => by
    obtain rfl : q = p := by omega
    refine Ev.step (fun k => spec_l12Draw.l1.eq_2 ..) ?_
    rw [wrap_nat q (by omega)]
    refine Ev.ite_pos (by omega) (Ev.ite_pos (by omega) (Ev.ite_pos (by omega) (Ev.ite_pos (by omega) (Ev.ite_neg (by omega) ?_))))
    have hs := l12Swap_eq l (q : Int) (by omega) (by omega)
    rw [if_pos ⟨by omega, by omega, Int.le_of_lt hq2⟩] at hs
    exact Ev.bind0 hs (Ev.ite_pos (by omega) hE)
  | d + 1, p, hp, hq4, hq5 => by
    have h0 := hq5 0 (by omega) p (Or.inl rfl) hp
    have hne : rd l (p : Int) ≠ rd l ((p + 1 : Nat) : Int) := by
      unfold rd
      rw [Int.toNat_natCast, Int.toNat_natCast, getD_lt _ _ _ (by omega), getD_lt _ _ _ (by omega)]
      intro e
      have := (List.getElem_inj hnd).1 e
      omega
    refine Ev.step (fun k => spec_l12Draw.l1.eq_2 ..) ?_
    have hw1 : wrap64 ((n : Int) - 1) = ((n - 1 : Nat) : Int) := by rw [wrap_in (by omega) (by omega)]; omega
    rw [wrap_nat p (by omega), hw1]
    refine Ev.ite_pos (by omega) (Ev.ite_pos (by omega) (Ev.ite_pos (by omega) (Ev.ite_pos (by omega) (Ev.ite_pos (by omega) (Ev.ite_neg (by omega) ?_)))))
    have hm : Int.tmod ((p + 1 : Nat) : Int) ((n - 1 : Nat) : Int) = (((p + 1) % (n - 1) : Nat) : Int) := rfl
    rw [hm]
    by_cases c : p + 1 < n - 1
    · rw [Nat.mod_eq_of_lt c]
      exact l12_go n h3 h6 w l b i h hl hw hnd q hq1 hq2 r hE d (p + 1) (by omega) (by omega) (fun e he q' hq' => hq5 (e + 1) (by omega) q' (by omega))
    · have e1 : (p + 1) % (n - 1) = 0 := by rw [show p + 1 = n - 1 by omega, Nat.mod_self]
      rw [e1]
      exact l12_go n h3 h6 w l b i h hl hw hnd q hq1 hq2 r hE d 0 (by omega) (by omega) (fun e he q' hq' hq'' => hq5 (e + 1) (by omega) q' (by omega) hq'')
structure DrawnW (b : List Int) (r : Int × List Int × Int × Int) : Prop where
  n3 : 3 ≤ r.1 ∧ r.1 ≤ 6
  len : 3 ≤ r.2.1.length ∧ r.2.1.length ≤ 15
  val : ∀ x ∈ r.2.1, 0 ≤ x ∧ x ≤ 5
  cur : CurOk b r.2.2.1
theorem l12_draw (n : Nat) (h3 : 3 ≤ n) (h6 : n ≤ 6) (b : List Int) : ∀ (d : Nat) (w l : List Int) (i h : Int), l.length = n → l.Nodup → inv l = w.length → 2 * (w.length + d) = n * (n - 1) → (∀ x ∈ w, 0 ≤ x ∧ x ≤ 5) → CurOk b i → ∃ r, Ev (fun k => spec_l12Draw.l0 k n w l b i h) r ∧ DrawnW b r := by
  have h15 : n * (n - 1) ≤ 30 ∧ 6 ≤ n * (n - 1) := by
    have : n = 3 ∨ n = 4 ∨ n = 5 ∨ n = 6 := by omega
    rcases this with rfl | rfl | rfl | rfl <;> decide
  have hcs := count_small (n := (n : Int)) (by omega) (by omega)
  have hlim : wrap64 (Int.tdiv (wrap64 ((n : Int) * wrap64 ((n : Int) - 1))) 2) = ((n * (n - 1) / 2 : Nat) : Int) := by
    rw [hcs.1, hcs.2.1]
    have e : (n : Int) * ((n : Int) - 1) = ((n * (n - 1) : Nat) : Int) := by rw [Int.natCast_mul]; congr 1; omega
    rw [e]
    rfl
  intro d
  induction d with
  | zero =>
    intro w l i h hl hnd hi hd hv hc
    refine ⟨_, Ev.step (fun k => spec_l12Draw.l0.eq_2 ..) (Ev.ite_neg (by rw [hlim]; omega) (Ev.now _)), ⟨by dsimp only; omega, by dsimp only; omega, hv, hc⟩⟩
  | succ d ih =>
    intro w l i h hl hnd hi hd hv hc
    obtain ⟨p, i', h', e, p0, p1, _, hc'⟩ := below_ok b i h (wrap64 ((n : Int) - 1)) hc (by rw [wrap_in (by omega) (by omega)]; omega)
    have hw1 : wrap64 ((n : Int) - 1) = (n : Int) - 1 := wrap_in (by omega) (by omega)
    have p2 := p1 (by rw [hw1]; omega)
    rw [hw1] at p2
    obtain ⟨p, rfl⟩ := Int.eq_ofNat_of_zero_le p0
    obtain ⟨q0, hq0, hq0'⟩ := rises l hnd (by rw [hl, hi]; omega)
    obtain ⟨dd, ⟨q, hq1, hq2, hq3⟩, hmin⟩ := least (P := fun dd => ∃ q, q + 1 < n ∧ rd l (q : Int) < rd l ((q + 1 : Nat) : Int) ∧ (q = p + dd ∨ q + (n - 1) = p + dd)) (by
      by_cases c : p ≤ q0
      · exact ⟨q0 - p, q0, by omega, hq0', by omega⟩
      · exact ⟨q0 + (n - 1) - p, q0, by omega, hq0', by omega⟩)
    obtain ⟨A, B, e1, e2, e3⟩ := cutAt l (q : Int) ⟨by omega, by omega, Int.le_of_lt hq2⟩
    have hq2' : rd l (q : Int) < rd l ((q : Int) + 1) := hq2
    obtain ⟨r, hr, hD⟩ := ih (w ++ [(q : Int)]) (swp l q) i' h' (by rw [swp_length, hl]) (by rw [e3]; rw [e1] at hnd; exact swap_nodup hnd) (by
      rw [e3, inv_swap _ _ hq2', ← e1, hi, List.length_append, List.length_singleton]) (by rw [List.length_append, List.length_singleton]; omega) (fun x hx => by
      rcases List.mem_append.1 hx with hx | hx
      · exact hv x hx
      · rw [List.mem_singleton] at hx
        rw [hx]
        omega) hc'
    refine ⟨r, Ev.step (fun k => spec_l12Draw.l0.eq_2 ..) (Ev.ite_pos (by rw [hlim]; omega) (Ev.bind0 e ?_)), hD⟩
    exact l12_go n h3 h6 w l b i' h' hl (by omega) hnd q hq1 hq2 r hr dd p (by omega) hq3 (fun e he q' hq' hq'' hlt => hmin e he ⟨q', hq'', hlt, hq'⟩)
theorem draw_ok (b : List Int) (i h : Int) (hc : CurOk b i) : ∃ r, Ev (fun k => spec_l12Draw.f k b i h) r ∧ DrawnW b r := by
  obtain ⟨x, i', h', e, hx, hc'⟩ := pick_ok b i h [0, 1, 2, 2, 3] hc (by simp) (by simp)
  have hx3 : 0 ≤ x ∧ x ≤ 3 := by
    simp at hx
    omega
  have hw : wrap64 (3 + x) = ((3 + x.toNat : Nat) : Int) := by rw [wrap_in (by omega) (by omega)]; omega
  have hst := spec_l12Start_ev (3 + x.toNat) (by omega)
  have hinv : inv (upTo (3 + x.toNat)) = 0 ∧ (upTo (3 + x.toNat)).Nodup := by
    have := upTo_facts (3 + x.toNat) (by omega) (by omega) 0 (by omega) (by omega)
    exact ⟨this.2.2.2, this.1⟩
  have h6 : 2 ∣ (3 + x.toNat) * (3 + x.toNat - 1) := by
    have : x.toNat = 0 ∨ x.toNat = 1 ∨ x.toNat = 2 ∨ x.toNat = 3 := by omega
    rcases this with h | h | h | h <;> rw [h] <;> decide
  obtain ⟨m, hm⟩ := h6
  obtain ⟨r, hr, hD⟩ := l12_draw (3 + x.toNat) (by omega) (by omega) b m [] (upTo (3 + x.toNat)) i' h' (upTo_length _) hinv.2 hinv.1 (by rw [List.length_nil]; omega) (fun _ h => by cases h) hc'
  refine ⟨r, ?_, hD⟩
  unfold spec_l12Draw.f
  refine Ev.bind0 e ?_
  dsimp only
  rw [hw]
  exact Ev.bind hst hr
theorem bent_ok (b : List Int) (i h : Int) (hc : CurOk b i) : ∃ r, Ev (fun k => spec_l12Bent.f k b i h) r ∧ r.2.1.length ≤ 15 ∧ 2 ≤ r.1 ∧ r.1 ≤ 7 ∧ (∀ x ∈ r.2.1, -1 ≤ x ∧ x ≤ 5) ∧ CurOk b r.2.2.1 := by
  obtain ⟨⟨n, w, i1, h1⟩, hr, ⟨hn, hlen, hval, hc1⟩⟩ := draw_ok b i h hc
  dsimp only at hn hlen hval hc1
  have hval' : ∀ x ∈ w, -1 ≤ x ∧ x ≤ 5 := fun x hx => by have := hval x hx; omega
  obtain ⟨x, i2, h2, e2, x0, x1, _, hc2⟩ := below_ok b i1 h1 14 hc1 (by omega)
  unfold spec_l12Bent.f
  by_cases c0 : x = 0
  · obtain ⟨y, i3, h3, e3, y0, y1, _, hc3⟩ := below_ok b i2 h2 (w.length : Int) hc2 (by omega)
    obtain ⟨z, i4, h4, e4, z0, z1, _, hc4⟩ := below_ok b i3 h3 6 hc3 (by omega)
    have y2 := y1 (by omega)
    have z2 := z1 (by omega)
    refine ⟨_, Ev.bind hr (Ev.bind0 e2 (Ev.ite_pos c0 (Ev.bind0 e3 (Ev.bind0 e4 (Ev.ite_pos y0 (Ev.ite_pos y2 (Ev.now _))))))), ?_, ?_, ?_, ?_, hc4⟩
    · dsimp only
      rw [List.length_set]
      omega
    · dsimp only
      omega
    · dsimp only
      omega
    · intro v hv
      dsimp only at hv
      rcases List.mem_or_eq_of_mem_set hv with hv | rfl
      · exact hval' v hv
      · rw [wrap_in (by omega) (by omega)]
        omega
  · by_cases c1 : x = 1
    · obtain ⟨y, i3, h3, e3, hy, hc3⟩ := pick_ok b i2 h2 [2, 7, 4, 3] hc2 (by simp) (by simp)
      have hy2 : 2 ≤ y ∧ y ≤ 7 := by
        simp at hy
        omega
      exact ⟨_, Ev.bind hr (Ev.bind0 e2 (Ev.ite_neg c0 (Ev.ite_pos c1 (Ev.bind0 e3 (Ev.now _))))), hlen.2, hy2.1, hy2.2, hval', hc3⟩
    · exact ⟨_, Ev.bind hr (Ev.bind0 e2 (Ev.ite_neg c0 (Ev.ite_neg c1 (Ev.now _)))), hlen.2, by dsimp only; omega, by dsimp only; omega, hval', hc2⟩
theorem DrawIsWiring_ok (l : List Int) (hl : l.length ≤ 1048576) : ∃ r : Int × List Int, Ev (fun k => spec_DrawIsWiring.f k l) r ∧ r.2.length ≤ 15 ∧ 2 ≤ r.1 ∧ r.1 ≤ 7 ∧ ∀ x ∈ r.2, -1 ≤ x ∧ x ≤ 5 := by
  obtain ⟨h, e⟩ := new_ok l hl
  obtain ⟨r, hr, h1, h2, h3, h4, _⟩ := bent_ok l 0 h ⟨by omega, by omega, hl⟩
  exact ⟨(r.1, r.2.1), Ev.bind e (Ev.bind hr (Ev.now _)), h1, h2, h3, h4⟩
abbrev PtD := S56
section
variable (n : Int) (L : List PtD) (c : Int) (b : List Int) (i h px py : Int) (rA rB : List PtD × Int × Int)
theorem l2_end (hL : L.length ≤ 1000) (hA : Ev (fun k => spec_l2Draw.l0 k n L (wrap64 (c + 1)) b i h) rA) (hB : Ev (fun k => spec_l2Draw.l0 k n (L ++ [(⟨px, py⟩ : PtD)]) (wrap64 (c + 1)) b i h) rB) (g : Bool) (q : Int) :
    ∃ r, (r = rA ∨ r = rB) ∧ Ev (fun k => spec_l2Draw.j3 k n L c g q false b i h px py) r := by
  cases g with
  | true => exact ⟨rB, Or.inr rfl, Ev.step (fun k => spec_l2Draw.j3.eq_2 ..) (Ev.ite_neg (by simp) (Ev.ite_pos rfl (Ev.ite_pos (by omega) hB)))⟩
  | false => exact ⟨rA, Or.inl rfl, Ev.step (fun k => spec_l2Draw.j3.eq_2 ..) (Ev.ite_neg (by simp) (Ev.ite_neg (by simp) hA))⟩
theorem l2_row (hL : L.length ≤ 1000) (hA : Ev (fun k => spec_l2Draw.l0 k n L (wrap64 (c + 1)) b i h) rA) (hB : Ev (fun k => spec_l2Draw.l0 k n (L ++ [(⟨px, py⟩ : PtD)]) (wrap64 (c + 1)) b i h) rB) : ∀ (d q : Nat), q + d = L.length → ∀ g : Bool,
    ∃ r, (r = rA ∨ r = rB) ∧ Ev (fun k => spec_l2Draw.l1 k n L c g (q : Nat) b i h px py) r
  | 0, q, hq, g => by
    obtain ⟨r, h1, h2⟩ := l2_end n L c b i h px py rA rB hL hA hB g q
    exact ⟨r, h1, Ev.step (fun k => spec_l2Draw.l1.eq_2 ..) (Ev.ite_neg (by omega) h2)⟩
  | d + 1, q, hq, g => by
    cases g with
    | false =>
      obtain ⟨r, h1, h2⟩ := l2_end n L c b i h px py rA rB hL hA hB false q
      exact ⟨r, h1, Ev.step (fun k => spec_l2Draw.l1.eq_2 ..) (Ev.ite_pos (by omega) h2)⟩
    | true =>
      have inner : ∀ (e s : Nat), s + e = q → ∀ g : Bool, ∃ r, (r = rA ∨ r = rB) ∧ Ev (fun k => spec_l2Draw.l2 k n L c g (q : Nat) (s : Nat) b i h px py) r := by
        intro e
        induction e with
        | zero =>
          intro s hs g
          obtain ⟨r, h1, h2⟩ := l2_row hL hA hB d (q + 1) (by omega) g
          refine ⟨r, h1, Ev.step (fun k => spec_l2Draw.l2.eq_2 ..) (Ev.ite_neg (by omega) ?_)⟩
          rw [wrap_nat q (by omega)]
          exact h2
        | succ e ih =>
          intro s hs g
          cases g with
          | false =>
            obtain ⟨r, h1, h2⟩ := l2_row hL hA hB d (q + 1) (by omega) false
            refine ⟨r, h1, Ev.step (fun k => spec_l2Draw.l2.eq_2 ..) (Ev.ite_pos (by omega) (Ev.ite_neg (by simp) ?_))⟩
            rw [wrap_nat q (by omega)]
            exact h2
          | true =>
            have har : ∀ u0 u1 v0 v1 : Int, ∃ t, spec_l2Area.f u0 u1 v0 v1 px py = some t := fun _ _ _ _ => ⟨_, rfl⟩
            obtain ⟨t, ht⟩ := har (rd_T56 L (s : Int)).f0 (rd_T56 L (s : Int)).f1 (rd_T56 L (q : Int)).f0 (rd_T56 L (q : Int)).f1
            obtain ⟨r, h1, h2⟩ := ih (s + 1) (by omega) (t != 0)
            refine ⟨r, h1, Ev.step (fun k => spec_l2Draw.l2.eq_2 ..) (Ev.ite_pos (by omega) (Ev.ite_pos rfl (Ev.ite_pos (by omega) (Ev.ite_pos (by omega) (Ev.ite_pos (by omega) (Ev.ite_pos (by omega) (Ev.bind0 ht ?_)))))))⟩
            rw [wrap_nat s (by omega)]
            exact h2
      obtain ⟨r, h1, h2⟩ := inner q 0 (by omega) (!(((rd_T56 L (q : Int)).f0) == px) || (!(((rd_T56 L (q : Int)).f1) == py)))
      exact ⟨r, h1, Ev.step (fun k => spec_l2Draw.l1.eq_2 ..) (Ev.ite_pos (by omega) (Ev.step (fun k => spec_l2Draw.j3.eq_2 ..) (Ev.ite_pos rfl (Ev.ite_pos (by omega) (Ev.ite_pos (by omega) h2)))))⟩
end
structure DrawnP (b : List Int) (r : List PtD × Int × Int) : Prop where
  len : 3 ≤ r.1.length ∧ r.1.length ≤ 12
  val : ∀ p ∈ r.1, (-6 ≤ p.f0 ∧ p.f0 ≤ 6) ∧ (-6 ≤ p.f1 ∧ p.f1 ≤ 6)
  cur : CurOk b r.2.1
theorem l2_stop (n : Int) (L : List PtD) (c : Int) (b : List Int) (i h : Int) (hl : L.length ≤ 12) (hv : ∀ p ∈ L, (-6 ≤ p.f0 ∧ p.f0 ≤ 6) ∧ (-6 ≤ p.f1 ∧ p.f1 ≤ 6)) (hc : CurOk b i) : ∃ r, Ev (fun k => spec_l2Draw.j1 k n L c false b i h) r ∧ DrawnP b r := by
  by_cases h3 : (L.length : Int) < 3
  · refine ⟨_, Ev.step (fun k => spec_l2Draw.j1.eq_2 ..) (Ev.ite_neg (by simp) (Ev.ite_pos h3 (Ev.now _))), ⟨by simp, ?_, hc⟩⟩
    intro p hp
    simp only [List.mem_cons, List.not_mem_nil, or_false] at hp
    rcases hp with rfl | rfl | rfl | rfl <;> (refine ⟨⟨?_, ?_⟩, ⟨?_, ?_⟩⟩ <;> dsimp only <;> omega)
  · exact ⟨_, Ev.step (fun k => spec_l2Draw.j1.eq_2 ..) (Ev.ite_neg (by simp) (Ev.ite_neg h3 (Ev.now _))), ⟨⟨by dsimp only; omega, hl⟩, hv, hc⟩⟩
theorem l2_loop (n : Int) (b : List Int) : ∀ (d c : Nat) (L : List PtD) (i h : Int), c + d = 12 → L.length ≤ c → (∀ p ∈ L, (-6 ≤ p.f0 ∧ p.f0 ≤ 6) ∧ (-6 ≤ p.f1 ∧ p.f1 ≤ 6)) → CurOk b i → ∃ r, Ev (fun k => spec_l2Draw.l0 k n L (c : Nat) b i h) r ∧ DrawnP b r
  | 0, c, L, i, h, hcd, hl, hv, hc => by
    obtain ⟨r, h1, h2⟩ := l2_stop n L c b i h (by omega) hv hc
    exact ⟨r, Ev.step (fun k => spec_l2Draw.l0.eq_2 ..) (Ev.ite_neg (by omega) h1), h2⟩
  | d + 1, c, L, i, h, hcd, hl, hv, hc => by
    by_cases hn : (L.length : Int) < n
    · obtain ⟨x, i1, h1, e1, x0, x1, _, hc1⟩ := below_ok b i h 13 hc (by omega)
      obtain ⟨y, i2, h2, e2, y0, y1, _, hc2⟩ := below_ok b i1 h1 13 hc1 (by omega)
      have x2 := x1 (by omega)
      have y2 := y1 (by omega)
      have wx : wrap64 (x - 6) = x - 6 := wrap_in (by omega) (by omega)
      have wy : wrap64 (y - 6) = y - 6 := wrap_in (by omega) (by omega)
      obtain ⟨rA, a1, a2⟩ := l2_loop n b d (c + 1) L i2 h2 (by omega) (by omega) hv hc2
      obtain ⟨rB, b1, b2⟩ := l2_loop n b d (c + 1) (L ++ [(⟨x - 6, y - 6⟩ : PtD)]) i2 h2 (by omega) (by rw [List.length_append, List.length_singleton]; omega) (fun p hp => by
        rcases List.mem_append.1 hp with hp | hp
        · exact hv p hp
        · rw [List.mem_singleton] at hp
          rw [hp]
          dsimp only
          omega) hc2
      rw [← wrap_nat c (by omega)] at a1 b1
      obtain ⟨r, hr, hE⟩ := l2_row n L c b i2 h2 (x - 6) (y - 6) rA rB (by omega) a1 b1 L.length 0 (by omega) true
      refine ⟨r, Ev.step (fun k => spec_l2Draw.l0.eq_2 ..) (Ev.ite_pos (by omega) (Ev.step (fun k => spec_l2Draw.j1.eq_2 ..) (Ev.ite_pos (decide_eq_true hn) (Ev.bind0 e1 (Ev.bind0 e2 ?_))))), ?_⟩
      · dsimp only
        rw [wx, wy]
        exact hE
      · rcases hr with rfl | rfl
        · exact a2
        · exact b2
    · obtain ⟨r, h1, h2⟩ := l2_stop n L c b i h (by omega) hv hc
      refine ⟨r, Ev.step (fun k => spec_l2Draw.l0.eq_2 ..) (Ev.ite_pos (by omega) ?_), h2⟩
      rw [decide_eq_false hn]
      exact h1
theorem DrawArePoints_ok (l : List Int) (hl : l.length ≤ 1048576) : ∃ r : List PtD, Ev (fun k => spec_DrawArePoints.f k l) r ∧ r.length ≤ 13 ∧ ∀ p ∈ r, (-51 ≤ p.f0 ∧ p.f0 ≤ 51) ∧ (-6 ≤ p.f1 ∧ p.f1 ≤ 6) := by
  obtain ⟨h, e⟩ := new_ok l hl
  obtain ⟨x, i1, h1, e1, x0, x1, _, hc1⟩ := below_ok l 0 h 4 ⟨by omega, by omega, hl⟩ (by omega)
  obtain ⟨⟨P, i2, h2⟩, e2, ⟨hlen, hval, hc2⟩⟩ := l2_loop (wrap64 (3 + x)) l 12 0 [] i1 h1 (by omega) (by simp) (fun p hp => by cases hp) hc1
  dsimp only at hlen hval hc2
  have hD : Ev (fun k => spec_l2Draw.f k l 0 h) (P, i2, h2) := by
    unfold spec_l2Draw.f
    exact Ev.bind0 e1 e2
  obtain ⟨y, i3, h3, e3, y0, y1, _, hc3⟩ := below_ok l i2 h2 14 hc2 (by omega)
  have hval' : ∀ p ∈ P, (-51 ≤ p.f0 ∧ p.f0 ≤ 51) ∧ (-6 ≤ p.f1 ∧ p.f1 ≤ 6) := fun p hp => by have := hval p hp; omega
  have hz : ∃ p0 R, P = p0 :: R := by
    cases P with
    | nil => simp at hlen
    | cons p0 R => exact ⟨p0, R, rfl⟩
  obtain ⟨p0, R, rfl⟩ := hz
  unfold spec_DrawArePoints.f spec_l2Bent.f
  by_cases c0 : y = 0
  · obtain ⟨z, i4, h4, e4, hz, hc4⟩ := pick_ok l i3 h3 [50, 51, -51] hc3 (by simp) (by simp)
    have hz2 : -51 ≤ z ∧ z ≤ 51 := by
      simp at hz
      omega
    refine ⟨_, Ev.bind e (Ev.bind (Ev.bind hD (Ev.bind0 e3 (Ev.ite_pos c0 (Ev.bind0 e4 (Ev.ite_pos (by simp) (Ev.now _)))))) (Ev.now _)), ?_, ?_⟩
    · dsimp only
      rw [List.length_set]
      omega
    · intro p hp
      dsimp only at hp
      rcases List.mem_or_eq_of_mem_set hp with hp | rfl
      · exact hval' p hp
      · exact ⟨hz2, (hval' p0 List.mem_cons_self).2⟩
  · by_cases c1 : y = 1
    · refine ⟨_, Ev.bind e (Ev.bind (Ev.bind hD (Ev.bind0 e3 (Ev.ite_neg c0 (Ev.ite_pos c1 (Ev.ite_pos (by simp) (Ev.ite_pos (by show (p0 :: R).length < _; omega) (Ev.now _))))))) (Ev.now _)), ?_, ?_⟩
      · dsimp only
        rw [List.length_append, List.length_singleton]
        omega
      · intro p hp
        dsimp only at hp
        rcases List.mem_append.1 hp with hp | hp
        · exact hval' p hp
        · rw [List.mem_singleton] at hp
          rw [hp]
          exact hval' p0 List.mem_cons_self
    · exact ⟨_, Ev.bind e (Ev.bind (Ev.bind hD (Ev.bind0 e3 (Ev.ite_neg c0 (Ev.ite_neg c1 (Ev.now _))))) (Ev.now _)), by dsimp only; omega, hval'⟩
end Go.Proofs.Ytoajlmlobaccdaa.Pure
