/- What the law FnExactTurnsRound reaches, part 12: functions as plain Lean functions with the proofs that their calls come to them, and plain lemmas over these. Put together by a program (wip/pack.py). -/
import Derived.Test.YteblnjoljbdjjaaKFnExactTurnsRoundc
import Derived.Test.YteblnjoljbdjjaaKFnExactTurnsRoundi
import Derived.Test.YteblnjoljbdjjaaKFnExactTurnsRoundk
import Derived.Shelf.Small.Bits
import Derived.Sort.Grow
import Derived.Shelf.SlSortCmp.Small
import Derived.Shelf.SlicesE.DeleteFunc
import Derived.Deep.RegionHeld3
namespace Go.Proofs.Yteblnjoljbdjjaa.P
open Go.RowKit Go.Proofs.YteblnjoljbdjjaaW.PrintWords Go.Proofs.YteblnjoljbdjjaaW.PrintLast Go.Proofs.YteblnjoljbdjjaaW.PrintMore
attribute [local go_sem] ptrOf_slice
attribute [local go_sem] min2_str max2_int min2_int max_two min_two max_three min_three max_four min_four
set_option linter.unusedVariables false
set_option linter.unusedSimpArgs false
def impl_orderOf.f (k : Nat) (a0_0 : Int) (a0_1 : ByteArray) : Option (List Int × Bool) := (impl_IsAcyclic.f k a0_0 a0_1).bind fun t799 => (if t799 = true then ((impl_tableOf.f k a0_0 a0_1).bind fun t800 => (some (t800, true))) else (some (([] : List Int), false)))
theorem impl_orderOf.mono : ∀ a0 a1 k, LeO (impl_orderOf.f k a0 a1) (impl_orderOf.f (k + 1) a0 a1) := by
 intro a0 a1 k
 unfold impl_orderOf.f
 repeat' first
   | (with_reducible exact impl_IsAcyclic.mono _ _ _)
   | (with_reducible exact impl_tableOf.mono _ _ _)
   | (with_reducible exact LeO.refl _)
   | (with_reducible exact LeO.none _)
   | (with_reducible refine LeO.ite ?_ ?_)
   | (with_reducible refine LeO.bind ?_ (fun _ => ?_))
   | exact impl_IsAcyclic.mono _ _ _
   | exact impl_tableOf.mono _ _ _
   | exact LeO.none _
   | refine LeO.ite ?_ ?_
   | refine LeO.bind ?_ (fun _ => ?_)
set_option maxHeartbeats 8000000 in
set_option maxRecDepth 100000 in
theorem impl_orderOf.calls (k : Nat) (a0_0 : Int) (a0_1 : ByteArray) (r1 : List Int) (r2 : Bool) (w : World) (h : impl_orderOf.f k a0_0 a0_1 = some (r1, r2)) :
  Calls Try.prog 72 #[.agg #[.int .i64 a0_0, .string a0_1]] w fun e w' => ∃ v0_ : Value, e = .returned (.tuple #[ptrOf v0_, .bool r2]) ∧ Kd.R (Kd.int .i64) 93 w' w.heap.size (fun _ => True) v0_ r1 ∧ Below w.heap.size w w' := by
 have hu25 := Try.underlying25
 have HB := Aside0.mk (Below.refl w.heap.size w)
 have H : ((impl_IsAcyclic.f k a0_0 a0_1).bind fun t799 => (if t799 = true then ((impl_tableOf.f k a0_0 a0_1).bind fun t800 => (some (t800, true))) else (some (([] : List Int), false)))) = some (r1, r2) := h
 clear h
 replace H := Option.bind_eq_some_iff.mp H
 obtain ⟨t799, A20, H⟩ := H
 replace H : (if t799 = true then ((impl_tableOf.f k a0_0 a0_1).bind fun t800 => (some (t800, true))) else (some (([] : List Int), false))) = some (r1, r2) := H
 have A2 := Aside0.mk A20
 clear A20
 by_cases c3 : t799 = true
 ·subst c3
  have H1 : ((impl_tableOf.f k a0_0 a0_1).bind fun t800 => (some (t800, true))) = some (r1, r2) := by rw [if_pos rfl] at H; exact H
  clear H
  have H := H1
  clear H1
  replace H := Option.bind_eq_some_iff.mp H
  obtain ⟨t800, A40, H⟩ := H
  replace H : (some (t800, true)) = some (r1, r2) := H
  have A4 := Aside0.mk A40
  clear A40
  simp only [Option.some.injEq, Prod.mk.injEq] at H
  obtain ⟨rfl, rfl⟩ := H
  go_enter Try.func72, Try.ntmps72
  go_wp2_with (first | ((with_reducible refine gate_dst (N := 1) rfl ?_); refine box_event ?hg (N := 1) ?hd (cs := #[.int .i64 a0_0, .string a0_1]) (t := 25) ?hr ?_; (case hd => rfl); (case hg => rfl); (case hr => first | (go_simp; done) | (go_simp; rfl)); intro gb798 hg w5 hbox hb; have n0_ := Aside0.mk (below_step (by repeat (first | (with_reducible first | exact HB.out | apply below_alloc | apply pw_below_drewN | apply below_drew1) | exact HB.out)) hb); have n1_ := Aside0.mk (hbox); have n2_ := Aside0.mk ((by rw [hg]; exact (below_size (by repeat (first | (with_reducible first | exact HB.out | apply below_alloc | apply pw_below_drewN | apply below_drew1) | exact HB.out))) : w.heap.size ≤ gb798)); have n3_ := Aside0.mk ((by rw [hg]; exact (below_size (by repeat (first | (with_reducible first | exact HB.out | apply below_alloc | apply pw_below_drewN | apply below_drew1) | exact HB.out))) : w.heap.size ≤ gb798)); clear HB; have HB := n0_; have BK798 := n1_; have GW798 := n2_; have GE798 := n3_; clear n0_ n1_ n2_ n3_; clear hb hbox hg; have hcz6_0 : w5.cell? ⟨gb798, 0, none⟩ = some (.int .i64 a0_0) := (blk_cell BK798.out 0).trans rfl; have hcz6_1 : w5.cell? ⟨gb798, 1, none⟩ = some (.string a0_1) := (blk_cell BK798.out 1).trans rfl; have hfz6_0 := blk_frozen BK798.out 0; have hfz6_1 := blk_frozen BK798.out 1) | ((with_reducible refine gate_callee (f := 119) rfl ?_); refine goesL_ (some 5) rfl rfl Try.func119 (by kernel_rfl) rfl #[.agg #[.int .i64 a0_0, .string a0_1]] rfl (by (try simp only [List.map_toArray, List.map_cons, List.map_nil]); first | done | rfl | (simp only [List.length_drop, List.length_take]; rfl)) ?_; (with_reducible refine (impl_IsAcyclic.calls k a0_0 a0_1 true _ A2.out).mono ?_); rintro e w7 ⟨rfl, hb⟩; refine ⟨_, rfl, ?_⟩; have n0_ := Aside0.mk (blk_below (g := gb798) (o := .cells #[.int .i64 a0_0, .string a0_1] 25 (0, 0)) (by (with_reducible repeat (first | refine blk_drewN ?_ _ | refine blk_drew ?_ | refine blk_alloc ?_ _)); exact BK798.out) hb); have n1_ := Aside0.mk (below_step (by repeat (first | (with_reducible first | exact HB.out | apply below_alloc | apply pw_below_drewN | apply below_drew1 | refine below_set ?_ GE798.out) | exact HB.out)) hb); clear BK798; clear HB; have BK798 := n0_; have HB := n1_; clear n0_ n1_; (try clear hb); (try clear hb2); (try clear hk); (try clear hi); have hcz8_0 : w7.cell? ⟨gb798, 0, none⟩ = some (.int .i64 a0_0) := (blk_cell BK798.out 0).trans rfl; have hcz8_1 : w7.cell? ⟨gb798, 1, none⟩ = some (.string a0_1) := (blk_cell BK798.out 1).trans rfl; have hfz8_0 := blk_frozen BK798.out 0; have hfz8_1 := blk_frozen BK798.out 1) | ((with_reducible refine gate_callee (f := 93) rfl ?_); refine goesL_ (some 8) rfl rfl Try.func93 (by kernel_rfl) rfl #[.agg #[.int .i64 a0_0, .string a0_1]] rfl (by (try simp only [List.map_toArray, List.map_cons, List.map_nil]); first | done | rfl | (simp only [List.length_drop, List.length_take]; rfl)) ?_; (with_reducible refine (impl_tableOf.calls k a0_0 a0_1 t800 _ A4.out).mono ?_); rintro e w9 ⟨v801, rfl, ho0, hb⟩; refine ⟨_, rfl, ?_⟩; have n0_ := Aside0.mk (Kd.R_lower ho0 (below_size (by repeat (first | (with_reducible first | exact HB.out | apply below_alloc | apply pw_below_drewN | apply below_drew1 | refine below_set ?_ GE798.out) | exact HB.out)))); have n1_ := Aside0.mk (blk_below (g := gb798) (o := .cells #[.int .i64 a0_0, .string a0_1] 25 (0, 0)) (by (with_reducible repeat (first | refine blk_drewN ?_ _ | refine blk_drew ?_ | refine blk_alloc ?_ _)); exact BK798.out) hb); have n2_ := Aside0.mk (below_step (by repeat (first | (with_reducible first | exact HB.out | apply below_alloc | apply pw_below_drewN | apply below_drew1 | refine below_set ?_ GE798.out) | exact HB.out)) hb); clear BK798; clear HB; have HO802 := n0_; have BK798 := n1_; have HB := n2_; clear n0_ n1_ n2_; (try clear hb); (try clear hb2); (try clear hk); (try clear hi); (try clear ho0)))
  go_ret2
  exact ⟨(v801), by first | rfl | (simp [errW_none, errW_some] <;> rfl) | (simp [*, errW_none, errW_some] <;> rfl), by (with_reducible repeat (first | apply Kd.R_alloc | apply Kd.R_drewN | apply Kd.R_drew)); exact HO802.out, by repeat (first | (with_reducible first | exact HB.out | apply below_alloc | apply pw_below_drewN | apply below_drew1 | refine below_set ?_ GE798.out) | exact HB.out)⟩
 ·replace c3 := Bool.eq_false_iff.mpr c3
  subst c3
  have H1 : (some (([] : List Int), false)) = some (r1, r2) := by rw [if_neg (show ¬ (false = true) by decide)] at H; exact H
  clear H
  have H := H1
  clear H1
  simp only [Option.some.injEq, Prod.mk.injEq] at H
  obtain ⟨rfl, rfl⟩ := H
  go_enter Try.func72, Try.ntmps72
  go_wp2_with (first | ((with_reducible refine gate_dst (N := 1) rfl ?_); refine box_event ?hg (N := 1) ?hd (cs := #[.int .i64 a0_0, .string a0_1]) (t := 25) ?hr ?_; (case hd => rfl); (case hg => rfl); (case hr => first | (go_simp; done) | (go_simp; rfl)); intro gb798 hg w10 hbox hb; have n0_ := Aside0.mk (below_step (by repeat (first | (with_reducible first | exact HB.out | apply below_alloc | apply pw_below_drewN | apply below_drew1) | exact HB.out)) hb); have n1_ := Aside0.mk (hbox); have n2_ := Aside0.mk ((by rw [hg]; exact (below_size (by repeat (first | (with_reducible first | exact HB.out | apply below_alloc | apply pw_below_drewN | apply below_drew1) | exact HB.out))) : w.heap.size ≤ gb798)); have n3_ := Aside0.mk ((by rw [hg]; exact (below_size (by repeat (first | (with_reducible first | exact HB.out | apply below_alloc | apply pw_below_drewN | apply below_drew1) | exact HB.out))) : w.heap.size ≤ gb798)); clear HB; have HB := n0_; have BK798 := n1_; have GW798 := n2_; have GE798 := n3_; clear n0_ n1_ n2_ n3_; clear hb hbox hg; have hcz11_0 : w10.cell? ⟨gb798, 0, none⟩ = some (.int .i64 a0_0) := (blk_cell BK798.out 0).trans rfl; have hcz11_1 : w10.cell? ⟨gb798, 1, none⟩ = some (.string a0_1) := (blk_cell BK798.out 1).trans rfl; have hfz11_0 := blk_frozen BK798.out 0; have hfz11_1 := blk_frozen BK798.out 1) | ((with_reducible refine gate_callee (f := 119) rfl ?_); refine goesL_ (some 5) rfl rfl Try.func119 (by kernel_rfl) rfl #[.agg #[.int .i64 a0_0, .string a0_1]] rfl (by (try simp only [List.map_toArray, List.map_cons, List.map_nil]); first | done | rfl | (simp only [List.length_drop, List.length_take]; rfl)) ?_; (with_reducible refine (impl_IsAcyclic.calls k a0_0 a0_1 false _ A2.out).mono ?_); rintro e w12 ⟨rfl, hb⟩; refine ⟨_, rfl, ?_⟩; have n0_ := Aside0.mk (blk_below (g := gb798) (o := .cells #[.int .i64 a0_0, .string a0_1] 25 (0, 0)) (by (with_reducible repeat (first | refine blk_drewN ?_ _ | refine blk_drew ?_ | refine blk_alloc ?_ _)); exact BK798.out) hb); have n1_ := Aside0.mk (below_step (by repeat (first | (with_reducible first | exact HB.out | apply below_alloc | apply pw_below_drewN | apply below_drew1 | refine below_set ?_ GE798.out) | exact HB.out)) hb); clear BK798; clear HB; have BK798 := n0_; have HB := n1_; clear n0_ n1_; (try clear hb); (try clear hb2); (try clear hk); (try clear hi)))
  go_ret2
  exact ⟨(.slice none 0 0), by first | rfl | (simp [errW_none, errW_some] <;> rfl) | (simp [*, errW_none, errW_some] <;> rfl), by first | exact Kd.R_nil _ _ _ _ _ | exact Kd.N_nil _ _ _ _ _ | exact Kd.V_nil _ _ _ _ _ | exact Kd.Q_nil _ _ _ _ _ | exact Kd.S_nil _ _ _ _ _, by repeat (first | (with_reducible first | exact HB.out | apply below_alloc | apply pw_below_drewN | apply below_drew1 | refine below_set ?_ GE798.out) | exact HB.out)⟩
def impl_isElement.f (a0 : Int) (a1 : Int) : Option (Bool) := if a1 ≥ 0 then (some (decide (a1 < a0))) else (some false)
set_option maxHeartbeats 8000000 in
set_option maxRecDepth 100000 in
theorem impl_isElement.calls (a0 : Int) (a1 : Int) (r : Bool) (w : World) (h : impl_isElement.f a0 a1 = some r) :
  Calls Try.prog 79 #[.int .i64 a0, .int .i64 a1] w fun e w' => e = .returned (.bool r) ∧ Drawn0 w w' := by
 have H : (if a1 ≥ 0 then (some (decide (a1 < a0))) else (some false)) = some r := h
 clear h
 by_cases c3 : a1 ≥ 0
 ·rw [if_pos c3] at H
  have c3b0 : decide (0 ≤ a1) = true := decide_eq_true c3
  clear c3
  obtain rfl := Option.some.inj H
  go_enter Try.func79, Try.ntmps79
  go_wp2
  go_ret
  exact ⟨by first | rfl | (simp; done) | (simp [*]; done), by repeat (first | exact Drawn0.refl _ | apply Drawn0.step)⟩
 ·rw [if_neg c3] at H
  have c3b0 : decide (0 ≤ a1) = false := decide_eq_false c3
  clear c3
  obtain rfl := Option.some.inj H
  go_enter Try.func79, Try.ntmps79
  go_wp2
  go_ret
  exact ⟨by first | rfl | (simp; done) | (simp [*]; done), by repeat (first | exact Drawn0.refl _ | apply Drawn0.step)⟩
end Go.Proofs.Yteblnjoljbdjjaa.P
namespace Go.Proofs.Yteblnjoljbdjjaa.P
open Go.RowKit Go.Proofs.YteblnjoljbdjjaaW.PrintWords Go.Proofs.YteblnjoljbdjjaaW.PrintLast Go.Proofs.YteblnjoljbdjjaaW.PrintMore
set_option linter.unusedVariables false
set_option linter.unusedSimpArgs false
def lenRen : Go.Shelf.Ren := ⟨fun x => if x = 125 then 110 else if x = 128 then 155 else if x = 129 then 156 else x, fun x => if x = 3 then 3 else if x = 4 then 4 else if x = 5 then 5 else if x = 9 then 9 else if x = 46 then 116 else if x = 51 then 149 else if x = 53 then 151 else x, fun x => x⟩
theorem lenLays : Lays.n125 Try.prog lenRen :=
  { mixed := by kernel_rfl, f125 := Try.func110.trans (congrArg some (by kernel_rfl)), f128 := Try.func155.trans (congrArg some (by kernel_rfl)), f129 := Try.func156.trans (congrArg some (by kernel_rfl)),
    t3 := Try.underlying3, a3 := Try.isAgg3, z3 := Try.sizeOf3, v3 := Try.zeroValue3,
    t4 := Try.underlying4, a4 := Try.isAgg4, z4 := Try.sizeOf4, v4 := Try.zeroValue4,
    t5 := Try.underlying5, a5 := Try.isAgg5, z5 := Try.sizeOf5, v5 := Try.zeroValue5,
    t9 := Try.underlying9, a9 := Try.isAgg9, z9 := Try.sizeOf9, v9 := Try.zeroValue9,
    t46 := Try.underlying116, a46 := Try.isAgg116, z46 := Try.sizeOf116, v46 := Try.zeroValue116,
    t51 := Try.underlying149, a51 := Try.isAgg149, z51 := Try.sizeOf149, v51 := Try.zeroValue149,
    t53 := Try.underlying151, a53 := Try.isAgg151, z53 := Try.sizeOf151, v53 := Try.zeroValue151 }
theorem len_some (n : Nat) (W : World) (h : n ≤ 12) : Calls Try.prog 110 #[.int .u64 n] W fun e w' => (∃ l : Int, e = .returned (.int .i64 l)) ∧ w' = W :=
  (Any.bits_Len lenLays n W (by omega) (by omega)).mono fun _ _ ⟨he, hw⟩ => ⟨⟨_, he⟩, hw⟩
section
variable {α : Type} [Inhabited α] {enc : α → Value} {h1 : ∀ x, (enc x).oneCell' = true} {e base : Nat} {ok : Nat → Prop} {w : World} {v : Value} {xs : List α}
theorem row_blk (h : (Kd.scalar enc h1).R e w base ok v xs) (hne : 0 < xs.length) :
    ∃ g cap cur, v = .slice (some ⟨g, 0, none⟩) xs.length cap ∧ base ≤ g ∧ ok g ∧ w.heap[g]? = some (.cells cur e (0, 0)) ∧ xs.length ≤ cap ∧ cap ≤ maxLen ∧ cur.size = cap ∧ ∀ j, j < xs.length → cur[j]? = some (enc xs[j]!) := by
  obtain ⟨h0, inner, ⟨hl, ho⟩, hr⟩ := h
  rcases ho with ⟨rfl, h2⟩ | ⟨g, cap, cur, rfl, hg, hh, hc, hm, hs, ht⟩
  · omega
  · refine ⟨g, cap, cur, rfl, hg, h0 g rfl, hh, hc, hm, ?_, ?_⟩
    · rw [hs]; exact Nat.mul_one _
    · intro j hj
      have h3 := hr.2 j xs[j]! (by rw [List.getElem?_eq_getElem hj, getElem!_pos xs j hj])
      have h3' : (inner.drop (j * 1)).take 1 = [enc xs[j]!] := h3
      rw [Nat.mul_one] at h3'
      have h4 : inner[j]? = some (enc xs[j]!) := by
        have h5 : ((inner.drop j).take 1)[0]? = some (enc xs[j]!) := by rw [h3']; rfl
        rw [List.getElem?_take_of_lt (by omega), List.getElem?_drop, Nat.add_zero] at h5
        exact h5
      rw [← ht] at h4
      have hjl : j < xs.length * (Kd.scalar enc h1).sz := by show j < xs.length * 1; omega
      rw [List.getElem?_take_of_lt hjl, Array.getElem?_toList] at h4
      exact h4
theorem blk_row {g cap : Nat} {cur : Array Value} (hg : base ≤ g) (hok : ok g) (hh : w.heap[g]? = some (.cells cur e (0, 0))) (hc : xs.length ≤ cap) (hm : cap ≤ maxLen) (hs : cur.size = cap) (hj : ∀ j, j < xs.length → cur[j]? = some (enc xs[j]!)) :
    (Kd.scalar enc h1).R e w base ok (.slice (some ⟨g, 0, none⟩) xs.length cap) xs := by
  refine ⟨fun k hk => ?_, cur.toList.take xs.length, ⟨?_, .inr ⟨g, cap, cur, rfl, hg, hh, hc, hm, ?_, ?_⟩⟩, ?_, ?_⟩
  · have : g = k := by simpa [Value.ownBlock] using hk
    subst this; exact hok
  · show (cur.toList.take xs.length).length = xs.length * 1
    have hcl : cur.toList.length = cur.size := Array.length_toList
    rw [List.length_take, hcl]; omega
  · show cur.size = cap * 1
    omega
  · show cur.toList.take (xs.length * 1) = _
    rw [Nat.mul_one]
  · show (cur.toList.take xs.length).length = xs.length * 1
    have hcl : cur.toList.length = cur.size := Array.length_toList
    rw [List.length_take, hcl]; omega
  · intro j p hp
    have hjl := (List.getElem?_eq_some_iff.1 hp).1
    have hpx : p = xs[j]! := by rw [getElem!_pos xs j hjl]; exact (List.getElem?_eq_some_iff.1 hp).2.symm
    subst hpx
    show ((cur.toList.take xs.length).drop (j * 1)).take 1 = [enc xs[j]!]
    rw [Nat.mul_one]
    have h4 : (cur.toList.take xs.length)[j]? = some (enc xs[j]!) := by
      rw [List.getElem?_take_of_lt hjl, Array.getElem?_toList]; exact hj j hjl
    apply List.ext_getElem?
    intro i
    cases i with
    | zero => rw [List.getElem?_take_of_lt (by omega), List.getElem?_drop, Nat.add_zero, h4]; rfl
    | succ i =>
      rw [List.getElem?_eq_none (by rw [List.length_take]; omega)]
      rfl
theorem put_cur (enc : α → Value) (w : World) (n g off : Nat) (D : Array α) (os : Array Obj) {cur : Array Value} (hb : w.heap[g]? = some (.cells cur e (0, 0))) :
    (Sort.grow (Sort.putRow enc (Sort.ahead w n) g off D) os).heap[g]? = some (.cells (Sort.putCells enc off D cur) e (0, 0)) := by
  have hlt : g < w.heap.size := (Array.getElem?_eq_some_iff.1 hb).1
  show ((w.heap.modify g (Sort.onCells (Sort.putCells enc off D))) ++ os)[g]? = _
  rw [Array.getElem?_append_left (by rw [Array.size_modify]; exact hlt), Array.getElem?_modify, if_pos rfl, hb]
  rfl
theorem put_far (enc : α → Value) (w : World) (n g off : Nat) (D : Array α) (os : Array Obj) (k : Nat) (hk : k < w.heap.size) (hne : k ≠ g) :
    (Sort.grow (Sort.putRow enc (Sort.ahead w n) g off D) os).heap[k]? = w.heap[k]? := by
  show ((w.heap.modify g (Sort.onCells (Sort.putCells enc off D))) ++ os)[k]? = _
  rw [Array.getElem?_append_left (by rw [Array.size_modify]; exact hk), Array.getElem?_modify, if_neg (Ne.symm hne)]
theorem put_size (enc : α → Value) (w : World) (n g off : Nat) (D : Array α) (os : Array Obj) : w.heap.size ≤ (Sort.grow (Sort.putRow enc (Sort.ahead w n) g off D) os).heap.size := by
  show _ ≤ ((w.heap.modify g (Sort.onCells (Sort.putCells enc off D))) ++ os).size
  rw [Array.size_append, Array.size_modify]; omega
theorem put_below (enc : α → Value) (w : World) (n g off : Nat) (D : Array α) (os : Array Obj) (hg : base ≤ g) (hlt : g < w.heap.size) : Below base w (Sort.grow (Sort.putRow enc (Sort.ahead w n) g off D) os) :=
  ⟨rfl, rfl, rfl, put_size enc w n g off D os, fun k hk => put_far enc w n g off D os k (by omega) (by omega)⟩
theorem putCells_size (enc : α → Value) (off : Nat) (D : Array α) (c : Array Value) : (Sort.putCells enc off D c).size = c.size := by simp [Sort.putCells]
theorem putCells_in (enc : α → Value) (off : Nat) (D : Array α) (c : Array Value) (j : Nat) (hj : j < D.size) (hc : off + D.size ≤ c.size) : (Sort.putCells enc off D c)[off + j]? = some (enc D[j]!) := by
  unfold Sort.putCells
  rw [Array.getElem?_mapIdx, Array.getElem?_eq_getElem (by omega)]
  simp only [Option.map_some]
  rw [if_pos ⟨by omega, by omega⟩, Nat.add_sub_cancel_left]
theorem putCells_out (enc : α → Value) (off : Nat) (D : Array α) (c : Array Value) (j : Nat) (hj : j < off) : (Sort.putCells enc off D c)[j]? = c[j]? := by
  unfold Sort.putCells
  rw [Array.getElem?_mapIdx]
  cases h : c[j]? with
  | none => rfl
  | some v =>
    simp only [Option.map_some]
    rw [if_neg (by omega)]
theorem putCells_at (enc : α → Value) (D : Array α) (c : Array Value) (j : Nat) (hj : j < D.size) (hc : D.size ≤ c.size) : (Sort.putCells enc 0 D c)[j]? = some (enc D[j]!) := by
  have h := putCells_in enc 0 D c j hj (by omega)
  rwa [Nat.zero_add] at h
theorem put_drewN (enc : α → Value) (w : World) (n g off : Nat) (D : Array α) : (Sort.putRow enc w g off D).drewN n = Sort.grow (Sort.putRow enc (Sort.ahead w n) g off D) #[] := by
  rw [Sort.grow_empty]
  rfl
end
end Go.Proofs.Yteblnjoljbdjjaa.P
namespace Go.Proofs.Yteblnjoljbdjjaa.P
open Go.RowKit Go.Proofs.YteblnjoljbdjjaaW.PrintWords Go.Proofs.YteblnjoljbdjjaaW.PrintLast Go.Proofs.YteblnjoljbdjjaaW.PrintMore
attribute [local go_sem] ptrOf_slice
attribute [local go_sem] min2_str max2_int min2_int max_two min_two max_three min_three max_four min_four
set_option linter.unusedVariables false
set_option linter.unusedSimpArgs false
def impl_upTo.l0 : Nat → Int → List Int → Int → Option (List Int)
 | 0, _, _, _ => none
 | k + 1, x0, x3, x4 => if x4 < x0 then (if x3.length < 17592186044416 then (impl_upTo.l0 k x0 (x3 ++ [x4]) (wrap64 (x4 + 1))) else (none)) else (some x3)
def impl_upTo.f (k : Nat) (a0 : Int) : Option (List Int) := impl_upTo.l0 k a0 ([] : List Int) 0
theorem impl_upTo.mono_l : ∀ k, (∀ y0 y1 y2, LeO (impl_upTo.l0 k y0 y1 y2) (impl_upTo.l0 (k + 1) y0 y1 y2))
 | 0 => fun _ _ _ r h => by simp [impl_upTo.l0] at h
 | k + 1 => by
  have ih0 := impl_upTo.mono_l k
  ·intro y0 y1 y2
   unfold impl_upTo.l0
   repeat' first
   | (with_reducible exact ih0 _ _ _)
   | (with_reducible exact LeO.refl _)
   | (with_reducible exact LeO.none _)
   | (with_reducible refine LeO.ite ?_ ?_)
   | (with_reducible refine LeO.bind ?_ (fun _ => ?_))
   | exact ih0 _ _ _
   | exact LeO.none _
   | refine LeO.ite ?_ ?_
   | refine LeO.bind ?_ (fun _ => ?_)
theorem impl_upTo.mono : ∀ a0 k, LeO (impl_upTo.f k a0) (impl_upTo.f (k + 1) a0) := by
 intro a0 k
 have ih0 := impl_upTo.mono_l k
 unfold impl_upTo.f
 repeat' first
   | (with_reducible exact ih0 _ _ _)
   | (with_reducible exact LeO.refl _)
   | (with_reducible exact LeO.none _)
   | (with_reducible refine LeO.ite ?_ ?_)
   | (with_reducible refine LeO.bind ?_ (fun _ => ?_))
   | exact ih0 _ _ _
   | exact LeO.none _
   | refine LeO.ite ?_ ?_
   | refine LeO.bind ?_ (fun _ => ?_)
set_option maxHeartbeats 8000000 in
set_option maxRecDepth 100000 in
theorem impl_upTo.calls (k : Nat) (a0 : Int) (r : List Int) (w : World) (h : impl_upTo.f k a0 = some r) :
  Calls Try.prog 75 #[.int .i64 a0] w fun e w' => ∃ v0_ : Value, e = .returned (v0_) ∧ Kd.R (Kd.int .i64) 3 w' w.heap.size (fun _ => True) v0_ r ∧ Below w.heap.size w w' := by
 have HB := Aside0.mk (Below.refl w.heap.size w)
 have H : (impl_upTo.l0 k a0 ([] : List Int) 0) = some r := h
 clear h
 have H' := Aside0.mk H
 clear H
 go_enter Try.func75, Try.ntmps75
 go_wp2
 go_loopg [3, 4] k (fun kq v3 v4 w' => ∃ (x3_1 : List Int) (x4_1 : Int), v4 = .int .i64 x4_1 ∧ Aside0 (impl_upTo.l0 kq a0 x3_1 x4_1 = some r) ∧ Aside0 (kq ≤ k) ∧ Aside0 (Kd.R (Kd.int .i64) 3 w' w.heap.size (fun _ => True) v3 x3_1) ∧ Aside0 (Below w.heap.size w w'))
 case atStart => exact ⟨(([] : List Int)), (0), (by first | rfl | (simp; done) | (simp [*]; done)), H', ⟨Nat.le_refl _⟩, ⟨by first | exact Kd.R_nil _ _ _ _ _ | exact Kd.N_nil _ _ _ _ _ | exact Kd.V_nil _ _ _ _ _ | exact Kd.Q_nil _ _ _ _ _ | exact Kd.S_nil _ _ _ _ _⟩, ⟨by repeat (first | (with_reducible first | exact HB.out | apply below_alloc | apply pw_below_drewN | apply below_drew1) | exact HB.out)⟩⟩
 case round =>
  clear H'
  obtain ⟨x3_1, x4_1, rfl, HA, HK1, HO_3, HB⟩ := hrel
  cases gk with
  | zero => exact absurd HA.out (by simp [impl_upTo.l0])
  | succ k1 =>
   have H := HA.out
   clear HA
   simp only [impl_upTo.l0] at H
   by_cases c2 : x4_1 < a0
   ·rw [if_pos c2] at H
    have c2b0 : decide (x4_1 < a0) = true := decide_eq_true c2
    clear c2
    by_cases c3 : x3_1.length < 17592186044416
    ·rw [if_pos c3] at H
     have LMc3 := Aside0.mk c3
     clear c3
     obtain ⟨y809, hy809⟩ : ∃ y_ : List Int, y_ = (x3_1 ++ [x4_1]) := ⟨_, rfl⟩
     replace H : (impl_upTo.l0 k1 a0 y809 (wrap64 (x4_1 + 1))) = some r := by first | (rw [hy809]; with_reducible exact H) | (have H2_ := (Option.bind_some _ _).symm.trans H; rw [hy809]; with_reducible exact H2_) | (have H2_ := (Option.bind_some _ _).symm.trans H; with_reducible exact H2_) | with_reducible exact H | (rw [hy809]; exact H) | exact H
     have Ny809 := Aside0.mk hy809
     clear hy809
     have H' := Aside0.mk H
     clear H
     go_wp2_with (first | ((with_reducible refine gate_builtin (b := .append) (xs := #[.tmp 10, .tmp 12]) rfl ?_); at_builtin; refine Kd.R_append (Kd.int .i64) (w0 := w) w.heap.size rfl (.tmp 10) (.tmp 12) 35 3 (.int .i64 0) 8 rfl Try.underlying35 info3 rfl (by decide) (by omega) u3 x3_1 x4_1 [.int .i64 x4_1] (fun _ => True) (fun _ => False) rfl rfl ?aP (fun _ hk => hk.elim) ?aF ?aO ?aB ?aS ?aL ?_; (case aP => exact rfl); (case aB => exact (by repeat (first | (with_reducible first | exact HB.out | apply below_alloc | apply pw_below_drewN | apply below_drew1) | exact HB.out))); (case aF => exact (fun _ _ => trivial)); (case aO => exact (by (with_reducible repeat (first | apply Kd.R_alloc | apply Kd.R_drewN | apply Kd.R_drew)); exact HO_3.out)); (case aS => exact (below_size (by repeat (first | (with_reducible first | exact HB.out | apply below_alloc | apply pw_below_drewN | apply below_drew1) | exact HB.out)))); (case aL => have := LMc3.out; omega); intro v810 w4 ho hb hg hat; rw [← Ny809.out] at ho; have n0_ := Aside0.mk (hb); have n1_ := Aside0.mk (ho); clear HB; clear HO_3; have HB := n0_; have HO811 := n1_; clear n0_ n1_; clear ho hb hg hat))
     go_roundg k1
     case measure => have := HK1.out; omega
     case rel => exact ⟨(y809), (wrap64 (x4_1 + 1)), (by first | rfl | (simp; done) | (simp [*]; done)), H', ⟨by have := HK1.out; omega⟩, ⟨by (with_reducible repeat (first | apply Kd.R_alloc | apply Kd.R_drewN | apply Kd.R_drew)); exact HO811.out⟩, ⟨by repeat (first | (with_reducible first | exact HB.out | apply below_alloc | apply pw_below_drewN | apply below_drew1) | exact HB.out)⟩⟩
    ·rw [if_neg c3] at H
     exact absurd H (by simp)
   ·rw [if_neg c2] at H
    have c2b0 : decide (x4_1 < a0) = false := decide_eq_false c2
    clear c2
    obtain rfl := Option.some.inj H
    go_wp2
    go_ret
    exact ⟨_, by first | rfl | (simp [errW_none, errW_some] <;> rfl) | (simp [*, errW_none, errW_some] <;> rfl), by (with_reducible repeat (first | apply Kd.R_alloc | apply Kd.R_drewN | apply Kd.R_drew)); exact HO_3.out, by repeat (first | (with_reducible first | exact HB.out | apply below_alloc | apply pw_below_drewN | apply below_drew1) | exact HB.out)⟩
def impl_turned_1.f (a0 : Int) (s1_0 : Int) : Option (Bool) := some (a0 == s1_0)
set_option maxHeartbeats 8000000 in
set_option maxRecDepth 100000 in
theorem impl_turned_1.calls (a0 : Int) (gb1 : Nat) (s1_0 : Int) (r : Bool) (w : World) (hb1_ : w.heap[gb1]? = some (.cells #[.int .i64 s1_0] 3 (0, 0))) (h : impl_turned_1.f a0 s1_0 = some r) :
  Calls Try.prog 124 #[.int .i64 a0, .pointer (some ⟨gb1, 0, none⟩)] w fun e w' => e = .returned (.bool r) ∧ Drawn0 w w' := by
 have BK1 := Aside0.mk hb1_
 clear hb1_
 have H : (some (a0 == s1_0)) = some r := h
 clear h
 obtain rfl := Option.some.inj H
 have hcz3_0 : w.cell? ⟨gb1, 0, none⟩ = some (.int .i64 s1_0) := (blk_cell BK1.out 0).trans rfl
 have hfz3_0 := blk_frozen BK1.out 0
 go_enter Try.func124, Try.ntmps124
 go_wp2
 go_ret
 exact ⟨by first | rfl | (simp; done) | (simp [*]; done), by repeat (first | exact Drawn0.refl _ | apply Drawn0.step)⟩
end Go.Proofs.Yteblnjoljbdjjaa.P
namespace Go.Proofs.Yteblnjoljbdjjaa.P
open Go.RowKit Go.Proofs.YteblnjoljbdjjaaW.PrintWords Go.Proofs.YteblnjoljbdjjaaW.PrintLast Go.Proofs.YteblnjoljbdjjaaW.PrintMore
set_option linter.unusedVariables false
set_option linter.unusedSimpArgs false
open Go.Shelf in
def sortF6_ren : Go.Shelf.Ren := ⟨fun | 6 => 125 | 15 => 110 | 14 => 165 | 28 => 155 | 29 => 156 | 20 => 193 | 21 => 194 | 22 => 195 | 23 => 196 | 24 => 197 | 25 => 198 | 26 => 199 | 27 => 200 | 46 => 209 | 47 => 182 | 48 => 183 | 49 => 210 | 50 => 211 | 57 => 217 | n => n, fun | 22 => 35 | 24 => 3 | 25 => 73 | 3 => 3 | 39 => 116 | 0 => 0 | 53 => 149 | 55 => 151 | 4 => 4 | 46 => 141 | 45 => 140 | 50 => 146 | 5 => 5 | 9 => 9 | 66 => 163 | 70 => 167 | 76 => 184 | 77 => 185 | n => n, fun | n => n⟩
theorem sortF6 : Go.Proofs.SlLaysF.n6 Try.prog sortF6_ren :=
  { mixed := by kernel_rfl,
    f6 := ⟨Try.f125.name, by decide, Try.func125.trans (congrArg some (by kernel_rfl))⟩,
    f14 := ⟨Try.f165.name, by decide, Try.func165.trans (congrArg some (by kernel_rfl))⟩,
    f15 := Try.func110.trans (congrArg some (by kernel_rfl)),
    f20 := ⟨Try.f193.name, by decide, Try.func193.trans (congrArg some (by kernel_rfl))⟩,
    f21 := ⟨Try.f194.name, by decide, Try.func194.trans (congrArg some (by kernel_rfl))⟩,
    f22 := ⟨Try.f195.name, by decide, Try.func195.trans (congrArg some (by kernel_rfl))⟩,
    f23 := ⟨Try.f196.name, by decide, Try.func196.trans (congrArg some (by kernel_rfl))⟩,
    f24 := ⟨Try.f197.name, by decide, Try.func197.trans (congrArg some (by kernel_rfl))⟩,
    f25 := ⟨Try.f198.name, by decide, Try.func198.trans (congrArg some (by kernel_rfl))⟩,
    f26 := ⟨Try.f199.name, by decide, Try.func199.trans (congrArg some (by kernel_rfl))⟩,
    f27 := ⟨Try.f200.name, by decide, Try.func200.trans (congrArg some (by kernel_rfl))⟩,
    f28 := Try.func155.trans (congrArg some (by kernel_rfl)),
    f29 := Try.func156.trans (congrArg some (by kernel_rfl)),
    f46 := ⟨Try.f209.name, by decide, Try.func209.trans (congrArg some (by kernel_rfl))⟩,
    f47 := Try.func182.trans (congrArg some (by kernel_rfl)),
    f48 := Try.func183.trans (congrArg some (by kernel_rfl)),
    f49 := ⟨Try.f210.name, by decide, Try.func210.trans (congrArg some (by kernel_rfl))⟩,
    f50 := ⟨Try.f211.name, by decide, Try.func211.trans (congrArg some (by kernel_rfl))⟩,
    f57 := ⟨Try.f217.name, by decide, Try.func217.trans (congrArg some (by kernel_rfl))⟩,
    t0 := Try.underlying0,
    a0 := Try.isAgg0,
    z0 := Try.sizeOf0,
    v0 := Try.zeroValue0,
    t3 := Try.underlying3,
    a3 := Try.isAgg3,
    z3 := Try.sizeOf3,
    v3 := Try.zeroValue3,
    t4 := Try.underlying4,
    a4 := Try.isAgg4,
    z4 := Try.sizeOf4,
    v4 := Try.zeroValue4,
    t5 := Try.underlying5,
    a5 := Try.isAgg5,
    z5 := Try.sizeOf5,
    v5 := Try.zeroValue5,
    t9 := Try.underlying9,
    a9 := Try.isAgg9,
    z9 := Try.sizeOf9,
    v9 := Try.zeroValue9,
    t22 := Try.underlying35,
    a22 := Try.isAgg35,
    z22 := Try.sizeOf35,
    v22 := Try.zeroValue35,
    a24 := Try.isAgg3,
    z24 := Try.sizeOf3,
    t25 := Try.underlying73,
    a25 := Try.isAgg73,
    z25 := Try.sizeOf73,
    v25 := Try.zeroValue73,
    t39 := Try.underlying116,
    a39 := Try.isAgg116,
    z39 := Try.sizeOf116,
    v39 := Try.zeroValue116,
    t45 := Try.underlying140,
    a45 := Try.isAgg140,
    z45 := Try.sizeOf140,
    v45 := Try.zeroValue140,
    t46 := Try.underlying141,
    a46 := Try.isAgg141,
    z46 := Try.sizeOf141,
    v46 := Try.zeroValue141,
    t50 := Try.underlying146,
    a50 := Try.isAgg146,
    z50 := Try.sizeOf146,
    v50 := Try.zeroValue146,
    t53 := Try.underlying149,
    a53 := Try.isAgg149,
    z53 := Try.sizeOf149,
    v53 := Try.zeroValue149,
    t55 := Try.underlying151,
    a55 := Try.isAgg151,
    z55 := Try.sizeOf151,
    v55 := Try.zeroValue151,
    t66 := Try.underlying163,
    a66 := Try.isAgg163,
    z66 := Try.sizeOf163,
    v66 := Try.zeroValue163,
    t70 := Try.underlying167,
    a70 := Try.isAgg167,
    z70 := Try.sizeOf167,
    v70 := Try.zeroValue167,
    t76 := Try.underlying184,
    a76 := Try.isAgg184,
    z76 := Try.sizeOf184,
    v76 := Try.zeroValue184,
    t77 := Try.underlying185,
    a77 := Try.isAgg185,
    z77 := Try.sizeOf185,
    v77 := Try.zeroValue185 }
open Go.Shelf in
def delF10_ren : Go.Shelf.Ren := ⟨fun | 10 => 74 | 6 => 121 | n => n, fun | 22 => 35 | 23 => 3 | 25 => 83 | 3 => 3 | 4 => 4 | 0 => 0 | n => n, fun | n => n⟩
theorem delF10 : Go.Proofs.SlLaysH.n10 Try.prog delF10_ren :=
  { mixed := by kernel_rfl,
    f6 := ⟨Try.f121.name, by decide, Try.func121.trans (congrArg some (by kernel_rfl))⟩,
    f10 := ⟨Try.f74.name, by decide, Try.func74.trans (congrArg some (by kernel_rfl))⟩,
    t0 := Try.underlying0,
    a0 := Try.isAgg0,
    z0 := Try.sizeOf0,
    v0 := Try.zeroValue0,
    t3 := Try.underlying3,
    a3 := Try.isAgg3,
    z3 := Try.sizeOf3,
    v3 := Try.zeroValue3,
    t4 := Try.underlying4,
    a4 := Try.isAgg4,
    z4 := Try.sizeOf4,
    v4 := Try.zeroValue4,
    t22 := Try.underlying35,
    a22 := Try.isAgg35,
    z22 := Try.sizeOf35,
    v22 := Try.zeroValue35,
    a23 := Try.isAgg3,
    z23 := Try.sizeOf3,
    t25 := Try.underlying83,
    a25 := Try.isAgg83,
    z25 := Try.sizeOf83,
    v25 := Try.zeroValue83 }
def roundB (l : List Int) (i a b c : Int) : Bool := if chiA l i a b = chiA l i a c then decide (0 < chiA l i b c) else decide (chiA l i a c < chiA l i a b)
set_option maxHeartbeats 8000000 in
set_option maxRecDepth 100000 in
theorem round1.calls (l : List Int) (i a b c : Int) (A0 : Option Addr) (b3 b4 : Nat) (w : World) (hr0 : Kd.C (Kd.int .i64) w A0 l.length l) (hl : 344 ≤ (l.length : Int)) (hi : 0 ≤ i ∧ i < 7) (ha : 0 ≤ a ∧ a < 7) (hb : 0 ≤ b ∧ b < 7) (hc : 0 ≤ c ∧ c < 7) (h3 : w.heap[b3]? = some (.cells #[.pointer A0] 77 (0, 0))) (h4 : w.heap[b4]? = some (.cells #[.int .i64 i] 3 (0, 0))) :
    Calls Try.prog 123 #[.int .i64 a, .int .i64 b, .int .i64 c, .pointer (some ⟨b3, 0, none⟩), .pointer (some ⟨b4, 0, none⟩)] w fun e w' => e = .returned (.bool (roundB l i a b c)) ∧ Drawn0 w w' := by
  obtain ⟨ad1, e1, x1⟩ := chi_at hr0 hl hi.1 hi.2 ha.1 ha.2 hb.1 hb.2
  obtain ⟨ad2, e2, x2⟩ := chi_at hr0 hl hi.1 hi.2 ha.1 ha.2 hc.1 hc.2
  obtain ⟨ad3, e3, x3⟩ := chi_at hr0 hl hi.1 hi.2 hb.1 hb.2 hc.1 hc.2
  cases e1
  obtain rfl : ad1 = ad2 := (by injection e2)
  obtain rfl : ad1 = ad3 := (by injection e3)
  clear e2 e3
  have c3 : w.cell? ⟨b3, 0, none⟩ = some (.pointer (some ad1)) := (blk_cell h3 0).trans rfl
  have f3 := blk_frozen h3 0
  have c4 : w.cell? ⟨b4, 0, none⟩ = some (.int .i64 i) := (blk_cell h4 0).trans rfl
  have f4 := blk_frozen h4 0
  have i0 := eq_true hi.1; have i7 := eq_true hi.2; have a0 := eq_true ha.1; have a7 := eq_true ha.2; have p0 := eq_true hb.1; have p7 := eq_true hb.2; have r0 := eq_true hc.1; have r7 := eq_true hc.2
  clear hi ha hb hc hr0 h3 h4 hl
  generalize hu : roundB l i a b c = u
  unfold roundB at hu
  generalize chiA l i a b = p at *
  generalize chiA l i a c = q at *
  generalize chiA l i b c = r at *
  by_cases hpq : p = q
  · rw [if_pos hpq] at hu
    have n1 : (p != q) = false := bne_eq_false_iff_eq.mpr hpq
    subst hu
    go_enter Try.func123, Try.ntmps123
    go_wp2
    repeat (go_quiet (fail); try go_wp2)
    go_ret
    exact ⟨by first | rfl | (simp; done) | (simp [*]; done), by repeat (first | exact Drawn0.refl _ | apply Drawn0.step)⟩
  · rw [if_neg hpq] at hu
    have n1 : (p != q) = true := bne_iff_ne.mpr hpq
    subst hu
    go_enter Try.func123, Try.ntmps123
    go_wp2
    repeat (go_quiet (fail); try go_wp2)
    go_ret
    exact ⟨by first | rfl | (simp; done) | (simp [*]; done), by repeat (first | exact Drawn0.refl _ | apply Drawn0.step)⟩
theorem turned2.calls (gB : Nat) (cb : Array Value) (eB : ∀ args w, (callFunc gB args).run Try.prog w = .ok (.enter gB args) w) (u : Bool) (t a b : Int) (b5 b7 g m cap : Nat) (w : World)
    (h5 : w.heap[b5]? = some (.cells #[.func (.func gB) #[] cb] 84 (0, 0))) (h7 : w.heap[b7]? = some (.cells #[.slice (some ⟨g, 0, none⟩) m cap] 35 (0, 0))) (hm : 0 < m) (hc : w.cell? ⟨g, 0, none⟩ = some (.int .i64 t))
    (hB : ∀ W, (∃ n, W = w.drewN n) → Calls Try.prog gB (#[.int .i64 t, .int .i64 a, .int .i64 b] ++ cb) W fun e w' => e = .returned (.bool u) ∧ Drawn0 W w') :
    Calls Try.prog 126 #[.int .i64 a, .int .i64 b, .pointer (some ⟨b5, 0, none⟩), .pointer (some ⟨b7, 0, none⟩)] w fun e w' => e = .returned (.int .i64 (if u = true then -1 else 1)) ∧ Drawn0 w w' := by
  have c5 : w.cell? ⟨b5, 0, none⟩ = some (.func (.func gB) #[] cb) := (blk_cell h5 0).trans rfl
  have f5 := blk_frozen h5 0
  have c7 : w.cell? ⟨b7, 0, none⟩ = some (.slice (some ⟨g, 0, none⟩) m cap) := (blk_cell h7 0).trans rfl
  have f7 := blk_frozen h7 0
  have m1 : (0 : Int) < (m : Int) := by omega
  have HB := Aside0.mk hB
  clear h5 h7 hB
  cases u with
  | true =>
    go_enter Try.func126, Try.ntmps126
    go_wp2
    go_region_held3 (fun w' => w'.cell? ⟨b5, 0, none⟩ = some (.func (.func gB) #[] cb) ∧ w'.cell? ⟨b7, 0, none⟩ = some (.slice (some ⟨g, 0, none⟩) m cap) ∧ w'.cell? ⟨g, 0, none⟩ = some (.int .i64 t)) (go_keep) (first | (go_at_fn gB; refine (HB.out _ ⟨_, rfl⟩).mono ?_; rintro e w' ⟨rfl, ⟨nd, rfl⟩⟩))
    all_goals (try go_wp2)
    go_ret
    exact ⟨by first | rfl | (simp; done) | (simp [*]; done), by repeat (first | exact Drawn0.refl _ | apply Drawn0.step)⟩
  | false =>
    go_enter Try.func126, Try.ntmps126
    go_wp2
    go_region_held3 (fun w' => w'.cell? ⟨b5, 0, none⟩ = some (.func (.func gB) #[] cb) ∧ w'.cell? ⟨b7, 0, none⟩ = some (.slice (some ⟨g, 0, none⟩) m cap) ∧ w'.cell? ⟨g, 0, none⟩ = some (.int .i64 t)) (go_keep) (first | (go_at_fn gB; refine (HB.out _ ⟨_, rfl⟩).mono ?_; rintro e w' ⟨rfl, ⟨nd, rfl⟩⟩))
    all_goals (try go_wp2)
    go_ret
    exact ⟨by first | rfl | (simp; done) | (simp [*]; done), by repeat (first | exact Drawn0.refl _ | apply Drawn0.step)⟩
def linesB (l : List Int) (i a b c : Int) : Bool := decide (0 < wrap64 (wrap64 (chiA l i a b * chiA l i a c) * chiA l i b c))
set_option maxHeartbeats 8000000 in
set_option maxRecDepth 100000 in
theorem lines1.calls (l : List Int) (i a b c : Int) (A0 : Option Addr) (b3 b4 : Nat) (w : World) (hr0 : Kd.C (Kd.int .i64) w A0 l.length l) (hl : 344 ≤ (l.length : Int)) (hi : 0 ≤ i ∧ i < 7) (ha : 0 ≤ a ∧ a < 7) (hb : 0 ≤ b ∧ b < 7) (hc : 0 ≤ c ∧ c < 7) (h3 : w.heap[b3]? = some (.cells #[.pointer A0] 77 (0, 0))) (h4 : w.heap[b4]? = some (.cells #[.int .i64 i] 3 (0, 0))) :
    Calls Try.prog 84 #[.int .i64 a, .int .i64 b, .int .i64 c, .pointer (some ⟨b3, 0, none⟩), .pointer (some ⟨b4, 0, none⟩)] w fun e w' => e = .returned (.bool (linesB l i a b c)) ∧ Drawn0 w w' := by
  obtain ⟨ad1, e1, x1⟩ := chi_at hr0 hl hi.1 hi.2 ha.1 ha.2 hb.1 hb.2
  obtain ⟨ad2, e2, x2⟩ := chi_at hr0 hl hi.1 hi.2 ha.1 ha.2 hc.1 hc.2
  obtain ⟨ad3, e3, x3⟩ := chi_at hr0 hl hi.1 hi.2 hb.1 hb.2 hc.1 hc.2
  cases e1
  obtain rfl : ad1 = ad2 := (by injection e2)
  obtain rfl : ad1 = ad3 := (by injection e3)
  clear e2 e3
  have c3 : w.cell? ⟨b3, 0, none⟩ = some (.pointer (some ad1)) := (blk_cell h3 0).trans rfl
  have f3 := blk_frozen h3 0
  have c4 : w.cell? ⟨b4, 0, none⟩ = some (.int .i64 i) := (blk_cell h4 0).trans rfl
  have f4 := blk_frozen h4 0
  have i0 := eq_true hi.1; have i7 := eq_true hi.2; have a0 := eq_true ha.1; have a7 := eq_true ha.2; have p0 := eq_true hb.1; have p7 := eq_true hb.2; have r0 := eq_true hc.1; have r7 := eq_true hc.2
  clear hi ha hb hc hr0 h3 h4 hl
  generalize hu : linesB l i a b c = u
  unfold linesB at hu
  generalize chiA l i a b = p at *
  generalize chiA l i a c = q at *
  generalize chiA l i b c = r at *
  subst hu
  go_enter Try.func84, Try.ntmps84
  go_wp2
  repeat (go_quiet (fail); try go_wp2)
  go_ret
  exact ⟨by first | rfl | (simp; done) | (simp [*]; done), by repeat (first | exact Drawn0.refl _ | apply Drawn0.step)⟩
theorem insInner_size {α : Type} [Inhabited α] (lt : α → α → Bool) (a : Nat) : ∀ (j : Nat) (d : Array α), (Sort.insInner lt a j d).size = d.size
  | 0, d => rfl
  | j + 1, d => by
    unfold Sort.insInner
    split
    · rw [insInner_size lt a j]
      simp [Sort.swp]
    · rfl
theorem insOuter_size {α : Type} [Inhabited α] (lt : α → α → Bool) (a b : Nat) : ∀ (m i : Nat) (d : Array α), b - i = m → (Sort.insOuter lt a b i d).size = d.size
  | 0, i, d, h => by
    unfold Sort.insOuter
    rw [if_neg (by omega)]
  | m + 1, i, d, h => by
    unfold Sort.insOuter
    rw [if_pos (by omega), insOuter_size lt a b m (i + 1) _ (by omega), insInner_size]
theorem insertionSort_size {α : Type} [Inhabited α] (lt : α → α → Bool) (a b : Nat) (d : Array α) : (Sort.insertionSort lt d a b).size = d.size := insOuter_size lt a b _ _ d rfl
def fin7 (x : Int) : Fin 7 := Fin.ofNat 7 x.toNat
theorem fin7_val (x : Int) (h0 : 0 ≤ x) (h7 : x < 7) : (((fin7 x).val : Nat) : Int) = x := by
  unfold fin7
  rw [Fin.val_ofNat]
  omega
def turnL (bf : Int → Int → Int → Bool) : List Int → List Int
  | [] => []
  | a :: r => a :: (Sort.insertionSort (fun (x y : Fin 7) => bf a x.val y.val) (r.map fin7).toArray 0 r.length).toList.map (fun x => ((x.val : Nat) : Int))
theorem turnL_length (bf : Int → Int → Int → Bool) : ∀ l, (turnL bf l).length = l.length
  | [] => rfl
  | a :: r => by
    show (List.map _ _).length + 1 = r.length + 1
    rw [List.length_map, Array.length_toList, insertionSort_size]
    simp
theorem toList_getF (xs : List (Fin 7)) (j : Nat) : xs.toArray[j]! = xs[j]! := by simp
theorem toList_get (xs : List Int) (j : Nat) : xs.toArray[j]! = xs[j]! := by simp
theorem del_calls (u : List Int) (i : Int) (b4 g cap : Nat) (cur : Array Value) (w : World) (hcur : w.heap[g]? = some (.cells cur 3 (0, 0))) (hj : ∀ j, j < u.length → cur[j]? = some (.int .i64 u[j]!)) (hcs : cur.size = cap) (hlc : u.length ≤ cap) (hcm : cap ≤ maxLen)
    (h4 : w.heap[b4]? = some (.cells #[.int .i64 i] 3 (0, 0))) (hne : b4 ≠ g) :
    Calls Try.prog 74 #[.slice (some ⟨g, 0, none⟩) u.length cap, .func (.func 124) #[] #[.pointer (some ⟨b4, 0, none⟩)]] w fun e w' => e = .returned (.slice (some ⟨g, 0, none⟩) (u.filter fun x => !(x == i)).length cap) ∧ (∃ cur', w'.heap[g]? = some (.cells cur' 3 (0, 0)) ∧ cur'.size = cap ∧ ∀ j, j < (u.filter fun x => !(x == i)).length → cur'[j]? = some (.int .i64 (u.filter fun x => !(x == i))[j]!)) ∧ (∀ k, k < w.heap.size → k ≠ g → w'.heap[k]? = w.heap[k]?) ∧ (∀ base, base ≤ g → Below base w w') := by
  have hlt : g < w.heap.size := (Array.getElem?_eq_some_iff.1 hcur).1
  have h4lt : b4 < w.heap.size := (Array.getElem?_eq_some_iff.1 h4).1
  have eg : ∀ args w, (callFunc 124 args).run Try.prog w = .ok (.enter 124 args) w := enters_of Try.func124 (by kernel_rfl) rfl
  have hgive : ∀ (W : World) (x : Int), W.heap[b4]? = some (.cells #[.int .i64 i] 3 (0, 0)) → FnGives Try.prog 124 #[.pointer (some ⟨b4, 0, none⟩)] #[.int .i64 x] (.bool (x == i)) W := fun W x hW =>
    (impl_turned_1.calls x b4 i (x == i) W hW rfl).mono fun _ _ ⟨he, hd⟩ => ⟨he, hd.out⟩
  have hp : PredAt Try.prog 124 #[.pointer (some ⟨b4, 0, none⟩)] (Value.int .i64) (fun x => x == i) w := fun W x hb => hgive W x ((hb.block b4 h4lt).trans h4)
  have hpo : PredOver Try.prog 124 #[.pointer (some ⟨b4, 0, none⟩)] (Value.int .i64) (fun x => x == i) g 0 u.toArray.size w := fun n os dk x _ => hgive _ x ((put_far (Value.int .i64) w n g 0 dk os b4 h4lt hne).trans h4)
  have hH : Sort.Holds (Value.int .i64) w g 0 u.toArray := by
    intro j hjl
    have hl : j < u.length := by simpa using hjl
    refine ⟨?_, ?_⟩
    · rw [toList_get]
      have := hj j hl
      simp [World.cell?, hcur, this]
    · simp [World.frozen?, hcur]
  have hcon := AnyE.slices_DeleteFunc delF10 (Value.int .i64) (fun _ => rfl) (fun x => x == i) 124 #[.pointer (some ⟨b4, 0, none⟩)] eg (0 : Int) Try.zeroValue3 g 0 cap u.toArray w hp hpo hH (by simp; unfold maxLen at hcm; omega) (by simpa using hlc)
  change Calls Try.prog 74 #[.slice (some ⟨g, 0, none⟩) u.length cap, _] _ _ at hcon
  refine hcon.mono ?_
  rintro e w' ⟨rfl, q, rfl⟩
  have hfl : (u.filter fun x => !(x == i)).length ≤ u.length := List.length_filter_le _ _
  rw [show Sort.putRow (Value.int .i64) (Sort.ahead w q) g 0 = fun D => Sort.grow (Sort.putRow (Value.int .i64) (Sort.ahead w q) g 0 D) #[] from by funext D; rw [Sort.grow_empty]]
  refine ⟨rfl, ⟨_, put_cur (Value.int .i64) w q g 0 _ #[] hcur, by rw [putCells_size]; exact hcs, fun j hjl => ?_⟩, fun k hk hkg => put_far _ w q g 0 _ #[] k hk hkg, fun base hb => put_below _ w q g 0 _ #[] hb hlt⟩
  rw [putCells_at _ _ _ j (by simp; omega) (by simp; omega)]
  congr 2
  rw [toList_get, getElem!_pos _ j (by simp; omega), List.getElem_append_left (by exact hjl), getElem!_pos _ j hjl]
def cfOf (bf : Int → Int → Int → Bool) (t : Int) (x y : Fin 7) : Int := if bf t x.val y.val = true then -1 else 1
theorem ltOf_cf (bf : Int → Int → Int → Bool) (t : Int) : ltOf (cfOf bf t) = fun (x y : Fin 7) => bf t x.val y.val := by
  funext x y
  unfold ltOf cfOf
  cases bf t x.val y.val <;> rfl
theorem sort_calls (gB : Nat) (cb : Array Value) (eB : ∀ args w, (callFunc gB args).run Try.prog w = .ok (.enter gB args) w) (bf : Int → Int → Int → Bool) (t : Int) (rest : List Int) (ht : 0 ≤ t ∧ t < 7) (h7 : ∀ x ∈ rest, 0 ≤ x ∧ x < 7) (hl7 : rest.length ≤ 7) (b5 b7 g cap : Nat) (cur : Array Value) (w : World)
    (hcur : w.heap[g]? = some (.cells cur 3 (0, 0))) (hcs : cur.size = cap) (hlc : rest.length + 1 ≤ cap) (hc0 : cur[0]? = some (.int .i64 t)) (hj : ∀ j, j < rest.length → cur[j + 1]? = some (.int .i64 rest[j]!))
    (h5 : w.heap[b5]? = some (.cells #[.func (.func gB) #[] cb] 84 (0, 0))) (h7b : w.heap[b7]? = some (.cells #[.slice (some ⟨g, 0, none⟩) (rest.length + 1) cap] 35 (0, 0))) (hne5 : b5 ≠ g) (hne7 : b7 ≠ g)
    (hB : ∀ W, (∀ base, base ≤ g → Below base w W) → ∀ a b : Int, (0 ≤ a ∧ a < 7) → (0 ≤ b ∧ b < 7) → Calls Try.prog gB (#[.int .i64 t, .int .i64 a, .int .i64 b] ++ cb) W fun e w' => e = .returned (.bool (bf t a b)) ∧ Drawn0 W w') :
    Calls Try.prog 125 #[.slice (some ⟨g, 1, none⟩) rest.length (cap - 1), .func (.func 126) #[] #[.pointer (some ⟨b5, 0, none⟩), .pointer (some ⟨b7, 0, none⟩)]] w fun e w' => e = .returned (.tuple #[]) ∧ (∃ cur', w'.heap[g]? = some (.cells cur' 3 (0, 0)) ∧ cur'.size = cap ∧ ∀ j, j < rest.length + 1 → cur'[j]? = some (.int .i64 (turnL bf (t :: rest))[j]!)) ∧ (∀ k, k < w.heap.size → k ≠ g → w'.heap[k]? = w.heap[k]?) ∧ (∀ base, base ≤ g → Below base w w') := by
  have hlt : g < w.heap.size := (Array.getElem?_eq_some_iff.1 hcur).1
  have h5lt : b5 < w.heap.size := (Array.getElem?_eq_some_iff.1 h5).1
  have h7lt : b7 < w.heap.size := (Array.getElem?_eq_some_iff.1 h7b).1
  have eg : ∀ args w, (callFunc 126 args).run Try.prog w = .ok (.enter 126 args) w := enters_of Try.func126 (by kernel_rfl) rfl
  let enc : Fin 7 → Value := fun x => .int .i64 (x.val : Nat)
  have hcmp : CmpReads Try.prog 126 #[.pointer (some ⟨b5, 0, none⟩), .pointer (some ⟨b7, 0, none⟩)] enc (cfOf bf t) g 1 (rest.map fin7).toArray.size w := by
    intro m os dk hdk x y
    have hW5 := (put_far enc w m g 1 dk os b5 h5lt hne5).trans h5
    have hW7 := (put_far enc w m g 1 dk os b7 h7lt hne7).trans h7b
    have hWc : (sortWorld enc w g 1 m dk os).cell? ⟨g, 0, none⟩ = some (.int .i64 t) := by
      have h := blk_cell (put_cur enc w m g 1 dk os hcur) 0
      rw [putCells_out enc 1 dk cur 0 (by omega), hc0] at h
      exact h
    have hx := x.isLt
    have hy := y.isLt
    refine (turned2.calls gB cb eB (bf t x.val y.val) t x.val y.val b5 b7 g (rest.length + 1) cap _ hW5 hW7 (by omega) hWc (fun W ⟨n, hW⟩ => ?_)).mono fun _ _ ⟨he, hd⟩ => ⟨he, hd.out⟩
    refine hB W (fun base hb => ?_) _ _ ⟨by omega, by omega⟩ ⟨by omega, by omega⟩
    rw [hW]
    exact pw_below_drewN (put_below enc w m g 1 dk os hb hlt) n
  have hH : Sort.Holds enc w g 1 (rest.map fin7).toArray := by
    intro j hjl
    have hl : j < rest.length := by simpa using hjl
    have hv := fin7_val rest[j]! (h7 _ (by rw [getElem!_pos rest j hl]; exact List.getElem_mem hl)).1 (h7 _ (by rw [getElem!_pos rest j hl]; exact List.getElem_mem hl)).2
    refine ⟨?_, ?_⟩
    · have h := blk_cell hcur (1 + j)
      rw [Nat.add_comm 1 j, hj j hl] at h
      rw [Nat.add_comm 1 j, h]
      have e1 : (rest.map fin7).toArray[j]! = fin7 rest[j]! := by
        rw [toList_getF, getElem!_pos _ j (by simpa using hl), List.getElem_map, getElem!_pos rest j hl]
      rw [e1]
      show _ = some (Value.int .i64 ((fin7 rest[j]!).val : Nat))
      rw [hv]
    · simp [World.frozen?, hcur]
  have hcon := Any.slices_SortFunc_small sortF6 enc (fun _ => rfl) (cfOf bf t) 126 #[.pointer (some ⟨b5, 0, none⟩), .pointer (some ⟨b7, 0, none⟩)] g 1 (cap - 1) (rest.map fin7).toArray w eg hcmp hH (by simp; omega) (fun n W h => len_some n W h)
  rw [show (rest.map fin7).toArray.size = rest.length by simp] at hcon
  refine hcon.mono ?_
  rintro e w' ⟨rfl, n, rfl⟩
  rw [ltOf_cf, put_drewN]
  have hsz : (Sort.insertionSort (fun (x y : Fin 7) => bf t x.val y.val) (rest.map fin7).toArray 0 rest.length).size = rest.length := by
    rw [insertionSort_size]
    simp
  refine ⟨rfl, ⟨_, put_cur enc w n g 1 _ #[] hcur, by rw [putCells_size]; exact hcs, fun j hjl => ?_⟩, fun k hk hkg => put_far _ w n g 1 _ #[] k hk hkg, fun base hb => put_below _ w n g 1 _ #[] hb hlt⟩
  cases j with
  | zero =>
    rw [putCells_out _ _ _ _ _ (by omega), hc0]
    rfl
  | succ j =>
    rw [Nat.add_comm j 1, putCells_in _ _ _ _ j (by omega) (by omega), Nat.add_comm 1 j]
    have hjr : j < rest.length := by omega
    congr 1
    rw [getElem!_pos (turnL bf (t :: rest)) (j + 1) (by rw [turnL_length]; simpa using hjl)]
    simp only [turnL, List.getElem_cons_succ, List.getElem_map, Array.getElem_toList]
    rw [getElem!_pos _ j (by omega)]
set_option maxHeartbeats 8000000 in
set_option maxRecDepth 2000 in
theorem turned.calls (k : Nat) (gB : Nat) (cb : Array Value) (eB : ∀ args w, (callFunc gB args).run Try.prog w = .ok (.enter gB args) w) (bf : Int → Int → Int → Bool) (l u : List Int) (n i : Int) (A0 : Option Addr) (w : World)
    (hr0 : Kd.C (Kd.int .i64) w A0 l.length l) (hl : 344 ≤ (l.length : Int)) (hn : chiN l = n) (hU : impl_upTo.f k n = some u) (hu7 : ∀ x ∈ u, 0 ≤ x ∧ x < 7) (hu12 : u.length ≤ 7)
    (t : Int) (rest : List Int) (hF : (u.filter fun x => !(x == i)) = t :: rest) (hne : 0 < rest.length)
    (hB : ∀ W, Below w.heap.size w W → ∀ a b c : Int, (0 ≤ a ∧ a < 7) → (0 ≤ b ∧ b < 7) → (0 ≤ c ∧ c < 7) → Calls Try.prog gB (#[.int .i64 a, .int .i64 b, .int .i64 c] ++ cb) W fun e w' => e = .returned (.bool (bf a b c)) ∧ Drawn0 W w') :
    Calls Try.prog 83 #[.pointer A0, .int .i64 i, .func (.func gB) #[] cb] w fun e w' => ∃ v0_ : Value, e = .returned (v0_) ∧ Kd.R (Kd.int .i64) 3 w' w.heap.size (fun _ => True) v0_ (turnL bf (t :: rest)) ∧ Below w.heap.size w w' := by
  obtain ⟨ad, e0, hx0⟩ := chi_n hr0 hl
  cases e0
  rw [hn] at hx0
  have HX := Aside0.mk hx0
  have HR := Aside0.mk hr0
  have HU := Aside0.mk hU
  have HF := Aside0.mk hF
  have H7 := Aside0.mk hu7
  have H12 := Aside0.mk hu12
  have HNE := Aside0.mk hne
  have HBF := Aside0.mk hB
  have HUL := Aside0.mk (show rest.length + 1 ≤ u.length from by have h_ := List.length_filter_le (fun x => !(x == i)) u; rw [hF] at h_; exact h_)
  clear hx0 hr0 hU hF hu7 hu12 hne hB hn hl
  go_enter Try.func83, Try.ntmps83
  go_wp2_with (first
    | ((with_reducible refine gate_dst (N := 4) rfl ?_); refine box_event ?hg (N := 4) ?hd (cs := #[.int .i64 i]) (t := 3) ?hr ?_; (case hd => rfl); (case hg => rfl); (case hr => first | (go_simp; done) | (go_simp; rfl)); intro gb4 hg4 w1 hb4 hB1; have G4 := Aside0.mk hg4; have BX4 := Aside0.mk hb4; have HB1 := Aside0.mk hB1; clear hg4 hb4 hB1)
    | ((with_reducible refine gate_dst (N := 5) rfl ?_); refine box_event ?hg (N := 5) ?hd (cs := #[.func (.func gB) #[] cb]) (t := 84) ?hr ?_; (case hd => rfl); (case hg => rfl); (case hr => first | (go_simp; done) | (go_simp; rfl)); intro gb5 hg5 w2 hb5 hB2; have G5 := Aside0.mk hg5; have BX5 := Aside0.mk hb5; have HB2 := Aside0.mk (below_step HB1.out hB2); have HBx := Aside0.mk hB2; have hx2 := (HB2.out.cell (World.block_lt_of_cell? w _ HX.out)).trans HX.out; clear hg5 hb5 hB2)
    | (go_at_call 75; refine (impl_upTo.calls k n u _ HU.out).mono ?_; rintro e w3 ⟨v0, rfl, ho, hb⟩; obtain ⟨g, cap, cur, rfl, hgb, hok_, hcur, hlc, hcm, hcs, hj⟩ := row_blk ho (Nat.lt_of_lt_of_le (Nat.succ_pos _) HUL.out); have GB := Aside0.mk hgb; have CUR := Aside0.mk hcur; have LC := Aside0.mk hlc; have CM := Aside0.mk hcm; have CS := Aside0.mk hcs; have CJ := Aside0.mk hj; have HB3 := Aside0.mk hb; clear ho hb hgb hcur hlc hcm hcs hj hok_ hx2)
    | (go_at_call 74; refine (del_calls u i gb4 g cap cur _ CUR.out CJ.out CS.out LC.out CM.out ((HB3.out.block gb4 (by have h1_ := G4.out; have h2_ := HB2.out.size; have h3_ := (Array.getElem?_eq_some_iff.1 BX4.out).1; have h4_ := HBx.out.size; omega)).trans ((HBx.out.block gb4 ((Array.getElem?_eq_some_iff.1 BX4.out).1)).trans BX4.out)) (by have h1_ := GB.out; have h3_ := (Array.getElem?_eq_some_iff.1 BX4.out).1; have h4_ := HBx.out.size; omega)).mono ?_; rintro e w4 ⟨rfl, ⟨cur4, hc4, hs4, hj4⟩, hf4, hb4⟩; have CUR4 := Aside0.mk hc4; have CS4 := Aside0.mk hs4; have CJ4 := Aside0.mk hj4; have HF4 := Aside0.mk hf4; have HB4 := Aside0.mk hb4; clear hc4 hs4 hj4 hf4 hb4; rw [HF.out] at CJ4 ⊢; have hcap1_ : (cap = 1) = False := eq_false (by have h1_ := LC.out; have h2_ := HUL.out; have h3_ := HNE.out; omega))
    | (go_at_call 125
       have hlt4_ : g < w4.heap.size := (Array.getElem?_eq_some_iff.1 CUR4.out).1
       have hb5_ : gb5 < w2.heap.size := (Array.getElem?_eq_some_iff.1 BX5.out).1
       have hs3_ := HB3.out.size
       have hs2_ := HB2.out.size
       have hgb_ := GB.out
       have hHB4 := HB4.out
       have hw4_ : Below w.heap.size w w4 := (below_step HB2.out HB3.out).trans (hHB4 w.heap.size (by omega))
       have h24_ : Below w2.heap.size w2 w4 := HB3.out.trans (hHB4 w2.heap.size (by omega))
       have hrefl_ := below_alloc (Below.refl w4.heap.size w4) (Obj.cells #[Value.slice (some ⟨g, 0, none⟩) (rest.length + 1) cap] 35)
       have ht_ : t ∈ t :: rest := List.mem_cons_self
       rw [← HF.out] at ht_
       have hm_ := fun x (hx : x ∈ u.filter fun x => !(x == i)) => H7.out x (List.mem_filter.1 hx).1
       have hl_ := List.length_filter_le (fun x => !(x == i)) u
       have h12_ := H12.out
       have hcap_ := CM.out
       have hlc_ := LC.out
       rw [HF.out, List.length_cons] at hl_
       have hO_ : (w4.alloc (Obj.cells #[Value.slice (some ⟨g, 0, none⟩) (rest.length + 1) cap] 35)).heap[w4.heap.size]? = some (Obj.cells #[Value.slice (some ⟨g, 0, none⟩) (rest.length + 1) cap] 35 (0, 0)) := blk_new w4 _
       generalize (w4.alloc (Obj.cells #[Value.slice (some ⟨g, 0, none⟩) (rest.length + 1) cap] 35)) = w5 at hrefl_ hO_ ⊢
       have hc5_ := (hrefl_.block g hlt4_).trans CUR4.out
       have h55_ := (hrefl_.block gb5 (by have := h24_.size; omega)).trans ((h24_.block gb5 hb5_).trans BX5.out)
       have hw5_ : Below w.heap.size w w5 := hw4_.trans (hrefl_.mono (by have := hw4_.size; omega))
       have hB5_ : ∀ W, (∀ base, base ≤ g → Below base w5 W) → ∀ a b : Int, (0 ≤ a ∧ a < 7) → (0 ≤ b ∧ b < 7) → Calls Try.prog gB (#[.int .i64 t, .int .i64 a, .int .i64 b] ++ cb) W fun e w' => e = .returned (.bool (bf t a b)) ∧ Drawn0 W w' := fun W hW a b ha hb => HBF.out W (hw5_.trans (hW w.heap.size (by omega))) t a b (hm_ t ht_) ha hb
       have hr7_ : ∀ x ∈ rest, 0 ≤ x ∧ x < 7 := fun x hx => hm_ x (by rw [HF.out]; exact List.mem_cons_of_mem _ hx)
       have hsc_ := sort_calls gB cb eB bf t rest (hm_ t ht_) hr7_ (by omega) gb5 w4.heap.size g cap cur4 w5 hc5_ CS4.out (by omega) (CJ4.out 0 (by rw [List.length_cons]; omega)) (fun j hj => CJ4.out (j + 1) (by rw [List.length_cons]; omega)) h55_ hO_ (by omega) (by omega) hB5_
       refine hsc_.mono ?_
       rintro e w6 ⟨rfl, ⟨cur6, hc6, hs6, hj6⟩, hf6, hb6⟩
       have CUR6 := Aside0.mk hc6; have CS6 := Aside0.mk hs6; have CJ6 := Aside0.mk hj6; have HB6 := Aside0.mk (hw5_.trans (hb6 w.heap.size (by omega)))
       have hx7_ : w6.cell? ⟨w4.heap.size, 0, none⟩ = some (.slice (some ⟨g, 0, none⟩) (rest.length + 1) cap) := (blk_cell ((hf6 w4.heap.size (Array.getElem?_eq_some_iff.1 hO_).1 (by omega)).trans hO_) 0).trans rfl
       have HGB := Aside0.mk (show w.heap.size ≤ g from by omega)
       have HLR := Aside0.mk (show rest.length + 1 ≤ cap from by omega)
       clear hsc_ hr7_ hB5_ h55_ hc5_ hO_ hw5_ hc6 hs6 hj6 hf6 hb6 hlt4_ hb5_ hs3_ hs2_ hgb_ hHB4 hw4_ h24_ hrefl_ ht_ hm_ hl_ h12_ hcap_ hlc_))
  go_ret
  refine ⟨_, rfl, ?_, HB6.out⟩
  have h := blk_row (enc := Value.int .i64) (h1 := fun _ => rfl) (xs := turnL bf (t :: rest)) (base := w.heap.size) (ok := fun _ => True) HGB.out trivial CUR6.out (by rw [turnL_length]; exact HLR.out) CM.out CS6.out (fun j hj => CJ6.out j (by rw [turnL_length] at hj; exact hj))
  rw [turnL_length] at h
  exact h
def turnF (k : Nat) (bf : Int → Int → Int → Bool) (l : List Int) (i : Int) : Option (List Int) :=
  (impl_upTo.f k (chiN l)).bind fun u => if 344 ≤ (l.length : Int) ∧ (0 ≤ i ∧ i < 7) ∧ (∀ x ∈ u, 0 ≤ x ∧ x < 7) ∧ u.length ≤ 7 ∧ 2 ≤ (u.filter fun x => !(x == i)).length then some (turnL bf (u.filter fun x => !(x == i))) else none
theorem turnF.mono (k : Nat) (bf : Int → Int → Int → Bool) (l : List Int) (i : Int) : LeO (turnF k bf l i) (turnF (k + 1) bf l i) := LeO.bind (impl_upTo.mono _ _) (fun _ => LeO.refl _)
theorem turnF_calls (k : Nat) (gB : Nat) (cb : Array Value) (eB : ∀ args w, (callFunc gB args).run Try.prog w = .ok (.enter gB args) w) (bf : Int → Int → Int → Bool) (l : List Int) (i : Int) (r : List Int) (A0 : Option Addr) (w : World)
    (hr0 : Kd.C (Kd.int .i64) w A0 l.length l) (h : turnF k bf l i = some r)
    (hB : 344 ≤ (l.length : Int) → (0 ≤ i ∧ i < 7) → ∀ W, Below w.heap.size w W → ∀ a b c : Int, (0 ≤ a ∧ a < 7) → (0 ≤ b ∧ b < 7) → (0 ≤ c ∧ c < 7) → Calls Try.prog gB (#[.int .i64 a, .int .i64 b, .int .i64 c] ++ cb) W fun e w' => e = .returned (.bool (bf a b c)) ∧ Drawn0 W w') :
    Calls Try.prog 83 #[.pointer A0, .int .i64 i, .func (.func gB) #[] cb] w fun e w' => ∃ v0_ : Value, e = .returned (v0_) ∧ Kd.R (Kd.int .i64) 3 w' w.heap.size (fun _ => True) v0_ r ∧ Below w.heap.size w w' := by
  unfold turnF at h
  obtain ⟨u, hU, h⟩ := Option.bind_eq_some_iff.mp h
  by_cases hc : 344 ≤ (l.length : Int) ∧ (0 ≤ i ∧ i < 7) ∧ (∀ x ∈ u, 0 ≤ x ∧ x < 7) ∧ u.length ≤ 7 ∧ 2 ≤ (u.filter fun x => !(x == i)).length
  case neg => rw [if_neg hc] at h; cases h
  rw [if_pos hc] at h
  obtain rfl := Option.some.inj h
  obtain ⟨hl, hi, h7, h12, h2⟩ := hc
  cases hF : u.filter fun x => !(x == i) with
  | nil => rw [hF] at h2; simp at h2
  | cons t rest => exact turned.calls k gB cb eB bf l u (chiN l) i A0 w hr0 hl rfl hU h7 h12 t rest hF (by rw [hF, List.length_cons] at h2; omega) (hB hl hi)
def impl_chi_round.f (k : Nat) (l0 : List Int) (a1 : Int) : Option (List Int) := turnF k (roundB l0 a1) l0 a1
theorem impl_chi_round.mono : ∀ l0 a1 k, LeO (impl_chi_round.f k l0 a1) (impl_chi_round.f (k + 1) l0 a1) := fun l0 a1 k => turnF.mono k _ l0 a1
set_option maxHeartbeats 8000000 in
set_option maxRecDepth 2000 in
theorem impl_chi_round.calls (k : Nat) (A0 : Option Addr) (c0 : Nat) (l0 : List Int) (a1 : Int) (r : List Int) (w : World) (hr0 : Kd.C (Kd.int .i64) w A0 l0.length l0) (hc0 : l0.length ≤ c0) (h : impl_chi_round.f k l0 a1 = some r) :
    Calls Try.prog 80 #[.pointer A0, .int .i64 a1] w fun e w' => ∃ v0_ : Value, e = .returned (v0_) ∧ Kd.R (Kd.int .i64) 3 w' w.heap.size (fun _ => True) v0_ r ∧ Below w.heap.size w w' := by
  have eg : ∀ args w, (callFunc 123 args).run Try.prog w = .ok (.enter 123 args) w := enters_of Try.func123 (by kernel_rfl) rfl
  have EG := Aside0.mk eg
  have HR := Aside0.mk hr0
  have H := Aside0.mk h
  clear hr0 hc0 h eg
  go_enter Try.func80, Try.ntmps80
  go_wp2_with (first
    | ((with_reducible refine gate_dst (N := 2) rfl ?_); refine box_event ?hg (N := 2) ?hd (cs := #[.pointer A0]) (t := 77) ?hr ?_; (case hd => rfl); (case hg => rfl); (case hr => first | (go_simp; done) | (go_simp; rfl)); intro gb4 hg4 w1 hb4 hB1; have G4 := Aside0.mk hg4; have BX4 := Aside0.mk hb4; have HB1 := Aside0.mk hB1; clear hg4 hb4 hB1)
    | ((with_reducible refine gate_dst (N := 3) rfl ?_); refine box_event ?hg (N := 3) ?hd (cs := #[.int .i64 a1]) (t := 3) ?hr ?_; (case hd => rfl); (case hg => rfl); (case hr => first | (go_simp; done) | (go_simp; rfl)); intro gb5 hg5 w2 hb5 hB2; have BX5 := Aside0.mk hb5; have HBx := Aside0.mk hB2; have HB2 := Aside0.mk (below_step HB1.out hB2); have x2_ : w2.cell? ⟨gb4, 0, none⟩ = some (.pointer A0) := (blk_cell ((hB2.block gb4 (Array.getElem?_eq_some_iff.1 BX4.out).1).trans BX4.out) 0).trans rfl; have x3_ : w2.cell? ⟨gb5, 0, none⟩ = some (.int .i64 a1) := (blk_cell hb5 0).trans rfl; clear hg5 hb5 hB2)
    | (go_at_call 83
       have hb4_ := (HBx.out.block gb4 (Array.getElem?_eq_some_iff.1 BX4.out).1).trans BX4.out
       have hC_ := Kd.C_below HR.out HB2.out
       refine (turnF_calls k 123 #[.pointer (some ⟨gb4, 0, none⟩), .pointer (some ⟨gb5, 0, none⟩)] EG.out (roundB l0 a1) l0 a1 r A0 w2 hC_ H.out (fun hl hi W hW a b c ha hb hc => round1.calls l0 a1 a b c A0 gb4 gb5 W (Kd.C_below hC_ hW) hl hi ha hb hc ((hW.block gb4 (Array.getElem?_eq_some_iff.1 hb4_).1).trans hb4_) ((hW.block gb5 (Array.getElem?_eq_some_iff.1 BX5.out).1).trans BX5.out))).mono ?_
       rintro e w3 ⟨v0, rfl, hR, hB3⟩
       have HR3 := Aside0.mk (Kd.R_lower hR HB2.out.size)
       have HB3 := Aside0.mk (below_step HB2.out hB3)
       clear hR hB3 hb4_ hC_))
  go_ret
  exact ⟨_, rfl, HR3.out, HB3.out⟩
end Go.Proofs.Yteblnjoljbdjjaa.P
namespace Go.Proofs.Yteblnjoljbdjjaa.P
open Go.RowKit Go.Proofs.YteblnjoljbdjjaaW.PrintWords Go.Proofs.YteblnjoljbdjjaaW.PrintLast Go.Proofs.YteblnjoljbdjjaaW.PrintMore
attribute [local go_sem] ptrOf_slice
attribute [local go_sem] min2_str max2_int min2_int max_two min_two max_three min_three max_four min_four
set_option linter.unusedVariables false
set_option linter.unusedSimpArgs false
mutual
def impl_TurnsRound.j0 : Nat → Int → List Int → Bool → Option (Int)
 | 0, _, _, _ => none
 | k + 1, x1, x5, x24 => if x24 = true then (some (-1)) else ((impl_chi_round.f k x5 x1).bind fun t1034 => (impl_TurnsRound.l0 k x1 x5 t1034 0 t1034 (t1034.length : Int) 0))
def impl_TurnsRound.l0 : Nat → Int → List Int → List Int → Int → List Int → Int → Int → Option (Int)
 | 0, _, _, _, _, _, _, _ => none
 | k + 1, x1, x5, x7, x8, x28, x29, x30 => if x30 < x29 then (if 0 ≤ x30 then (if x30 < (x28.length : Int) then (if (x7.length : Int) = 0 then (none) else (if 0 ≤ (Int.tmod (wrap64 (x30 + 1)) (x7.length : Int)) then (if (Int.tmod (wrap64 (x30 + 1)) (x7.length : Int)) < (x7.length : Int) then (if 344 ≤ (x5.length : Int) then (if 0 ≤ x1 then (if x1 < 7 then (if 0 ≤ (rd x28 x30) then (if (rd x28 x30) < 7 then (if 0 ≤ (rd x7 (Int.tmod (wrap64 (x30 + 1)) (x7.length : Int))) then (if (rd x7 (Int.tmod (wrap64 (x30 + 1)) (x7.length : Int))) < 7 then (if (chiA x5 x1 (rd x28 x30) (rd x7 (Int.tmod (wrap64 (x30 + 1)) (x7.length : Int)))) < 0 then (impl_TurnsRound.l0 k x1 x5 x7 (wrap64 (x8 + 1)) x28 x29 (wrap64 (x30 + 1))) else (impl_TurnsRound.l0 k x1 x5 x7 x8 x28 x29 (wrap64 (x30 + 1)))) else (none)) else (none)) else (none)) else (none)) else (none)) else (none)) else (none)) else (none)) else (none))) else (none)) else (none)) else (some x8)
end
def impl_TurnsRound.f (k : Nat) (a0_0 : Int) (a0_1 : ByteArray) (a1 : Int) : Option (Int) := (impl_orderOf.f k a0_0 a0_1).bind fun bt1029 => (if bt1029.2 = true then ((impl_isElement.f a0_0 a1).bind fun t1033 => (impl_TurnsRound.j0 k a1 bt1029.1 (!t1033))) else (impl_TurnsRound.j0 k a1 bt1029.1 true))
set_option maxHeartbeats 8000000 in
set_option maxRecDepth 100000 in
theorem impl_TurnsRound.calls (k : Nat) (a0_0 : Int) (a0_1 : ByteArray) (a1 : Int) (r : Int) (w : World) (h : impl_TurnsRound.f k a0_0 a0_1 a1 = some r) :
  Calls Try.prog 40 #[.agg #[.int .i64 a0_0, .string a0_1], .int .i64 a1] w fun e w' => e = .returned (.int .i64 r) ∧ Below w.heap.size w w' := by
 have hu25 := Try.underlying25
 have HB := Aside0.mk (Below.refl w.heap.size w)
 have H : ((impl_orderOf.f k a0_0 a0_1).bind fun bt1029 => (if bt1029.2 = true then ((impl_isElement.f a0_0 a1).bind fun t1033 => (impl_TurnsRound.j0 k a1 bt1029.1 (!t1033))) else (impl_TurnsRound.j0 k a1 bt1029.1 true))) = some r := h
 clear h
 replace H := Option.bind_eq_some_iff.mp H
 obtain ⟨⟨t1029, t1032⟩, A30, H⟩ := H
 replace H : (if t1032 = true then ((impl_isElement.f a0_0 a1).bind fun t1033 => (impl_TurnsRound.j0 k a1 t1029 (!t1033))) else (impl_TurnsRound.j0 k a1 t1029 true)) = some r := H
 have A3 := Aside0.mk A30
 clear A30
 have HC4 := Aside0.mk H
 clear H
 go_enter Try.func40, Try.ntmps40
 go_upto_region 2 with (first | ((with_reducible refine gate_dst (N := 2) rfl ?_); refine box_event ?hg (N := 2) ?hd (cs := #[.int .i64 a0_0, .string a0_1]) (t := 25) ?hr ?_; (case hd => rfl); (case hg => rfl); (case hr => first | (go_simp; done) | (go_simp; rfl)); intro gb1028 hg w5 hbox hb; have n0_ := Aside0.mk (below_step (by repeat (first | (with_reducible first | exact HB.out | apply below_alloc | apply pw_below_drewN | apply below_drew1) | exact HB.out)) hb); have n1_ := Aside0.mk (hbox); have n2_ := Aside0.mk ((by rw [hg]; exact (below_size (by repeat (first | (with_reducible first | exact HB.out | apply below_alloc | apply pw_below_drewN | apply below_drew1) | exact HB.out))) : w.heap.size ≤ gb1028)); have n3_ := Aside0.mk ((by rw [hg]; exact (below_size (by repeat (first | (with_reducible first | exact HB.out | apply below_alloc | apply pw_below_drewN | apply below_drew1) | exact HB.out))) : w.heap.size ≤ gb1028)); clear HB; have HB := n0_; have BK1028 := n1_; have GW1028 := n2_; have GE1028 := n3_; clear n0_ n1_ n2_ n3_; clear hb hbox hg; have hcz6_0 : w5.cell? ⟨gb1028, 0, none⟩ = some (.int .i64 a0_0) := (blk_cell BK1028.out 0).trans rfl; have hcz6_1 : w5.cell? ⟨gb1028, 1, none⟩ = some (.string a0_1) := (blk_cell BK1028.out 1).trans rfl; have hfz6_0 := blk_frozen BK1028.out 0; have hfz6_1 := blk_frozen BK1028.out 1) | (go_at_call 72; (with_reducible refine (impl_orderOf.calls k a0_0 a0_1 t1029 t1032 _ A3.out).mono ?_); rintro e w7 ⟨v1030, rfl, ho0, hb⟩; have n0_ := Aside0.mk (Kd.R_lower ho0 (below_size (by repeat (first | (with_reducible first | exact HB.out | apply below_alloc | apply pw_below_drewN | apply below_drew1 | refine below_set ?_ GE1028.out) | exact HB.out)))); have n1_ := Aside0.mk (blk_below (g := gb1028) (o := .cells #[.int .i64 a0_0, .string a0_1] 25 (0, 0)) (by (with_reducible repeat (first | refine blk_drewN ?_ _ | refine blk_drew ?_ | refine blk_alloc ?_ _)); exact BK1028.out) hb); have n2_ := Aside0.mk (below_step (by repeat (first | (with_reducible first | exact HB.out | apply below_alloc | apply pw_below_drewN | apply below_drew1 | refine below_set ?_ GE1028.out) | exact HB.out)) hb); clear BK1028; clear HB; have HO1031 := n0_; have BK1028 := n1_; have HB := n2_; clear n0_ n1_ n2_; (try clear hb); (try clear hb2); (try clear hk); (try clear hi); (try clear ho0)))
 repeat (go_quiet (first | ((with_reducible refine gate_dst (N := 2) rfl ?_); refine box_event ?hg (N := 2) ?hd (cs := #[.int .i64 a0_0, .string a0_1]) (t := 25) ?hr ?_; (case hd => rfl); (case hg => rfl); (case hr => first | (go_simp; done) | (go_simp; rfl)); intro gb1028 hg w5 hbox hb; have n0_ := Aside0.mk (below_step (by repeat (first | (with_reducible first | exact HB.out | apply below_alloc | apply pw_below_drewN | apply below_drew1) | exact HB.out)) hb); have n1_ := Aside0.mk (hbox); have n2_ := Aside0.mk ((by rw [hg]; exact (below_size (by repeat (first | (with_reducible first | exact HB.out | apply below_alloc | apply pw_below_drewN | apply below_drew1) | exact HB.out))) : w.heap.size ≤ gb1028)); have n3_ := Aside0.mk ((by rw [hg]; exact (below_size (by repeat (first | (with_reducible first | exact HB.out | apply below_alloc | apply pw_below_drewN | apply below_drew1) | exact HB.out))) : w.heap.size ≤ gb1028)); clear HB; have HB := n0_; have BK1028 := n1_; have GW1028 := n2_; have GE1028 := n3_; clear n0_ n1_ n2_ n3_; clear hb hbox hg; have hcz6_0 : w5.cell? ⟨gb1028, 0, none⟩ = some (.int .i64 a0_0) := (blk_cell BK1028.out 0).trans rfl; have hcz6_1 : w5.cell? ⟨gb1028, 1, none⟩ = some (.string a0_1) := (blk_cell BK1028.out 1).trans rfl; have hfz6_0 := blk_frozen BK1028.out 0; have hfz6_1 := blk_frozen BK1028.out 1) | (go_at_call 72; (with_reducible refine (impl_orderOf.calls k a0_0 a0_1 t1029 t1032 _ A3.out).mono ?_); rintro e w7 ⟨v1030, rfl, ho0, hb⟩; have n0_ := Aside0.mk (Kd.R_lower ho0 (below_size (by repeat (first | (with_reducible first | exact HB.out | apply below_alloc | apply pw_below_drewN | apply below_drew1 | refine below_set ?_ GE1028.out) | exact HB.out)))); have n1_ := Aside0.mk (blk_below (g := gb1028) (o := .cells #[.int .i64 a0_0, .string a0_1] 25 (0, 0)) (by (with_reducible repeat (first | refine blk_drewN ?_ _ | refine blk_drew ?_ | refine blk_alloc ?_ _)); exact BK1028.out) hb); have n2_ := Aside0.mk (below_step (by repeat (first | (with_reducible first | exact HB.out | apply below_alloc | apply pw_below_drewN | apply below_drew1 | refine below_set ?_ GE1028.out) | exact HB.out)) hb); clear BK1028; clear HB; have HO1031 := n0_; have BK1028 := n1_; have HB := n2_; clear n0_ n1_ n2_; (try clear hb); (try clear hb2); (try clear hk); (try clear hi); (try clear ho0))); go_upto_region 2 with (first | ((with_reducible refine gate_dst (N := 2) rfl ?_); refine box_event ?hg (N := 2) ?hd (cs := #[.int .i64 a0_0, .string a0_1]) (t := 25) ?hr ?_; (case hd => rfl); (case hg => rfl); (case hr => first | (go_simp; done) | (go_simp; rfl)); intro gb1028 hg w5 hbox hb; have n0_ := Aside0.mk (below_step (by repeat (first | (with_reducible first | exact HB.out | apply below_alloc | apply pw_below_drewN | apply below_drew1) | exact HB.out)) hb); have n1_ := Aside0.mk (hbox); have n2_ := Aside0.mk ((by rw [hg]; exact (below_size (by repeat (first | (with_reducible first | exact HB.out | apply below_alloc | apply pw_below_drewN | apply below_drew1) | exact HB.out))) : w.heap.size ≤ gb1028)); have n3_ := Aside0.mk ((by rw [hg]; exact (below_size (by repeat (first | (with_reducible first | exact HB.out | apply below_alloc | apply pw_below_drewN | apply below_drew1) | exact HB.out))) : w.heap.size ≤ gb1028)); clear HB; have HB := n0_; have BK1028 := n1_; have GW1028 := n2_; have GE1028 := n3_; clear n0_ n1_ n2_ n3_; clear hb hbox hg; have hcz6_0 : w5.cell? ⟨gb1028, 0, none⟩ = some (.int .i64 a0_0) := (blk_cell BK1028.out 0).trans rfl; have hcz6_1 : w5.cell? ⟨gb1028, 1, none⟩ = some (.string a0_1) := (blk_cell BK1028.out 1).trans rfl; have hfz6_0 := blk_frozen BK1028.out 0; have hfz6_1 := blk_frozen BK1028.out 1) | (go_at_call 72; (with_reducible refine (impl_orderOf.calls k a0_0 a0_1 t1029 t1032 _ A3.out).mono ?_); rintro e w7 ⟨v1030, rfl, ho0, hb⟩; have n0_ := Aside0.mk (Kd.R_lower ho0 (below_size (by repeat (first | (with_reducible first | exact HB.out | apply below_alloc | apply pw_below_drewN | apply below_drew1 | refine below_set ?_ GE1028.out) | exact HB.out)))); have n1_ := Aside0.mk (blk_below (g := gb1028) (o := .cells #[.int .i64 a0_0, .string a0_1] 25 (0, 0)) (by (with_reducible repeat (first | refine blk_drewN ?_ _ | refine blk_drew ?_ | refine blk_alloc ?_ _)); exact BK1028.out) hb); have n2_ := Aside0.mk (below_step (by repeat (first | (with_reducible first | exact HB.out | apply below_alloc | apply pw_below_drewN | apply below_drew1 | refine below_set ?_ GE1028.out) | exact HB.out)) hb); clear BK1028; clear HB; have HO1031 := n0_; have BK1028 := n1_; have HB := n2_; clear n0_ n1_ n2_; (try clear hb); (try clear hb2); (try clear hk); (try clear hi); (try clear ho0))))
 (try simp only [Act.put, List.setIfInBounds_toArray, List.set_cons_zero, List.set_cons_succ])
 go_cut [24] (fun v24 wc => ∃ (kq : Nat) (x24_3 : Bool), v24 = .bool x24_3 ∧ Aside0 (impl_TurnsRound.j0 kq a1 t1029 x24_3 = some r) ∧ Aside0 (kq ≤ k) ∧ Aside0 (Kd.R (Kd.int .i64) 93 wc w.heap.size (fun _ => True) v1030 t1029) ∧ Aside0 (wc.heap[gb1028]? = some (.cells #[.int .i64 a0_0, .string a0_1] 25 (0, 0))) ∧ Aside0 (Below w.heap.size w wc))
 case first =>
  have H := HC4.out
  clear HC4
  by_cases c8 : t1032 = true
  ·subst c8
   have H1 : ((impl_isElement.f a0_0 a1).bind fun t1033 => (impl_TurnsRound.j0 k a1 t1029 (!t1033))) = some r := by rw [if_pos rfl] at H; exact H
   clear H
   have H := H1
   clear H1
   replace H := Option.bind_eq_some_iff.mp H
   obtain ⟨t1033, A90, H⟩ := H
   replace H : (impl_TurnsRound.j0 k a1 t1029 (!t1033)) = some r := H
   have A9 := Aside0.mk A90
   clear A90
   have H' := Aside0.mk H
   clear H
   have hcz10_0 : w7.cell? ⟨gb1028, 0, none⟩ = some (.int .i64 a0_0) := (blk_cell BK1028.out 0).trans rfl
   have hcz10_1 : w7.cell? ⟨gb1028, 1, none⟩ = some (.string a0_1) := (blk_cell BK1028.out 1).trans rfl
   have hfz10_0 := blk_frozen BK1028.out 0
   have hfz10_1 := blk_frozen BK1028.out 1
   go_wp2_with (first | (go_at_call 79; (with_reducible refine (impl_isElement.calls a0_0 a1 t1033 _ A9.out).mono ?_); rintro e w' ⟨rfl, ⟨nd, rfl⟩⟩; (try first | exact ⟨rfl, _, World.drewN_drewN _ _ _⟩ | exact ⟨rfl, _, Eq.trans (World.drewN_drewN _ _ _) (congrArg (World.drewN _) (Nat.add_assoc _ _ _))⟩)))
   repeat (go_quiet (first | (go_at_call 79; (with_reducible refine (impl_isElement.calls a0_0 a1 t1033 _ A9.out).mono ?_); rintro e w' ⟨rfl, ⟨nd, rfl⟩⟩; (try first | exact ⟨rfl, _, World.drewN_drewN _ _ _⟩ | exact ⟨rfl, _, Eq.trans (World.drewN_drewN _ _ _) (congrArg (World.drewN _) (Nat.add_assoc _ _ _))⟩))); try go_wp2_with (first | (go_at_call 79; (with_reducible refine (impl_isElement.calls a0_0 a1 t1033 _ A9.out).mono ?_); rintro e w' ⟨rfl, ⟨nd, rfl⟩⟩; (try first | exact ⟨rfl, _, World.drewN_drewN _ _ _⟩ | exact ⟨rfl, _, Eq.trans (World.drewN_drewN _ _ _) (congrArg (World.drewN _) (Nat.add_assoc _ _ _))⟩))))
   go_meet
   case rel => exact ⟨_, (!t1033), (by first | rfl | (simp; done) | (simp [*]; done)), H', ⟨by first | omega | exact Nat.le_refl _⟩, ⟨by (with_reducible repeat (first | apply Kd.R_alloc | apply Kd.R_drewN | apply Kd.R_drew)); exact HO1031.out⟩, ⟨by (with_reducible repeat (first | refine blk_drewN ?_ _ | refine blk_drew ?_ | refine blk_alloc ?_ _)); exact BK1028.out⟩, ⟨by repeat (first | (with_reducible first | exact HB.out | apply below_alloc | apply pw_below_drewN | apply below_drew1 | refine below_set ?_ GE1028.out) | exact HB.out)⟩⟩
  ·replace c8 := Bool.eq_false_iff.mpr c8
   subst c8
   have H1 : (impl_TurnsRound.j0 k a1 t1029 true) = some r := by rw [if_neg (show ¬ (false = true) by decide)] at H; exact H
   clear H
   have H := H1
   clear H1
   have H' := Aside0.mk H
   clear H
   go_wp2
   repeat (go_quiet (fail); try go_wp2)
   go_meet
   case rel => exact ⟨_, (true), (by first | rfl | (simp; done) | (simp [*]; done)), H', ⟨by first | omega | exact Nat.le_refl _⟩, ⟨by (with_reducible repeat (first | apply Kd.R_alloc | apply Kd.R_drewN | apply Kd.R_drew)); exact HO1031.out⟩, ⟨by (with_reducible repeat (first | refine blk_drewN ?_ _ | refine blk_drew ?_ | refine blk_alloc ?_ _)); exact BK1028.out⟩, ⟨by repeat (first | (with_reducible first | exact HB.out | apply below_alloc | apply pw_below_drewN | apply below_drew1 | refine below_set ?_ GE1028.out) | exact HB.out)⟩⟩
 case rest =>
  clear HC4
  try clear p2
  try clear c4
  try clear c8
  try clear hcz10_0
  try clear hcz10_1
  try clear hcz6_0
  try clear hcz6_1
  try clear hfz10_0
  try clear hfz10_1
  try clear hfz6_0
  try clear hfz6_1
  obtain ⟨kq, x24_3, rfl, HA, HJ3, HO_5, BK1028, HB⟩ := hcut
  cases kq with
  | zero => exact absurd HA.out (by simp [impl_TurnsRound.j0])
  | succ kj3 =>
   have H := HA.out
   clear HA
   simp only [impl_TurnsRound.j0] at H
   by_cases c11 : x24_3 = true
   ·subst c11
    have H1 : (some (-1)) = some r := by rw [if_pos rfl] at H; exact H
    clear H
    have H := H1
    clear H1
    obtain rfl := Option.some.inj H
    go_wp2
    repeat (go_quiet (fail); try go_wp2)
    go_ret
    exact ⟨by first | rfl | (simp [errW_none, errW_some] <;> rfl) | (simp [*, errW_none, errW_some] <;> rfl), by repeat (first | (with_reducible first | exact HB.out | apply below_alloc | apply pw_below_drewN | apply below_drew1 | refine below_set ?_ GE1028.out) | exact HB.out)⟩
   ·replace c11 := Bool.eq_false_iff.mpr c11
    subst c11
    have H1 : ((impl_chi_round.f kj3 t1029 a1).bind fun t1034 => (impl_TurnsRound.l0 kj3 a1 t1029 t1034 0 t1034 (t1034.length : Int) 0)) = some r := by rw [if_neg (show ¬ (false = true) by decide)] at H; exact H
    clear H
    have H := H1
    clear H1
    replace H := Option.bind_eq_some_iff.mp H
    obtain ⟨t1034, A120, H⟩ := H
    replace H : (impl_TurnsRound.l0 kj3 a1 t1029 t1034 0 t1034 (t1034.length : Int) 0) = some r := H
    have A12 := Aside0.mk A120
    clear A120
    have H' := Aside0.mk H
    clear H
    obtain ⟨Ao13, co13, eo13⟩ := Kd.R_slice HO_5.out
    subst eo13
    go_wp2_with (first | (go_at_call 80; (refine (impl_chi_round.calls kj3 _ co13 t1029 a1 t1034 _ ?side1 ?side2 A12.out).mono ?_); (case side1 => repeat (first | exact (Kd.R_reads' HO_5.out).2.2 | (with_reducible refine Kd.C_alloc ?_ _) | (with_reducible refine Kd.C_drewN ?_ _) | (with_reducible refine Kd.C_drew ?_))); (case side2 => exact (Kd.R_reads' HO_5.out).2.1); rintro e w14 ⟨v1035, rfl, ho0, hb⟩; have n0_ := Aside0.mk (Kd.R_below (by (with_reducible repeat (first | apply Kd.R_alloc | apply Kd.R_drewN | apply Kd.R_drew)); exact HO_5.out) hb); have n1_ := Aside0.mk (Kd.R_lower ho0 (below_size (by repeat (first | (with_reducible first | exact HB.out | apply below_alloc | apply pw_below_drewN | apply below_drew1 | refine below_set ?_ GE1028.out) | exact HB.out)))); have n2_ := Aside0.mk (blk_below (g := gb1028) (o := .cells #[.int .i64 a0_0, .string a0_1] 25 (0, 0)) (by (with_reducible repeat (first | refine blk_drewN ?_ _ | refine blk_drew ?_ | refine blk_alloc ?_ _)); exact BK1028.out) hb); have n3_ := Aside0.mk (below_step (by repeat (first | (with_reducible first | exact HB.out | apply below_alloc | apply pw_below_drewN | apply below_drew1 | refine below_set ?_ GE1028.out) | exact HB.out)) hb); clear HO_5; clear BK1028; clear HB; have HO_5 := n0_; have HO1036 := n1_; have BK1028 := n2_; have HB := n3_; clear n0_ n1_ n2_ n3_; (try clear hb); (try clear hb2); (try clear hk); (try clear hi); (try clear ho0); obtain ⟨Ao15, co15, eo15⟩ := Kd.R_slice HO1036.out; subst eo15))
    repeat (go_quiet (first | (go_at_call 80; (refine (impl_chi_round.calls kj3 _ co13 t1029 a1 t1034 _ ?side1 ?side2 A12.out).mono ?_); (case side1 => repeat (first | exact (Kd.R_reads' HO_5.out).2.2 | (with_reducible refine Kd.C_alloc ?_ _) | (with_reducible refine Kd.C_drewN ?_ _) | (with_reducible refine Kd.C_drew ?_))); (case side2 => exact (Kd.R_reads' HO_5.out).2.1); rintro e w14 ⟨v1035, rfl, ho0, hb⟩; have n0_ := Aside0.mk (Kd.R_below (by (with_reducible repeat (first | apply Kd.R_alloc | apply Kd.R_drewN | apply Kd.R_drew)); exact HO_5.out) hb); have n1_ := Aside0.mk (Kd.R_lower ho0 (below_size (by repeat (first | (with_reducible first | exact HB.out | apply below_alloc | apply pw_below_drewN | apply below_drew1 | refine below_set ?_ GE1028.out) | exact HB.out)))); have n2_ := Aside0.mk (blk_below (g := gb1028) (o := .cells #[.int .i64 a0_0, .string a0_1] 25 (0, 0)) (by (with_reducible repeat (first | refine blk_drewN ?_ _ | refine blk_drew ?_ | refine blk_alloc ?_ _)); exact BK1028.out) hb); have n3_ := Aside0.mk (below_step (by repeat (first | (with_reducible first | exact HB.out | apply below_alloc | apply pw_below_drewN | apply below_drew1 | refine below_set ?_ GE1028.out) | exact HB.out)) hb); clear HO_5; clear BK1028; clear HB; have HO_5 := n0_; have HO1036 := n1_; have BK1028 := n2_; have HB := n3_; clear n0_ n1_ n2_ n3_; (try clear hb); (try clear hb2); (try clear hk); (try clear hi); (try clear ho0); obtain ⟨Ao15, co15, eo15⟩ := Kd.R_slice HO1036.out; subst eo15)); try go_wp2_with (first | (go_at_call 80; (refine (impl_chi_round.calls kj3 _ co13 t1029 a1 t1034 _ ?side1 ?side2 A12.out).mono ?_); (case side1 => repeat (first | exact (Kd.R_reads' HO_5.out).2.2 | (with_reducible refine Kd.C_alloc ?_ _) | (with_reducible refine Kd.C_drewN ?_ _) | (with_reducible refine Kd.C_drew ?_))); (case side2 => exact (Kd.R_reads' HO_5.out).2.1); rintro e w14 ⟨v1035, rfl, ho0, hb⟩; have n0_ := Aside0.mk (Kd.R_below (by (with_reducible repeat (first | apply Kd.R_alloc | apply Kd.R_drewN | apply Kd.R_drew)); exact HO_5.out) hb); have n1_ := Aside0.mk (Kd.R_lower ho0 (below_size (by repeat (first | (with_reducible first | exact HB.out | apply below_alloc | apply pw_below_drewN | apply below_drew1 | refine below_set ?_ GE1028.out) | exact HB.out)))); have n2_ := Aside0.mk (blk_below (g := gb1028) (o := .cells #[.int .i64 a0_0, .string a0_1] 25 (0, 0)) (by (with_reducible repeat (first | refine blk_drewN ?_ _ | refine blk_drew ?_ | refine blk_alloc ?_ _)); exact BK1028.out) hb); have n3_ := Aside0.mk (below_step (by repeat (first | (with_reducible first | exact HB.out | apply below_alloc | apply pw_below_drewN | apply below_drew1 | refine below_set ?_ GE1028.out) | exact HB.out)) hb); clear HO_5; clear BK1028; clear HB; have HO_5 := n0_; have HO1036 := n1_; have BK1028 := n2_; have HB := n3_; clear n0_ n1_ n2_ n3_; (try clear hb); (try clear hb2); (try clear hk); (try clear hi); (try clear ho0); obtain ⟨Ao15, co15, eo15⟩ := Kd.R_slice HO1036.out; subst eo15)))
    go_loopg [8, 30] kj3 (fun kq v8 v30 w' => ∃ (x8_2 : Int) (x30_2 : Int), v8 = .int .i64 x8_2 ∧ v30 = .int .i64 x30_2 ∧ Aside0 (impl_TurnsRound.l0 kq a1 t1029 t1034 x8_2 t1034 (t1034.length : Int) x30_2 = some r) ∧ Aside0 (kq ≤ kj3) ∧ Aside0 (Kd.R (Kd.int .i64) 93 w' w.heap.size (fun _ => True) (.slice Ao13 t1029.length co13) t1029) ∧ Aside0 (Kd.R (Kd.int .i64) 3 w' w.heap.size (fun _ => True) (.slice Ao15 t1034.length co15) t1034) ∧ Aside0 (Kd.R (Kd.int .i64) 3 w' w.heap.size (fun _ => True) (.slice Ao15 t1034.length co15) t1034) ∧ Aside0 (w'.heap[gb1028]? = some (.cells #[.int .i64 a0_0, .string a0_1] 25 (0, 0))) ∧ Aside0 (Below w.heap.size w w'))
    case atStart => exact ⟨(0), (0), (by first | rfl | (simp; done) | (simp [*]; done)), (by first | rfl | (simp; done) | (simp [*]; done)), H', ⟨Nat.le_refl _⟩, ⟨by (with_reducible repeat (first | apply Kd.R_alloc | apply Kd.R_drewN | apply Kd.R_drew)); exact HO_5.out⟩, ⟨by (with_reducible repeat (first | apply Kd.R_alloc | apply Kd.R_drewN | apply Kd.R_drew)); exact HO1036.out⟩, ⟨by (with_reducible repeat (first | apply Kd.R_alloc | apply Kd.R_drewN | apply Kd.R_drew)); exact HO1036.out⟩, ⟨by (with_reducible repeat (first | refine blk_drewN ?_ _ | refine blk_drew ?_ | refine blk_alloc ?_ _)); exact BK1028.out⟩, ⟨by repeat (first | (with_reducible first | exact HB.out | apply below_alloc | apply pw_below_drewN | apply below_drew1 | refine below_set ?_ GE1028.out) | exact HB.out)⟩⟩
    case round =>
     clear H'
     try clear c1
     try clear p2
     try clear c4
     try clear c8
     try clear c11
     try clear hcz10_0
     try clear hcz10_1
     try clear hcz6_0
     try clear hcz6_1
     try clear hfz10_0
     try clear hfz10_1
     try clear hfz6_0
     try clear hfz6_1
     try clear p2
     obtain ⟨x8_2, x30_2, rfl, rfl, HA, HK2, HO_5, HO_7, HO_28, BK1028, HB⟩ := hrel
     cases gk with
     | zero => exact absurd HA.out (by simp [impl_TurnsRound.l0])
     | succ k2 =>
      have H := HA.out
      clear HA
      simp only [impl_TurnsRound.l0] at H
      by_cases c16 : x30_2 < (t1034.length : Int)
      ·rw [if_pos c16] at H
       have c16b0 : decide (x30_2 < (t1034.length : Int)) = true := decide_eq_true c16
       clear c16
       by_cases c17 : 0 ≤ x30_2
       ·rw [if_pos c17] at H
        have c17b0 : decide (0 ≤ x30_2) = true := decide_eq_true c17
        clear c17
        by_cases c18 : x30_2 < (t1034.length : Int)
        ·rw [if_pos c18] at H
         have c18b0 : decide (x30_2 < (t1034.length : Int)) = true := decide_eq_true c18
         clear c18
         by_cases c19 : (t1034.length : Int) = 0
         ·rw [if_pos c19] at H
          exact absurd H (by simp)
         ·rw [if_neg c19] at H
          have c19b0 : ((t1034.length : Int) == 0) = false := beq_eq_false_iff_ne.mpr c19
          have c19b1 : ((t1034.length : Int) != 0) = true := bne_iff_ne.mpr c19
          have c19b2 : ¬ (t1034 = []) := fun h_ => c19 (by rw [h_]; rfl)
          obtain ⟨ji20, hji20⟩ : ∃ j_ : Int, (Int.tmod (wrap64 (x30_2 + 1)) (t1034.length : Int)) = j_ := ⟨_, rfl⟩
          replace H : (if 0 ≤ (ji20) then (if (ji20) < (t1034.length : Int) then (if 344 ≤ (t1029.length : Int) then (if 0 ≤ a1 then (if a1 < 7 then (if 0 ≤ (rd t1034 x30_2) then (if (rd t1034 x30_2) < 7 then (if 0 ≤ (rd t1034 (ji20)) then (if (rd t1034 (ji20)) < 7 then (if (chiA t1029 a1 (rd t1034 x30_2) (rd t1034 (ji20))) < 0 then (impl_TurnsRound.l0 k2 a1 t1029 t1034 (wrap64 (x8_2 + 1)) t1034 (t1034.length : Int) (wrap64 (x30_2 + 1))) else (impl_TurnsRound.l0 k2 a1 t1029 t1034 x8_2 t1034 (t1034.length : Int) (wrap64 (x30_2 + 1)))) else (none)) else (none)) else (none)) else (none)) else (none)) else (none)) else (none)) else (none)) else (none)) = some r := by first | (rw [hji20] at H; exact H) | (simp only [hji20] at H ⊢; exact H)
          by_cases c21 : 0 ≤ (ji20)
          ·rw [if_pos c21] at H
           have c21b0 : decide (0 ≤ (ji20)) = true := decide_eq_true c21
           clear c21
           by_cases c22 : (ji20) < (t1034.length : Int)
           ·rw [if_pos c22] at H
            have c22b0 : decide ((ji20) < (t1034.length : Int)) = true := decide_eq_true c22
            clear c22
            by_cases c23 : 344 ≤ (t1029.length : Int)
            ·rw [if_pos c23] at H
             have c23b0 := eq_true c23
             have c23b1 : decide (344 ≤ (t1029.length : Int)) = true := decide_eq_true c23
             clear c23
             by_cases c24 : 0 ≤ a1
             ·rw [if_pos c24] at H
              have c24b0 : decide (0 ≤ a1) = true := decide_eq_true c24
              clear c24
              by_cases c25 : a1 < 7
              ·rw [if_pos c25] at H
               have c25b0 : decide (a1 < 7) = true := decide_eq_true c25
               clear c25
               by_cases c26 : 0 ≤ (rd t1034 x30_2)
               ·rw [if_pos c26] at H
                have c26b0 : decide (0 ≤ (rd t1034 x30_2)) = true := decide_eq_true c26
                clear c26
                by_cases c27 : (rd t1034 x30_2) < 7
                ·rw [if_pos c27] at H
                 have c27b0 : decide ((rd t1034 x30_2) < 7) = true := decide_eq_true c27
                 clear c27
                 by_cases c28 : 0 ≤ (rd t1034 (ji20))
                 ·rw [if_pos c28] at H
                  have c28b0 : decide (0 ≤ (rd t1034 (ji20))) = true := decide_eq_true c28
                  clear c28
                  by_cases c29 : (rd t1034 (ji20)) < 7
                  ·rw [if_pos c29] at H
                   have c29b0 : decide ((rd t1034 (ji20)) < 7) = true := decide_eq_true c29
                   clear c29
                   by_cases c30 : (chiA t1029 a1 (rd t1034 x30_2) (rd t1034 (ji20))) < 0
                   ·rw [if_pos c30] at H
                    have c30b0 : decide ((chiA t1029 a1 (rd t1034 x30_2) (rd t1034 (ji20))) < 0) = true := decide_eq_true c30
                    clear c30
                    have H' := Aside0.mk H
                    clear H
                    have p1037 : 0 ≤ (x30_2 : Int) := of_decide_eq_true (by first | (with_reducible assumption) | assumption)
                    have q1037 : x30_2 < (t1034.length : Int) := of_decide_eq_true (by first | (with_reducible assumption) | assumption)
                    obtain ⟨ad1037, e1037, hx1037_0⟩ := Kd.at_int (Kd.R_reads' HO_28.out).2.2 x30_2 p1037 q1037
                    cases e1037
                    replace p1037 := eq_true p1037
                    replace q1037 := eq_true q1037
                    have p1038 : 0 ≤ ((ji20) : Int) := of_decide_eq_true (by first | (with_reducible assumption) | assumption)
                    have q1038 : (ji20) < (t1034.length : Int) := of_decide_eq_true (by first | (with_reducible assumption) | assumption)
                    obtain ⟨ad1038, e1038, hx1038_0⟩ := Kd.at_int (Kd.R_reads' HO_7.out).2.2 (ji20) p1038 q1038
                    obtain rfl : ad1037 = ad1038 := (by injection e1038)
                    replace p1038 := eq_true p1038
                    replace q1038 := eq_true q1038
                    have q1039 : 344 ≤ (t1029.length : Int) := of_decide_eq_true (by first | (with_reducible assumption) | assumption)
                    have p1039_0a : 0 ≤ (a1 : Int) := of_decide_eq_true (by first | (with_reducible assumption) | assumption)
                    have p1039_0b : (a1 : Int) < 7 := of_decide_eq_true (by first | (with_reducible assumption) | assumption)
                    have p1039_1a : 0 ≤ ((rd t1034 x30_2) : Int) := of_decide_eq_true (by first | (with_reducible assumption) | assumption)
                    have p1039_1b : ((rd t1034 x30_2) : Int) < 7 := of_decide_eq_true (by first | (with_reducible assumption) | assumption)
                    have p1039_2a : 0 ≤ ((rd t1034 (ji20)) : Int) := of_decide_eq_true (by first | (with_reducible assumption) | assumption)
                    have p1039_2b : ((rd t1034 (ji20)) : Int) < 7 := of_decide_eq_true (by first | (with_reducible assumption) | assumption)
                    obtain ⟨ad1039, e1039, hx1039_0⟩ := chi_at (Kd.R_reads' HO_5.out).2.2 q1039 p1039_0a p1039_0b p1039_1a p1039_1b p1039_2a p1039_2b
                    cases e1039
                    replace p1039_0a := eq_true p1039_0a
                    replace p1039_0b := eq_true p1039_0b
                    replace p1039_1a := eq_true p1039_1a
                    replace p1039_1b := eq_true p1039_1b
                    replace p1039_2a := eq_true p1039_2a
                    replace p1039_2b := eq_true p1039_2b
                    go_wp2
                    repeat (go_quiet (fail); try go_wp2)
                    go_roundg k2
                    case measure => have := HJ3.out; have := HK2.out; omega
                    case rel => exact ⟨(wrap64 (x8_2 + 1)), (wrap64 (x30_2 + 1)), (by first | rfl | (simp; done) | (simp [*]; done)), (by first | rfl | (simp; done) | (simp [*]; done)), H', ⟨by have := HJ3.out; have := HK2.out; omega⟩, ⟨by (with_reducible repeat (first | apply Kd.R_alloc | apply Kd.R_drewN | apply Kd.R_drew)); exact HO_5.out⟩, ⟨by (with_reducible repeat (first | apply Kd.R_alloc | apply Kd.R_drewN | apply Kd.R_drew)); exact HO_7.out⟩, ⟨by (with_reducible repeat (first | apply Kd.R_alloc | apply Kd.R_drewN | apply Kd.R_drew)); exact HO_28.out⟩, ⟨by (with_reducible repeat (first | refine blk_drewN ?_ _ | refine blk_drew ?_ | refine blk_alloc ?_ _)); exact BK1028.out⟩, ⟨by repeat (first | (with_reducible first | exact HB.out | apply below_alloc | apply pw_below_drewN | apply below_drew1 | refine below_set ?_ GE1028.out) | exact HB.out)⟩⟩
                   ·rw [if_neg c30] at H
                    have c30b0 : decide ((chiA t1029 a1 (rd t1034 x30_2) (rd t1034 (ji20))) < 0) = false := decide_eq_false c30
                    clear c30
                    have H' := Aside0.mk H
                    clear H
                    have p1037 : 0 ≤ (x30_2 : Int) := of_decide_eq_true (by first | (with_reducible assumption) | assumption)
                    have q1037 : x30_2 < (t1034.length : Int) := of_decide_eq_true (by first | (with_reducible assumption) | assumption)
                    obtain ⟨ad1037, e1037, hx1037_0⟩ := Kd.at_int (Kd.R_reads' HO_28.out).2.2 x30_2 p1037 q1037
                    cases e1037
                    replace p1037 := eq_true p1037
                    replace q1037 := eq_true q1037
                    have p1038 : 0 ≤ ((ji20) : Int) := of_decide_eq_true (by first | (with_reducible assumption) | assumption)
                    have q1038 : (ji20) < (t1034.length : Int) := of_decide_eq_true (by first | (with_reducible assumption) | assumption)
                    obtain ⟨ad1038, e1038, hx1038_0⟩ := Kd.at_int (Kd.R_reads' HO_7.out).2.2 (ji20) p1038 q1038
                    obtain rfl : ad1037 = ad1038 := (by injection e1038)
                    replace p1038 := eq_true p1038
                    replace q1038 := eq_true q1038
                    have q1039 : 344 ≤ (t1029.length : Int) := of_decide_eq_true (by first | (with_reducible assumption) | assumption)
                    have p1039_0a : 0 ≤ (a1 : Int) := of_decide_eq_true (by first | (with_reducible assumption) | assumption)
                    have p1039_0b : (a1 : Int) < 7 := of_decide_eq_true (by first | (with_reducible assumption) | assumption)
                    have p1039_1a : 0 ≤ ((rd t1034 x30_2) : Int) := of_decide_eq_true (by first | (with_reducible assumption) | assumption)
                    have p1039_1b : ((rd t1034 x30_2) : Int) < 7 := of_decide_eq_true (by first | (with_reducible assumption) | assumption)
                    have p1039_2a : 0 ≤ ((rd t1034 (ji20)) : Int) := of_decide_eq_true (by first | (with_reducible assumption) | assumption)
                    have p1039_2b : ((rd t1034 (ji20)) : Int) < 7 := of_decide_eq_true (by first | (with_reducible assumption) | assumption)
                    obtain ⟨ad1039, e1039, hx1039_0⟩ := chi_at (Kd.R_reads' HO_5.out).2.2 q1039 p1039_0a p1039_0b p1039_1a p1039_1b p1039_2a p1039_2b
                    cases e1039
                    replace p1039_0a := eq_true p1039_0a
                    replace p1039_0b := eq_true p1039_0b
                    replace p1039_1a := eq_true p1039_1a
                    replace p1039_1b := eq_true p1039_1b
                    replace p1039_2a := eq_true p1039_2a
                    replace p1039_2b := eq_true p1039_2b
                    go_wp2
                    repeat (go_quiet (fail); try go_wp2)
                    go_roundg k2
                    case measure => have := HJ3.out; have := HK2.out; omega
                    case rel => exact ⟨(x8_2), (wrap64 (x30_2 + 1)), (by first | rfl | (simp; done) | (simp [*]; done)), (by first | rfl | (simp; done) | (simp [*]; done)), H', ⟨by have := HJ3.out; have := HK2.out; omega⟩, ⟨by (with_reducible repeat (first | apply Kd.R_alloc | apply Kd.R_drewN | apply Kd.R_drew)); exact HO_5.out⟩, ⟨by (with_reducible repeat (first | apply Kd.R_alloc | apply Kd.R_drewN | apply Kd.R_drew)); exact HO_7.out⟩, ⟨by (with_reducible repeat (first | apply Kd.R_alloc | apply Kd.R_drewN | apply Kd.R_drew)); exact HO_28.out⟩, ⟨by (with_reducible repeat (first | refine blk_drewN ?_ _ | refine blk_drew ?_ | refine blk_alloc ?_ _)); exact BK1028.out⟩, ⟨by repeat (first | (with_reducible first | exact HB.out | apply below_alloc | apply pw_below_drewN | apply below_drew1 | refine below_set ?_ GE1028.out) | exact HB.out)⟩⟩
                  ·rw [if_neg c29] at H
                   exact absurd H (by simp)
                 ·rw [if_neg c28] at H
                  exact absurd H (by simp)
                ·rw [if_neg c27] at H
                 exact absurd H (by simp)
               ·rw [if_neg c26] at H
                exact absurd H (by simp)
              ·rw [if_neg c25] at H
               exact absurd H (by simp)
             ·rw [if_neg c24] at H
              exact absurd H (by simp)
            ·rw [if_neg c23] at H
             exact absurd H (by simp)
           ·rw [if_neg c22] at H
            exact absurd H (by simp)
          ·rw [if_neg c21] at H
           exact absurd H (by simp)
        ·rw [if_neg c18] at H
         exact absurd H (by simp)
       ·rw [if_neg c17] at H
        exact absurd H (by simp)
      ·rw [if_neg c16] at H
       have c16b0 : decide (x30_2 < (t1034.length : Int)) = false := decide_eq_false c16
       clear c16
       obtain rfl := Option.some.inj H
       go_wp2
       repeat (go_quiet (fail); try go_wp2)
       go_ret
       exact ⟨by first | rfl | (simp [errW_none, errW_some] <;> rfl) | (simp [*, errW_none, errW_some] <;> rfl), by repeat (first | (with_reducible first | exact HB.out | apply below_alloc | apply pw_below_drewN | apply below_drew1 | refine below_set ?_ GE1028.out) | exact HB.out)⟩
end Go.Proofs.Yteblnjoljbdjjaa.P
