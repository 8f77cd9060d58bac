/- What the law FnExactParallelClasses reaches, part 4: functions as plain Lean functions with the proofs that their calls come to them, and plain lemmas over these. Put together by a program (wip/pack.py). -/
import Derived.Test.YteblnjoljbdjjaaKFnExactParallelClassesa
import Derived.Test.YteblnjoljbdjjaaKFnExactParallelClassesc
import Derived.Sort.Grow
import Derived.Shelf.SortM.Plain
import Derived.Shelf.SortM.SortNone
namespace Go.Proofs.Yteblnjoljbdjjaa.P
open Go.RowKit Go.Proofs.YteblnjoljbdjjaaW.PrintWords Go.Proofs.YteblnjoljbdjjaaW.PrintLast Go.Proofs.YteblnjoljbdjjaaW.PrintMore
attribute [local go_sem] ptrOf_slice
attribute [local go_sem] max2_int min2_int max_two min_two max_three min_three max_four min_four
set_option linter.unusedVariables false
set_option linter.unusedSimpArgs false
def slices_IndexFunc_Simpl_Line_impl_Line_impl_ParallelClasses_1.l0 : Nat → List (S104) → Int → Int → Int → Int → Int → Option (Int)
 | 0, _, _, _, _, _, _ => none
 | k + 1, x0, x7, x8, x2000, x2001, x2002 => if x8 < x7 then (if 0 ≤ x8 then (if x8 < (x0.length : Int) then ((impl_ParallelClasses_1.f ((rd_T104 x0 x8).f0) ((rd_T104 x0 x8).f1) ((rd_T104 x0 x8).f2) x2000 x2001 x2002).bind fun t1555 => (if t1555 = true then (some x8) else (slices_IndexFunc_Simpl_Line_impl_Line_impl_ParallelClasses_1.l0 k x0 x7 (wrap64 (x8 + 1)) x2000 x2001 x2002))) else (none)) else (none)) else (some (-1))
def slices_IndexFunc_Simpl_Line_impl_Line_impl_ParallelClasses_1.f (k : Nat) (l0 : List (S104)) (s1_0 : Int) (s1_1 : Int) (s1_2 : Int) : Option (Int) := slices_IndexFunc_Simpl_Line_impl_Line_impl_ParallelClasses_1.l0 k l0 (l0.length : Int) 0 s1_0 s1_1 s1_2
set_option maxHeartbeats 8000000 in
set_option maxRecDepth 100000 in
theorem slices_IndexFunc_Simpl_Line_impl_Line_impl_ParallelClasses_1.calls (k : Nat) (A0 : Option Addr) (c0 : Nat) (l0 : List (S104)) (gb1 : Nat) (s1_0 : Int) (s1_1 : Int) (s1_2 : Int) (r : Int) (w : World) (hr0 : Kd.C k104 w A0 l0.length l0) (hc0 : l0.length ≤ c0) (hb1_ : w.heap[gb1]? = some (.cells #[.int .i64 s1_0, .int .i64 s1_1, .int .i64 s1_2] 104 (0, 0))) (h : slices_IndexFunc_Simpl_Line_impl_Line_impl_ParallelClasses_1.f k l0 s1_0 s1_1 s1_2 = some r) :
  Calls Try.prog 141 #[.slice A0 l0.length c0, .func (.func 102) #[] #[.pointer (some ⟨gb1, 0, none⟩)]] w fun e w' => e = .returned (.int .i64 r) ∧ Below w.heap.size w w' := by
 have hu104 := Try.underlying104
 have HR0 := Aside0.mk hr0
 have HC0 := Aside0.mk hc0
 clear hr0 hc0
 have BK1 := Aside0.mk hb1_
 clear hb1_
 have HB := Aside0.mk (Below.refl w.heap.size w)
 have H : (slices_IndexFunc_Simpl_Line_impl_Line_impl_ParallelClasses_1.l0 k l0 (l0.length : Int) 0 s1_0 s1_1 s1_2) = some r := h
 clear h
 have H' := Aside0.mk H
 clear H
 go_enter Try.func141, Try.ntmps141
 go_wp2
 go_loopg [8] k (fun kq v8 w' => ∃ (x8_1 : Int), v8 = .int .i64 x8_1 ∧ Aside0 (slices_IndexFunc_Simpl_Line_impl_Line_impl_ParallelClasses_1.l0 kq l0 (l0.length : Int) x8_1 s1_0 s1_1 s1_2 = some r) ∧ Aside0 (kq ≤ k) ∧ Aside0 (w'.heap[gb1]? = some (.cells #[.int .i64 s1_0, .int .i64 s1_1, .int .i64 s1_2] 104 (0, 0))) ∧ Aside0 (Below w.heap.size w w'))
 case atStart => exact ⟨(0), (by first | rfl | (simp; done) | (simp [*]; done)), H', ⟨Nat.le_refl _⟩, ⟨by (with_reducible repeat (first | refine blk_drewN ?_ _ | refine blk_drew ?_ | refine blk_alloc ?_ _)); exact BK1.out⟩, ⟨by repeat (first | (with_reducible first | exact HB.out | apply below_alloc | apply pw_below_drewN | apply below_drew1 | refine below_set ?_ GE1.out) | exact HB.out)⟩⟩
 case round =>
  clear H'
  try clear p2
  obtain ⟨x8_1, rfl, HA, HK1, BK1, HB⟩ := hrel
  cases gk with
  | zero => exact absurd HA.out (by simp [slices_IndexFunc_Simpl_Line_impl_Line_impl_ParallelClasses_1.l0])
  | succ k1 =>
   have H := HA.out
   clear HA
   simp only [slices_IndexFunc_Simpl_Line_impl_Line_impl_ParallelClasses_1.l0] at H
   by_cases c3 : x8_1 < (l0.length : Int)
   ·rw [if_pos c3] at H
    have c3b0 : decide (x8_1 < (l0.length : Int)) = true := decide_eq_true c3
    clear c3
    by_cases c4 : 0 ≤ x8_1
    ·rw [if_pos c4] at H
     have c4b0 : decide (0 ≤ x8_1) = true := decide_eq_true c4
     clear c4
     by_cases c5 : x8_1 < (l0.length : Int)
     ·rw [if_pos c5] at H
      have c5b0 : decide (x8_1 < (l0.length : Int)) = true := decide_eq_true c5
      clear c5
      replace H := Option.bind_eq_some_iff.mp H
      obtain ⟨t1555, A60, H⟩ := H
      replace H : (if t1555 = true then (some x8_1) else (slices_IndexFunc_Simpl_Line_impl_Line_impl_ParallelClasses_1.l0 k1 l0 (l0.length : Int) (wrap64 (x8_1 + 1)) s1_0 s1_1 s1_2)) = some r := H
      have A6 := Aside0.mk A60
      clear A60
      by_cases c7 : t1555 = true
      ·subst c7
       have H1 : (some x8_1) = some r := by rw [if_pos rfl] at H; exact H
       clear H
       have H := H1
       clear H1
       obtain rfl := Option.some.inj H
       have p1554 : 0 ≤ (x8_1 : Int) := of_decide_eq_true (by first | (with_reducible assumption) | assumption)
       have q1554 : x8_1 < (l0.length : Int) := of_decide_eq_true (by first | (with_reducible assumption) | assumption)
       obtain ⟨ad1554, e1554, hx1554_0, hx1554_1, hx1554_2⟩ := at_T104 HR0.out x8_1 p1554 q1554
       cases e1554
       replace hx1554_0 := (HB.out.cell (World.block_lt_of_cell? w _ hx1554_0)).trans hx1554_0
       replace hx1554_1 := (HB.out.cell (World.block_lt_of_cell? w _ hx1554_1)).trans hx1554_1
       replace hx1554_2 := (HB.out.cell (World.block_lt_of_cell? w _ hx1554_2)).trans hx1554_2
       replace p1554 := eq_true p1554
       replace q1554 := eq_true q1554
       go_wp2_with (first | (go_at_call 102; (with_reducible refine (impl_ParallelClasses_1.calls ((rd_T104 l0 x8_1).f0) ((rd_T104 l0 x8_1).f1) ((rd_T104 l0 x8_1).f2) gb1 s1_0 s1_1 s1_2 true _ ?side1 A6.out).mono ?_); (case side1 => exact (by (with_reducible repeat (first | refine blk_drewN ?_ _ | refine blk_drew ?_ | refine blk_alloc ?_ _)); exact BK1.out)); rintro e w8 ⟨rfl, hb⟩; have n0_ := Aside0.mk (blk_below (g := gb1) (o := .cells #[.int .i64 s1_0, .int .i64 s1_1, .int .i64 s1_2] 104 (0, 0)) (by (with_reducible repeat (first | refine blk_drewN ?_ _ | refine blk_drew ?_ | refine blk_alloc ?_ _)); exact BK1.out) hb); have n1_ := Aside0.mk (below_step (by repeat (first | (with_reducible first | exact HB.out | apply below_alloc | apply pw_below_drewN | apply below_drew1 | refine below_set ?_ GE1.out) | exact HB.out)) hb); clear BK1; clear HB; have BK1 := n0_; have HB := n1_; clear n0_ n1_; (try clear hb); (try clear hb2); (try clear hk); (try clear hi)))
       go_ret
       exact ⟨by first | rfl | (simp [errW_none, errW_some] <;> rfl) | (simp [*, errW_none, errW_some] <;> rfl), by repeat (first | (with_reducible first | exact HB.out | apply below_alloc | apply pw_below_drewN | apply below_drew1 | refine below_set ?_ GE1.out) | exact HB.out)⟩
      ·replace c7 := Bool.eq_false_iff.mpr c7
       subst c7
       have H1 : (slices_IndexFunc_Simpl_Line_impl_Line_impl_ParallelClasses_1.l0 k1 l0 (l0.length : Int) (wrap64 (x8_1 + 1)) s1_0 s1_1 s1_2) = some r := by rw [if_neg (show ¬ (false = true) by decide)] at H; exact H
       clear H
       have H := H1
       clear H1
       have H' := Aside0.mk H
       clear H
       have p1554 : 0 ≤ (x8_1 : Int) := of_decide_eq_true (by first | (with_reducible assumption) | assumption)
       have q1554 : x8_1 < (l0.length : Int) := of_decide_eq_true (by first | (with_reducible assumption) | assumption)
       obtain ⟨ad1554, e1554, hx1554_0, hx1554_1, hx1554_2⟩ := at_T104 HR0.out x8_1 p1554 q1554
       cases e1554
       replace hx1554_0 := (HB.out.cell (World.block_lt_of_cell? w _ hx1554_0)).trans hx1554_0
       replace hx1554_1 := (HB.out.cell (World.block_lt_of_cell? w _ hx1554_1)).trans hx1554_1
       replace hx1554_2 := (HB.out.cell (World.block_lt_of_cell? w _ hx1554_2)).trans hx1554_2
       replace p1554 := eq_true p1554
       replace q1554 := eq_true q1554
       go_wp2_with (first | (go_at_call 102; (with_reducible refine (impl_ParallelClasses_1.calls ((rd_T104 l0 x8_1).f0) ((rd_T104 l0 x8_1).f1) ((rd_T104 l0 x8_1).f2) gb1 s1_0 s1_1 s1_2 false _ ?side1 A6.out).mono ?_); (case side1 => exact (by (with_reducible repeat (first | refine blk_drewN ?_ _ | refine blk_drew ?_ | refine blk_alloc ?_ _)); exact BK1.out)); rintro e w9 ⟨rfl, hb⟩; have n0_ := Aside0.mk (blk_below (g := gb1) (o := .cells #[.int .i64 s1_0, .int .i64 s1_1, .int .i64 s1_2] 104 (0, 0)) (by (with_reducible repeat (first | refine blk_drewN ?_ _ | refine blk_drew ?_ | refine blk_alloc ?_ _)); exact BK1.out) hb); have n1_ := Aside0.mk (below_step (by repeat (first | (with_reducible first | exact HB.out | apply below_alloc | apply pw_below_drewN | apply below_drew1 | refine below_set ?_ GE1.out) | exact HB.out)) hb); clear BK1; clear HB; have BK1 := n0_; have HB := n1_; clear n0_ n1_; (try clear hb); (try clear hb2); (try clear hk); (try clear hi)))
       go_roundg k1
       case measure => have := HK1.out; omega
       case rel => exact ⟨(wrap64 (x8_1 + 1)), (by first | rfl | (simp; done) | (simp [*]; done)), H', ⟨by have := HK1.out; omega⟩, ⟨by (with_reducible repeat (first | refine blk_drewN ?_ _ | refine blk_drew ?_ | refine blk_alloc ?_ _)); exact BK1.out⟩, ⟨by repeat (first | (with_reducible first | exact HB.out | apply below_alloc | apply pw_below_drewN | apply below_drew1 | refine below_set ?_ GE1.out) | exact HB.out)⟩⟩
     ·rw [if_neg c5] at H
      exact absurd H (by simp)
    ·rw [if_neg c4] at H
     exact absurd H (by simp)
   ·rw [if_neg c3] at H
    have c3b0 : decide (x8_1 < (l0.length : Int)) = false := decide_eq_false c3
    clear c3
    obtain rfl := Option.some.inj H
    go_wp2
    go_ret
    exact ⟨by first | rfl | (simp [errW_none, errW_some] <;> rfl) | (simp [*, errW_none, errW_some] <;> rfl), by repeat (first | (with_reducible first | exact HB.out | apply below_alloc | apply pw_below_drewN | apply below_drew1 | refine below_set ?_ GE1.out) | exact HB.out)⟩
def slices_ContainsFunc_Simpl_Line_impl_Line_impl_ParallelClasses_1.f (k : Nat) (l0 : List (S104)) (s1_0 : Int) (s1_1 : Int) (s1_2 : Int) : Option (Bool) := (slices_IndexFunc_Simpl_Line_impl_Line_impl_ParallelClasses_1.f k l0 s1_0 s1_1 s1_2).bind fun t1556 => (some (decide (t1556 ≥ 0)))
set_option maxHeartbeats 8000000 in
set_option maxRecDepth 100000 in
theorem slices_ContainsFunc_Simpl_Line_impl_Line_impl_ParallelClasses_1.calls (k : Nat) (A0 : Option Addr) (c0 : Nat) (l0 : List (S104)) (gb1 : Nat) (s1_0 : Int) (s1_1 : Int) (s1_2 : Int) (r : Bool) (w : World) (hr0 : Kd.C k104 w A0 l0.length l0) (hc0 : l0.length ≤ c0) (hb1_ : w.heap[gb1]? = some (.cells #[.int .i64 s1_0, .int .i64 s1_1, .int .i64 s1_2] 104 (0, 0))) (h : slices_ContainsFunc_Simpl_Line_impl_Line_impl_ParallelClasses_1.f k l0 s1_0 s1_1 s1_2 = some r) :
  Calls Try.prog 101 #[.slice A0 l0.length c0, .func (.func 102) #[] #[.pointer (some ⟨gb1, 0, none⟩)]] w fun e w' => e = .returned (.bool r) ∧ Below w.heap.size w w' := by
 have HR0 := Aside0.mk hr0
 have HC0 := Aside0.mk hc0
 clear hr0 hc0
 have BK1 := Aside0.mk hb1_
 clear hb1_
 have HB := Aside0.mk (Below.refl w.heap.size w)
 have H : ((slices_IndexFunc_Simpl_Line_impl_Line_impl_ParallelClasses_1.f k l0 s1_0 s1_1 s1_2).bind fun t1556 => (some (decide (t1556 ≥ 0)))) = some r := h
 clear h
 replace H := Option.bind_eq_some_iff.mp H
 obtain ⟨t1556, A30, H⟩ := H
 replace H : (some (decide (t1556 ≥ 0))) = some r := H
 have A3 := Aside0.mk A30
 clear A30
 obtain rfl := Option.some.inj H
 go_enter Try.func101, Try.ntmps101
 go_wp2_with (first | ((with_reducible refine gate_callee (f := 141) rfl ?_); refine goesL_ (some 7) rfl rfl Try.func141 (by kernel_rfl) rfl #[.slice A0 l0.length c0, .func (.func 102) #[] #[.pointer (some ⟨gb1, 0, none⟩)]] rfl (by (try simp only [List.map_toArray, List.map_cons, List.map_nil]); first | done | rfl | (simp only [List.length_drop, List.length_take]; rfl)) ?_; (with_reducible refine (slices_IndexFunc_Simpl_Line_impl_Line_impl_ParallelClasses_1.calls k _ _ l0 gb1 s1_0 s1_1 s1_2 t1556 _ ?side1 ?side2 ?side3 A3.out).mono ?_); (case side1 => repeat (first | exact HR0.out | (with_reducible refine Kd.C_alloc ?_ _) | (with_reducible refine Kd.C_drewN ?_ _) | (with_reducible refine Kd.C_drew ?_))); (case side2 => exact HC0.out); (case side3 => exact (by (with_reducible repeat (first | refine blk_drewN ?_ _ | refine blk_drew ?_ | refine blk_alloc ?_ _)); exact BK1.out)); rintro e w4 ⟨rfl, hb⟩; refine ⟨_, rfl, ?_⟩; have n0_ := Aside0.mk (blk_below (g := gb1) (o := .cells #[.int .i64 s1_0, .int .i64 s1_1, .int .i64 s1_2] 104 (0, 0)) (by (with_reducible repeat (first | refine blk_drewN ?_ _ | refine blk_drew ?_ | refine blk_alloc ?_ _)); exact BK1.out) hb); have n1_ := Aside0.mk (below_step (by repeat (first | (with_reducible first | exact HB.out | apply below_alloc | apply pw_below_drewN | apply below_drew1 | refine below_set ?_ GE1.out) | exact HB.out)) hb); clear BK1; clear HB; have BK1 := n0_; have HB := n1_; clear n0_ n1_; (try clear hb); (try clear hb2); (try clear hk); (try clear hi)))
 go_ret
 exact ⟨by first | rfl | (simp [errW_none, errW_some] <;> rfl) | (simp [*, errW_none, errW_some] <;> rfl), by repeat (first | (with_reducible first | exact HB.out | apply below_alloc | apply pw_below_drewN | apply below_drew1 | refine below_set ?_ GE1.out) | exact HB.out)⟩
end Go.Proofs.Yteblnjoljbdjjaa.P
namespace Go.Proofs.Yteblnjoljbdjjaa.P
open Go.RowKit Go.Proofs.YteblnjoljbdjjaaW.PrintWords Go.Proofs.YteblnjoljbdjjaaW.PrintLast Go.Proofs.YteblnjoljbdjjaaW.PrintMore
set_option linter.unusedVariables false
set_option linter.unusedSimpArgs false
section
variable {α : Type} [Inhabited α] {enc : α → Value} {h1 : ∀ x, (enc x).oneCell' = true} {e base : Nat} {ok : Nat → Prop} {w : World} {v : Value} {xs : List α}
theorem row_blk (h : (Kd.scalar enc h1).R e w base ok v xs) (hne : 0 < xs.length) :
    ∃ g cap cur, v = .slice (some ⟨g, 0, none⟩) xs.length cap ∧ base ≤ g ∧ ok g ∧ w.heap[g]? = some (.cells cur e (0, 0)) ∧ xs.length ≤ cap ∧ cap ≤ maxLen ∧ cur.size = cap ∧ ∀ j, j < xs.length → cur[j]? = some (enc xs[j]!) := by
  obtain ⟨h0, inner, ⟨hl, ho⟩, hr⟩ := h
  rcases ho with ⟨rfl, h2⟩ | ⟨g, cap, cur, rfl, hg, hh, hc, hm, hs, ht⟩
  · omega
  · refine ⟨g, cap, cur, rfl, hg, h0 g rfl, hh, hc, hm, ?_, ?_⟩
    · rw [hs]; exact Nat.mul_one _
    · intro j hj
      have h3 := hr.2 j xs[j]! (by rw [List.getElem?_eq_getElem hj, getElem!_pos xs j hj])
      have h3' : (inner.drop (j * 1)).take 1 = [enc xs[j]!] := h3
      rw [Nat.mul_one] at h3'
      have h4 : inner[j]? = some (enc xs[j]!) := by
        have h5 : ((inner.drop j).take 1)[0]? = some (enc xs[j]!) := by rw [h3']; rfl
        rw [List.getElem?_take_of_lt (by omega), List.getElem?_drop, Nat.add_zero] at h5
        exact h5
      rw [← ht] at h4
      have hjl : j < xs.length * (Kd.scalar enc h1).sz := by show j < xs.length * 1; omega
      rw [List.getElem?_take_of_lt hjl, Array.getElem?_toList] at h4
      exact h4
theorem blk_row {g cap : Nat} {cur : Array Value} (hg : base ≤ g) (hok : ok g) (hh : w.heap[g]? = some (.cells cur e (0, 0))) (hc : xs.length ≤ cap) (hm : cap ≤ maxLen) (hs : cur.size = cap) (hj : ∀ j, j < xs.length → cur[j]? = some (enc xs[j]!)) :
    (Kd.scalar enc h1).R e w base ok (.slice (some ⟨g, 0, none⟩) xs.length cap) xs := by
  refine ⟨fun k hk => ?_, cur.toList.take xs.length, ⟨?_, .inr ⟨g, cap, cur, rfl, hg, hh, hc, hm, ?_, ?_⟩⟩, ?_, ?_⟩
  · have : g = k := by simpa [Value.ownBlock] using hk
    subst this; exact hok
  · show (cur.toList.take xs.length).length = xs.length * 1
    have hcl : cur.toList.length = cur.size := Array.length_toList
    rw [List.length_take, hcl]; omega
  · show cur.size = cap * 1
    omega
  · show cur.toList.take (xs.length * 1) = _
    rw [Nat.mul_one]
  · show (cur.toList.take xs.length).length = xs.length * 1
    have hcl : cur.toList.length = cur.size := Array.length_toList
    rw [List.length_take, hcl]; omega
  · intro j p hp
    have hjl := (List.getElem?_eq_some_iff.1 hp).1
    have hpx : p = xs[j]! := by rw [getElem!_pos xs j hjl]; exact (List.getElem?_eq_some_iff.1 hp).2.symm
    subst hpx
    show ((cur.toList.take xs.length).drop (j * 1)).take 1 = [enc xs[j]!]
    rw [Nat.mul_one]
    have h4 : (cur.toList.take xs.length)[j]? = some (enc xs[j]!) := by
      rw [List.getElem?_take_of_lt hjl, Array.getElem?_toList]; exact hj j hjl
    apply List.ext_getElem?
    intro i
    cases i with
    | zero => rw [List.getElem?_take_of_lt (by omega), List.getElem?_drop, Nat.add_zero, h4]; rfl
    | succ i =>
      rw [List.getElem?_eq_none (by rw [List.length_take]; omega)]
      rfl
theorem put_cur (enc : α → Value) (w : World) (n g off : Nat) (D : Array α) (os : Array Obj) {cur : Array Value} (hb : w.heap[g]? = some (.cells cur e (0, 0))) :
    (Sort.grow (Sort.putRow enc (Sort.ahead w n) g off D) os).heap[g]? = some (.cells (Sort.putCells enc off D cur) e (0, 0)) := by
  have hlt : g < w.heap.size := (Array.getElem?_eq_some_iff.1 hb).1
  show ((w.heap.modify g (Sort.onCells (Sort.putCells enc off D))) ++ os)[g]? = _
  rw [Array.getElem?_append_left (by rw [Array.size_modify]; exact hlt), Array.getElem?_modify, if_pos rfl, hb]
  rfl
theorem put_far (enc : α → Value) (w : World) (n g off : Nat) (D : Array α) (os : Array Obj) (k : Nat) (hk : k < w.heap.size) (hne : k ≠ g) :
    (Sort.grow (Sort.putRow enc (Sort.ahead w n) g off D) os).heap[k]? = w.heap[k]? := by
  show ((w.heap.modify g (Sort.onCells (Sort.putCells enc off D))) ++ os)[k]? = _
  rw [Array.getElem?_append_left (by rw [Array.size_modify]; exact hk), Array.getElem?_modify, if_neg (Ne.symm hne)]
theorem put_size (enc : α → Value) (w : World) (n g off : Nat) (D : Array α) (os : Array Obj) : w.heap.size ≤ (Sort.grow (Sort.putRow enc (Sort.ahead w n) g off D) os).heap.size := by
  show _ ≤ ((w.heap.modify g (Sort.onCells (Sort.putCells enc off D))) ++ os).size
  rw [Array.size_append, Array.size_modify]; omega
theorem put_below (enc : α → Value) (w : World) (n g off : Nat) (D : Array α) (os : Array Obj) (hg : base ≤ g) (hlt : g < w.heap.size) : Below base w (Sort.grow (Sort.putRow enc (Sort.ahead w n) g off D) os) :=
  ⟨rfl, rfl, rfl, put_size enc w n g off D os, fun k hk => put_far enc w n g off D os k (by omega) (by omega)⟩
theorem put_kept (enc : α → Value) (w : World) (n g off : Nat) (D : Array α) (os : Array Obj) (hok : ok g) : Kept w (Sort.grow (Sort.putRow enc (Sort.ahead w n) g off D) os) ok :=
  ⟨put_size enc w n g off D os, fun k hk hn => put_far enc w n g off D os k hk (fun e => hn (e ▸ hok))⟩
theorem putCells_size (enc : α → Value) (off : Nat) (D : Array α) (c : Array Value) : (Sort.putCells enc off D c).size = c.size := by simp [Sort.putCells]
theorem putCells_in (enc : α → Value) (off : Nat) (D : Array α) (c : Array Value) (j : Nat) (hj : j < D.size) (hc : off + D.size ≤ c.size) : (Sort.putCells enc off D c)[off + j]? = some (enc D[j]!) := by
  unfold Sort.putCells
  rw [Array.getElem?_mapIdx, Array.getElem?_eq_getElem (by omega)]
  simp only [Option.map_some]
  rw [if_pos ⟨by omega, by omega⟩, Nat.add_sub_cancel_left]
theorem putCells_at (enc : α → Value) (D : Array α) (c : Array Value) (j : Nat) (hj : j < D.size) (hc : D.size ≤ c.size) : (Sort.putCells enc 0 D c)[j]? = some (enc D[j]!) := by
  have h := putCells_in enc 0 D c j hj (by omega)
  rwa [Nat.zero_add] at h
theorem row_holds (h : (Kd.scalar enc h1).R e w base ok v xs) {g cap : Nat} {cur : Array Value} (hh : w.heap[g]? = some (.cells cur e (0, 0))) (hj : ∀ j, j < xs.length → cur[j]? = some (enc xs[j]!)) : Sort.Holds enc w g 0 xs.toArray := by
  intro j hlt
  have hl : j < xs.length := by simpa using hlt
  have e1 : xs.toArray[j]! = xs[j]! := by simp
  refine ⟨?_, ?_⟩
  · rw [e1]
    have := hj j hl
    simp [World.cell?, hh, this]
  · simp [World.frozen?, hh]
theorem row_put {g cap m : Nat} {cur : Array Value} {D : List α} (n : Nat) (os : Array Obj) (hg : base ≤ g) (hok : ok g) (hh : w.heap[g]? = some (.cells cur e (0, 0))) (hm : cap ≤ maxLen) (hs : cur.size = cap) (hD : D.length ≤ cap) (hmD : m ≤ D.length) :
    (Kd.scalar enc h1).R e (Sort.grow (Sort.putRow enc (Sort.ahead w n) g 0 D.toArray) os) base ok (.slice (some ⟨g, 0, none⟩) m cap) (D.take m) := by
  have hl : (D.take m).length = m := by rw [List.length_take]; omega
  have h := blk_row (enc := enc) (h1 := h1) (base := base) (ok := ok) (xs := D.take m) (cap := cap) hg hok (put_cur enc w n g 0 D.toArray os hh) (by omega) hm (by rw [putCells_size]; exact hs) (by
    intro j hj
    rw [hl] at hj
    rw [putCells_at enc _ _ j (by simp; omega) (by simp; omega)]
    have e1 : D.toArray[j]! = (D.take m)[j]! := by
      rw [getElem!_pos (D.take m) j (by omega), List.getElem_take]
      simp [getElem!_pos D j (by omega)]
    rw [e1])
  rw [hl] at h
  exact h
end
end Go.Proofs.Yteblnjoljbdjjaa.P
namespace Go.Proofs.Yteblnjoljbdjjaa.P
open Go.RowKit Go.Proofs.YteblnjoljbdjjaaW.PrintWords Go.Proofs.YteblnjoljbdjjaaW.PrintLast Go.Proofs.YteblnjoljbdjjaaW.PrintMore
set_option linter.unusedVariables false
set_option linter.unusedSimpArgs false
open Go.Shelf in
def sortM5_ren : Go.Shelf.Ren := ⟨fun | 5 => 103 | 8 => 110 | 7 => 142 | 19 => 155 | 20 => 156 | 10 => 171 | 11 => 172 | 12 => 173 | 13 => 174 | 14 => 175 | 15 => 176 | 16 => 177 | 17 => 178 | 18 => 179 | 30 => 203 | 31 => 182 | 32 => 183 | 33 => 204 | 34 => 205 | 35 => 206 | 40 => 215 | n => n, fun | 23 => 35 | 25 => 3 | 3 => 3 | 32 => 116 | 22 => 35 | 0 => 0 | 44 => 149 | 46 => 151 | 4 => 4 | 36 => 141 | 35 => 140 | 41 => 146 | 5 => 5 | 9 => 9 | 53 => 163 | 57 => 167 | 63 => 184 | 64 => 185 | n => n, fun | n => n⟩
theorem sortM5 : Go.Proofs.SlLaysM.n5 Try.prog sortM5_ren :=
  { mixed := by kernel_rfl,
    f5 := ⟨Try.f103.name, by decide, Try.func103.trans (congrArg some (by kernel_rfl))⟩,
    f7 := ⟨Try.f142.name, by decide, Try.func142.trans (congrArg some (by kernel_rfl))⟩,
    f8 := Try.func110.trans (congrArg some (by kernel_rfl)),
    f10 := ⟨Try.f171.name, by decide, Try.func171.trans (congrArg some (by kernel_rfl))⟩,
    f11 := ⟨Try.f172.name, by decide, Try.func172.trans (congrArg some (by kernel_rfl))⟩,
    f12 := ⟨Try.f173.name, by decide, Try.func173.trans (congrArg some (by kernel_rfl))⟩,
    f13 := ⟨Try.f174.name, by decide, Try.func174.trans (congrArg some (by kernel_rfl))⟩,
    f14 := ⟨Try.f175.name, by decide, Try.func175.trans (congrArg some (by kernel_rfl))⟩,
    f15 := ⟨Try.f176.name, by decide, Try.func176.trans (congrArg some (by kernel_rfl))⟩,
    f16 := ⟨Try.f177.name, by decide, Try.func177.trans (congrArg some (by kernel_rfl))⟩,
    f17 := ⟨Try.f178.name, by decide, Try.func178.trans (congrArg some (by kernel_rfl))⟩,
    f18 := ⟨Try.f179.name, by decide, Try.func179.trans (congrArg some (by kernel_rfl))⟩,
    f19 := Try.func155.trans (congrArg some (by kernel_rfl)),
    f20 := Try.func156.trans (congrArg some (by kernel_rfl)),
    f30 := ⟨Try.f203.name, by decide, Try.func203.trans (congrArg some (by kernel_rfl))⟩,
    f31 := Try.func182.trans (congrArg some (by kernel_rfl)),
    f32 := Try.func183.trans (congrArg some (by kernel_rfl)),
    f33 := ⟨Try.f204.name, by decide, Try.func204.trans (congrArg some (by kernel_rfl))⟩,
    f34 := ⟨Try.f205.name, by decide, Try.func205.trans (congrArg some (by kernel_rfl))⟩,
    f35 := ⟨Try.f206.name, by decide, Try.func206.trans (congrArg some (by kernel_rfl))⟩,
    f40 := ⟨Try.f215.name, by decide, Try.func215.trans (congrArg some (by kernel_rfl))⟩,
    t0 := Try.underlying0,
    a0 := Try.isAgg0,
    z0 := Try.sizeOf0,
    v0 := Try.zeroValue0,
    t3 := Try.underlying3,
    a3 := Try.isAgg3,
    z3 := Try.sizeOf3,
    v3 := Try.zeroValue3,
    t4 := Try.underlying4,
    a4 := Try.isAgg4,
    z4 := Try.sizeOf4,
    v4 := Try.zeroValue4,
    t5 := Try.underlying5,
    a5 := Try.isAgg5,
    z5 := Try.sizeOf5,
    v5 := Try.zeroValue5,
    t9 := Try.underlying9,
    a9 := Try.isAgg9,
    z9 := Try.sizeOf9,
    v9 := Try.zeroValue9,
    t22 := Try.underlying35,
    a22 := Try.isAgg35,
    z22 := Try.sizeOf35,
    v22 := Try.zeroValue35,
    t23 := Try.underlying35,
    a23 := Try.isAgg35,
    z23 := Try.sizeOf35,
    v23 := Try.zeroValue35,
    t25 := Try.underlying3,
    a25 := Try.isAgg3,
    z25 := Try.sizeOf3,
    v25 := Try.zeroValue3,
    t32 := Try.underlying116,
    a32 := Try.isAgg116,
    z32 := Try.sizeOf116,
    v32 := Try.zeroValue116,
    t35 := Try.underlying140,
    a35 := Try.isAgg140,
    z35 := Try.sizeOf140,
    v35 := Try.zeroValue140,
    t36 := Try.underlying141,
    a36 := Try.isAgg141,
    z36 := Try.sizeOf141,
    v36 := Try.zeroValue141,
    t41 := Try.underlying146,
    a41 := Try.isAgg146,
    z41 := Try.sizeOf146,
    v41 := Try.zeroValue146,
    t44 := Try.underlying149,
    a44 := Try.isAgg149,
    z44 := Try.sizeOf149,
    v44 := Try.zeroValue149,
    t46 := Try.underlying151,
    a46 := Try.isAgg151,
    z46 := Try.sizeOf151,
    v46 := Try.zeroValue151,
    t53 := Try.underlying163,
    a53 := Try.isAgg163,
    z53 := Try.sizeOf163,
    v53 := Try.zeroValue163,
    t57 := Try.underlying167,
    a57 := Try.isAgg167,
    z57 := Try.sizeOf167,
    v57 := Try.zeroValue167,
    t63 := Try.underlying184,
    a63 := Try.isAgg184,
    z63 := Try.sizeOf184,
    v63 := Try.zeroValue184,
    t64 := Try.underlying185,
    a64 := Try.isAgg185,
    z64 := Try.sizeOf185,
    v64 := Try.zeroValue185 }
def slices_Sort_Sint_int.f (l : List Int) : Option (List Int) := if l.length < 4611686018427387904 then some (l.mergeSort fun x y => decide (x ≤ y)) else none
theorem slices_Sort_Sint_int.calls (P0_ : Nat → Prop) (u9000_ : Value) (l : List Int) (r : List Int) (w0 w : World) (hB : Below w0.heap.size w0 w) (ho0 : Kd.R (Kd.int .i64) 3 w w0.heap.size P0_ u9000_ l) (h : slices_Sort_Sint_int.f l = some r) :
    Calls Try.prog 103 #[u9000_] w fun e w' => e = .returned (.tuple #[]) ∧ Kd.R (Kd.int .i64) 3 w' w0.heap.size (fun k_ => (P0_ k_ ∨ w.heap.size ≤ k_)) u9000_ r ∧ Below w0.heap.size w0 w' ∧ Kept w w' (fun k_ => P0_ k_) := by
  unfold slices_Sort_Sint_int.f at h
  by_cases hl : l.length < 4611686018427387904
  case neg => rw [if_neg hl] at h; cases h
  rw [if_pos hl] at h
  obtain rfl := Option.some.inj h
  by_cases hne : 0 < l.length
  · obtain ⟨g, cap, cur, rfl, hg, hok, hcur, hlc, hcm, hcs, hj⟩ := row_blk ho0 hne
    have hlt : g < w.heap.size := (Array.getElem?_eq_some_iff.1 hcur).1
    refine (AnyM.slices_Sort_int sortM5 g 0 cap l w (row_holds (cap := cap) ho0 hcur hj) hlt hl).mono ?_
    rintro e w' ⟨rfl, n, os, rfl⟩
    have hlen : (l.mergeSort fun x y => decide (x ≤ y)).length = l.length := List.length_mergeSort _
    refine ⟨rfl, ?_, hB.trans (put_below (Value.int .i64) w n g 0 _ os hg hlt), put_kept (Value.int .i64) w n g 0 _ os hok⟩
    have hR := row_put (enc := Value.int .i64) (h1 := fun _ => rfl) (ok := P0_) (m := l.length) n os hg hok hcur hcm hcs (D := l.mergeSort fun x y => decide (x ≤ y)) (by omega) (by omega)
    rw [List.take_of_length_le (by omega)] at hR
    exact Kd.R_mono hR (fun k_ hk => .inl hk)
  · have hnil : l = [] := List.eq_nil_of_length_eq_zero (by omega)
    subst hnil
    obtain ⟨A, c, rfl⟩ := Kd.R_slice ho0
    have hS := AnyM.slices_Sort_int_none sortM5 A c w
    refine hS.mono ?_
    rintro e w' ⟨rfl, rfl⟩
    exact ⟨rfl, Kd.R_mono (by rw [List.mergeSort_nil]; exact ho0) (fun k_ hk => .inl hk), hB, Kept.refl _ _⟩
end Go.Proofs.Yteblnjoljbdjjaa.P
namespace Go.Proofs.Yteblnjoljbdjjaa.P
open Go.RowKit Go.Proofs.YteblnjoljbdjjaaW.PrintWords Go.Proofs.YteblnjoljbdjjaaW.PrintLast Go.Proofs.YteblnjoljbdjjaaW.PrintMore
attribute [local go_sem] ptrOf_slice
attribute [local go_sem] max2_int min2_int max_two min_two max_three min_three max_four min_four
set_option linter.unusedVariables false
set_option linter.unusedSimpArgs false
mutual
def impl_ParallelClasses.l0 : Nat → List (S104) → List Int → List (S104) → Int → Int → Option (List Int)
 | 0, _, _, _, _, _ => none
 | k + 1, x0, x3, x12, x13, x14 => if x14 < x13 then (if 0 ≤ x14 then (if x14 < (x12.length : Int) then (impl_ParallelClasses.l1 k x0 x3 x14 0 x12 x13 x14 x0 (x0.length : Int) 0 ((rd_T104 x12 x14).f0) ((rd_T104 x12 x14).f1) ((rd_T104 x12 x14).f2)) else (none)) else (none)) else ((slices_Sort_Sint_int.f x3).bind fun t1558 => (some t1558))
def impl_ParallelClasses.l1 : Nat → List (S104) → List Int → Int → Int → List (S104) → Int → Int → List (S104) → Int → Int → Int → Int → Int → Option (List Int)
 | 0, _, _, _, _, _, _, _, _, _, _, _, _, _ => none
 | k + 1, x0, x3, x4, x6, x12, x13, x14, x19, x20, x21, x1561000, x1561001, x1561002 => if x21 < x20 then (if 0 ≤ x21 then (if x21 < (x19.length : Int) then ((impl_areParallel.f x1561000 x1561001 x1561002 ((rd_T104 x19 x21).f0) ((rd_T104 x19 x21).f1) ((rd_T104 x19 x21).f2)).bind fun t1563 => (if t1563 = true then (impl_ParallelClasses.l1 k x0 x3 x4 (wrap64 (x6 + 1)) x12 x13 x14 x19 x20 (wrap64 (x21 + 1)) x1561000 x1561001 x1561002) else (impl_ParallelClasses.l1 k x0 x3 x4 x6 x12 x13 x14 x19 x20 (wrap64 (x21 + 1)) x1561000 x1561001 x1561002))) else (none)) else (none)) else (if 0 ≤ x4 then (if x4 ≤ (x0.length : Int) then ((slices_ContainsFunc_Simpl_Line_impl_Line_impl_ParallelClasses_1.f k (x0.take (x4 : Int).toNat) x1561000 x1561001 x1561002).bind fun t1568 => (if t1568 = true then (impl_ParallelClasses.l0 k x0 x3 x12 x13 (wrap64 (x14 + 1))) else (if x3.length < 17592186044416 then (impl_ParallelClasses.l0 k x0 (x3 ++ [x6]) x12 x13 (wrap64 (x14 + 1))) else (none)))) else (none)) else (none))
end
def impl_ParallelClasses.f (k : Nat) (l0 : List (S104)) : Option (List Int) := (impl_AreLines.f k l0).bind fun t1557 => (if t1557 = true then (impl_ParallelClasses.l0 k l0 ([] : List Int) l0 (l0.length : Int) 0) else (some ([] : List Int)))
set_option maxHeartbeats 8000000 in
set_option maxRecDepth 100000 in
theorem impl_ParallelClasses.calls (k : Nat) (A0 : Option Addr) (c0 : Nat) (l0 : List (S104)) (r : List Int) (w : World) (hr0 : Kd.C k104 w A0 l0.length l0) (hc0 : l0.length ≤ c0) (h : impl_ParallelClasses.f k l0 = some r) :
  Calls Try.prog 51 #[.slice A0 l0.length c0] w fun e w' => ∃ v0_ : Value, e = .returned (v0_) ∧ Kd.R (Kd.int .i64) 3 w' w.heap.size (fun _ => True) v0_ r ∧ Below w.heap.size w w' := by
 have hu104 := Try.underlying104
 have HR0 := Aside0.mk hr0
 have HC0 := Aside0.mk hc0
 clear hr0 hc0
 have HB := Aside0.mk (Below.refl w.heap.size w)
 have H : ((impl_AreLines.f k l0).bind fun t1557 => (if t1557 = true then (impl_ParallelClasses.l0 k l0 ([] : List Int) l0 (l0.length : Int) 0) else (some ([] : List Int)))) = some r := h
 clear h
 replace H := Option.bind_eq_some_iff.mp H
 obtain ⟨t1557, A20, H⟩ := H
 replace H : (if t1557 = true then (impl_ParallelClasses.l0 k l0 ([] : List Int) l0 (l0.length : Int) 0) else (some ([] : List Int))) = some r := H
 have A2 := Aside0.mk A20
 clear A20
 by_cases c3 : t1557 = true
 ·subst c3
  have H1 : (impl_ParallelClasses.l0 k l0 ([] : List Int) l0 (l0.length : Int) 0) = some r := by rw [if_pos rfl] at H; exact H
  clear H
  have H := H1
  clear H1
  have H' := Aside0.mk H
  clear H
  go_enter Try.func51, Try.ntmps51
  go_wp2_with (first | ((with_reducible refine gate_callee (f := 99) rfl ?_); refine goesL_ (some 10) rfl rfl Try.func99 (by kernel_rfl) rfl #[.slice A0 l0.length c0] rfl (by (try simp only [List.map_toArray, List.map_cons, List.map_nil]); first | done | rfl | (simp only [List.length_drop, List.length_take]; rfl)) ?_; (with_reducible refine (impl_AreLines.calls k _ _ l0 true _ ?side1 ?side2 A2.out).mono ?_); (case side1 => repeat (first | exact HR0.out | (with_reducible refine Kd.C_alloc ?_ _) | (with_reducible refine Kd.C_drewN ?_ _) | (with_reducible refine Kd.C_drew ?_))); (case side2 => exact HC0.out); rintro e w4 ⟨rfl, hb⟩; refine ⟨_, rfl, ?_⟩; have n0_ := Aside0.mk (below_step (by repeat (first | (with_reducible first | exact HB.out | apply below_alloc | apply pw_below_drewN | apply below_drew1) | exact HB.out)) hb); clear HB; have HB := n0_; clear n0_; (try clear hb); (try clear hb2); (try clear hk); (try clear hi)))
  go_loopg [3, 14] k (fun kq v3 v14 w' => ∃ (x3_1 : List Int) (x14_1 : Int), v14 = .int .i64 x14_1 ∧ Aside0 (impl_ParallelClasses.l0 kq l0 x3_1 l0 (l0.length : Int) x14_1 = some r) ∧ Aside0 (kq ≤ k) ∧ Aside0 (Kd.R (Kd.int .i64) 3 w' w.heap.size (fun _ => True) v3 x3_1) ∧ Aside0 (Below w.heap.size w w'))
  case atStart => exact ⟨(([] : List Int)), (0), (by first | rfl | (simp; done) | (simp [*]; done)), H', ⟨Nat.le_refl _⟩, ⟨by first | exact Kd.R_nil _ _ _ _ _ | exact Kd.N_nil _ _ _ _ _ | exact Kd.V_nil _ _ _ _ _ | exact Kd.Q_nil _ _ _ _ _ | exact Kd.S_nil _ _ _ _ _⟩, ⟨by repeat (first | (with_reducible first | exact HB.out | apply below_alloc | apply pw_below_drewN | apply below_drew1) | exact HB.out)⟩⟩
  case round =>
   clear H'
   try clear p2
   try clear c3
   obtain ⟨x3_1, x14_1, rfl, HA, HK1, HO_3, HB⟩ := hrel
   cases gk with
   | zero => exact absurd HA.out (by simp [impl_ParallelClasses.l0])
   | succ k1 =>
    have H := HA.out
    clear HA
    simp only [impl_ParallelClasses.l0] at H
    by_cases c5 : x14_1 < (l0.length : Int)
    ·rw [if_pos c5] at H
     have c5b0 : decide (x14_1 < (l0.length : Int)) = true := decide_eq_true c5
     clear c5
     by_cases c6 : 0 ≤ x14_1
     ·rw [if_pos c6] at H
      have c6b0 : decide (0 ≤ x14_1) = true := decide_eq_true c6
      clear c6
      by_cases c7 : x14_1 < (l0.length : Int)
      ·rw [if_pos c7] at H
       have c7b0 : decide (x14_1 < (l0.length : Int)) = true := decide_eq_true c7
       clear c7
       have H' := Aside0.mk H
       clear H
       have p1559 : 0 ≤ (x14_1 : Int) := of_decide_eq_true (by first | (with_reducible assumption) | assumption)
       have q1559 : x14_1 < (l0.length : Int) := of_decide_eq_true (by first | (with_reducible assumption) | assumption)
       obtain ⟨ad1559, e1559, hx1559_0, hx1559_1, hx1559_2⟩ := at_T104 HR0.out x14_1 p1559 q1559
       cases e1559
       replace hx1559_0 := (HB.out.cell (World.block_lt_of_cell? w _ hx1559_0)).trans hx1559_0
       replace hx1559_1 := (HB.out.cell (World.block_lt_of_cell? w _ hx1559_1)).trans hx1559_1
       replace hx1559_2 := (HB.out.cell (World.block_lt_of_cell? w _ hx1559_2)).trans hx1559_2
       replace p1559 := eq_true p1559
       replace q1559 := eq_true q1559
       go_wp2_with (first | ((with_reducible refine gate_dst (N := 5) rfl ?_); refine box_event ?hg (N := 5) ?hd (cs := #[.int .i64 0, .int .i64 0, .int .i64 0]) (t := 104) ?hr ?_; (case hd => rfl); (case hg => rfl); (case hr => first | (go_simp; done) | (go_simp; rfl)); intro gb1560 hg w8 hbox hb; have n0_ := Aside0.mk (Kd.R_below (by (with_reducible repeat (first | apply Kd.R_alloc | apply Kd.R_drewN | apply Kd.R_drew)); exact HO_3.out) hb); have n1_ := Aside0.mk (below_step (by repeat (first | (with_reducible first | exact HB.out | apply below_alloc | apply pw_below_drewN | apply below_drew1) | exact HB.out)) hb); have n2_ := Aside0.mk (hbox); have n3_ := Aside0.mk ((by rw [hg]; exact (below_size (by repeat (first | (with_reducible first | exact HB.out | apply below_alloc | apply pw_below_drewN | apply below_drew1) | exact HB.out))) : w.heap.size ≤ gb1560)); have n4_ := Aside0.mk ((by rw [hg]; exact (below_size (by repeat (first | (with_reducible first | exact HB.out | apply below_alloc | apply pw_below_drewN | apply below_drew1) | exact HB.out))) : w.heap.size ≤ gb1560)); clear HO_3; clear HB; have HO_3 := n0_; have HB := n1_; have BK1560 := n2_; have GW1560 := n3_; have GE1560 := n4_; clear n0_ n1_ n2_ n3_ n4_; clear hb hbox hg; have hcz9_0 : w8.cell? ⟨gb1560, 0, none⟩ = some (.int .i64 0) := (blk_cell BK1560.out 0).trans rfl; have hcz9_1 : w8.cell? ⟨gb1560, 1, none⟩ = some (.int .i64 0) := (blk_cell BK1560.out 1).trans rfl; have hcz9_2 : w8.cell? ⟨gb1560, 2, none⟩ = some (.int .i64 0) := (blk_cell BK1560.out 2).trans rfl; have hfz9_0 := blk_frozen BK1560.out 0; have hfz9_1 := blk_frozen BK1560.out 1; have hfz9_2 := blk_frozen BK1560.out 2))
       go_loopg [6, 21] k1 (fun kq v6 v21 w' => ∃ (x6_2 : Int) (x21_2 : Int), v6 = .int .i64 x6_2 ∧ v21 = .int .i64 x21_2 ∧ Aside0 (impl_ParallelClasses.l1 kq l0 x3_1 x14_1 x6_2 l0 (l0.length : Int) x14_1 l0 (l0.length : Int) x21_2 ((rd_T104 l0 x14_1).f0) ((rd_T104 l0 x14_1).f1) ((rd_T104 l0 x14_1).f2) = some r) ∧ Aside0 (kq ≤ k1) ∧ Aside0 (Kd.R (Kd.int .i64) 3 w' w.heap.size (fun _ => True) u3 x3_1) ∧ Aside0 (w'.heap[gb1560]? = some (.cells #[.int .i64 ((rd_T104 l0 x14_1).f0), .int .i64 ((rd_T104 l0 x14_1).f1), .int .i64 ((rd_T104 l0 x14_1).f2)] 104 (0, 0))) ∧ Aside0 (Below w.heap.size w w'))
       case atStart => exact ⟨(0), (0), (by first | rfl | (simp; done) | (simp [*]; done)), (by first | rfl | (simp; done) | (simp [*]; done)), H', ⟨Nat.le_refl _⟩, ⟨by (with_reducible repeat (first | apply Kd.R_alloc | apply Kd.R_drewN | apply Kd.R_drew)); exact Kd.R_mono (Kd.R_far (p := ⟨gb1560, 2, none⟩) (Kd.R_far (p := ⟨gb1560, 1, none⟩) (Kd.R_far (p := ⟨gb1560, 0, none⟩) (Kd.R_types HO_3.out BK1560.out (by decide)) (fun _ hk => hk.2) (.int .i64 ((rd_T104 l0 x14_1).f0))) (fun _ hk => hk.2) (.int .i64 ((rd_T104 l0 x14_1).f1))) (fun _ hk => hk.2) (.int .i64 ((rd_T104 l0 x14_1).f2))) (fun _ hk => trivial)⟩, ⟨by (with_reducible repeat (first | refine blk_drewN ?_ _ | refine blk_drew ?_ | refine blk_alloc ?_ _)); refine blk_put (cs := #[.int .i64 ((rd_T104 l0 x14_1).f0), .int .i64 ((rd_T104 l0 x14_1).f1), .int .i64 0]) ?_ 2 _ rfl; (with_reducible repeat (first | refine blk_drewN ?_ _ | refine blk_drew ?_ | refine blk_alloc ?_ _)); refine blk_put (cs := #[.int .i64 ((rd_T104 l0 x14_1).f0), .int .i64 0, .int .i64 0]) ?_ 1 _ rfl; (with_reducible repeat (first | refine blk_drewN ?_ _ | refine blk_drew ?_ | refine blk_alloc ?_ _)); refine blk_put (cs := #[.int .i64 0, .int .i64 0, .int .i64 0]) ?_ 0 _ rfl; (with_reducible repeat (first | refine blk_drewN ?_ _ | refine blk_drew ?_ | refine blk_alloc ?_ _)); exact BK1560.out⟩, ⟨by repeat (first | (with_reducible first | exact HB.out | apply below_alloc | apply pw_below_drewN | apply below_drew1 | refine below_set ?_ GE1560.out) | exact HB.out)⟩⟩
       case round =>
        clear H'
        try clear p1
        try clear q1
        try clear hx1
        try clear p2
        try clear c3
        try clear c5
        try clear c5b0
        try clear c6
        try clear c6b0
        try clear c7
        try clear c7b0
        try clear c9
        try clear hcz9_0
        try clear hcz9_1
        try clear hcz9_2
        try clear hfz9_0
        try clear hfz9_1
        try clear hfz9_2
        try clear hx1559_0
        try clear hx1559_1
        try clear hx1559_2
        try clear p1559
        try clear p2
        try clear q1559
        obtain ⟨x6_2, x21_2, rfl, rfl, HA, HK2, HO_3, BK1560, HB⟩ := hrel
        cases gk with
        | zero => exact absurd HA.out (by simp [impl_ParallelClasses.l1])
        | succ k2 =>
         have H := HA.out
         clear HA
         simp only [impl_ParallelClasses.l1] at H
         by_cases c10 : x21_2 < (l0.length : Int)
         ·rw [if_pos c10] at H
          have c10b0 : decide (x21_2 < (l0.length : Int)) = true := decide_eq_true c10
          clear c10
          by_cases c11 : 0 ≤ x21_2
          ·rw [if_pos c11] at H
           have c11b0 : decide (0 ≤ x21_2) = true := decide_eq_true c11
           clear c11
           by_cases c12 : x21_2 < (l0.length : Int)
           ·rw [if_pos c12] at H
            have c12b0 : decide (x21_2 < (l0.length : Int)) = true := decide_eq_true c12
            clear c12
            replace H := Option.bind_eq_some_iff.mp H
            obtain ⟨t1563, A130, H⟩ := H
            replace H : (if t1563 = true then (impl_ParallelClasses.l1 k2 l0 x3_1 x14_1 (wrap64 (x6_2 + 1)) l0 (l0.length : Int) x14_1 l0 (l0.length : Int) (wrap64 (x21_2 + 1)) ((rd_T104 l0 x14_1).f0) ((rd_T104 l0 x14_1).f1) ((rd_T104 l0 x14_1).f2)) else (impl_ParallelClasses.l1 k2 l0 x3_1 x14_1 x6_2 l0 (l0.length : Int) x14_1 l0 (l0.length : Int) (wrap64 (x21_2 + 1)) ((rd_T104 l0 x14_1).f0) ((rd_T104 l0 x14_1).f1) ((rd_T104 l0 x14_1).f2))) = some r := H
            have A13 := Aside0.mk A130
            clear A130
            by_cases c14 : t1563 = true
            ·subst c14
             have H1 : (impl_ParallelClasses.l1 k2 l0 x3_1 x14_1 (wrap64 (x6_2 + 1)) l0 (l0.length : Int) x14_1 l0 (l0.length : Int) (wrap64 (x21_2 + 1)) ((rd_T104 l0 x14_1).f0) ((rd_T104 l0 x14_1).f1) ((rd_T104 l0 x14_1).f2)) = some r := by rw [if_pos rfl] at H; exact H
             clear H
             have H := H1
             clear H1
             have H' := Aside0.mk H
             clear H
             have p1561 : 0 ≤ (x21_2 : Int) := of_decide_eq_true (by first | (with_reducible assumption) | assumption)
             have q1561 : x21_2 < (l0.length : Int) := of_decide_eq_true (by first | (with_reducible assumption) | assumption)
             obtain ⟨ad1561, e1561, hx1561_0, hx1561_1, hx1561_2⟩ := at_T104 HR0.out x21_2 p1561 q1561
             obtain rfl : ad1559 = ad1561 := (by injection e1561)
             replace hx1561_0 := (HB.out.cell (World.block_lt_of_cell? w _ hx1561_0)).trans hx1561_0
             replace hx1561_1 := (HB.out.cell (World.block_lt_of_cell? w _ hx1561_1)).trans hx1561_1
             replace hx1561_2 := (HB.out.cell (World.block_lt_of_cell? w _ hx1561_2)).trans hx1561_2
             replace p1561 := eq_true p1561
             replace q1561 := eq_true q1561
             go_wp2_with (first | ((with_reducible refine gate_dst (N := 8) rfl ?_); refine box_event ?hg (N := 8) ?hd (cs := #[.int .i64 0, .int .i64 0, .int .i64 0]) (t := 104) ?hr ?_; (case hd => rfl); (case hg => rfl); (case hr => first | (go_simp; done) | (go_simp; rfl)); intro gb1562 hg w15 hbox hb; have n0_ := Aside0.mk (Kd.R_below (by (with_reducible repeat (first | apply Kd.R_alloc | apply Kd.R_drewN | apply Kd.R_drew)); exact HO_3.out) hb); have n1_ := Aside0.mk (blk_below (g := gb1560) (o := .cells #[.int .i64 ((rd_T104 l0 x14_1).f0), .int .i64 ((rd_T104 l0 x14_1).f1), .int .i64 ((rd_T104 l0 x14_1).f2)] 104 (0, 0)) (by (with_reducible repeat (first | refine blk_drewN ?_ _ | refine blk_drew ?_ | refine blk_alloc ?_ _)); exact BK1560.out) hb); have n2_ := Aside0.mk (below_step (by repeat (first | (with_reducible first | exact HB.out | apply below_alloc | apply pw_below_drewN | apply below_drew1 | refine below_set ?_ GE1560.out) | exact HB.out)) hb); have n3_ := Aside0.mk (hbox); have n4_ := Aside0.mk ((by rw [hg]; exact (below_size (by repeat (first | (with_reducible first | exact HB.out | apply below_alloc | apply pw_below_drewN | apply below_drew1 | refine below_set ?_ GE1560.out) | exact HB.out))) : w.heap.size ≤ gb1562)); have n5_ := Aside0.mk ((by rw [hg]; exact (below_size (by repeat (first | (with_reducible first | exact HB.out | apply below_alloc | apply pw_below_drewN | apply below_drew1 | refine below_set ?_ GE1560.out) | exact HB.out))) : w.heap.size ≤ gb1562)); have n6_ := Aside0.mk ((by rw [hg]; exact Nat.ne_of_lt (blk_lt (g := gb1560) (o := .cells #[.int .i64 ((rd_T104 l0 x14_1).f0), .int .i64 ((rd_T104 l0 x14_1).f1), .int .i64 ((rd_T104 l0 x14_1).f2)] 104 (0, 0)) (by (with_reducible repeat (first | refine blk_drewN ?_ _ | refine blk_drew ?_ | refine blk_alloc ?_ _)); exact BK1560.out)) : gb1560 ≠ gb1562)); have n7_ := Aside0.mk ((by rw [hg]; exact Nat.ne_of_gt (blk_lt (g := gb1560) (o := .cells #[.int .i64 ((rd_T104 l0 x14_1).f0), .int .i64 ((rd_T104 l0 x14_1).f1), .int .i64 ((rd_T104 l0 x14_1).f2)] 104 (0, 0)) (by (with_reducible repeat (first | refine blk_drewN ?_ _ | refine blk_drew ?_ | refine blk_alloc ?_ _)); exact BK1560.out)) : gb1562 ≠ gb1560)); clear HO_3; clear BK1560; clear HB; have HO_3 := n0_; have BK1560 := n1_; have HB := n2_; have BK1562 := n3_; have GW1562 := n4_; have GE1562 := n5_; have NB1560_1562 := n6_; have NB1562_1560 := n7_; clear n0_ n1_ n2_ n3_ n4_ n5_ n6_ n7_; clear hb hbox hg; have hnb16 := NB1562_1560.out; have hnc16 := NB1560_1562.out; have hcz17_0 : w15.cell? ⟨gb1562, 0, none⟩ = some (.int .i64 0) := (blk_cell BK1562.out 0).trans rfl; have hcz17_1 : w15.cell? ⟨gb1562, 1, none⟩ = some (.int .i64 0) := (blk_cell BK1562.out 1).trans rfl; have hcz17_2 : w15.cell? ⟨gb1562, 2, none⟩ = some (.int .i64 0) := (blk_cell BK1562.out 2).trans rfl; have hfz17_0 := blk_frozen BK1562.out 0; have hfz17_1 := blk_frozen BK1562.out 1; have hfz17_2 := blk_frozen BK1562.out 2; have hcz18_0 : w15.cell? ⟨gb1560, 0, none⟩ = some (.int .i64 ((rd_T104 l0 x14_1).f0)) := (blk_cell BK1560.out 0).trans rfl; have hcz18_1 : w15.cell? ⟨gb1560, 1, none⟩ = some (.int .i64 ((rd_T104 l0 x14_1).f1)) := (blk_cell BK1560.out 1).trans rfl; have hcz18_2 : w15.cell? ⟨gb1560, 2, none⟩ = some (.int .i64 ((rd_T104 l0 x14_1).f2)) := (blk_cell BK1560.out 2).trans rfl; have hfz18_0 := blk_frozen BK1560.out 0; have hfz18_1 := blk_frozen BK1560.out 1; have hfz18_2 := blk_frozen BK1560.out 2) | ((with_reducible refine gate_callee (f := 100) rfl ?_); refine goesL_ (some 27) rfl rfl Try.func100 (by kernel_rfl) rfl #[.agg #[.int .i64 ((rd_T104 l0 x14_1).f0), .int .i64 ((rd_T104 l0 x14_1).f1), .int .i64 ((rd_T104 l0 x14_1).f2)], .agg #[.int .i64 ((rd_T104 l0 x21_2).f0), .int .i64 ((rd_T104 l0 x21_2).f1), .int .i64 ((rd_T104 l0 x21_2).f2)]] rfl (by (try simp only [List.map_toArray, List.map_cons, List.map_nil]); first | done | rfl | (simp only [List.length_drop, List.length_take]; rfl)) ?_; (with_reducible refine (impl_areParallel.calls ((rd_T104 l0 x14_1).f0) ((rd_T104 l0 x14_1).f1) ((rd_T104 l0 x14_1).f2) ((rd_T104 l0 x21_2).f0) ((rd_T104 l0 x21_2).f1) ((rd_T104 l0 x21_2).f2) true _ A13.out).mono ?_); rintro e w19 ⟨rfl, hb⟩; refine ⟨_, rfl, ?_⟩; have n0_ := Aside0.mk (Kd.R_below (by (with_reducible repeat (first | apply Kd.R_alloc | apply Kd.R_drewN | apply Kd.R_drew)); exact (Kd.R_mono (Kd.R_far (p := ⟨gb1562, 2, none⟩) (Kd.R_far (p := ⟨gb1562, 1, none⟩) (Kd.R_far (p := ⟨gb1562, 0, none⟩) (Kd.R_types HO_3.out BK1562.out (by decide)) (fun _ hk => hk.2) (.int .i64 ((rd_T104 l0 x21_2).f0))) (fun _ hk => hk.2) (.int .i64 ((rd_T104 l0 x21_2).f1))) (fun _ hk => hk.2) (.int .i64 ((rd_T104 l0 x21_2).f2))) (fun _ h_ => h_.1))) hb); have n1_ := Aside0.mk (blk_below (g := gb1560) (o := .cells #[.int .i64 ((rd_T104 l0 x14_1).f0), .int .i64 ((rd_T104 l0 x14_1).f1), .int .i64 ((rd_T104 l0 x14_1).f2)] 104 (0, 0)) (by (with_reducible repeat (first | refine blk_drewN ?_ _ | refine blk_drew ?_ | refine blk_alloc ?_ _)); refine blk_far ?_ NB1560_1562.out _; (with_reducible repeat (first | refine blk_drewN ?_ _ | refine blk_drew ?_ | refine blk_alloc ?_ _)); refine blk_far ?_ NB1560_1562.out _; (with_reducible repeat (first | refine blk_drewN ?_ _ | refine blk_drew ?_ | refine blk_alloc ?_ _)); refine blk_far ?_ NB1560_1562.out _; (with_reducible repeat (first | refine blk_drewN ?_ _ | refine blk_drew ?_ | refine blk_alloc ?_ _)); exact BK1560.out) hb); have n2_ := Aside0.mk (blk_below (g := gb1562) (o := .cells #[.int .i64 ((rd_T104 l0 x21_2).f0), .int .i64 ((rd_T104 l0 x21_2).f1), .int .i64 ((rd_T104 l0 x21_2).f2)] 104 (0, 0)) (by (with_reducible repeat (first | refine blk_drewN ?_ _ | refine blk_drew ?_ | refine blk_alloc ?_ _)); refine blk_put (cs := #[.int .i64 ((rd_T104 l0 x21_2).f0), .int .i64 ((rd_T104 l0 x21_2).f1), .int .i64 0]) ?_ 2 _ rfl; (with_reducible repeat (first | refine blk_drewN ?_ _ | refine blk_drew ?_ | refine blk_alloc ?_ _)); refine blk_put (cs := #[.int .i64 ((rd_T104 l0 x21_2).f0), .int .i64 0, .int .i64 0]) ?_ 1 _ rfl; (with_reducible repeat (first | refine blk_drewN ?_ _ | refine blk_drew ?_ | refine blk_alloc ?_ _)); refine blk_put (cs := #[.int .i64 0, .int .i64 0, .int .i64 0]) ?_ 0 _ rfl; (with_reducible repeat (first | refine blk_drewN ?_ _ | refine blk_drew ?_ | refine blk_alloc ?_ _)); exact BK1562.out) hb); have n3_ := Aside0.mk (below_step (by repeat (first | (with_reducible first | exact HB.out | apply below_alloc | apply pw_below_drewN | apply below_drew1 | refine below_set ?_ GE1560.out | refine below_set ?_ GE1562.out) | exact HB.out)) hb); clear HO_3; clear BK1560; clear BK1562; clear HB; have HO_3 := n0_; have BK1560 := n1_; have BK1562 := n2_; have HB := n3_; clear n0_ n1_ n2_ n3_; (try clear hb); (try clear hb2); (try clear hk); (try clear hi)))
             go_roundg k2
             case measure => have := HK1.out; have := HK2.out; omega
             case rel => exact ⟨(wrap64 (x6_2 + 1)), (wrap64 (x21_2 + 1)), (by first | rfl | (simp; done) | (simp [*]; done)), (by first | rfl | (simp; done) | (simp [*]; done)), H', ⟨by have := HK1.out; have := HK2.out; omega⟩, ⟨by (with_reducible repeat (first | apply Kd.R_alloc | apply Kd.R_drewN | apply Kd.R_drew)); exact HO_3.out⟩, ⟨by (with_reducible repeat (first | refine blk_drewN ?_ _ | refine blk_drew ?_ | refine blk_alloc ?_ _)); exact BK1560.out⟩, ⟨by repeat (first | (with_reducible first | exact HB.out | apply below_alloc | apply pw_below_drewN | apply below_drew1 | refine below_set ?_ GE1560.out | refine below_set ?_ GE1562.out) | exact HB.out)⟩⟩
            ·replace c14 := Bool.eq_false_iff.mpr c14
             subst c14
             have H1 : (impl_ParallelClasses.l1 k2 l0 x3_1 x14_1 x6_2 l0 (l0.length : Int) x14_1 l0 (l0.length : Int) (wrap64 (x21_2 + 1)) ((rd_T104 l0 x14_1).f0) ((rd_T104 l0 x14_1).f1) ((rd_T104 l0 x14_1).f2)) = some r := by rw [if_neg (show ¬ (false = true) by decide)] at H; exact H
             clear H
             have H := H1
             clear H1
             have H' := Aside0.mk H
             clear H
             have p1561 : 0 ≤ (x21_2 : Int) := of_decide_eq_true (by first | (with_reducible assumption) | assumption)
             have q1561 : x21_2 < (l0.length : Int) := of_decide_eq_true (by first | (with_reducible assumption) | assumption)
             obtain ⟨ad1561, e1561, hx1561_0, hx1561_1, hx1561_2⟩ := at_T104 HR0.out x21_2 p1561 q1561
             obtain rfl : ad1559 = ad1561 := (by injection e1561)
             replace hx1561_0 := (HB.out.cell (World.block_lt_of_cell? w _ hx1561_0)).trans hx1561_0
             replace hx1561_1 := (HB.out.cell (World.block_lt_of_cell? w _ hx1561_1)).trans hx1561_1
             replace hx1561_2 := (HB.out.cell (World.block_lt_of_cell? w _ hx1561_2)).trans hx1561_2
             replace p1561 := eq_true p1561
             replace q1561 := eq_true q1561
             go_wp2_with (first | ((with_reducible refine gate_dst (N := 8) rfl ?_); refine box_event ?hg (N := 8) ?hd (cs := #[.int .i64 0, .int .i64 0, .int .i64 0]) (t := 104) ?hr ?_; (case hd => rfl); (case hg => rfl); (case hr => first | (go_simp; done) | (go_simp; rfl)); intro gb1562 hg w20 hbox hb; have n0_ := Aside0.mk (Kd.R_below (by (with_reducible repeat (first | apply Kd.R_alloc | apply Kd.R_drewN | apply Kd.R_drew)); exact HO_3.out) hb); have n1_ := Aside0.mk (blk_below (g := gb1560) (o := .cells #[.int .i64 ((rd_T104 l0 x14_1).f0), .int .i64 ((rd_T104 l0 x14_1).f1), .int .i64 ((rd_T104 l0 x14_1).f2)] 104 (0, 0)) (by (with_reducible repeat (first | refine blk_drewN ?_ _ | refine blk_drew ?_ | refine blk_alloc ?_ _)); exact BK1560.out) hb); have n2_ := Aside0.mk (below_step (by repeat (first | (with_reducible first | exact HB.out | apply below_alloc | apply pw_below_drewN | apply below_drew1 | refine below_set ?_ GE1560.out) | exact HB.out)) hb); have n3_ := Aside0.mk (hbox); have n4_ := Aside0.mk ((by rw [hg]; exact (below_size (by repeat (first | (with_reducible first | exact HB.out | apply below_alloc | apply pw_below_drewN | apply below_drew1 | refine below_set ?_ GE1560.out) | exact HB.out))) : w.heap.size ≤ gb1562)); have n5_ := Aside0.mk ((by rw [hg]; exact (below_size (by repeat (first | (with_reducible first | exact HB.out | apply below_alloc | apply pw_below_drewN | apply below_drew1 | refine below_set ?_ GE1560.out) | exact HB.out))) : w.heap.size ≤ gb1562)); have n6_ := Aside0.mk ((by rw [hg]; exact Nat.ne_of_lt (blk_lt (g := gb1560) (o := .cells #[.int .i64 ((rd_T104 l0 x14_1).f0), .int .i64 ((rd_T104 l0 x14_1).f1), .int .i64 ((rd_T104 l0 x14_1).f2)] 104 (0, 0)) (by (with_reducible repeat (first | refine blk_drewN ?_ _ | refine blk_drew ?_ | refine blk_alloc ?_ _)); exact BK1560.out)) : gb1560 ≠ gb1562)); have n7_ := Aside0.mk ((by rw [hg]; exact Nat.ne_of_gt (blk_lt (g := gb1560) (o := .cells #[.int .i64 ((rd_T104 l0 x14_1).f0), .int .i64 ((rd_T104 l0 x14_1).f1), .int .i64 ((rd_T104 l0 x14_1).f2)] 104 (0, 0)) (by (with_reducible repeat (first | refine blk_drewN ?_ _ | refine blk_drew ?_ | refine blk_alloc ?_ _)); exact BK1560.out)) : gb1562 ≠ gb1560)); clear HO_3; clear BK1560; clear HB; have HO_3 := n0_; have BK1560 := n1_; have HB := n2_; have BK1562 := n3_; have GW1562 := n4_; have GE1562 := n5_; have NB1560_1562 := n6_; have NB1562_1560 := n7_; clear n0_ n1_ n2_ n3_ n4_ n5_ n6_ n7_; clear hb hbox hg; have hnb21 := NB1562_1560.out; have hnc21 := NB1560_1562.out; have hcz22_0 : w20.cell? ⟨gb1562, 0, none⟩ = some (.int .i64 0) := (blk_cell BK1562.out 0).trans rfl; have hcz22_1 : w20.cell? ⟨gb1562, 1, none⟩ = some (.int .i64 0) := (blk_cell BK1562.out 1).trans rfl; have hcz22_2 : w20.cell? ⟨gb1562, 2, none⟩ = some (.int .i64 0) := (blk_cell BK1562.out 2).trans rfl; have hfz22_0 := blk_frozen BK1562.out 0; have hfz22_1 := blk_frozen BK1562.out 1; have hfz22_2 := blk_frozen BK1562.out 2; have hcz23_0 : w20.cell? ⟨gb1560, 0, none⟩ = some (.int .i64 ((rd_T104 l0 x14_1).f0)) := (blk_cell BK1560.out 0).trans rfl; have hcz23_1 : w20.cell? ⟨gb1560, 1, none⟩ = some (.int .i64 ((rd_T104 l0 x14_1).f1)) := (blk_cell BK1560.out 1).trans rfl; have hcz23_2 : w20.cell? ⟨gb1560, 2, none⟩ = some (.int .i64 ((rd_T104 l0 x14_1).f2)) := (blk_cell BK1560.out 2).trans rfl; have hfz23_0 := blk_frozen BK1560.out 0; have hfz23_1 := blk_frozen BK1560.out 1; have hfz23_2 := blk_frozen BK1560.out 2) | ((with_reducible refine gate_callee (f := 100) rfl ?_); refine goesL_ (some 27) rfl rfl Try.func100 (by kernel_rfl) rfl #[.agg #[.int .i64 ((rd_T104 l0 x14_1).f0), .int .i64 ((rd_T104 l0 x14_1).f1), .int .i64 ((rd_T104 l0 x14_1).f2)], .agg #[.int .i64 ((rd_T104 l0 x21_2).f0), .int .i64 ((rd_T104 l0 x21_2).f1), .int .i64 ((rd_T104 l0 x21_2).f2)]] rfl (by (try simp only [List.map_toArray, List.map_cons, List.map_nil]); first | done | rfl | (simp only [List.length_drop, List.length_take]; rfl)) ?_; (with_reducible refine (impl_areParallel.calls ((rd_T104 l0 x14_1).f0) ((rd_T104 l0 x14_1).f1) ((rd_T104 l0 x14_1).f2) ((rd_T104 l0 x21_2).f0) ((rd_T104 l0 x21_2).f1) ((rd_T104 l0 x21_2).f2) false _ A13.out).mono ?_); rintro e w24 ⟨rfl, hb⟩; refine ⟨_, rfl, ?_⟩; have n0_ := Aside0.mk (Kd.R_below (by (with_reducible repeat (first | apply Kd.R_alloc | apply Kd.R_drewN | apply Kd.R_drew)); exact (Kd.R_mono (Kd.R_far (p := ⟨gb1562, 2, none⟩) (Kd.R_far (p := ⟨gb1562, 1, none⟩) (Kd.R_far (p := ⟨gb1562, 0, none⟩) (Kd.R_types HO_3.out BK1562.out (by decide)) (fun _ hk => hk.2) (.int .i64 ((rd_T104 l0 x21_2).f0))) (fun _ hk => hk.2) (.int .i64 ((rd_T104 l0 x21_2).f1))) (fun _ hk => hk.2) (.int .i64 ((rd_T104 l0 x21_2).f2))) (fun _ h_ => h_.1))) hb); have n1_ := Aside0.mk (blk_below (g := gb1560) (o := .cells #[.int .i64 ((rd_T104 l0 x14_1).f0), .int .i64 ((rd_T104 l0 x14_1).f1), .int .i64 ((rd_T104 l0 x14_1).f2)] 104 (0, 0)) (by (with_reducible repeat (first | refine blk_drewN ?_ _ | refine blk_drew ?_ | refine blk_alloc ?_ _)); refine blk_far ?_ NB1560_1562.out _; (with_reducible repeat (first | refine blk_drewN ?_ _ | refine blk_drew ?_ | refine blk_alloc ?_ _)); refine blk_far ?_ NB1560_1562.out _; (with_reducible repeat (first | refine blk_drewN ?_ _ | refine blk_drew ?_ | refine blk_alloc ?_ _)); refine blk_far ?_ NB1560_1562.out _; (with_reducible repeat (first | refine blk_drewN ?_ _ | refine blk_drew ?_ | refine blk_alloc ?_ _)); exact BK1560.out) hb); have n2_ := Aside0.mk (blk_below (g := gb1562) (o := .cells #[.int .i64 ((rd_T104 l0 x21_2).f0), .int .i64 ((rd_T104 l0 x21_2).f1), .int .i64 ((rd_T104 l0 x21_2).f2)] 104 (0, 0)) (by (with_reducible repeat (first | refine blk_drewN ?_ _ | refine blk_drew ?_ | refine blk_alloc ?_ _)); refine blk_put (cs := #[.int .i64 ((rd_T104 l0 x21_2).f0), .int .i64 ((rd_T104 l0 x21_2).f1), .int .i64 0]) ?_ 2 _ rfl; (with_reducible repeat (first | refine blk_drewN ?_ _ | refine blk_drew ?_ | refine blk_alloc ?_ _)); refine blk_put (cs := #[.int .i64 ((rd_T104 l0 x21_2).f0), .int .i64 0, .int .i64 0]) ?_ 1 _ rfl; (with_reducible repeat (first | refine blk_drewN ?_ _ | refine blk_drew ?_ | refine blk_alloc ?_ _)); refine blk_put (cs := #[.int .i64 0, .int .i64 0, .int .i64 0]) ?_ 0 _ rfl; (with_reducible repeat (first | refine blk_drewN ?_ _ | refine blk_drew ?_ | refine blk_alloc ?_ _)); exact BK1562.out) hb); have n3_ := Aside0.mk (below_step (by repeat (first | (with_reducible first | exact HB.out | apply below_alloc | apply pw_below_drewN | apply below_drew1 | refine below_set ?_ GE1560.out | refine below_set ?_ GE1562.out) | exact HB.out)) hb); clear HO_3; clear BK1560; clear BK1562; clear HB; have HO_3 := n0_; have BK1560 := n1_; have BK1562 := n2_; have HB := n3_; clear n0_ n1_ n2_ n3_; (try clear hb); (try clear hb2); (try clear hk); (try clear hi)))
             go_roundg k2
             case measure => have := HK1.out; have := HK2.out; omega
             case rel => exact ⟨(x6_2), (wrap64 (x21_2 + 1)), (by first | rfl | (simp; done) | (simp [*]; done)), (by first | rfl | (simp; done) | (simp [*]; done)), H', ⟨by have := HK1.out; have := HK2.out; omega⟩, ⟨by (with_reducible repeat (first | apply Kd.R_alloc | apply Kd.R_drewN | apply Kd.R_drew)); exact HO_3.out⟩, ⟨by (with_reducible repeat (first | refine blk_drewN ?_ _ | refine blk_drew ?_ | refine blk_alloc ?_ _)); exact BK1560.out⟩, ⟨by repeat (first | (with_reducible first | exact HB.out | apply below_alloc | apply pw_below_drewN | apply below_drew1 | refine below_set ?_ GE1560.out | refine below_set ?_ GE1562.out) | exact HB.out)⟩⟩
           ·rw [if_neg c12] at H
            exact absurd H (by simp)
          ·rw [if_neg c11] at H
           exact absurd H (by simp)
         ·rw [if_neg c10] at H
          have c10b0 : decide (x21_2 < (l0.length : Int)) = false := decide_eq_false c10
          clear c10
          by_cases c25 : 0 ≤ x14_1
          ·rw [if_pos c25] at H
           have c25b0 := eq_true c25
           have c25b1 : decide (0 ≤ x14_1) = true := decide_eq_true c25
           clear c25
           by_cases c26 : x14_1 ≤ (l0.length : Int)
           ·rw [if_pos c26] at H
            have c26b0 := eq_true c26
            have c26b1 : decide (x14_1 ≤ (l0.length : Int)) = true := decide_eq_true c26
            clear c26
            obtain ⟨y1564, hy1564⟩ : ∃ y_ : List (S104), y_ = (l0.take (x14_1 : Int).toNat) := ⟨_, rfl⟩
            replace H : ((slices_ContainsFunc_Simpl_Line_impl_Line_impl_ParallelClasses_1.f k2 y1564 ((rd_T104 l0 x14_1).f0) ((rd_T104 l0 x14_1).f1) ((rd_T104 l0 x14_1).f2)).bind fun t1568 => (if t1568 = true then (impl_ParallelClasses.l0 k2 l0 x3_1 l0 (l0.length : Int) (wrap64 (x14_1 + 1))) else (if x3_1.length < 17592186044416 then (impl_ParallelClasses.l0 k2 l0 (x3_1 ++ [x6_2]) l0 (l0.length : Int) (wrap64 (x14_1 + 1))) else (none)))) = some r := by first | (rw [hy1564]; with_reducible exact H) | (have H2_ := (Option.bind_some _ _).symm.trans H; rw [hy1564]; with_reducible exact H2_) | (have H2_ := (Option.bind_some _ _).symm.trans H; with_reducible exact H2_) | with_reducible exact H | (rw [hy1564]; exact H) | exact H
            have Ny1564 := Aside0.mk hy1564
            clear hy1564
            replace H := Option.bind_eq_some_iff.mp H
            obtain ⟨t1568, A270, H⟩ := H
            replace H : (if t1568 = true then (impl_ParallelClasses.l0 k2 l0 x3_1 l0 (l0.length : Int) (wrap64 (x14_1 + 1))) else (if x3_1.length < 17592186044416 then (impl_ParallelClasses.l0 k2 l0 (x3_1 ++ [x6_2]) l0 (l0.length : Int) (wrap64 (x14_1 + 1))) else (none))) = some r := H
            have A27 := Aside0.mk A270
            clear A270
            by_cases c28 : t1568 = true
            ·subst c28
             have H1 : (impl_ParallelClasses.l0 k2 l0 x3_1 l0 (l0.length : Int) (wrap64 (x14_1 + 1))) = some r := by rw [if_pos rfl] at H; exact H
             clear H
             have H := H1
             clear H1
             have H' := Aside0.mk H
             clear H
             have q29 : (x14_1 : Int) ≤ ((l0.length : Int) : Int) := of_decide_eq_true (by first | (with_reducible assumption) | assumption)
             obtain ⟨i029, hi029, _, hsz29, _⟩ := info_parts info104
             have hroom29 : l0.length ≤ c0 := HC0.out
             have hC29 : Kd.C k104 _ (some ad1559) l0.length l0 := HR0.out
             have hcut29 := cut_to (P := Try.prog) 54 104 .i64 Try.underlying54 hi029 (some ad1559) l0.length c0 x14_1 (of_decide_eq_true (by first | (with_reducible assumption) | assumption)) q29 hroom29
             have hr29 := Kd.C_take (m := (x14_1 : Int).toNat) hC29 (by omega)
             have hy29 : y1564.length = (x14_1 : Int).toNat := (by rw [Ny1564.out, List.length_take]; omega)
             rw [← Ny1564.out] at hr29
             rw [← hy29] at hcut29
             have HR1567 := Aside0.mk hr29
             have HC1567 := Aside0.mk (show y1564.length ≤ c0 from by omega)
             clear hr29 hC29 hroom29 hi029 hsz29
             have KY29 := Aside0.mk hy29
             clear hy29
             replace q29 := eq_true q29
             go_wp2_with (first | ((with_reducible refine gate_callee (f := 101) rfl ?_); refine goesL_ (some 35) rfl rfl Try.func101 (by kernel_rfl) rfl #[.slice (some ad1559) y1564.length c0, .func (.func 102) #[] #[.pointer (some ⟨gb1560, 0, none⟩)]] rfl (by (try simp only [List.map_toArray, List.map_cons, List.map_nil]); first | done | rfl | (simp only [List.length_drop, List.length_take]; rfl)) ?_; (with_reducible refine (slices_ContainsFunc_Simpl_Line_impl_Line_impl_ParallelClasses_1.calls k2 _ _ y1564 gb1560 ((rd_T104 l0 x14_1).f0) ((rd_T104 l0 x14_1).f1) ((rd_T104 l0 x14_1).f2) true _ ?side1 ?side2 ?side3 A27.out).mono ?_); (case side1 => repeat (first | exact (Kd.C_below HR1567.out HB.out) | (with_reducible refine Kd.C_alloc ?_ _) | (with_reducible refine Kd.C_drewN ?_ _) | (with_reducible refine Kd.C_drew ?_))); (case side2 => exact HC1567.out); (case side3 => exact (by (with_reducible repeat (first | refine blk_drewN ?_ _ | refine blk_drew ?_ | refine blk_alloc ?_ _)); exact BK1560.out)); rintro e w30 ⟨rfl, hb⟩; refine ⟨_, rfl, ?_⟩; have n0_ := Aside0.mk (Kd.R_below (by (with_reducible repeat (first | apply Kd.R_alloc | apply Kd.R_drewN | apply Kd.R_drew)); exact HO_3.out) hb); have n1_ := Aside0.mk (blk_below (g := gb1560) (o := .cells #[.int .i64 ((rd_T104 l0 x14_1).f0), .int .i64 ((rd_T104 l0 x14_1).f1), .int .i64 ((rd_T104 l0 x14_1).f2)] 104 (0, 0)) (by (with_reducible repeat (first | refine blk_drewN ?_ _ | refine blk_drew ?_ | refine blk_alloc ?_ _)); exact BK1560.out) hb); have n2_ := Aside0.mk (below_step (by repeat (first | (with_reducible first | exact HB.out | apply below_alloc | apply pw_below_drewN | apply below_drew1 | refine below_set ?_ GE1560.out) | exact HB.out)) hb); clear HO_3; clear BK1560; clear HB; have HO_3 := n0_; have BK1560 := n1_; have HB := n2_; clear n0_ n1_ n2_; (try clear hb); (try clear hb2); (try clear hk); (try clear hi)))
             go_roundg k2
             case measure => have := HK1.out; have := HK2.out; omega
             case rel => exact ⟨(x3_1), (wrap64 (x14_1 + 1)), (by first | rfl | (simp; done) | (simp [*]; done)), H', ⟨by have := HK1.out; have := HK2.out; omega⟩, ⟨by (with_reducible repeat (first | apply Kd.R_alloc | apply Kd.R_drewN | apply Kd.R_drew)); exact HO_3.out⟩, ⟨by repeat (first | (with_reducible first | exact HB.out | apply below_alloc | apply pw_below_drewN | apply below_drew1 | refine below_set ?_ GE1560.out) | exact HB.out)⟩⟩
            ·replace c28 := Bool.eq_false_iff.mpr c28
             subst c28
             have H1 : (if x3_1.length < 17592186044416 then (impl_ParallelClasses.l0 k2 l0 (x3_1 ++ [x6_2]) l0 (l0.length : Int) (wrap64 (x14_1 + 1))) else (none)) = some r := by rw [if_neg (show ¬ (false = true) by decide)] at H; exact H
             clear H
             have H := H1
             clear H1
             by_cases c31 : x3_1.length < 17592186044416
             ·rw [if_pos c31] at H
              have LMc31 := Aside0.mk c31
              clear c31
              obtain ⟨y1569, hy1569⟩ : ∃ y_ : List Int, y_ = (x3_1 ++ [x6_2]) := ⟨_, rfl⟩
              replace H : (impl_ParallelClasses.l0 k2 l0 y1569 l0 (l0.length : Int) (wrap64 (x14_1 + 1))) = some r := by first | (rw [hy1569]; with_reducible exact H) | (have H2_ := (Option.bind_some _ _).symm.trans H; rw [hy1569]; with_reducible exact H2_) | (have H2_ := (Option.bind_some _ _).symm.trans H; with_reducible exact H2_) | with_reducible exact H | (rw [hy1569]; exact H) | exact H
              have Ny1569 := Aside0.mk hy1569
              clear hy1569
              have H' := Aside0.mk H
              clear H
              have q32 : (x14_1 : Int) ≤ ((l0.length : Int) : Int) := of_decide_eq_true (by first | (with_reducible assumption) | assumption)
              obtain ⟨i032, hi032, _, hsz32, _⟩ := info_parts info104
              have hroom32 : l0.length ≤ c0 := HC0.out
              have hC32 : Kd.C k104 _ (some ad1559) l0.length l0 := HR0.out
              have hcut32 := cut_to (P := Try.prog) 54 104 .i64 Try.underlying54 hi032 (some ad1559) l0.length c0 x14_1 (of_decide_eq_true (by first | (with_reducible assumption) | assumption)) q32 hroom32
              have hr32 := Kd.C_take (m := (x14_1 : Int).toNat) hC32 (by omega)
              have hy32 : y1564.length = (x14_1 : Int).toNat := (by rw [Ny1564.out, List.length_take]; omega)
              rw [← Ny1564.out] at hr32
              rw [← hy32] at hcut32
              have HR1567 := Aside0.mk hr32
              have HC1567 := Aside0.mk (show y1564.length ≤ c0 from by omega)
              clear hr32 hC32 hroom32 hi032 hsz32
              have KY32 := Aside0.mk hy32
              clear hy32
              replace q32 := eq_true q32
              go_wp2_with (first | ((with_reducible refine gate_callee (f := 101) rfl ?_); refine goesL_ (some 35) rfl rfl Try.func101 (by kernel_rfl) rfl #[.slice (some ad1559) y1564.length c0, .func (.func 102) #[] #[.pointer (some ⟨gb1560, 0, none⟩)]] rfl (by (try simp only [List.map_toArray, List.map_cons, List.map_nil]); first | done | rfl | (simp only [List.length_drop, List.length_take]; rfl)) ?_; (with_reducible refine (slices_ContainsFunc_Simpl_Line_impl_Line_impl_ParallelClasses_1.calls k2 _ _ y1564 gb1560 ((rd_T104 l0 x14_1).f0) ((rd_T104 l0 x14_1).f1) ((rd_T104 l0 x14_1).f2) false _ ?side1 ?side2 ?side3 A27.out).mono ?_); (case side1 => repeat (first | exact (Kd.C_below HR1567.out HB.out) | (with_reducible refine Kd.C_alloc ?_ _) | (with_reducible refine Kd.C_drewN ?_ _) | (with_reducible refine Kd.C_drew ?_))); (case side2 => exact HC1567.out); (case side3 => exact (by (with_reducible repeat (first | refine blk_drewN ?_ _ | refine blk_drew ?_ | refine blk_alloc ?_ _)); exact BK1560.out)); rintro e w33 ⟨rfl, hb⟩; refine ⟨_, rfl, ?_⟩; have n0_ := Aside0.mk (Kd.R_below (by (with_reducible repeat (first | apply Kd.R_alloc | apply Kd.R_drewN | apply Kd.R_drew)); exact HO_3.out) hb); have n1_ := Aside0.mk (blk_below (g := gb1560) (o := .cells #[.int .i64 ((rd_T104 l0 x14_1).f0), .int .i64 ((rd_T104 l0 x14_1).f1), .int .i64 ((rd_T104 l0 x14_1).f2)] 104 (0, 0)) (by (with_reducible repeat (first | refine blk_drewN ?_ _ | refine blk_drew ?_ | refine blk_alloc ?_ _)); exact BK1560.out) hb); have n2_ := Aside0.mk (below_step (by repeat (first | (with_reducible first | exact HB.out | apply below_alloc | apply pw_below_drewN | apply below_drew1 | refine below_set ?_ GE1560.out) | exact HB.out)) hb); clear HO_3; clear BK1560; clear HB; have HO_3 := n0_; have BK1560 := n1_; have HB := n2_; clear n0_ n1_ n2_; (try clear hb); (try clear hb2); (try clear hk); (try clear hi)) | ((with_reducible refine gate_builtin (b := .append) (xs := #[.tmp 37, .tmp 39]) rfl ?_); at_builtin; refine Kd.R_append (Kd.int .i64) (w0 := w) w.heap.size rfl (.tmp 37) (.tmp 39) 35 3 (.int .i64 0) 8 rfl Try.underlying35 info3 rfl (by decide) (by omega) u3 x3_1 x6_2 [.int .i64 x6_2] (fun _ => True) (fun _ => False) rfl rfl ?aP (fun _ hk => hk.elim) ?aF ?aO ?aB ?aS ?aL ?_; (case aP => exact rfl); (case aB => exact (by repeat (first | (with_reducible first | exact HB.out | apply below_alloc | apply pw_below_drewN | apply below_drew1 | refine below_set ?_ GE1560.out) | exact HB.out))); (case aF => exact (fun _ _ => trivial)); (case aO => exact (by (with_reducible repeat (first | apply Kd.R_alloc | apply Kd.R_drewN | apply Kd.R_drew)); exact HO_3.out)); (case aS => exact (below_size (by repeat (first | (with_reducible first | exact HB.out | apply below_alloc | apply pw_below_drewN | apply below_drew1 | refine below_set ?_ GE1560.out) | exact HB.out)))); (case aL => have := LMc31.out; omega); intro v1570 w34 ho hb hg hat; rw [← Ny1569.out] at ho; have n0_ := Aside0.mk (blk_grown (g := gb1560) (o := .cells #[.int .i64 ((rd_T104 l0 x14_1).f0), .int .i64 ((rd_T104 l0 x14_1).f1), .int .i64 ((rd_T104 l0 x14_1).f2)] 104 (0, 0)) (by (with_reducible repeat (first | refine blk_drewN ?_ _ | refine blk_drew ?_ | refine blk_alloc ?_ _)); exact BK1560.out) hg (Kd.R_ne HO_3.out BK1560.out (by decide))); have n1_ := Aside0.mk (hb); have n2_ := Aside0.mk (ho); clear BK1560; clear HB; clear HO_3; have BK1560 := n0_; have HB := n1_; have HO1571 := n2_; clear n0_ n1_ n2_; clear ho hb hg hat))
              go_roundg k2
              case measure => have := HK1.out; have := HK2.out; omega
              case rel => exact ⟨(y1569), (wrap64 (x14_1 + 1)), (by first | rfl | (simp; done) | (simp [*]; done)), H', ⟨by have := HK1.out; have := HK2.out; omega⟩, ⟨by (with_reducible repeat (first | apply Kd.R_alloc | apply Kd.R_drewN | apply Kd.R_drew)); exact HO1571.out⟩, ⟨by repeat (first | (with_reducible first | exact HB.out | apply below_alloc | apply pw_below_drewN | apply below_drew1 | refine below_set ?_ GE1560.out) | exact HB.out)⟩⟩
             ·rw [if_neg c31] at H
              exact absurd H (by simp)
           ·rw [if_neg c26] at H
            exact absurd H (by simp)
          ·rw [if_neg c25] at H
           exact absurd H (by simp)
      ·rw [if_neg c7] at H
       exact absurd H (by simp)
     ·rw [if_neg c6] at H
      exact absurd H (by simp)
    ·rw [if_neg c5] at H
     have c5b0 : decide (x14_1 < (l0.length : Int)) = false := decide_eq_false c5
     clear c5
     replace H := Option.bind_eq_some_iff.mp H
     obtain ⟨t1558, A350, H⟩ := H
     replace H : (some t1558) = some r := H
     have A35 := Aside0.mk A350
     clear A350
     obtain rfl := Option.some.inj H
     obtain ⟨Ao36, co36, eo36⟩ := Kd.R_slice HO_3.out
     subst eo36
     go_wp2_with (first | ((with_reducible refine gate_callee (f := 103) rfl ?_); refine goesL_ (some 43) rfl rfl Try.func103 (by kernel_rfl) rfl #[.slice Ao36 x3_1.length co36] rfl (by (try simp only [List.map_toArray, List.map_cons, List.map_nil]); first | done | rfl | (simp only [List.length_drop, List.length_take]; rfl)) ?_; (with_reducible refine (slices_Sort_Sint_int.calls (fun k_ => some k_ = (.slice Ao36 x3_1.length co36 : Value).ownBlock) (.slice Ao36 x3_1.length co36) x3_1 t1558 w _ ?side1 ?side2 A35.out).mono ?_); (case side1 => repeat (first | (with_reducible first | exact HB.out | apply below_alloc | apply pw_below_drewN | apply below_drew1) | exact HB.out)); (case side2 => exact Kd.R_tight rfl HO_3.out); rintro e w37 ⟨rfl, hy0, hb, hkp⟩; refine ⟨_, rfl, ?_⟩; have n0_ := Aside0.mk (Kd.R_reok rfl hy0 (fun k_ e_ => HO_3.out.1 k_ e_)); have n1_ := Aside0.mk (hb); clear HO_3; clear HB; have HO_3 := n0_; have HB := n1_; clear n0_ n1_; (try clear hb); (try clear hkp); (try clear hy0)))
     go_ret
     exact ⟨_, by first | rfl | (simp [errW_none, errW_some] <;> rfl) | (simp [*, errW_none, errW_some] <;> rfl), by (with_reducible repeat (first | apply Kd.R_alloc | apply Kd.R_drewN | apply Kd.R_drew)); exact HO_3.out, by repeat (first | (with_reducible first | exact HB.out | apply below_alloc | apply pw_below_drewN | apply below_drew1) | exact HB.out)⟩
 ·replace c3 := Bool.eq_false_iff.mpr c3
  subst c3
  have H1 : (some ([] : List Int)) = some r := by rw [if_neg (show ¬ (false = true) by decide)] at H; exact H
  clear H
  have H := H1
  clear H1
  obtain rfl := Option.some.inj H
  go_enter Try.func51, Try.ntmps51
  go_wp2_with (first | ((with_reducible refine gate_callee (f := 99) rfl ?_); refine goesL_ (some 10) rfl rfl Try.func99 (by kernel_rfl) rfl #[.slice A0 l0.length c0] rfl (by (try simp only [List.map_toArray, List.map_cons, List.map_nil]); first | done | rfl | (simp only [List.length_drop, List.length_take]; rfl)) ?_; (with_reducible refine (impl_AreLines.calls k _ _ l0 false _ ?side1 ?side2 A2.out).mono ?_); (case side1 => repeat (first | exact HR0.out | (with_reducible refine Kd.C_alloc ?_ _) | (with_reducible refine Kd.C_drewN ?_ _) | (with_reducible refine Kd.C_drew ?_))); (case side2 => exact HC0.out); rintro e w38 ⟨rfl, hb⟩; refine ⟨_, rfl, ?_⟩; have n0_ := Aside0.mk (below_step (by repeat (first | (with_reducible first | exact HB.out | apply below_alloc | apply pw_below_drewN | apply below_drew1) | exact HB.out)) hb); clear HB; have HB := n0_; clear n0_; (try clear hb); (try clear hb2); (try clear hk); (try clear hi)))
  go_ret
  exact ⟨_, by first | rfl | (simp [errW_none, errW_some] <;> rfl) | (simp [*, errW_none, errW_some] <;> rfl), by first | exact Kd.R_nil _ _ _ _ _ | exact Kd.N_nil _ _ _ _ _ | exact Kd.V_nil _ _ _ _ _ | exact Kd.Q_nil _ _ _ _ _ | exact Kd.S_nil _ _ _ _ _, by repeat (first | (with_reducible first | exact HB.out | apply below_alloc | apply pw_below_drewN | apply below_drew1) | exact HB.out)⟩
def laws_eqLine.f (a0_0 : Int) (a0_1 : Int) (a0_2 : Int) (a1_0 : Int) (a1_1 : Int) (a1_2 : Int) : Option (Bool) := if a0_0 = a1_0 then (if a0_1 = a1_1 then (if a0_2 = a1_2 then (some true) else (some false)) else (some false)) else (some false)
set_option maxHeartbeats 8000000 in
set_option maxRecDepth 100000 in
theorem laws_eqLine.calls (a0_0 : Int) (a0_1 : Int) (a0_2 : Int) (a1_0 : Int) (a1_1 : Int) (a1_2 : Int) (r : Bool) (w : World) (h : laws_eqLine.f a0_0 a0_1 a0_2 a1_0 a1_1 a1_2 = some r) :
  Calls Try.prog 104 #[.agg #[.int .i64 a0_0, .int .i64 a0_1, .int .i64 a0_2], .agg #[.int .i64 a1_0, .int .i64 a1_1, .int .i64 a1_2]] w fun e w' => e = .returned (.bool r) ∧ Below w.heap.size w w' := by
 have hu104 := Try.underlying104
 have HB := Aside0.mk (Below.refl w.heap.size w)
 have H : (if a0_0 = a1_0 then (if a0_1 = a1_1 then (if a0_2 = a1_2 then (some true) else (some false)) else (some false)) else (some false)) = some r := h
 clear h
 by_cases c3 : a0_0 = a1_0
 ·rw [if_pos c3] at H
  have c3b0 : (a0_0 == a1_0) = true := beq_iff_eq.mpr c3
  have c3b1 : (a0_0 != a1_0) = false := bne_eq_false_iff_eq.mpr c3
  clear c3
  by_cases c4 : a0_1 = a1_1
  ·rw [if_pos c4] at H
   have c4b0 : (a0_1 == a1_1) = true := beq_iff_eq.mpr c4
   have c4b1 : (a0_1 != a1_1) = false := bne_eq_false_iff_eq.mpr c4
   clear c4
   by_cases c5 : a0_2 = a1_2
   ·rw [if_pos c5] at H
    have c5b0 : (a0_2 == a1_2) = true := beq_iff_eq.mpr c5
    have c5b1 : (a0_2 != a1_2) = false := bne_eq_false_iff_eq.mpr c5
    clear c5
    obtain rfl := Option.some.inj H
    go_enter Try.func104, Try.ntmps104
    go_wp2_with (first | ((with_reducible refine gate_dst (N := 2) rfl ?_); refine box_event ?hg (N := 2) ?hd (cs := #[.int .i64 a0_0, .int .i64 a0_1, .int .i64 a0_2]) (t := 104) ?hr ?_; (case hd => rfl); (case hg => rfl); (case hr => first | (go_simp; done) | (go_simp; rfl)); intro gb1572 hg w6 hbox hb; have n0_ := Aside0.mk (below_step (by repeat (first | (with_reducible first | exact HB.out | apply below_alloc | apply pw_below_drewN | apply below_drew1) | exact HB.out)) hb); have n1_ := Aside0.mk (hbox); have n2_ := Aside0.mk ((by rw [hg]; exact (below_size (by repeat (first | (with_reducible first | exact HB.out | apply below_alloc | apply pw_below_drewN | apply below_drew1) | exact HB.out))) : w.heap.size ≤ gb1572)); have n3_ := Aside0.mk ((by rw [hg]; exact (below_size (by repeat (first | (with_reducible first | exact HB.out | apply below_alloc | apply pw_below_drewN | apply below_drew1) | exact HB.out))) : w.heap.size ≤ gb1572)); clear HB; have HB := n0_; have BK1572 := n1_; have GW1572 := n2_; have GE1572 := n3_; clear n0_ n1_ n2_ n3_; clear hb hbox hg) | ((with_reducible refine gate_dst (N := 3) rfl ?_); refine box_event ?hg (N := 3) ?hd (cs := #[.int .i64 a1_0, .int .i64 a1_1, .int .i64 a1_2]) (t := 104) ?hr ?_; (case hd => rfl); (case hg => rfl); (case hr => first | (go_simp; done) | (go_simp; rfl)); intro gb1573 hg w7 hbox hb; have n0_ := Aside0.mk (blk_below (g := gb1572) (o := .cells #[.int .i64 a0_0, .int .i64 a0_1, .int .i64 a0_2] 104 (0, 0)) (by (with_reducible repeat (first | refine blk_drewN ?_ _ | refine blk_drew ?_ | refine blk_alloc ?_ _)); exact BK1572.out) hb); have n1_ := Aside0.mk (below_step (by repeat (first | (with_reducible first | exact HB.out | apply below_alloc | apply pw_below_drewN | apply below_drew1 | refine below_set ?_ GE1572.out) | exact HB.out)) hb); have n2_ := Aside0.mk (hbox); have n3_ := Aside0.mk ((by rw [hg]; exact (below_size (by repeat (first | (with_reducible first | exact HB.out | apply below_alloc | apply pw_below_drewN | apply below_drew1 | refine below_set ?_ GE1572.out) | exact HB.out))) : w.heap.size ≤ gb1573)); have n4_ := Aside0.mk ((by rw [hg]; exact (below_size (by repeat (first | (with_reducible first | exact HB.out | apply below_alloc | apply pw_below_drewN | apply below_drew1 | refine below_set ?_ GE1572.out) | exact HB.out))) : w.heap.size ≤ gb1573)); have n5_ := Aside0.mk ((by rw [hg]; exact Nat.ne_of_lt (blk_lt (g := gb1572) (o := .cells #[.int .i64 a0_0, .int .i64 a0_1, .int .i64 a0_2] 104 (0, 0)) (by (with_reducible repeat (first | refine blk_drewN ?_ _ | refine blk_drew ?_ | refine blk_alloc ?_ _)); exact BK1572.out)) : gb1572 ≠ gb1573)); have n6_ := Aside0.mk ((by rw [hg]; exact Nat.ne_of_gt (blk_lt (g := gb1572) (o := .cells #[.int .i64 a0_0, .int .i64 a0_1, .int .i64 a0_2] 104 (0, 0)) (by (with_reducible repeat (first | refine blk_drewN ?_ _ | refine blk_drew ?_ | refine blk_alloc ?_ _)); exact BK1572.out)) : gb1573 ≠ gb1572)); clear BK1572; clear HB; have BK1572 := n0_; have HB := n1_; have BK1573 := n2_; have GW1573 := n3_; have GE1573 := n4_; have NB1572_1573 := n5_; have NB1573_1572 := n6_; clear n0_ n1_ n2_ n3_ n4_ n5_ n6_; clear hb hbox hg; have hnb8 := NB1572_1573.out; have hnc8 := NB1573_1572.out; have hcz9_0 : w7.cell? ⟨gb1572, 0, none⟩ = some (.int .i64 a0_0) := (blk_cell BK1572.out 0).trans rfl; have hcz9_1 : w7.cell? ⟨gb1572, 1, none⟩ = some (.int .i64 a0_1) := (blk_cell BK1572.out 1).trans rfl; have hcz9_2 : w7.cell? ⟨gb1572, 2, none⟩ = some (.int .i64 a0_2) := (blk_cell BK1572.out 2).trans rfl; have hfz9_0 := blk_frozen BK1572.out 0; have hfz9_1 := blk_frozen BK1572.out 1; have hfz9_2 := blk_frozen BK1572.out 2; have hcz10_0 : w7.cell? ⟨gb1573, 0, none⟩ = some (.int .i64 a1_0) := (blk_cell BK1573.out 0).trans rfl; have hcz10_1 : w7.cell? ⟨gb1573, 1, none⟩ = some (.int .i64 a1_1) := (blk_cell BK1573.out 1).trans rfl; have hcz10_2 : w7.cell? ⟨gb1573, 2, none⟩ = some (.int .i64 a1_2) := (blk_cell BK1573.out 2).trans rfl; have hfz10_0 := blk_frozen BK1573.out 0; have hfz10_1 := blk_frozen BK1573.out 1; have hfz10_2 := blk_frozen BK1573.out 2))
    go_ret
    exact ⟨by first | rfl | (simp [errW_none, errW_some] <;> rfl) | (simp [*, errW_none, errW_some] <;> rfl), by repeat (first | (with_reducible first | exact HB.out | apply below_alloc | apply pw_below_drewN | apply below_drew1 | refine below_set ?_ GE1572.out | refine below_set ?_ GE1573.out) | exact HB.out)⟩
   ·rw [if_neg c5] at H
    have c5b0 : (a0_2 == a1_2) = false := beq_eq_false_iff_ne.mpr c5
    have c5b1 : (a0_2 != a1_2) = true := bne_iff_ne.mpr c5
    obtain rfl := Option.some.inj H
    go_enter Try.func104, Try.ntmps104
    go_wp2_with (first | ((with_reducible refine gate_dst (N := 2) rfl ?_); refine box_event ?hg (N := 2) ?hd (cs := #[.int .i64 a0_0, .int .i64 a0_1, .int .i64 a0_2]) (t := 104) ?hr ?_; (case hd => rfl); (case hg => rfl); (case hr => first | (go_simp; done) | (go_simp; rfl)); intro gb1572 hg w11 hbox hb; have n0_ := Aside0.mk (below_step (by repeat (first | (with_reducible first | exact HB.out | apply below_alloc | apply pw_below_drewN | apply below_drew1) | exact HB.out)) hb); have n1_ := Aside0.mk (hbox); have n2_ := Aside0.mk ((by rw [hg]; exact (below_size (by repeat (first | (with_reducible first | exact HB.out | apply below_alloc | apply pw_below_drewN | apply below_drew1) | exact HB.out))) : w.heap.size ≤ gb1572)); have n3_ := Aside0.mk ((by rw [hg]; exact (below_size (by repeat (first | (with_reducible first | exact HB.out | apply below_alloc | apply pw_below_drewN | apply below_drew1) | exact HB.out))) : w.heap.size ≤ gb1572)); clear HB; have HB := n0_; have BK1572 := n1_; have GW1572 := n2_; have GE1572 := n3_; clear n0_ n1_ n2_ n3_; clear hb hbox hg) | ((with_reducible refine gate_dst (N := 3) rfl ?_); refine box_event ?hg (N := 3) ?hd (cs := #[.int .i64 a1_0, .int .i64 a1_1, .int .i64 a1_2]) (t := 104) ?hr ?_; (case hd => rfl); (case hg => rfl); (case hr => first | (go_simp; done) | (go_simp; rfl)); intro gb1573 hg w12 hbox hb; have n0_ := Aside0.mk (blk_below (g := gb1572) (o := .cells #[.int .i64 a0_0, .int .i64 a0_1, .int .i64 a0_2] 104 (0, 0)) (by (with_reducible repeat (first | refine blk_drewN ?_ _ | refine blk_drew ?_ | refine blk_alloc ?_ _)); exact BK1572.out) hb); have n1_ := Aside0.mk (below_step (by repeat (first | (with_reducible first | exact HB.out | apply below_alloc | apply pw_below_drewN | apply below_drew1 | refine below_set ?_ GE1572.out) | exact HB.out)) hb); have n2_ := Aside0.mk (hbox); have n3_ := Aside0.mk ((by rw [hg]; exact (below_size (by repeat (first | (with_reducible first | exact HB.out | apply below_alloc | apply pw_below_drewN | apply below_drew1 | refine below_set ?_ GE1572.out) | exact HB.out))) : w.heap.size ≤ gb1573)); have n4_ := Aside0.mk ((by rw [hg]; exact (below_size (by repeat (first | (with_reducible first | exact HB.out | apply below_alloc | apply pw_below_drewN | apply below_drew1 | refine below_set ?_ GE1572.out) | exact HB.out))) : w.heap.size ≤ gb1573)); have n5_ := Aside0.mk ((by rw [hg]; exact Nat.ne_of_lt (blk_lt (g := gb1572) (o := .cells #[.int .i64 a0_0, .int .i64 a0_1, .int .i64 a0_2] 104 (0, 0)) (by (with_reducible repeat (first | refine blk_drewN ?_ _ | refine blk_drew ?_ | refine blk_alloc ?_ _)); exact BK1572.out)) : gb1572 ≠ gb1573)); have n6_ := Aside0.mk ((by rw [hg]; exact Nat.ne_of_gt (blk_lt (g := gb1572) (o := .cells #[.int .i64 a0_0, .int .i64 a0_1, .int .i64 a0_2] 104 (0, 0)) (by (with_reducible repeat (first | refine blk_drewN ?_ _ | refine blk_drew ?_ | refine blk_alloc ?_ _)); exact BK1572.out)) : gb1573 ≠ gb1572)); clear BK1572; clear HB; have BK1572 := n0_; have HB := n1_; have BK1573 := n2_; have GW1573 := n3_; have GE1573 := n4_; have NB1572_1573 := n5_; have NB1573_1572 := n6_; clear n0_ n1_ n2_ n3_ n4_ n5_ n6_; clear hb hbox hg; have hnb13 := NB1572_1573.out; have hnc13 := NB1573_1572.out; have hcz14_0 : w12.cell? ⟨gb1572, 0, none⟩ = some (.int .i64 a0_0) := (blk_cell BK1572.out 0).trans rfl; have hcz14_1 : w12.cell? ⟨gb1572, 1, none⟩ = some (.int .i64 a0_1) := (blk_cell BK1572.out 1).trans rfl; have hcz14_2 : w12.cell? ⟨gb1572, 2, none⟩ = some (.int .i64 a0_2) := (blk_cell BK1572.out 2).trans rfl; have hfz14_0 := blk_frozen BK1572.out 0; have hfz14_1 := blk_frozen BK1572.out 1; have hfz14_2 := blk_frozen BK1572.out 2; have hcz15_0 : w12.cell? ⟨gb1573, 0, none⟩ = some (.int .i64 a1_0) := (blk_cell BK1573.out 0).trans rfl; have hcz15_1 : w12.cell? ⟨gb1573, 1, none⟩ = some (.int .i64 a1_1) := (blk_cell BK1573.out 1).trans rfl; have hcz15_2 : w12.cell? ⟨gb1573, 2, none⟩ = some (.int .i64 a1_2) := (blk_cell BK1573.out 2).trans rfl; have hfz15_0 := blk_frozen BK1573.out 0; have hfz15_1 := blk_frozen BK1573.out 1; have hfz15_2 := blk_frozen BK1573.out 2))
    go_ret
    exact ⟨by first | rfl | (simp [errW_none, errW_some] <;> rfl) | (simp [*, errW_none, errW_some] <;> rfl), by repeat (first | (with_reducible first | exact HB.out | apply below_alloc | apply pw_below_drewN | apply below_drew1 | refine below_set ?_ GE1572.out | refine below_set ?_ GE1573.out) | exact HB.out)⟩
  ·rw [if_neg c4] at H
   have c4b0 : (a0_1 == a1_1) = false := beq_eq_false_iff_ne.mpr c4
   have c4b1 : (a0_1 != a1_1) = true := bne_iff_ne.mpr c4
   obtain rfl := Option.some.inj H
   go_enter Try.func104, Try.ntmps104
   go_wp2_with (first | ((with_reducible refine gate_dst (N := 2) rfl ?_); refine box_event ?hg (N := 2) ?hd (cs := #[.int .i64 a0_0, .int .i64 a0_1, .int .i64 a0_2]) (t := 104) ?hr ?_; (case hd => rfl); (case hg => rfl); (case hr => first | (go_simp; done) | (go_simp; rfl)); intro gb1572 hg w16 hbox hb; have n0_ := Aside0.mk (below_step (by repeat (first | (with_reducible first | exact HB.out | apply below_alloc | apply pw_below_drewN | apply below_drew1) | exact HB.out)) hb); have n1_ := Aside0.mk (hbox); have n2_ := Aside0.mk ((by rw [hg]; exact (below_size (by repeat (first | (with_reducible first | exact HB.out | apply below_alloc | apply pw_below_drewN | apply below_drew1) | exact HB.out))) : w.heap.size ≤ gb1572)); have n3_ := Aside0.mk ((by rw [hg]; exact (below_size (by repeat (first | (with_reducible first | exact HB.out | apply below_alloc | apply pw_below_drewN | apply below_drew1) | exact HB.out))) : w.heap.size ≤ gb1572)); clear HB; have HB := n0_; have BK1572 := n1_; have GW1572 := n2_; have GE1572 := n3_; clear n0_ n1_ n2_ n3_; clear hb hbox hg) | ((with_reducible refine gate_dst (N := 3) rfl ?_); refine box_event ?hg (N := 3) ?hd (cs := #[.int .i64 a1_0, .int .i64 a1_1, .int .i64 a1_2]) (t := 104) ?hr ?_; (case hd => rfl); (case hg => rfl); (case hr => first | (go_simp; done) | (go_simp; rfl)); intro gb1573 hg w17 hbox hb; have n0_ := Aside0.mk (blk_below (g := gb1572) (o := .cells #[.int .i64 a0_0, .int .i64 a0_1, .int .i64 a0_2] 104 (0, 0)) (by (with_reducible repeat (first | refine blk_drewN ?_ _ | refine blk_drew ?_ | refine blk_alloc ?_ _)); exact BK1572.out) hb); have n1_ := Aside0.mk (below_step (by repeat (first | (with_reducible first | exact HB.out | apply below_alloc | apply pw_below_drewN | apply below_drew1 | refine below_set ?_ GE1572.out) | exact HB.out)) hb); have n2_ := Aside0.mk (hbox); have n3_ := Aside0.mk ((by rw [hg]; exact (below_size (by repeat (first | (with_reducible first | exact HB.out | apply below_alloc | apply pw_below_drewN | apply below_drew1 | refine below_set ?_ GE1572.out) | exact HB.out))) : w.heap.size ≤ gb1573)); have n4_ := Aside0.mk ((by rw [hg]; exact (below_size (by repeat (first | (with_reducible first | exact HB.out | apply below_alloc | apply pw_below_drewN | apply below_drew1 | refine below_set ?_ GE1572.out) | exact HB.out))) : w.heap.size ≤ gb1573)); have n5_ := Aside0.mk ((by rw [hg]; exact Nat.ne_of_lt (blk_lt (g := gb1572) (o := .cells #[.int .i64 a0_0, .int .i64 a0_1, .int .i64 a0_2] 104 (0, 0)) (by (with_reducible repeat (first | refine blk_drewN ?_ _ | refine blk_drew ?_ | refine blk_alloc ?_ _)); exact BK1572.out)) : gb1572 ≠ gb1573)); have n6_ := Aside0.mk ((by rw [hg]; exact Nat.ne_of_gt (blk_lt (g := gb1572) (o := .cells #[.int .i64 a0_0, .int .i64 a0_1, .int .i64 a0_2] 104 (0, 0)) (by (with_reducible repeat (first | refine blk_drewN ?_ _ | refine blk_drew ?_ | refine blk_alloc ?_ _)); exact BK1572.out)) : gb1573 ≠ gb1572)); clear BK1572; clear HB; have BK1572 := n0_; have HB := n1_; have BK1573 := n2_; have GW1573 := n3_; have GE1573 := n4_; have NB1572_1573 := n5_; have NB1573_1572 := n6_; clear n0_ n1_ n2_ n3_ n4_ n5_ n6_; clear hb hbox hg; have hnb18 := NB1572_1573.out; have hnc18 := NB1573_1572.out; have hcz19_0 : w17.cell? ⟨gb1572, 0, none⟩ = some (.int .i64 a0_0) := (blk_cell BK1572.out 0).trans rfl; have hcz19_1 : w17.cell? ⟨gb1572, 1, none⟩ = some (.int .i64 a0_1) := (blk_cell BK1572.out 1).trans rfl; have hcz19_2 : w17.cell? ⟨gb1572, 2, none⟩ = some (.int .i64 a0_2) := (blk_cell BK1572.out 2).trans rfl; have hfz19_0 := blk_frozen BK1572.out 0; have hfz19_1 := blk_frozen BK1572.out 1; have hfz19_2 := blk_frozen BK1572.out 2; have hcz20_0 : w17.cell? ⟨gb1573, 0, none⟩ = some (.int .i64 a1_0) := (blk_cell BK1573.out 0).trans rfl; have hcz20_1 : w17.cell? ⟨gb1573, 1, none⟩ = some (.int .i64 a1_1) := (blk_cell BK1573.out 1).trans rfl; have hcz20_2 : w17.cell? ⟨gb1573, 2, none⟩ = some (.int .i64 a1_2) := (blk_cell BK1573.out 2).trans rfl; have hfz20_0 := blk_frozen BK1573.out 0; have hfz20_1 := blk_frozen BK1573.out 1; have hfz20_2 := blk_frozen BK1573.out 2))
   go_ret
   exact ⟨by first | rfl | (simp [errW_none, errW_some] <;> rfl) | (simp [*, errW_none, errW_some] <;> rfl), by repeat (first | (with_reducible first | exact HB.out | apply below_alloc | apply pw_below_drewN | apply below_drew1 | refine below_set ?_ GE1572.out | refine below_set ?_ GE1573.out) | exact HB.out)⟩
 ·rw [if_neg c3] at H
  have c3b0 : (a0_0 == a1_0) = false := beq_eq_false_iff_ne.mpr c3
  have c3b1 : (a0_0 != a1_0) = true := bne_iff_ne.mpr c3
  obtain rfl := Option.some.inj H
  go_enter Try.func104, Try.ntmps104
  go_wp2_with (first | ((with_reducible refine gate_dst (N := 2) rfl ?_); refine box_event ?hg (N := 2) ?hd (cs := #[.int .i64 a0_0, .int .i64 a0_1, .int .i64 a0_2]) (t := 104) ?hr ?_; (case hd => rfl); (case hg => rfl); (case hr => first | (go_simp; done) | (go_simp; rfl)); intro gb1572 hg w21 hbox hb; have n0_ := Aside0.mk (below_step (by repeat (first | (with_reducible first | exact HB.out | apply below_alloc | apply pw_below_drewN | apply below_drew1) | exact HB.out)) hb); have n1_ := Aside0.mk (hbox); have n2_ := Aside0.mk ((by rw [hg]; exact (below_size (by repeat (first | (with_reducible first | exact HB.out | apply below_alloc | apply pw_below_drewN | apply below_drew1) | exact HB.out))) : w.heap.size ≤ gb1572)); have n3_ := Aside0.mk ((by rw [hg]; exact (below_size (by repeat (first | (with_reducible first | exact HB.out | apply below_alloc | apply pw_below_drewN | apply below_drew1) | exact HB.out))) : w.heap.size ≤ gb1572)); clear HB; have HB := n0_; have BK1572 := n1_; have GW1572 := n2_; have GE1572 := n3_; clear n0_ n1_ n2_ n3_; clear hb hbox hg) | ((with_reducible refine gate_dst (N := 3) rfl ?_); refine box_event ?hg (N := 3) ?hd (cs := #[.int .i64 a1_0, .int .i64 a1_1, .int .i64 a1_2]) (t := 104) ?hr ?_; (case hd => rfl); (case hg => rfl); (case hr => first | (go_simp; done) | (go_simp; rfl)); intro gb1573 hg w22 hbox hb; have n0_ := Aside0.mk (blk_below (g := gb1572) (o := .cells #[.int .i64 a0_0, .int .i64 a0_1, .int .i64 a0_2] 104 (0, 0)) (by (with_reducible repeat (first | refine blk_drewN ?_ _ | refine blk_drew ?_ | refine blk_alloc ?_ _)); exact BK1572.out) hb); have n1_ := Aside0.mk (below_step (by repeat (first | (with_reducible first | exact HB.out | apply below_alloc | apply pw_below_drewN | apply below_drew1 | refine below_set ?_ GE1572.out) | exact HB.out)) hb); have n2_ := Aside0.mk (hbox); have n3_ := Aside0.mk ((by rw [hg]; exact (below_size (by repeat (first | (with_reducible first | exact HB.out | apply below_alloc | apply pw_below_drewN | apply below_drew1 | refine below_set ?_ GE1572.out) | exact HB.out))) : w.heap.size ≤ gb1573)); have n4_ := Aside0.mk ((by rw [hg]; exact (below_size (by repeat (first | (with_reducible first | exact HB.out | apply below_alloc | apply pw_below_drewN | apply below_drew1 | refine below_set ?_ GE1572.out) | exact HB.out))) : w.heap.size ≤ gb1573)); have n5_ := Aside0.mk ((by rw [hg]; exact Nat.ne_of_lt (blk_lt (g := gb1572) (o := .cells #[.int .i64 a0_0, .int .i64 a0_1, .int .i64 a0_2] 104 (0, 0)) (by (with_reducible repeat (first | refine blk_drewN ?_ _ | refine blk_drew ?_ | refine blk_alloc ?_ _)); exact BK1572.out)) : gb1572 ≠ gb1573)); have n6_ := Aside0.mk ((by rw [hg]; exact Nat.ne_of_gt (blk_lt (g := gb1572) (o := .cells #[.int .i64 a0_0, .int .i64 a0_1, .int .i64 a0_2] 104 (0, 0)) (by (with_reducible repeat (first | refine blk_drewN ?_ _ | refine blk_drew ?_ | refine blk_alloc ?_ _)); exact BK1572.out)) : gb1573 ≠ gb1572)); clear BK1572; clear HB; have BK1572 := n0_; have HB := n1_; have BK1573 := n2_; have GW1573 := n3_; have GE1573 := n4_; have NB1572_1573 := n5_; have NB1573_1572 := n6_; clear n0_ n1_ n2_ n3_ n4_ n5_ n6_; clear hb hbox hg; have hnb23 := NB1572_1573.out; have hnc23 := NB1573_1572.out; have hcz24_0 : w22.cell? ⟨gb1572, 0, none⟩ = some (.int .i64 a0_0) := (blk_cell BK1572.out 0).trans rfl; have hcz24_1 : w22.cell? ⟨gb1572, 1, none⟩ = some (.int .i64 a0_1) := (blk_cell BK1572.out 1).trans rfl; have hcz24_2 : w22.cell? ⟨gb1572, 2, none⟩ = some (.int .i64 a0_2) := (blk_cell BK1572.out 2).trans rfl; have hfz24_0 := blk_frozen BK1572.out 0; have hfz24_1 := blk_frozen BK1572.out 1; have hfz24_2 := blk_frozen BK1572.out 2; have hcz25_0 : w22.cell? ⟨gb1573, 0, none⟩ = some (.int .i64 a1_0) := (blk_cell BK1573.out 0).trans rfl; have hcz25_1 : w22.cell? ⟨gb1573, 1, none⟩ = some (.int .i64 a1_1) := (blk_cell BK1573.out 1).trans rfl; have hcz25_2 : w22.cell? ⟨gb1573, 2, none⟩ = some (.int .i64 a1_2) := (blk_cell BK1573.out 2).trans rfl; have hfz25_0 := blk_frozen BK1573.out 0; have hfz25_1 := blk_frozen BK1573.out 1; have hfz25_2 := blk_frozen BK1573.out 2))
  go_ret
  exact ⟨by first | rfl | (simp [errW_none, errW_some] <;> rfl) | (simp [*, errW_none, errW_some] <;> rfl), by repeat (first | (with_reducible first | exact HB.out | apply below_alloc | apply pw_below_drewN | apply below_drew1 | refine below_set ?_ GE1572.out | refine below_set ?_ GE1573.out) | exact HB.out)⟩
end Go.Proofs.Yteblnjoljbdjjaa.P
