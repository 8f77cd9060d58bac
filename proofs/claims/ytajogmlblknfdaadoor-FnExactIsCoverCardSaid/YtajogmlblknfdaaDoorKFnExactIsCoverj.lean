/- What the law FnExactIsCover reaches, part 10: functions as plain Lean functions with the proofs that their calls come to them, and plain lemmas over these. Put together by a program (wip/pack.py). -/
import Derived.Test.YtajogmlblknfdaaDoorKFnExactIsCoverc
import Derived.Test.YtajogmlblknfdaaDoorKFnExactIsCoverg
import Derived.Test.YtajogmlblknfdaaDoorKFnExactIsCoverh
import Derived.Test.YtajogmlblknfdaaDoorKFnExactIsCoveri
namespace Go.Proofs.YtajogmlblknfdaaDoor.P
open Go.RowKit Go.Proofs.YtajogmlblknfdaaDoorW.PrintWords Go.Proofs.YtajogmlblknfdaaDoorW.PrintLast Go.Proofs.YtajogmlblknfdaaDoorW.PrintMore
attribute [local go_sem] ptrOf_slice
attribute [local go_sem] max2_int min2_int max_two min_two max_three min_three max_four min_four
set_option linter.unusedVariables false
set_option linter.unusedSimpArgs false
mutual
def impl_IsCover.j0 : Nat → ByteArray → Bool → Int → ByteArray → Option (Bool)
 | 0, _, _, _, _ => none
 | k + 1, x1, x24, x254000, x254001 => if x24 = true then (some false) else ((impl_tableOf.f k x254000 x254001).bind fun t256 => ((impl_quadsOf.f k x254000).bind fun t259 => (impl_IsCover.l0 k x1 t256 t259 (t259.length : Int) 0)))
def impl_IsCover.l0 : Nat → ByteArray → List Int → List (S44) → Int → Int → Option (Bool)
 | 0, _, _, _, _, _ => none
 | k + 1, x1, x5, x29, x30, x31 => if x31 < x30 then (if 0 ≤ x31 then (if x31 < (x29.length : Int) then (if 0 ≤ ((rd_T44 x29 x31).f0) then (if ((rd_T44 x29 x31).f0) < (x1.size : Int) then (if 0 ≤ ((rd_T44 x29 x31).f1) then (if ((rd_T44 x29 x31).f1) < (x1.size : Int) then (if 0 ≤ ((rd_T44 x29 x31).f2) then (if ((rd_T44 x29 x31).f2) < (x1.size : Int) then (if 0 ≤ ((rd_T44 x29 x31).f3) then (if ((rd_T44 x29 x31).f3) < (x1.size : Int) then ((some (([bt x1 ((rd_T44 x29 x31).f0), bt x1 ((rd_T44 x29 x31).f1), bt x1 ((rd_T44 x29 x31).f2), bt x1 ((rd_T44 x29 x31).f3)] : List Int) : List Int)).bind fun y264 => ((impl_chi_circuit.f k x5 ((rd_T44 x29 x31).f0) ((rd_T44 x29 x31).f1) ((rd_T44 x29 x31).f2) ((rd_T44 x29 x31).f3)).bind fun t267 => (if t267.toList = (strOfNums y264).toList then (some false) else ((impl_opposite.f (strOfNums y264)).bind fun t268 => (if t267.toList = t268.toList then (some false) else (impl_IsCover.l0 k x1 x5 x29 x30 (wrap64 (x31 + 1)))))))) else (none)) else (none)) else (none)) else (none)) else (none)) else (none)) else (none)) else (none)) else (none)) else (none)) else (some true)
end
def impl_IsCover.f (k : Nat) (a0_0 : Int) (a0_1 : ByteArray) (a1 : ByteArray) : Option (Bool) := (impl_IsMatroid.f k a0_0 a0_1).bind fun t254 => (if t254 = true then (if (a1.size : Int) = a0_0 then ((strings_Trim.f k a1 (⟨#[43, 45]⟩ : ByteArray)).bind fun t255 => (impl_IsCover.j0 k a1 (t255.toList != ([] : List UInt8)) a0_0 a0_1)) else (impl_IsCover.j0 k a1 true a0_0 a0_1)) else (impl_IsCover.j0 k a1 true a0_0 a0_1))
def impl_IsCover.T7 : Bool × List (List Nat × List Nat) := (true, [([], []), ([], []), ([1], [1]), ([0, 2], [0, 2]), ([], []), ([], []), ([5], [5]), ([4, 6], [4, 6]), ([], []), ([], []), ([9], [9]), ([8, 10], [8, 10]), ([], []), ([], []), ([13], [13]), ([12, 14], [12, 14]), ([3, 7, 11, 15], [3, 7, 11, 15]), ([16], [16]), ([17, 0, 1, 2, 3, 4, 5, 6, 7, 8, 9, 10, 11, 12, 13, 14, 15, 16, 17], [17])])
def impl_IsCover.B7 : List Nat := [0, 0, 2, 7, 0, 0, 32, 112, 0, 0, 512, 1792, 0, 0, 8192, 28672, 65535, 131071, 262143]
theorem impl_IsCover.tab7 : rtab .any (opsOf Tryd.f16 7) = impl_IsCover.T7 := by kernel_rfl
theorem impl_IsCover.bits7 : waitsOk impl_IsCover.T7.2 impl_IsCover.B7 = true := by kernel_rfl
set_option maxHeartbeats 8000000 in
set_option maxRecDepth 100000 in
theorem impl_IsCover.calls (k : Nat) (a0_0 : Int) (a0_1 : ByteArray) (a1 : ByteArray) (r : Bool) (w : World) (h : impl_IsCover.f k a0_0 a0_1 a1 = some r) :
  Calls Tryd.prog 16 #[.agg #[.int .i64 a0_0, .string a0_1], .string a1] w fun e w' => e = .returned (.bool r) ∧ Below w.heap.size w w' := by
 have hu32 := Tryd.underlying32
 have hu44 := Tryd.underlying44
 have HB := Aside0.mk (Below.refl w.heap.size w)
 have H : ((impl_IsMatroid.f k a0_0 a0_1).bind fun t254 => (if t254 = true then (if (a1.size : Int) = a0_0 then ((strings_Trim.f k a1 (⟨#[43, 45]⟩ : ByteArray)).bind fun t255 => (impl_IsCover.j0 k a1 (t255.toList != ([] : List UInt8)) a0_0 a0_1)) else (impl_IsCover.j0 k a1 true a0_0 a0_1)) else (impl_IsCover.j0 k a1 true a0_0 a0_1))) = some r := h
 clear h
 have HC3 := Aside0.mk H
 clear H
 go_enter Tryd.func16, Tryd.ntmps16
 go_upto_region 1 with (first | ((with_reducible refine gate_dst (N := 2) rfl ?_); (try (refine gate_guard (by rfl) ?_; dsimp only)); refine box_event ?hg (N := 2) ?hd (cs := #[.int .i64 a0_0, .string a0_1]) (t := 32) ?hr ?_; (case hd => rfl); (case hg => rfl); (case hr => first | (go_simp; done) | (go_simp; rfl)); intro gb253 hg w4 hbox hb; have n0_ := Aside0.mk (below_step (by repeat (first | (with_reducible first | exact HB.out | apply below_alloc | apply pw_below_drewN | apply below_drew1) | exact HB.out)) hb); have n1_ := Aside0.mk (hbox); have n2_ := Aside0.mk ((by rw [hg]; exact (below_size (by repeat (first | (with_reducible first | exact HB.out | apply below_alloc | apply pw_below_drewN | apply below_drew1) | exact HB.out))) : w.heap.size ≤ gb253)); have n3_ := Aside0.mk ((by rw [hg]; exact (below_size (by repeat (first | (with_reducible first | exact HB.out | apply below_alloc | apply pw_below_drewN | apply below_drew1) | exact HB.out))) : w.heap.size ≤ gb253)); clear HB; have HB := n0_; have BK253 := n1_; have GW253 := n2_; have GE253 := n3_; clear n0_ n1_ n2_ n3_; clear hb hbox hg))
 (try simp only [Act.put, List.setIfInBounds_toArray, List.set_cons_zero, List.set_cons_succ])
 go_cut [24] (fun v24 wc => ∃ (kq : Nat) (x24_2 : Bool), v24 = .bool x24_2 ∧ Aside0 (impl_IsCover.j0 kq a1 x24_2 a0_0 a0_1 = some r) ∧ Aside0 (kq ≤ k) ∧ Aside0 (wc.heap[gb253]? = some (.cells #[.int .i64 a0_0, .string a0_1] 32 (0, 0))) ∧ Aside0 (Below w.heap.size w wc))
 case first =>
  have H := HC3.out
  clear HC3
  replace H := Option.bind_eq_some_iff.mp H
  obtain ⟨t254, A50, H⟩ := H
  replace H : (if t254 = true then (if (a1.size : Int) = a0_0 then ((strings_Trim.f k a1 (⟨#[43, 45]⟩ : ByteArray)).bind fun t255 => (impl_IsCover.j0 k a1 (t255.toList != ([] : List UInt8)) a0_0 a0_1)) else (impl_IsCover.j0 k a1 true a0_0 a0_1)) else (impl_IsCover.j0 k a1 true a0_0 a0_1)) = some r := H
  have A5 := Aside0.mk A50
  clear A50
  by_cases c6 : t254 = true
  ·subst c6
   have H1 : (if (a1.size : Int) = a0_0 then ((strings_Trim.f k a1 (⟨#[43, 45]⟩ : ByteArray)).bind fun t255 => (impl_IsCover.j0 k a1 (t255.toList != ([] : List UInt8)) a0_0 a0_1)) else (impl_IsCover.j0 k a1 true a0_0 a0_1)) = some r := by rw [if_pos rfl] at H; exact H
   clear H
   have H := H1
   clear H1
   by_cases c7 : (a1.size : Int) = a0_0
   ·rw [if_pos c7] at H
    have c7b0 : ((a1.size : Int) == a0_0) = true := beq_iff_eq.mpr c7
    have c7b1 : ((a1.size : Int) != a0_0) = false := bne_eq_false_iff_eq.mpr c7
    clear c7
    (first | rw [c7b0] | (simp only [i64_w, i32_w]; rw [c7b0]) | skip)
    replace H := Option.bind_eq_some_iff.mp H
    obtain ⟨t255, A80, H⟩ := H
    replace H : (impl_IsCover.j0 k a1 (t255.toList != ([] : List UInt8)) a0_0 a0_1) = some r := H
    have A8 := Aside0.mk A80
    clear A80
    have H' := Aside0.mk H
    clear H
    have hcz9_0 : w4.cell? ⟨gb253, 0, none⟩ = some (.int .i64 a0_0) := (blk_cell BK253.out 0).trans rfl
    have hcz9_1 : w4.cell? ⟨gb253, 1, none⟩ = some (.string a0_1) := (blk_cell BK253.out 1).trans rfl
    have hfz9_0 := blk_frozen BK253.out 0
    have hfz9_1 := blk_frozen BK253.out 1
    go_wp2_with (first | ((with_reducible refine gate_callee (f := 25) rfl ?_); refine goesL_ (some 11) rfl rfl Tryd.func25 (by kernel_rfl) rfl #[.agg #[.int .i64 a0_0, .string a0_1]] rfl (by (try simp only [List.map_toArray, List.map_cons, List.map_nil]); first | done | rfl | (simp only [List.length_drop, List.length_take]; rfl)) ?_; (with_reducible refine (impl_IsMatroid.calls k a0_0 a0_1 true _ A5.out).mono ?_); rintro e w10 ⟨rfl, hb⟩; refine ⟨_, rfl, ?_⟩; have n0_ := Aside0.mk (blk_below (g := gb253) (o := .cells #[.int .i64 a0_0, .string a0_1] 32 (0, 0)) (by (with_reducible repeat (first | refine blk_drewN ?_ _ | refine blk_drew ?_ | refine blk_alloc ?_ _)); exact BK253.out) hb); have n1_ := Aside0.mk (below_step (by repeat (first | (with_reducible first | exact HB.out | apply below_alloc | apply pw_below_drewN | apply below_drew1 | refine below_set ?_ GE253.out) | exact HB.out)) hb); clear BK253; clear HB; have BK253 := n0_; have HB := n1_; clear n0_ n1_; (try clear hb); (try clear hb2); (try clear hk); (try clear hi); have hcz11_0 : w10.cell? ⟨gb253, 0, none⟩ = some (.int .i64 a0_0) := (blk_cell BK253.out 0).trans rfl; have hcz11_1 : w10.cell? ⟨gb253, 1, none⟩ = some (.string a0_1) := (blk_cell BK253.out 1).trans rfl; have hfz11_0 := blk_frozen BK253.out 0; have hfz11_1 := blk_frozen BK253.out 1) | (go_at_call 26; (with_reducible refine (strings_Trim.calls k a1 (⟨#[43, 45]⟩ : ByteArray) t255 _ A8.out).mono ?_); rintro e w12 ⟨rfl, hb⟩; have n0_ := Aside0.mk (blk_below (g := gb253) (o := .cells #[.int .i64 a0_0, .string a0_1] 32 (0, 0)) (by (with_reducible repeat (first | refine blk_drewN ?_ _ | refine blk_drew ?_ | refine blk_alloc ?_ _)); exact BK253.out) hb); have n1_ := Aside0.mk (below_step (by repeat (first | (with_reducible first | exact HB.out | apply below_alloc | apply pw_below_drewN | apply below_drew1 | refine below_set ?_ GE253.out) | exact HB.out)) hb); clear BK253; clear HB; have BK253 := n0_; have HB := n1_; clear n0_ n1_; (try clear hb); (try clear hb2); (try clear hk); (try clear hi)))
    go_meet
    case rel => exact ⟨_, ((t255.toList != ([] : List UInt8))), (by first | rfl | (simp; done) | (simp [*]; done) | (simp; exact (fun l : List UInt8 => (by cases l <;> rfl : l.isEmpty = !(l != []))) _)), H', ⟨by first | omega | exact Nat.le_refl _⟩, ⟨by (with_reducible repeat (first | refine blk_drewN ?_ _ | refine blk_drew ?_ | refine blk_alloc ?_ _)); exact BK253.out⟩, ⟨by repeat (first | (with_reducible first | exact HB.out | apply below_alloc | apply pw_below_drewN | apply below_drew1 | refine below_set ?_ GE253.out) | exact HB.out)⟩⟩
   ·rw [if_neg c7] at H
    have c7b0 : ((a1.size : Int) == a0_0) = false := beq_eq_false_iff_ne.mpr c7
    have c7b1 : ((a1.size : Int) != a0_0) = true := bne_iff_ne.mpr c7
    (first | rw [c7b0] | (simp only [i64_w, i32_w]; rw [c7b0]) | skip)
    have H' := Aside0.mk H
    clear H
    have hcz13_0 : w4.cell? ⟨gb253, 0, none⟩ = some (.int .i64 a0_0) := (blk_cell BK253.out 0).trans rfl
    have hcz13_1 : w4.cell? ⟨gb253, 1, none⟩ = some (.string a0_1) := (blk_cell BK253.out 1).trans rfl
    have hfz13_0 := blk_frozen BK253.out 0
    have hfz13_1 := blk_frozen BK253.out 1
    go_wp2_with (first | ((with_reducible refine gate_callee (f := 25) rfl ?_); refine goesL_ (some 11) rfl rfl Tryd.func25 (by kernel_rfl) rfl #[.agg #[.int .i64 a0_0, .string a0_1]] rfl (by (try simp only [List.map_toArray, List.map_cons, List.map_nil]); first | done | rfl | (simp only [List.length_drop, List.length_take]; rfl)) ?_; (with_reducible refine (impl_IsMatroid.calls k a0_0 a0_1 true _ A5.out).mono ?_); rintro e w14 ⟨rfl, hb⟩; refine ⟨_, rfl, ?_⟩; have n0_ := Aside0.mk (blk_below (g := gb253) (o := .cells #[.int .i64 a0_0, .string a0_1] 32 (0, 0)) (by (with_reducible repeat (first | refine blk_drewN ?_ _ | refine blk_drew ?_ | refine blk_alloc ?_ _)); exact BK253.out) hb); have n1_ := Aside0.mk (below_step (by repeat (first | (with_reducible first | exact HB.out | apply below_alloc | apply pw_below_drewN | apply below_drew1 | refine below_set ?_ GE253.out) | exact HB.out)) hb); clear BK253; clear HB; have BK253 := n0_; have HB := n1_; clear n0_ n1_; (try clear hb); (try clear hb2); (try clear hk); (try clear hi); have hcz15_0 : w14.cell? ⟨gb253, 0, none⟩ = some (.int .i64 a0_0) := (blk_cell BK253.out 0).trans rfl; have hcz15_1 : w14.cell? ⟨gb253, 1, none⟩ = some (.string a0_1) := (blk_cell BK253.out 1).trans rfl; have hfz15_0 := blk_frozen BK253.out 0; have hfz15_1 := blk_frozen BK253.out 1))
    go_meet
    case rel => exact ⟨_, (true), (by first | rfl | (simp; done) | (simp [*]; done)), H', ⟨by first | omega | exact Nat.le_refl _⟩, ⟨by (with_reducible repeat (first | refine blk_drewN ?_ _ | refine blk_drew ?_ | refine blk_alloc ?_ _)); exact BK253.out⟩, ⟨by repeat (first | (with_reducible first | exact HB.out | apply below_alloc | apply pw_below_drewN | apply below_drew1 | refine below_set ?_ GE253.out) | exact HB.out)⟩⟩
  ·replace c6 := Bool.eq_false_iff.mpr c6
   subst c6
   have H1 : (impl_IsCover.j0 k a1 true a0_0 a0_1) = some r := by rw [if_neg (show ¬ (false = true) by decide)] at H; exact H
   clear H
   have H := H1
   clear H1
   have H' := Aside0.mk H
   clear H
   have hcz16_0 : w4.cell? ⟨gb253, 0, none⟩ = some (.int .i64 a0_0) := (blk_cell BK253.out 0).trans rfl
   have hcz16_1 : w4.cell? ⟨gb253, 1, none⟩ = some (.string a0_1) := (blk_cell BK253.out 1).trans rfl
   have hfz16_0 := blk_frozen BK253.out 0
   have hfz16_1 := blk_frozen BK253.out 1
   go_wp2_with (first | ((with_reducible refine gate_callee (f := 25) rfl ?_); refine goesL_ (some 11) rfl rfl Tryd.func25 (by kernel_rfl) rfl #[.agg #[.int .i64 a0_0, .string a0_1]] rfl (by (try simp only [List.map_toArray, List.map_cons, List.map_nil]); first | done | rfl | (simp only [List.length_drop, List.length_take]; rfl)) ?_; (with_reducible refine (impl_IsMatroid.calls k a0_0 a0_1 false _ A5.out).mono ?_); rintro e w17 ⟨rfl, hb⟩; refine ⟨_, rfl, ?_⟩; have n0_ := Aside0.mk (blk_below (g := gb253) (o := .cells #[.int .i64 a0_0, .string a0_1] 32 (0, 0)) (by (with_reducible repeat (first | refine blk_drewN ?_ _ | refine blk_drew ?_ | refine blk_alloc ?_ _)); exact BK253.out) hb); have n1_ := Aside0.mk (below_step (by repeat (first | (with_reducible first | exact HB.out | apply below_alloc | apply pw_below_drewN | apply below_drew1 | refine below_set ?_ GE253.out) | exact HB.out)) hb); clear BK253; clear HB; have BK253 := n0_; have HB := n1_; clear n0_ n1_; (try clear hb); (try clear hb2); (try clear hk); (try clear hi)))
   go_meet
   case rel => exact ⟨_, (true), (by first | rfl | (simp; done) | (simp [*]; done)), H', ⟨by first | omega | exact Nat.le_refl _⟩, ⟨by (with_reducible repeat (first | refine blk_drewN ?_ _ | refine blk_drew ?_ | refine blk_alloc ?_ _)); exact BK253.out⟩, ⟨by repeat (first | (with_reducible first | exact HB.out | apply below_alloc | apply pw_below_drewN | apply below_drew1 | refine below_set ?_ GE253.out) | exact HB.out)⟩⟩
 case rest =>
  clear HC3
  try clear c1
  try clear c2
  try clear p2
  try clear c6
  try clear c7
  try clear c7b0
  try clear c7b1
  try clear c16
  try clear hcz11_0
  try clear hcz11_1
  try clear hcz13_0
  try clear hcz13_1
  try clear hcz15_0
  try clear hcz15_1
  try clear hcz16_0
  try clear hcz16_1
  try clear hcz9_0
  try clear hcz9_1
  try clear hfz11_0
  try clear hfz11_1
  try clear hfz13_0
  try clear hfz13_1
  try clear hfz15_0
  try clear hfz15_1
  try clear hfz16_0
  try clear hfz16_1
  try clear hfz9_0
  try clear hfz9_1
  obtain ⟨kq, x24_2, rfl, HA, HJ2, BK253, HB⟩ := hcut
  cases kq with
  | zero => exact absurd HA.out (by simp [impl_IsCover.j0])
  | succ kj2 =>
   have H := HA.out
   clear HA
   simp only [impl_IsCover.j0] at H
   by_cases c18 : x24_2 = true
   ·subst c18
    have H1 : (some false) = some r := by rw [if_pos rfl] at H; exact H
    clear H
    have H := H1
    clear H1
    obtain rfl := Option.some.inj H
    go_wp2
    go_ret
    exact ⟨by first | rfl | (simp [errW_none, errW_some] <;> rfl) | (simp [*, errW_none, errW_some] <;> rfl), by repeat (first | (with_reducible first | exact HB.out | apply below_alloc | apply pw_below_drewN | apply below_drew1 | refine below_set ?_ GE253.out) | exact HB.out)⟩
   ·replace c18 := Bool.eq_false_iff.mpr c18
    subst c18
    have H1 : ((impl_tableOf.f kj2 a0_0 a0_1).bind fun t256 => ((impl_quadsOf.f kj2 a0_0).bind fun t259 => (impl_IsCover.l0 kj2 a1 t256 t259 (t259.length : Int) 0))) = some r := by rw [if_neg (show ¬ (false = true) by decide)] at H; exact H
    clear H
    have H := H1
    clear H1
    replace H := Option.bind_eq_some_iff.mp H
    obtain ⟨t256, A190, H⟩ := H
    replace H : ((impl_quadsOf.f kj2 a0_0).bind fun t259 => (impl_IsCover.l0 kj2 a1 t256 t259 (t259.length : Int) 0)) = some r := H
    have A19 := Aside0.mk A190
    clear A190
    replace H := Option.bind_eq_some_iff.mp H
    obtain ⟨t259, A200, H⟩ := H
    replace H : (impl_IsCover.l0 kj2 a1 t256 t259 (t259.length : Int) 0) = some r := H
    have A20 := Aside0.mk A200
    clear A200
    have H' := Aside0.mk H
    clear H
    have hcz21_0 : wc.cell? ⟨gb253, 0, none⟩ = some (.int .i64 a0_0) := (blk_cell BK253.out 0).trans rfl
    have hcz21_1 : wc.cell? ⟨gb253, 1, none⟩ = some (.string a0_1) := (blk_cell BK253.out 1).trans rfl
    have hfz21_0 := blk_frozen BK253.out 0
    have hfz21_1 := blk_frozen BK253.out 1
    go_wp2_with (first | ((with_reducible refine gate_callee (f := 27) rfl ?_); refine goesL_ (some 26) rfl rfl Tryd.func27 (by kernel_rfl) rfl #[.agg #[.int .i64 a0_0, .string a0_1]] rfl (by (try simp only [List.map_toArray, List.map_cons, List.map_nil]); first | done | rfl | (simp only [List.length_drop, List.length_take]; rfl)) ?_; (with_reducible refine (impl_tableOf.calls kj2 a0_0 a0_1 t256 _ A19.out).mono ?_); rintro e w22 ⟨v257, rfl, ho0, hb⟩; refine ⟨_, rfl, ?_⟩; have n0_ := Aside0.mk (Kd.R_lower ho0 (below_size (by repeat (first | (with_reducible first | exact HB.out | apply below_alloc | apply pw_below_drewN | apply below_drew1 | refine below_set ?_ GE253.out) | exact HB.out)))); have n1_ := Aside0.mk (blk_below (g := gb253) (o := .cells #[.int .i64 a0_0, .string a0_1] 32 (0, 0)) (by (with_reducible repeat (first | refine blk_drewN ?_ _ | refine blk_drew ?_ | refine blk_alloc ?_ _)); exact BK253.out) hb); have n2_ := Aside0.mk (below_step (by repeat (first | (with_reducible first | exact HB.out | apply below_alloc | apply pw_below_drewN | apply below_drew1 | refine below_set ?_ GE253.out) | exact HB.out)) hb); clear BK253; clear HB; have HO258 := n0_; have BK253 := n1_; have HB := n2_; clear n0_ n1_ n2_; (try clear hb); (try clear hb2); (try clear hk); (try clear hi); (try clear ho0); have hcz23_0 : w22.cell? ⟨gb253, 0, none⟩ = some (.int .i64 a0_0) := (blk_cell BK253.out 0).trans rfl; have hcz23_1 : w22.cell? ⟨gb253, 1, none⟩ = some (.string a0_1) := (blk_cell BK253.out 1).trans rfl; have hfz23_0 := blk_frozen BK253.out 0; have hfz23_1 := blk_frozen BK253.out 1) | ((with_reducible refine gate_callee (f := 28) rfl ?_); refine goesL_ (some 29) rfl rfl Tryd.func28 (by kernel_rfl) rfl #[.int .i64 a0_0] rfl (by (try simp only [List.map_toArray, List.map_cons, List.map_nil]); first | done | rfl | (simp only [List.length_drop, List.length_take]; rfl)) ?_; (with_reducible refine (impl_quadsOf.calls kj2 a0_0 t259 _ A20.out).mono ?_); rintro e w24 ⟨v260, rfl, ho0, hb⟩; refine ⟨_, rfl, ?_⟩; have n0_ := Aside0.mk (Kd.R_below (by (with_reducible repeat (first | apply Kd.R_alloc | apply Kd.R_drewN | apply Kd.R_drew)); exact HO258.out) hb); have n1_ := Aside0.mk (Kd.R_lower ho0 (below_size (by repeat (first | (with_reducible first | exact HB.out | apply below_alloc | apply pw_below_drewN | apply below_drew1 | refine below_set ?_ GE253.out) | exact HB.out)))); have n2_ := Aside0.mk (blk_below (g := gb253) (o := .cells #[.int .i64 a0_0, .string a0_1] 32 (0, 0)) (by (with_reducible repeat (first | refine blk_drewN ?_ _ | refine blk_drew ?_ | refine blk_alloc ?_ _)); exact BK253.out) hb); have n3_ := Aside0.mk (below_step (by repeat (first | (with_reducible first | exact HB.out | apply below_alloc | apply pw_below_drewN | apply below_drew1 | refine below_set ?_ GE253.out) | exact HB.out)) hb); clear HO258; clear BK253; clear HB; have HO258 := n0_; have HO261 := n1_; have BK253 := n2_; have HB := n3_; clear n0_ n1_ n2_ n3_; (try clear hb); (try clear hb2); (try clear hk); (try clear hi); (try clear ho0); obtain ⟨Ao25, co25, eo25⟩ := Kd.R_slice HO261.out; subst eo25))
    go_loopg [31] kj2 (fun kq v31 w' => ∃ (x31_2 : Int), v31 = .int .i64 x31_2 ∧ Aside0 (impl_IsCover.l0 kq a1 t256 t259 (t259.length : Int) x31_2 = some r) ∧ Aside0 (kq ≤ kj2) ∧ Aside0 (Kd.R (Kd.int .i64) 61 w' w.heap.size (fun _ => True) v257 t256) ∧ Aside0 (Kd.R k44 44 w' w.heap.size (fun _ => True) (.slice Ao25 t259.length co25) t259) ∧ Aside0 (w'.heap[gb253]? = some (.cells #[.int .i64 a0_0, .string a0_1] 32 (0, 0))) ∧ Aside0 (Below w.heap.size w w'))
    case atStart => exact ⟨(0), (by first | rfl | (simp; done) | (simp [*]; done)), H', ⟨Nat.le_refl _⟩, ⟨by (with_reducible repeat (first | apply Kd.R_alloc | apply Kd.R_drewN | apply Kd.R_drew)); exact HO258.out⟩, ⟨by (with_reducible repeat (first | apply Kd.R_alloc | apply Kd.R_drewN | apply Kd.R_drew)); exact HO261.out⟩, ⟨by (with_reducible repeat (first | refine blk_drewN ?_ _ | refine blk_drew ?_ | refine blk_alloc ?_ _)); exact BK253.out⟩, ⟨by repeat (first | (with_reducible first | exact HB.out | apply below_alloc | apply pw_below_drewN | apply below_drew1 | refine below_set ?_ GE253.out) | exact HB.out)⟩⟩
    case round =>
     clear H'
     try clear c1
     try clear c2
     try clear p2
     try clear c6
     try clear c7
     try clear c7b0
     try clear c7b1
     try clear c16
     try clear c18
     try clear c25
     try clear hcz11_0
     try clear hcz11_1
     try clear hcz13_0
     try clear hcz13_1
     try clear hcz15_0
     try clear hcz15_1
     try clear hcz16_0
     try clear hcz16_1
     try clear hcz21_0
     try clear hcz21_1
     try clear hcz23_0
     try clear hcz23_1
     try clear hcz9_0
     try clear hcz9_1
     try clear hfz11_0
     try clear hfz11_1
     try clear hfz13_0
     try clear hfz13_1
     try clear hfz15_0
     try clear hfz15_1
     try clear hfz16_0
     try clear hfz16_1
     try clear hfz21_0
     try clear hfz21_1
     try clear hfz23_0
     try clear hfz23_1
     try clear hfz9_0
     try clear hfz9_1
     try clear p2
     obtain ⟨x31_2, rfl, HA, HK2, HO_5, HO_29, BK253, HB⟩ := hrel
     cases gk with
     | zero => exact absurd HA.out (by simp [impl_IsCover.l0])
     | succ k2 =>
      have H := HA.out
      clear HA
      simp only [impl_IsCover.l0] at H
      by_cases c26 : x31_2 < (t259.length : Int)
      ·rw [if_pos c26] at H
       have c26b0 : decide (x31_2 < (t259.length : Int)) = true := decide_eq_true c26
       clear c26
       by_cases c27 : 0 ≤ x31_2
       ·rw [if_pos c27] at H
        have c27b0 : decide (0 ≤ x31_2) = true := decide_eq_true c27
        clear c27
        by_cases c28 : x31_2 < (t259.length : Int)
        ·rw [if_pos c28] at H
         have c28b0 : decide (x31_2 < (t259.length : Int)) = true := decide_eq_true c28
         clear c28
         by_cases c29 : 0 ≤ ((rd_T44 t259 x31_2).f0)
         ·rw [if_pos c29] at H
          have c29b0 : decide (0 ≤ ((rd_T44 t259 x31_2).f0)) = true := decide_eq_true c29
          clear c29
          by_cases c30 : ((rd_T44 t259 x31_2).f0) < (a1.size : Int)
          ·rw [if_pos c30] at H
           have c30b0 : decide (((rd_T44 t259 x31_2).f0) < (a1.size : Int)) = true := decide_eq_true c30
           clear c30
           by_cases c32 : 0 ≤ ((rd_T44 t259 x31_2).f1)
           ·rw [if_pos c32] at H
            have c32b0 : decide (0 ≤ ((rd_T44 t259 x31_2).f1)) = true := decide_eq_true c32
            clear c32
            by_cases c33 : ((rd_T44 t259 x31_2).f1) < (a1.size : Int)
            ·rw [if_pos c33] at H
             have c33b0 : decide (((rd_T44 t259 x31_2).f1) < (a1.size : Int)) = true := decide_eq_true c33
             clear c33
             by_cases c35 : 0 ≤ ((rd_T44 t259 x31_2).f2)
             ·rw [if_pos c35] at H
              have c35b0 : decide (0 ≤ ((rd_T44 t259 x31_2).f2)) = true := decide_eq_true c35
              clear c35
              by_cases c36 : ((rd_T44 t259 x31_2).f2) < (a1.size : Int)
              ·rw [if_pos c36] at H
               have c36b0 : decide (((rd_T44 t259 x31_2).f2) < (a1.size : Int)) = true := decide_eq_true c36
               clear c36
               by_cases c38 : 0 ≤ ((rd_T44 t259 x31_2).f3)
               ·rw [if_pos c38] at H
                have c38b0 : decide (0 ≤ ((rd_T44 t259 x31_2).f3)) = true := decide_eq_true c38
                clear c38
                by_cases c39 : ((rd_T44 t259 x31_2).f3) < (a1.size : Int)
                ·rw [if_pos c39] at H
                 have c39b0 : decide (((rd_T44 t259 x31_2).f3) < (a1.size : Int)) = true := decide_eq_true c39
                 clear c39
                 obtain ⟨y264, hy264⟩ : ∃ y_ : List Int, y_ = (([bt a1 ((rd_T44 t259 x31_2).f0), bt a1 ((rd_T44 t259 x31_2).f1), bt a1 ((rd_T44 t259 x31_2).f2), bt a1 ((rd_T44 t259 x31_2).f3)] : List Int)) := ⟨_, rfl⟩
                 replace H : ((impl_chi_circuit.f k2 t256 ((rd_T44 t259 x31_2).f0) ((rd_T44 t259 x31_2).f1) ((rd_T44 t259 x31_2).f2) ((rd_T44 t259 x31_2).f3)).bind fun t267 => (if t267.toList = (strOfNums y264).toList then (some false) else ((impl_opposite.f (strOfNums y264)).bind fun t268 => (if t267.toList = t268.toList then (some false) else (impl_IsCover.l0 k2 a1 t256 t259 (t259.length : Int) (wrap64 (x31_2 + 1))))))) = some r := by first | (rw [hy264]; with_reducible exact H) | (have H2_ := (Option.bind_some _ _).symm.trans H; rw [hy264]; with_reducible exact H2_) | (have H2_ := (Option.bind_some _ _).symm.trans H; with_reducible exact H2_) | with_reducible exact H | (rw [hy264]; exact H) | exact H
                 have Ny264 := Aside0.mk hy264
                 clear hy264
                 replace H := Option.bind_eq_some_iff.mp H
                 obtain ⟨t267, A410, H⟩ := H
                 replace H : (if t267.toList = (strOfNums y264).toList then (some false) else ((impl_opposite.f (strOfNums y264)).bind fun t268 => (if t267.toList = t268.toList then (some false) else (impl_IsCover.l0 k2 a1 t256 t259 (t259.length : Int) (wrap64 (x31_2 + 1)))))) = some r := H
                 have A41 := Aside0.mk A410
                 clear A410
                 by_cases c42 : t267.toList = (strOfNums y264).toList
                 ·rw [if_pos c42] at H
                  have c42b0 : (t267.toList == (strOfNums y264).toList) = true := beq_iff_eq.mpr c42
                  have c42b1 : (t267.toList != (strOfNums y264).toList) = false := bne_eq_false_iff_eq.mpr c42
                  clear c42
                  obtain rfl := Option.some.inj H
                  have p262 : 0 ≤ (x31_2 : Int) := of_decide_eq_true (by first | (with_reducible assumption) | assumption)
                  have q262 : x31_2 < (t259.length : Int) := of_decide_eq_true (by first | (with_reducible assumption) | assumption)
                  obtain ⟨ad262, e262, hx262_0, hx262_1, hx262_2, hx262_3⟩ := at_T44 (Kd.R_reads' HO_29.out).2.2 x31_2 p262 q262
                  cases e262
                  replace p262 := eq_true p262
                  replace q262 := eq_true q262
                  try go_wp2_with (first | ((with_reducible refine gate_dst (N := 7) rfl ?_); (try (refine gate_guard (by rfl) ?_; dsimp only)); refine box_event ?hg (N := 7) ?hd (cs := #[.int .i64 0, .int .i64 0, .int .i64 0, .int .i64 0]) (t := 44) ?hr ?_; (case hd => rfl); (case hg => rfl); (case hr => first | (go_simp; done) | (go_simp; rfl)); intro gb263 hg w43 hbox hb; have n0_ := Aside0.mk (Kd.R_below (by (with_reducible repeat (first | apply Kd.R_alloc | apply Kd.R_drewN | apply Kd.R_drew)); exact HO_5.out) hb); have n1_ := Aside0.mk (Kd.R_below (Kd.R_elderB (by (with_reducible repeat (first | apply Kd.R_alloc | apply Kd.R_drewN | apply Kd.R_drew)); exact HO_29.out) gb263 (Nat.le_of_eq hg.symm)) hb); have n2_ := Aside0.mk (blk_below (g := gb253) (o := .cells #[.int .i64 a0_0, .string a0_1] 32 (0, 0)) (by (with_reducible repeat (first | refine blk_drewN ?_ _ | refine blk_drew ?_ | refine blk_alloc ?_ _)); exact BK253.out) hb); have n3_ := Aside0.mk (below_step (by repeat (first | (with_reducible first | exact HB.out | apply below_alloc | apply pw_below_drewN | apply below_drew1 | refine below_set ?_ GE253.out) | exact HB.out)) hb); have n4_ := Aside0.mk (hbox); have n5_ := Aside0.mk ((by rw [hg]; exact (below_size (by repeat (first | (with_reducible first | exact HB.out | apply below_alloc | apply pw_below_drewN | apply below_drew1 | refine below_set ?_ GE253.out) | exact HB.out))) : w.heap.size ≤ gb263)); have n6_ := Aside0.mk ((by rw [hg]; exact (below_size (by repeat (first | (with_reducible first | exact HB.out | apply below_alloc | apply pw_below_drewN | apply below_drew1 | refine below_set ?_ GE253.out) | exact HB.out))) : w.heap.size ≤ gb263)); have n7_ := Aside0.mk ((by rw [hg]; exact Nat.ne_of_lt (blk_lt (g := gb253) (o := .cells #[.int .i64 a0_0, .string a0_1] 32 (0, 0)) (by (with_reducible repeat (first | refine blk_drewN ?_ _ | refine blk_drew ?_ | refine blk_alloc ?_ _)); exact BK253.out)) : gb253 ≠ gb263)); have n8_ := Aside0.mk ((by rw [hg]; exact Nat.ne_of_gt (blk_lt (g := gb253) (o := .cells #[.int .i64 a0_0, .string a0_1] 32 (0, 0)) (by (with_reducible repeat (first | refine blk_drewN ?_ _ | refine blk_drew ?_ | refine blk_alloc ?_ _)); exact BK253.out)) : gb263 ≠ gb253)); clear HO_5; clear HO_29; clear BK253; clear HB; have HO_5 := n0_; have HO_29 := n1_; have BK253 := n2_; have HB := n3_; have BK263 := n4_; have GW263 := n5_; have GE263 := n6_; have NB253_263 := n7_; have NB263_253 := n8_; clear n0_ n1_ n2_ n3_ n4_ n5_ n6_ n7_ n8_; clear hb hbox hg; have hnb44 := NB263_253.out; have hnc44 := NB253_263.out; have hcz45_0 : w43.cell? ⟨gb263, 0, none⟩ = some (.int .i64 0) := (blk_cell BK263.out 0).trans rfl; have hcz45_1 : w43.cell? ⟨gb263, 1, none⟩ = some (.int .i64 0) := (blk_cell BK263.out 1).trans rfl; have hcz45_2 : w43.cell? ⟨gb263, 2, none⟩ = some (.int .i64 0) := (blk_cell BK263.out 2).trans rfl; have hcz45_3 : w43.cell? ⟨gb263, 3, none⟩ = some (.int .i64 0) := (blk_cell BK263.out 3).trans rfl; have hfz45_0 := blk_frozen BK263.out 0; have hfz45_1 := blk_frozen BK263.out 1; have hfz45_2 := blk_frozen BK263.out 2; have hfz45_3 := blk_frozen BK263.out 3))
                  have n0_ : Aside0 (Kd.R (Kd.int .i64) 61 ((((w43.setCell ⟨gb263, 0, none⟩ (.int .i64 ((rd_T44 t259 x31_2).f0))).setCell ⟨gb263, 1, none⟩ (.int .i64 ((rd_T44 t259 x31_2).f1))).setCell ⟨gb263, 2, none⟩ (.int .i64 ((rd_T44 t259 x31_2).f2))).setCell ⟨gb263, 3, none⟩ (.int .i64 ((rd_T44 t259 x31_2).f3))) w.heap.size (fun _ => True) v257 t256) := ⟨by (with_reducible repeat (first | apply Kd.R_alloc | apply Kd.R_drewN | apply Kd.R_drew)); exact Kd.R_mono (Kd.R_far (p := ⟨gb263, 3, none⟩) (Kd.R_far (p := ⟨gb263, 2, none⟩) (Kd.R_far (p := ⟨gb263, 1, none⟩) (Kd.R_far (p := ⟨gb263, 0, none⟩) (Kd.R_types HO_5.out BK263.out (by decide)) (fun _ hk => hk.2) (.int .i64 ((rd_T44 t259 x31_2).f0))) (fun _ hk => hk.2) (.int .i64 ((rd_T44 t259 x31_2).f1))) (fun _ hk => hk.2) (.int .i64 ((rd_T44 t259 x31_2).f2))) (fun _ hk => hk.2) (.int .i64 ((rd_T44 t259 x31_2).f3))) (fun _ hk => trivial)⟩
                  have n1_ : Aside0 (Kd.R k44 44 ((((w43.setCell ⟨gb263, 0, none⟩ (.int .i64 ((rd_T44 t259 x31_2).f0))).setCell ⟨gb263, 1, none⟩ (.int .i64 ((rd_T44 t259 x31_2).f1))).setCell ⟨gb263, 2, none⟩ (.int .i64 ((rd_T44 t259 x31_2).f2))).setCell ⟨gb263, 3, none⟩ (.int .i64 ((rd_T44 t259 x31_2).f3))) w.heap.size (fun k_ => k_ ≠ gb263) (.slice (some ad262) t259.length co25) t259) := ⟨by (with_reducible repeat (first | apply Kd.R_alloc | apply Kd.R_drewN | apply Kd.R_drew)); exact Kd.R_mono (Kd.R_far (p := ⟨gb263, 3, none⟩) (Kd.R_far (p := ⟨gb263, 2, none⟩) (Kd.R_far (p := ⟨gb263, 1, none⟩) (Kd.R_far (p := ⟨gb263, 0, none⟩) (Kd.R_mono HO_29.out (fun k_ hk => (⟨hk, hk.2⟩ : _ ∧ k_ ≠ gb263))) (fun _ hk => hk.2) (.int .i64 ((rd_T44 t259 x31_2).f0))) (fun _ hk => hk.2) (.int .i64 ((rd_T44 t259 x31_2).f1))) (fun _ hk => hk.2) (.int .i64 ((rd_T44 t259 x31_2).f2))) (fun _ hk => hk.2) (.int .i64 ((rd_T44 t259 x31_2).f3))) (fun _ hk => hk.1.2)⟩
                  have n2_ : Aside0 (((((w43.setCell ⟨gb263, 0, none⟩ (.int .i64 ((rd_T44 t259 x31_2).f0))).setCell ⟨gb263, 1, none⟩ (.int .i64 ((rd_T44 t259 x31_2).f1))).setCell ⟨gb263, 2, none⟩ (.int .i64 ((rd_T44 t259 x31_2).f2))).setCell ⟨gb263, 3, none⟩ (.int .i64 ((rd_T44 t259 x31_2).f3))).heap[gb253]? = some (.cells #[.int .i64 a0_0, .string a0_1] 32 (0, 0))) := ⟨by (with_reducible repeat (first | refine blk_drewN ?_ _ | refine blk_drew ?_ | refine blk_alloc ?_ _)); refine blk_far ?_ NB253_263.out _; (with_reducible repeat (first | refine blk_drewN ?_ _ | refine blk_drew ?_ | refine blk_alloc ?_ _)); refine blk_far ?_ NB253_263.out _; (with_reducible repeat (first | refine blk_drewN ?_ _ | refine blk_drew ?_ | refine blk_alloc ?_ _)); refine blk_far ?_ NB253_263.out _; (with_reducible repeat (first | refine blk_drewN ?_ _ | refine blk_drew ?_ | refine blk_alloc ?_ _)); refine blk_far ?_ NB253_263.out _; (with_reducible repeat (first | refine blk_drewN ?_ _ | refine blk_drew ?_ | refine blk_alloc ?_ _)); exact BK253.out⟩
                  have n3_ : Aside0 (((((w43.setCell ⟨gb263, 0, none⟩ (.int .i64 ((rd_T44 t259 x31_2).f0))).setCell ⟨gb263, 1, none⟩ (.int .i64 ((rd_T44 t259 x31_2).f1))).setCell ⟨gb263, 2, none⟩ (.int .i64 ((rd_T44 t259 x31_2).f2))).setCell ⟨gb263, 3, none⟩ (.int .i64 ((rd_T44 t259 x31_2).f3))).heap[gb263]? = some (.cells #[.int .i64 ((rd_T44 t259 x31_2).f0), .int .i64 ((rd_T44 t259 x31_2).f1), .int .i64 ((rd_T44 t259 x31_2).f2), .int .i64 ((rd_T44 t259 x31_2).f3)] 44 (0, 0))) := ⟨by (with_reducible repeat (first | refine blk_drewN ?_ _ | refine blk_drew ?_ | refine blk_alloc ?_ _)); refine blk_put (cs := #[.int .i64 ((rd_T44 t259 x31_2).f0), .int .i64 ((rd_T44 t259 x31_2).f1), .int .i64 ((rd_T44 t259 x31_2).f2), .int .i64 0]) ?_ 3 _ rfl; (with_reducible repeat (first | refine blk_drewN ?_ _ | refine blk_drew ?_ | refine blk_alloc ?_ _)); refine blk_put (cs := #[.int .i64 ((rd_T44 t259 x31_2).f0), .int .i64 ((rd_T44 t259 x31_2).f1), .int .i64 0, .int .i64 0]) ?_ 2 _ rfl; (with_reducible repeat (first | refine blk_drewN ?_ _ | refine blk_drew ?_ | refine blk_alloc ?_ _)); refine blk_put (cs := #[.int .i64 ((rd_T44 t259 x31_2).f0), .int .i64 0, .int .i64 0, .int .i64 0]) ?_ 1 _ rfl; (with_reducible repeat (first | refine blk_drewN ?_ _ | refine blk_drew ?_ | refine blk_alloc ?_ _)); refine blk_put (cs := #[.int .i64 0, .int .i64 0, .int .i64 0, .int .i64 0]) ?_ 0 _ rfl; (with_reducible repeat (first | refine blk_drewN ?_ _ | refine blk_drew ?_ | refine blk_alloc ?_ _)); exact BK263.out⟩
                  have n4_ : Aside0 (Below w.heap.size w ((((w43.setCell ⟨gb263, 0, none⟩ (.int .i64 ((rd_T44 t259 x31_2).f0))).setCell ⟨gb263, 1, none⟩ (.int .i64 ((rd_T44 t259 x31_2).f1))).setCell ⟨gb263, 2, none⟩ (.int .i64 ((rd_T44 t259 x31_2).f2))).setCell ⟨gb263, 3, none⟩ (.int .i64 ((rd_T44 t259 x31_2).f3)))) := ⟨by repeat (first | (with_reducible first | exact HB.out | apply below_alloc | apply pw_below_drewN | apply below_drew1 | refine below_set ?_ GE253.out | refine below_set ?_ GE263.out) | exact HB.out)⟩
                  (try clear HO_5)
                  (try clear HO_29)
                  (try clear BK253)
                  (try clear BK263)
                  (try clear HB)
                  generalize ((((w43.setCell ⟨gb263, 0, none⟩ (.int .i64 ((rd_T44 t259 x31_2).f0))).setCell ⟨gb263, 1, none⟩ (.int .i64 ((rd_T44 t259 x31_2).f1))).setCell ⟨gb263, 2, none⟩ (.int .i64 ((rd_T44 t259 x31_2).f2))).setCell ⟨gb263, 3, none⟩ (.int .i64 ((rd_T44 t259 x31_2).f3))) = w46 at n0_ n1_ n2_ n3_ n4_ ⊢
                  have HO_5 := n0_
                  have HO_29 := n1_
                  have BK253 := n2_
                  have BK263 := n3_
                  have HB := n4_
                  clear n0_ n1_ n2_ n3_ n4_
                  have n0_ := Aside0.mk (Kd.R_drew HO_5.out)
                  have n1_ := Aside0.mk (Kd.R_drew HO_29.out)
                  have n2_ := Aside0.mk (blk_drew BK253.out)
                  have n3_ := Aside0.mk (blk_drew BK263.out)
                  have n4_ := Aside0.mk (below_drew1 HB.out)
                  clear HO_5
                  clear HO_29
                  clear BK253
                  clear BK263
                  clear HB
                  have HO_5 := n0_
                  have HO_29 := n1_
                  have BK253 := n2_
                  have BK263 := n3_
                  have HB := n4_
                  clear n0_ n1_ n2_ n3_ n4_
                  have p31 : 0 ≤ (((rd_T44 t259 x31_2).f0) : Int) := of_decide_eq_true (by first | (with_reducible assumption) | assumption)
                  have q31 : ((rd_T44 t259 x31_2).f0) < (a1.size : Int) := of_decide_eq_true (by first | (with_reducible assumption) | assumption)
                  have hx31 := bt_at a1 ((rd_T44 t259 x31_2).f0)
                  replace p31 := eq_true p31
                  replace q31 := eq_true q31
                  have p34 : 0 ≤ (((rd_T44 t259 x31_2).f1) : Int) := of_decide_eq_true (by first | (with_reducible assumption) | assumption)
                  have q34 : ((rd_T44 t259 x31_2).f1) < (a1.size : Int) := of_decide_eq_true (by first | (with_reducible assumption) | assumption)
                  have hx34 := bt_at a1 ((rd_T44 t259 x31_2).f1)
                  replace p34 := eq_true p34
                  replace q34 := eq_true q34
                  have p37 : 0 ≤ (((rd_T44 t259 x31_2).f2) : Int) := of_decide_eq_true (by first | (with_reducible assumption) | assumption)
                  have q37 : ((rd_T44 t259 x31_2).f2) < (a1.size : Int) := of_decide_eq_true (by first | (with_reducible assumption) | assumption)
                  have hx37 := bt_at a1 ((rd_T44 t259 x31_2).f2)
                  replace p37 := eq_true p37
                  replace q37 := eq_true q37
                  have p40 : 0 ≤ (((rd_T44 t259 x31_2).f3) : Int) := of_decide_eq_true (by first | (with_reducible assumption) | assumption)
                  have q40 : ((rd_T44 t259 x31_2).f3) < (a1.size : Int) := of_decide_eq_true (by first | (with_reducible assumption) | assumption)
                  have hx40 := bt_at a1 ((rd_T44 t259 x31_2).f3)
                  replace p40 := eq_true p40
                  replace q40 := eq_true q40
                  refine start_ (n := 19) (S := fun w' => w'.cell? ⟨gb263, 0, none⟩ = some (.int .i64 ((rd_T44 t259 x31_2).f0)) ∧ w'.cell? ⟨gb263, 1, none⟩ = some (.int .i64 ((rd_T44 t259 x31_2).f1)) ∧ w'.cell? ⟨gb263, 2, none⟩ = some (.int .i64 ((rd_T44 t259 x31_2).f2)) ∧ w'.cell? ⟨gb263, 3, none⟩ = some (.int .i64 ((rd_T44 t259 x31_2).f3))) (ds := []) #[false, false, false, false, false, false, false, false, false, false, false, false, false, false, false, false, false, false, false] (by kernel_rfl) rfl rfl ⟨(blk_cell BK263.out 0).trans rfl, (blk_cell BK263.out 1).trans rfl, (blk_cell BK263.out 2).trans rfl, (blk_cell BK263.out 3).trans rfl⟩ (fun hHeld => ?_); refine with_tabW impl_IsCover.tab7 impl_IsCover.bits7 (fun HT_ HW_ => ?_)
                  generalize w46.drew = w47 at HO_5 HO_29 BK253 BK263 HB hHeld ⊢
                  refine pure_ (i := 0) (N := some 35) (v := ?_) (a' := ?_) #[true, false, false, false, false, false, false, false, false, false, false, false, false, false, false, false, false, false, false] rfl rfl (any_of HT_.out (by kernel_rfl)) (fun _ _ _ h => h) (Or.inl ⟨by rfl, ?_⟩) ?_ ?_
                  rotate_left
                  ·intro w'
                   go_simp
                   with_reducible rfl
                  rotate_left
                  ·simp only [Act.put, List.setIfInBounds_toArray, List.set_cons_zero, List.set_cons_succ, i64_w, i32_w]
                   rfl
                  refine pure_ (i := 1) (N := some 36) (v := ?_) (a' := ?_) #[true, true, false, false, false, false, false, false, false, false, false, false, false, false, false, false, false, false, false] rfl rfl (any_of HT_.out (by kernel_rfl)) (fun _ _ _ h => h) (Or.inl ⟨by rfl, ?_⟩) ?_ ?_
                  rotate_left
                  ·intro w'
                   go_simp
                   with_reducible rfl
                  rotate_left
                  ·simp only [Act.put, List.setIfInBounds_toArray, List.set_cons_zero, List.set_cons_succ, i64_w, i32_w]
                   rfl
                  refine pure_ (i := 4) (N := some 39) (v := ?_) (a' := ?_) #[true, true, false, false, true, false, false, false, false, false, false, false, false, false, false, false, false, false, false] rfl rfl (any_of HT_.out (by kernel_rfl)) (fun _ _ _ h => h) (Or.inl ⟨by rfl, ?_⟩) ?_ ?_
                  rotate_left
                  ·intro w'
                   go_simp
                   with_reducible rfl
                  rotate_left
                  ·simp only [Act.put, List.setIfInBounds_toArray, List.set_cons_zero, List.set_cons_succ, i64_w, i32_w]
                   rfl
                  refine pure_ (i := 5) (N := some 40) (v := ?_) (a' := ?_) #[true, true, false, false, true, true, false, false, false, false, false, false, false, false, false, false, false, false, false] rfl rfl (any_of HT_.out (by kernel_rfl)) (fun _ _ _ h => h) (Or.inl ⟨by rfl, ?_⟩) ?_ ?_
                  rotate_left
                  ·intro w'
                   go_simp
                   with_reducible rfl
                  rotate_left
                  ·simp only [Act.put, List.setIfInBounds_toArray, List.set_cons_zero, List.set_cons_succ, i64_w, i32_w]
                   rfl
                  refine pure_ (i := 8) (N := some 43) (v := ?_) (a' := ?_) #[true, true, false, false, true, true, false, false, true, false, false, false, false, false, false, false, false, false, false] rfl rfl (any_of HT_.out (by kernel_rfl)) (fun _ _ _ h => h) (Or.inl ⟨by rfl, ?_⟩) ?_ ?_
                  rotate_left
                  ·intro w'
                   go_simp
                   with_reducible rfl
                  rotate_left
                  ·simp only [Act.put, List.setIfInBounds_toArray, List.set_cons_zero, List.set_cons_succ, i64_w, i32_w]
                   rfl
                  refine pure_ (i := 9) (N := some 44) (v := ?_) (a' := ?_) #[true, true, false, false, true, true, false, false, true, true, false, false, false, false, false, false, false, false, false] rfl rfl (any_of HT_.out (by kernel_rfl)) (fun _ _ _ h => h) (Or.inl ⟨by rfl, ?_⟩) ?_ ?_
                  rotate_left
                  ·intro w'
                   go_simp
                   with_reducible rfl
                  rotate_left
                  ·simp only [Act.put, List.setIfInBounds_toArray, List.set_cons_zero, List.set_cons_succ, i64_w, i32_w]
                   rfl
                  refine pure_ (i := 12) (N := some 47) (v := ?_) (a' := ?_) #[true, true, false, false, true, true, false, false, true, true, false, false, true, false, false, false, false, false, false] rfl rfl (any_of HT_.out (by kernel_rfl)) (fun _ _ _ h => h) (Or.inl ⟨by rfl, ?_⟩) ?_ ?_
                  rotate_left
                  ·intro w'
                   go_simp
                   with_reducible rfl
                  rotate_left
                  ·simp only [Act.put, List.setIfInBounds_toArray, List.set_cons_zero, List.set_cons_succ, i64_w, i32_w]
                   rfl
                  refine pure_ (i := 13) (N := some 48) (v := ?_) (a' := ?_) #[true, true, false, false, true, true, false, false, true, true, false, false, true, true, false, false, false, false, false] rfl rfl (any_of HT_.out (by kernel_rfl)) (fun _ _ _ h => h) (Or.inl ⟨by rfl, ?_⟩) ?_ ?_
                  rotate_left
                  ·intro w'
                   go_simp
                   with_reducible rfl
                  rotate_left
                  ·simp only [Act.put, List.setIfInBounds_toArray, List.set_cons_zero, List.set_cons_succ, i64_w, i32_w]
                   rfl
                  refine take_ (i := 2) (N := some 37) (v := ?_) (a' := ?_) #[true, true, true, false, true, true, false, false, true, true, false, false, true, true, false, false, false, false, false] rfl rfl (take_ofW HT_.out HW_.out (by kernel_rfl)) (fun _ _ _ h => h) (Or.inl ⟨by rfl, ?_⟩) hHeld ?_ ?_
                  rotate_left
                  ·rintro w' ⟨s0, s1, s2, s3⟩
                   go_simp
                   with_reducible rfl
                  rotate_left
                  ·simp only [Act.put, List.setIfInBounds_toArray, List.set_cons_zero, List.set_cons_succ, i64_w, i32_w]
                   rfl
                  refine take_ (i := 3) (N := some 38) (v := ?_) (a' := ?_) #[true, true, true, true, true, true, false, false, true, true, false, false, true, true, false, false, false, false, false] rfl rfl (take_ofW HT_.out HW_.out (by kernel_rfl)) (fun _ _ _ h => h) (Or.inl ⟨by rfl, ?_⟩) hHeld ?_ ?_
                  rotate_left
                  ·rintro w' ⟨s0, s1, s2, s3⟩
                   go_simp
                   with_reducible rfl
                  rotate_left
                  ·simp only [Act.put, List.setIfInBounds_toArray, List.set_cons_zero, List.set_cons_succ, i64_w, i32_w]
                   rfl
                  refine take_ (i := 6) (N := some 41) (v := ?_) (a' := ?_) #[true, true, true, true, true, true, true, false, true, true, false, false, true, true, false, false, false, false, false] rfl rfl (take_ofW HT_.out HW_.out (by kernel_rfl)) (fun _ _ _ h => h) (Or.inl ⟨by rfl, ?_⟩) hHeld ?_ ?_
                  rotate_left
                  ·rintro w' ⟨s0, s1, s2, s3⟩
                   go_simp
                   with_reducible rfl
                  rotate_left
                  ·simp only [Act.put, List.setIfInBounds_toArray, List.set_cons_zero, List.set_cons_succ, i64_w, i32_w]
                   rfl
                  refine take_ (i := 7) (N := some 42) (v := ?_) (a' := ?_) #[true, true, true, true, true, true, true, true, true, true, false, false, true, true, false, false, false, false, false] rfl rfl (take_ofW HT_.out HW_.out (by kernel_rfl)) (fun _ _ _ h => h) (Or.inl ⟨by rfl, ?_⟩) hHeld ?_ ?_
                  rotate_left
                  ·rintro w' ⟨s0, s1, s2, s3⟩
                   go_simp
                   with_reducible rfl
                  rotate_left
                  ·simp only [Act.put, List.setIfInBounds_toArray, List.set_cons_zero, List.set_cons_succ, i64_w, i32_w]
                   rfl
                  refine take_ (i := 10) (N := some 45) (v := ?_) (a' := ?_) #[true, true, true, true, true, true, true, true, true, true, true, false, true, true, false, false, false, false, false] rfl rfl (take_ofW HT_.out HW_.out (by kernel_rfl)) (fun _ _ _ h => h) (Or.inl ⟨by rfl, ?_⟩) hHeld ?_ ?_
                  rotate_left
                  ·rintro w' ⟨s0, s1, s2, s3⟩
                   go_simp
                   with_reducible rfl
                  rotate_left
                  ·simp only [Act.put, List.setIfInBounds_toArray, List.set_cons_zero, List.set_cons_succ, i64_w, i32_w]
                   rfl
                  refine take_ (i := 11) (N := some 46) (v := ?_) (a' := ?_) #[true, true, true, true, true, true, true, true, true, true, true, true, true, true, false, false, false, false, false] rfl rfl (take_ofW HT_.out HW_.out (by kernel_rfl)) (fun _ _ _ h => h) (Or.inl ⟨by rfl, ?_⟩) hHeld ?_ ?_
                  rotate_left
                  ·rintro w' ⟨s0, s1, s2, s3⟩
                   go_simp
                   with_reducible rfl
                  rotate_left
                  ·simp only [Act.put, List.setIfInBounds_toArray, List.set_cons_zero, List.set_cons_succ, i64_w, i32_w]
                   rfl
                  refine take_ (i := 14) (N := some 49) (v := ?_) (a' := ?_) #[true, true, true, true, true, true, true, true, true, true, true, true, true, true, true, false, false, false, false] rfl rfl (take_ofW HT_.out HW_.out (by kernel_rfl)) (fun _ _ _ h => h) (Or.inl ⟨by rfl, ?_⟩) hHeld ?_ ?_
                  rotate_left
                  ·rintro w' ⟨s0, s1, s2, s3⟩
                   go_simp
                   with_reducible rfl
                  rotate_left
                  ·simp only [Act.put, List.setIfInBounds_toArray, List.set_cons_zero, List.set_cons_succ, i64_w, i32_w]
                   rfl
                  refine take_ (i := 15) (N := some 50) (v := ?_) (a' := ?_) #[true, true, true, true, true, true, true, true, true, true, true, true, true, true, true, true, false, false, false] rfl rfl (take_ofW HT_.out HW_.out (by kernel_rfl)) (fun _ _ _ h => h) (Or.inl ⟨by rfl, ?_⟩) hHeld ?_ ?_
                  rotate_left
                  ·rintro w' ⟨s0, s1, s2, s3⟩
                   go_simp
                   with_reducible rfl
                  rotate_left
                  ·simp only [Act.put, List.setIfInBounds_toArray, List.set_cons_zero, List.set_cons_succ, i64_w, i32_w]
                   rfl
                  refine one_ (i := 16) (N := some 51) #[true, true, true, true, true, true, true, true, true, true, true, true, true, true, true, true, true, false, false] rfl rfl (one_of HT_.out (by kernel_rfl)) (by decide) (fun K hK => ?_)
                  refine Kd.R_lit_step (Kd.int .u8) _ 5 ?hg (N := 51) ?hd (xs := ([bt a1 ((rd_T44 t259 x31_2).f0), bt a1 ((rd_T44 t259 x31_2).f1), bt a1 ((rd_T44 t259 x31_2).f2), bt a1 ((rd_T44 t259 x31_2).f3)] : List Int)) (inner := [.int .u8 (bt a1 ((rd_T44 t259 x31_2).f0)), .int .u8 (bt a1 ((rd_T44 t259 x31_2).f1)), .int .u8 (bt a1 ((rd_T44 t259 x31_2).f2)), .int .u8 (bt a1 ((rd_T44 t259 x31_2).f3))]) (ok := fun _ => True) (okp := fun _ => True) ?hr ?hp (fun _ hk => hk) trivial (Below.refl _ _) (Nat.le_refl _) (by simp) ?_; (case hd => rfl); (case hg => rfl); (case hr => first | (go_simp; done) | (go_simp; rfl)); (case hp => exact (Reps.one (show Kd.M (Kd.int .u8) _ _ _ (bt a1 ((rd_T44 t259 x31_2).f0)) [.int .u8 (bt a1 ((rd_T44 t259 x31_2).f0))] from rfl) (Reps.one (show Kd.M (Kd.int .u8) _ _ _ (bt a1 ((rd_T44 t259 x31_2).f1)) [.int .u8 (bt a1 ((rd_T44 t259 x31_2).f1))] from rfl) (Reps.one (show Kd.M (Kd.int .u8) _ _ _ (bt a1 ((rd_T44 t259 x31_2).f2)) [.int .u8 (bt a1 ((rd_T44 t259 x31_2).f2))] from rfl) (Reps.one (show Kd.M (Kd.int .u8) _ _ _ (bt a1 ((rd_T44 t259 x31_2).f3)) [.int .u8 (bt a1 ((rd_T44 t259 x31_2).f3))] from rfl) (Reps.none _ _))))))
                  intro v265 w48 ho49 hb hg_ hnew_
                  clear hg_ hnew_
                  (first | rw [← Ny264.out] at ho49 | (simp only [Int.reduceToNat] at ho49; rw [← Ny264.out] at ho49))
                  have n0_ := Aside0.mk (Kd.R_below (by (with_reducible repeat (first | apply Kd.R_alloc | apply Kd.R_drewN | apply Kd.R_drew)); exact HO_5.out) hb)
                  have n1_ := Aside0.mk (Kd.R_below (by (with_reducible repeat (first | apply Kd.R_alloc | apply Kd.R_drewN | apply Kd.R_drew)); exact HO_29.out) hb)
                  have n2_ := Aside0.mk (Kd.R_lower ho49 (below_size (by repeat (first | (with_reducible first | exact HB.out | apply below_alloc | apply pw_below_drewN | apply below_drew1 | refine below_set ?_ GE253.out | refine below_set ?_ GE263.out) | exact HB.out))))
                  have n3_ := Aside0.mk (blk_below (g := gb253) (o := .cells #[.int .i64 a0_0, .string a0_1] 32 (0, 0)) (by (with_reducible repeat (first | refine blk_drewN ?_ _ | refine blk_drew ?_ | refine blk_alloc ?_ _)); exact BK253.out) hb)
                  have n4_ := Aside0.mk (blk_below (g := gb263) (o := .cells #[.int .i64 ((rd_T44 t259 x31_2).f0), .int .i64 ((rd_T44 t259 x31_2).f1), .int .i64 ((rd_T44 t259 x31_2).f2), .int .i64 ((rd_T44 t259 x31_2).f3)] 44 (0, 0)) (by (with_reducible repeat (first | refine blk_drewN ?_ _ | refine blk_drew ?_ | refine blk_alloc ?_ _)); exact BK263.out) hb)
                  have n5_ := Aside0.mk (below_step (by repeat (first | (with_reducible first | exact HB.out | apply below_alloc | apply pw_below_drewN | apply below_drew1 | refine below_set ?_ GE253.out | refine below_set ?_ GE263.out) | exact HB.out)) hb)
                  clear HO_5
                  clear HO_29
                  clear BK253
                  clear BK263
                  clear HB
                  have HO_5 := n0_
                  have HO_29 := n1_
                  have HO266 := n2_
                  have BK253 := n3_
                  have BK263 := n4_
                  have HB := n5_
                  clear n0_ n1_ n2_ n3_ n4_ n5_
                  clear hb ho49
                  refine hK.out _ _ ⟨(blk_cell BK263.out 0).trans rfl, (blk_cell BK263.out 1).trans rfl, (blk_cell BK263.out 2).trans rfl, (blk_cell BK263.out 3).trans rfl⟩ (fun hHeld => ?_)
                  clear hK K
                  refine norm_ (a' := ?_) ?_ ?_
                  rotate_left
                  ·show Act.put _ (some 51) _ = _
                   simp only [Act.put, List.setIfInBounds_toArray, List.set_cons_zero, List.set_cons_succ, i64_w, i32_w]
                   rfl
                  refine one_ (i := 17) (N := some 52) #[true, true, true, true, true, true, true, true, true, true, true, true, true, true, true, true, true, true, false] rfl rfl (one_of HT_.out (by kernel_rfl)) (by decide) (fun K hK => ?_)
                  have hcv50 := own_string (P := Tryd.prog) Tryd.underlying36 Tryd.underlying5 Tryd.underlying9 (Kd.own_of_R HO266.out)
                  refine value_ (w1 := ?_) (v := ?_) (by rfl) rfl ?_ ?_
                  rotate_left 2
                  ·go_simp
                   constructor
                   ·rfl
                   ·rfl
                  clear hcv50
                  refine hK.out _ _ ⟨(blk_cell BK263.out 0).trans rfl, (blk_cell BK263.out 1).trans rfl, (blk_cell BK263.out 2).trans rfl, (blk_cell BK263.out 3).trans rfl⟩ (fun hHeld => ?_)
                  clear hK K
                  refine norm_ (a' := ?_) ?_ ?_
                  rotate_left
                  ·show Act.put _ (some 52) _ = _
                   simp only [Act.put, List.setIfInBounds_toArray, List.set_cons_zero, List.set_cons_succ, i64_w, i32_w]
                   rfl
                  refine pure_ (i := 18) (N := some 8) (v := ?_) (a' := ?_) #[true, true, true, true, true, true, true, true, true, true, true, true, true, true, true, true, true, true, true] rfl rfl (any_of HT_.out (by kernel_rfl)) (fun _ _ _ h => h) (Or.inl ⟨by rfl, ?_⟩) ?_ ?_
                  rotate_left
                  ·intro w'
                   go_simp
                   with_reducible rfl
                  rotate_left
                  ·simp only [Act.put, List.setIfInBounds_toArray, List.set_cons_zero, List.set_cons_succ, i64_w, i32_w]
                   rfl
                  refine done_ (done_of HT_.out (by kernel_rfl)) ?_
                  have hcz51_0 : w48.cell? ⟨gb263, 0, none⟩ = some (.int .i64 ((rd_T44 t259 x31_2).f0)) := (blk_cell BK263.out 0).trans rfl
                  have hcz51_1 : w48.cell? ⟨gb263, 1, none⟩ = some (.int .i64 ((rd_T44 t259 x31_2).f1)) := (blk_cell BK263.out 1).trans rfl
                  have hcz51_2 : w48.cell? ⟨gb263, 2, none⟩ = some (.int .i64 ((rd_T44 t259 x31_2).f2)) := (blk_cell BK263.out 2).trans rfl
                  have hcz51_3 : w48.cell? ⟨gb263, 3, none⟩ = some (.int .i64 ((rd_T44 t259 x31_2).f3)) := (blk_cell BK263.out 3).trans rfl
                  have hfz51_0 := blk_frozen BK263.out 0
                  have hfz51_1 := blk_frozen BK263.out 1
                  have hfz51_2 := blk_frozen BK263.out 2
                  have hfz51_3 := blk_frozen BK263.out 3
                  obtain ⟨Ao52, co52, eo52⟩ := Kd.R_slice HO_5.out
                  subst eo52
                  try go_wp2_with (first | ((with_reducible refine gate_callee (f := 29) rfl ?_); refine goesL_ (some 62) rfl rfl Tryd.func29 (by kernel_rfl) rfl #[.pointer Ao52, .int .i64 ((rd_T44 t259 x31_2).f0), .int .i64 ((rd_T44 t259 x31_2).f1), .int .i64 ((rd_T44 t259 x31_2).f2), .int .i64 ((rd_T44 t259 x31_2).f3)] rfl (by (try simp only [List.map_toArray, List.map_cons, List.map_nil]); first | done | rfl | (simp only [List.length_drop, List.length_take]; rfl)) ?_; (refine (impl_chi_circuit.calls k2 _ co52 t256 ((rd_T44 t259 x31_2).f0) ((rd_T44 t259 x31_2).f1) ((rd_T44 t259 x31_2).f2) ((rd_T44 t259 x31_2).f3) t267 _ ?side1 ?side2 A41.out).mono ?_); (case side1 => repeat (first | exact (Kd.R_reads' HO_5.out).2.2 | (with_reducible refine Kd.C_alloc ?_ _) | (with_reducible refine Kd.C_drewN ?_ _) | (with_reducible refine Kd.C_drew ?_))); (case side2 => exact (Kd.R_reads' HO_5.out).2.1); rintro e w53 ⟨rfl, hb⟩; refine ⟨_, rfl, ?_⟩; have n0_ := Aside0.mk (Kd.R_below (by (with_reducible repeat (first | apply Kd.R_alloc | apply Kd.R_drewN | apply Kd.R_drew)); exact HO_5.out) hb); have n1_ := Aside0.mk (Kd.R_below (by (with_reducible repeat (first | apply Kd.R_alloc | apply Kd.R_drewN | apply Kd.R_drew)); exact HO_29.out) hb); have n2_ := Aside0.mk (Kd.R_below (by (with_reducible repeat (first | apply Kd.R_alloc | apply Kd.R_drewN | apply Kd.R_drew)); exact HO266.out) hb); have n3_ := Aside0.mk (blk_below (g := gb253) (o := .cells #[.int .i64 a0_0, .string a0_1] 32 (0, 0)) (by (with_reducible repeat (first | refine blk_drewN ?_ _ | refine blk_drew ?_ | refine blk_alloc ?_ _)); exact BK253.out) hb); have n4_ := Aside0.mk (blk_below (g := gb263) (o := .cells #[.int .i64 ((rd_T44 t259 x31_2).f0), .int .i64 ((rd_T44 t259 x31_2).f1), .int .i64 ((rd_T44 t259 x31_2).f2), .int .i64 ((rd_T44 t259 x31_2).f3)] 44 (0, 0)) (by (with_reducible repeat (first | refine blk_drewN ?_ _ | refine blk_drew ?_ | refine blk_alloc ?_ _)); exact BK263.out) hb); have n5_ := Aside0.mk (below_step (by repeat (first | (with_reducible first | exact HB.out | apply below_alloc | apply pw_below_drewN | apply below_drew1 | refine below_set ?_ GE253.out | refine below_set ?_ GE263.out) | exact HB.out)) hb); clear HO_5; clear HO_29; clear HO266; clear BK253; clear BK263; clear HB; have HO_5 := n0_; have HO_29 := n1_; have HO266 := n2_; have BK253 := n3_; have BK263 := n4_; have HB := n5_; clear n0_ n1_ n2_ n3_ n4_ n5_; (try clear hb); (try clear hb2); (try clear hk); (try clear hi)))
                  go_ret
                  exact ⟨by first | rfl | (simp [errW_none, errW_some] <;> rfl) | (simp [*, errW_none, errW_some] <;> rfl), by repeat (first | (with_reducible first | exact HB.out | apply below_alloc | apply pw_below_drewN | apply below_drew1 | refine below_set ?_ GE253.out | refine below_set ?_ GE263.out) | exact HB.out)⟩
                 ·rw [if_neg c42] at H
                  have c42b0 : (t267.toList == (strOfNums y264).toList) = false := beq_eq_false_iff_ne.mpr c42
                  have c42b1 : (t267.toList != (strOfNums y264).toList) = true := bne_iff_ne.mpr c42
                  replace H := Option.bind_eq_some_iff.mp H
                  obtain ⟨t268, A540, H⟩ := H
                  replace H : (if t267.toList = t268.toList then (some false) else (impl_IsCover.l0 k2 a1 t256 t259 (t259.length : Int) (wrap64 (x31_2 + 1)))) = some r := H
                  have A54 := Aside0.mk A540
                  clear A540
                  by_cases c55 : t267.toList = t268.toList
                  ·rw [if_pos c55] at H
                   have c55b0 : (t267.toList == t268.toList) = true := beq_iff_eq.mpr c55
                   have c55b1 : (t267.toList != t268.toList) = false := bne_eq_false_iff_eq.mpr c55
                   clear c55
                   obtain rfl := Option.some.inj H
                   have p262 : 0 ≤ (x31_2 : Int) := of_decide_eq_true (by first | (with_reducible assumption) | assumption)
                   have q262 : x31_2 < (t259.length : Int) := of_decide_eq_true (by first | (with_reducible assumption) | assumption)
                   obtain ⟨ad262, e262, hx262_0, hx262_1, hx262_2, hx262_3⟩ := at_T44 (Kd.R_reads' HO_29.out).2.2 x31_2 p262 q262
                   cases e262
                   replace p262 := eq_true p262
                   replace q262 := eq_true q262
                   try go_wp2_with (first | ((with_reducible refine gate_dst (N := 7) rfl ?_); (try (refine gate_guard (by rfl) ?_; dsimp only)); refine box_event ?hg (N := 7) ?hd (cs := #[.int .i64 0, .int .i64 0, .int .i64 0, .int .i64 0]) (t := 44) ?hr ?_; (case hd => rfl); (case hg => rfl); (case hr => first | (go_simp; done) | (go_simp; rfl)); intro gb263 hg w56 hbox hb; have n0_ := Aside0.mk (Kd.R_below (by (with_reducible repeat (first | apply Kd.R_alloc | apply Kd.R_drewN | apply Kd.R_drew)); exact HO_5.out) hb); have n1_ := Aside0.mk (Kd.R_below (Kd.R_elderB (by (with_reducible repeat (first | apply Kd.R_alloc | apply Kd.R_drewN | apply Kd.R_drew)); exact HO_29.out) gb263 (Nat.le_of_eq hg.symm)) hb); have n2_ := Aside0.mk (blk_below (g := gb253) (o := .cells #[.int .i64 a0_0, .string a0_1] 32 (0, 0)) (by (with_reducible repeat (first | refine blk_drewN ?_ _ | refine blk_drew ?_ | refine blk_alloc ?_ _)); exact BK253.out) hb); have n3_ := Aside0.mk (below_step (by repeat (first | (with_reducible first | exact HB.out | apply below_alloc | apply pw_below_drewN | apply below_drew1 | refine below_set ?_ GE253.out) | exact HB.out)) hb); have n4_ := Aside0.mk (hbox); have n5_ := Aside0.mk ((by rw [hg]; exact (below_size (by repeat (first | (with_reducible first | exact HB.out | apply below_alloc | apply pw_below_drewN | apply below_drew1 | refine below_set ?_ GE253.out) | exact HB.out))) : w.heap.size ≤ gb263)); have n6_ := Aside0.mk ((by rw [hg]; exact (below_size (by repeat (first | (with_reducible first | exact HB.out | apply below_alloc | apply pw_below_drewN | apply below_drew1 | refine below_set ?_ GE253.out) | exact HB.out))) : w.heap.size ≤ gb263)); have n7_ := Aside0.mk ((by rw [hg]; exact Nat.ne_of_lt (blk_lt (g := gb253) (o := .cells #[.int .i64 a0_0, .string a0_1] 32 (0, 0)) (by (with_reducible repeat (first | refine blk_drewN ?_ _ | refine blk_drew ?_ | refine blk_alloc ?_ _)); exact BK253.out)) : gb253 ≠ gb263)); have n8_ := Aside0.mk ((by rw [hg]; exact Nat.ne_of_gt (blk_lt (g := gb253) (o := .cells #[.int .i64 a0_0, .string a0_1] 32 (0, 0)) (by (with_reducible repeat (first | refine blk_drewN ?_ _ | refine blk_drew ?_ | refine blk_alloc ?_ _)); exact BK253.out)) : gb263 ≠ gb253)); clear HO_5; clear HO_29; clear BK253; clear HB; have HO_5 := n0_; have HO_29 := n1_; have BK253 := n2_; have HB := n3_; have BK263 := n4_; have GW263 := n5_; have GE263 := n6_; have NB253_263 := n7_; have NB263_253 := n8_; clear n0_ n1_ n2_ n3_ n4_ n5_ n6_ n7_ n8_; clear hb hbox hg; have hnb57 := NB263_253.out; have hnc57 := NB253_263.out; have hcz58_0 : w56.cell? ⟨gb263, 0, none⟩ = some (.int .i64 0) := (blk_cell BK263.out 0).trans rfl; have hcz58_1 : w56.cell? ⟨gb263, 1, none⟩ = some (.int .i64 0) := (blk_cell BK263.out 1).trans rfl; have hcz58_2 : w56.cell? ⟨gb263, 2, none⟩ = some (.int .i64 0) := (blk_cell BK263.out 2).trans rfl; have hcz58_3 : w56.cell? ⟨gb263, 3, none⟩ = some (.int .i64 0) := (blk_cell BK263.out 3).trans rfl; have hfz58_0 := blk_frozen BK263.out 0; have hfz58_1 := blk_frozen BK263.out 1; have hfz58_2 := blk_frozen BK263.out 2; have hfz58_3 := blk_frozen BK263.out 3))
                   have n0_ : Aside0 (Kd.R (Kd.int .i64) 61 ((((w56.setCell ⟨gb263, 0, none⟩ (.int .i64 ((rd_T44 t259 x31_2).f0))).setCell ⟨gb263, 1, none⟩ (.int .i64 ((rd_T44 t259 x31_2).f1))).setCell ⟨gb263, 2, none⟩ (.int .i64 ((rd_T44 t259 x31_2).f2))).setCell ⟨gb263, 3, none⟩ (.int .i64 ((rd_T44 t259 x31_2).f3))) w.heap.size (fun _ => True) v257 t256) := ⟨by (with_reducible repeat (first | apply Kd.R_alloc | apply Kd.R_drewN | apply Kd.R_drew)); exact Kd.R_mono (Kd.R_far (p := ⟨gb263, 3, none⟩) (Kd.R_far (p := ⟨gb263, 2, none⟩) (Kd.R_far (p := ⟨gb263, 1, none⟩) (Kd.R_far (p := ⟨gb263, 0, none⟩) (Kd.R_types HO_5.out BK263.out (by decide)) (fun _ hk => hk.2) (.int .i64 ((rd_T44 t259 x31_2).f0))) (fun _ hk => hk.2) (.int .i64 ((rd_T44 t259 x31_2).f1))) (fun _ hk => hk.2) (.int .i64 ((rd_T44 t259 x31_2).f2))) (fun _ hk => hk.2) (.int .i64 ((rd_T44 t259 x31_2).f3))) (fun _ hk => trivial)⟩
                   have n1_ : Aside0 (Kd.R k44 44 ((((w56.setCell ⟨gb263, 0, none⟩ (.int .i64 ((rd_T44 t259 x31_2).f0))).setCell ⟨gb263, 1, none⟩ (.int .i64 ((rd_T44 t259 x31_2).f1))).setCell ⟨gb263, 2, none⟩ (.int .i64 ((rd_T44 t259 x31_2).f2))).setCell ⟨gb263, 3, none⟩ (.int .i64 ((rd_T44 t259 x31_2).f3))) w.heap.size (fun k_ => k_ ≠ gb263) (.slice (some ad262) t259.length co25) t259) := ⟨by (with_reducible repeat (first | apply Kd.R_alloc | apply Kd.R_drewN | apply Kd.R_drew)); exact Kd.R_mono (Kd.R_far (p := ⟨gb263, 3, none⟩) (Kd.R_far (p := ⟨gb263, 2, none⟩) (Kd.R_far (p := ⟨gb263, 1, none⟩) (Kd.R_far (p := ⟨gb263, 0, none⟩) (Kd.R_mono HO_29.out (fun k_ hk => (⟨hk, hk.2⟩ : _ ∧ k_ ≠ gb263))) (fun _ hk => hk.2) (.int .i64 ((rd_T44 t259 x31_2).f0))) (fun _ hk => hk.2) (.int .i64 ((rd_T44 t259 x31_2).f1))) (fun _ hk => hk.2) (.int .i64 ((rd_T44 t259 x31_2).f2))) (fun _ hk => hk.2) (.int .i64 ((rd_T44 t259 x31_2).f3))) (fun _ hk => hk.1.2)⟩
                   have n2_ : Aside0 (((((w56.setCell ⟨gb263, 0, none⟩ (.int .i64 ((rd_T44 t259 x31_2).f0))).setCell ⟨gb263, 1, none⟩ (.int .i64 ((rd_T44 t259 x31_2).f1))).setCell ⟨gb263, 2, none⟩ (.int .i64 ((rd_T44 t259 x31_2).f2))).setCell ⟨gb263, 3, none⟩ (.int .i64 ((rd_T44 t259 x31_2).f3))).heap[gb253]? = some (.cells #[.int .i64 a0_0, .string a0_1] 32 (0, 0))) := ⟨by (with_reducible repeat (first | refine blk_drewN ?_ _ | refine blk_drew ?_ | refine blk_alloc ?_ _)); refine blk_far ?_ NB253_263.out _; (with_reducible repeat (first | refine blk_drewN ?_ _ | refine blk_drew ?_ | refine blk_alloc ?_ _)); refine blk_far ?_ NB253_263.out _; (with_reducible repeat (first | refine blk_drewN ?_ _ | refine blk_drew ?_ | refine blk_alloc ?_ _)); refine blk_far ?_ NB253_263.out _; (with_reducible repeat (first | refine blk_drewN ?_ _ | refine blk_drew ?_ | refine blk_alloc ?_ _)); refine blk_far ?_ NB253_263.out _; (with_reducible repeat (first | refine blk_drewN ?_ _ | refine blk_drew ?_ | refine blk_alloc ?_ _)); exact BK253.out⟩
                   have n3_ : Aside0 (((((w56.setCell ⟨gb263, 0, none⟩ (.int .i64 ((rd_T44 t259 x31_2).f0))).setCell ⟨gb263, 1, none⟩ (.int .i64 ((rd_T44 t259 x31_2).f1))).setCell ⟨gb263, 2, none⟩ (.int .i64 ((rd_T44 t259 x31_2).f2))).setCell ⟨gb263, 3, none⟩ (.int .i64 ((rd_T44 t259 x31_2).f3))).heap[gb263]? = some (.cells #[.int .i64 ((rd_T44 t259 x31_2).f0), .int .i64 ((rd_T44 t259 x31_2).f1), .int .i64 ((rd_T44 t259 x31_2).f2), .int .i64 ((rd_T44 t259 x31_2).f3)] 44 (0, 0))) := ⟨by (with_reducible repeat (first | refine blk_drewN ?_ _ | refine blk_drew ?_ | refine blk_alloc ?_ _)); refine blk_put (cs := #[.int .i64 ((rd_T44 t259 x31_2).f0), .int .i64 ((rd_T44 t259 x31_2).f1), .int .i64 ((rd_T44 t259 x31_2).f2), .int .i64 0]) ?_ 3 _ rfl; (with_reducible repeat (first | refine blk_drewN ?_ _ | refine blk_drew ?_ | refine blk_alloc ?_ _)); refine blk_put (cs := #[.int .i64 ((rd_T44 t259 x31_2).f0), .int .i64 ((rd_T44 t259 x31_2).f1), .int .i64 0, .int .i64 0]) ?_ 2 _ rfl; (with_reducible repeat (first | refine blk_drewN ?_ _ | refine blk_drew ?_ | refine blk_alloc ?_ _)); refine blk_put (cs := #[.int .i64 ((rd_T44 t259 x31_2).f0), .int .i64 0, .int .i64 0, .int .i64 0]) ?_ 1 _ rfl; (with_reducible repeat (first | refine blk_drewN ?_ _ | refine blk_drew ?_ | refine blk_alloc ?_ _)); refine blk_put (cs := #[.int .i64 0, .int .i64 0, .int .i64 0, .int .i64 0]) ?_ 0 _ rfl; (with_reducible repeat (first | refine blk_drewN ?_ _ | refine blk_drew ?_ | refine blk_alloc ?_ _)); exact BK263.out⟩
                   have n4_ : Aside0 (Below w.heap.size w ((((w56.setCell ⟨gb263, 0, none⟩ (.int .i64 ((rd_T44 t259 x31_2).f0))).setCell ⟨gb263, 1, none⟩ (.int .i64 ((rd_T44 t259 x31_2).f1))).setCell ⟨gb263, 2, none⟩ (.int .i64 ((rd_T44 t259 x31_2).f2))).setCell ⟨gb263, 3, none⟩ (.int .i64 ((rd_T44 t259 x31_2).f3)))) := ⟨by repeat (first | (with_reducible first | exact HB.out | apply below_alloc | apply pw_below_drewN | apply below_drew1 | refine below_set ?_ GE253.out | refine below_set ?_ GE263.out) | exact HB.out)⟩
                   (try clear HO_5)
                   (try clear HO_29)
                   (try clear BK253)
                   (try clear BK263)
                   (try clear HB)
                   generalize ((((w56.setCell ⟨gb263, 0, none⟩ (.int .i64 ((rd_T44 t259 x31_2).f0))).setCell ⟨gb263, 1, none⟩ (.int .i64 ((rd_T44 t259 x31_2).f1))).setCell ⟨gb263, 2, none⟩ (.int .i64 ((rd_T44 t259 x31_2).f2))).setCell ⟨gb263, 3, none⟩ (.int .i64 ((rd_T44 t259 x31_2).f3))) = w59 at n0_ n1_ n2_ n3_ n4_ ⊢
                   have HO_5 := n0_
                   have HO_29 := n1_
                   have BK253 := n2_
                   have BK263 := n3_
                   have HB := n4_
                   clear n0_ n1_ n2_ n3_ n4_
                   have n0_ := Aside0.mk (Kd.R_drew HO_5.out)
                   have n1_ := Aside0.mk (Kd.R_drew HO_29.out)
                   have n2_ := Aside0.mk (blk_drew BK253.out)
                   have n3_ := Aside0.mk (blk_drew BK263.out)
                   have n4_ := Aside0.mk (below_drew1 HB.out)
                   clear HO_5
                   clear HO_29
                   clear BK253
                   clear BK263
                   clear HB
                   have HO_5 := n0_
                   have HO_29 := n1_
                   have BK253 := n2_
                   have BK263 := n3_
                   have HB := n4_
                   clear n0_ n1_ n2_ n3_ n4_
                   have p31 : 0 ≤ (((rd_T44 t259 x31_2).f0) : Int) := of_decide_eq_true (by first | (with_reducible assumption) | assumption)
                   have q31 : ((rd_T44 t259 x31_2).f0) < (a1.size : Int) := of_decide_eq_true (by first | (with_reducible assumption) | assumption)
                   have hx31 := bt_at a1 ((rd_T44 t259 x31_2).f0)
                   replace p31 := eq_true p31
                   replace q31 := eq_true q31
                   have p34 : 0 ≤ (((rd_T44 t259 x31_2).f1) : Int) := of_decide_eq_true (by first | (with_reducible assumption) | assumption)
                   have q34 : ((rd_T44 t259 x31_2).f1) < (a1.size : Int) := of_decide_eq_true (by first | (with_reducible assumption) | assumption)
                   have hx34 := bt_at a1 ((rd_T44 t259 x31_2).f1)
                   replace p34 := eq_true p34
                   replace q34 := eq_true q34
                   have p37 : 0 ≤ (((rd_T44 t259 x31_2).f2) : Int) := of_decide_eq_true (by first | (with_reducible assumption) | assumption)
                   have q37 : ((rd_T44 t259 x31_2).f2) < (a1.size : Int) := of_decide_eq_true (by first | (with_reducible assumption) | assumption)
                   have hx37 := bt_at a1 ((rd_T44 t259 x31_2).f2)
                   replace p37 := eq_true p37
                   replace q37 := eq_true q37
                   have p40 : 0 ≤ (((rd_T44 t259 x31_2).f3) : Int) := of_decide_eq_true (by first | (with_reducible assumption) | assumption)
                   have q40 : ((rd_T44 t259 x31_2).f3) < (a1.size : Int) := of_decide_eq_true (by first | (with_reducible assumption) | assumption)
                   have hx40 := bt_at a1 ((rd_T44 t259 x31_2).f3)
                   replace p40 := eq_true p40
                   replace q40 := eq_true q40
                   refine start_ (n := 19) (S := fun w' => w'.cell? ⟨gb263, 0, none⟩ = some (.int .i64 ((rd_T44 t259 x31_2).f0)) ∧ w'.cell? ⟨gb263, 1, none⟩ = some (.int .i64 ((rd_T44 t259 x31_2).f1)) ∧ w'.cell? ⟨gb263, 2, none⟩ = some (.int .i64 ((rd_T44 t259 x31_2).f2)) ∧ w'.cell? ⟨gb263, 3, none⟩ = some (.int .i64 ((rd_T44 t259 x31_2).f3))) (ds := []) #[false, false, false, false, false, false, false, false, false, false, false, false, false, false, false, false, false, false, false] (by kernel_rfl) rfl rfl ⟨(blk_cell BK263.out 0).trans rfl, (blk_cell BK263.out 1).trans rfl, (blk_cell BK263.out 2).trans rfl, (blk_cell BK263.out 3).trans rfl⟩ (fun hHeld => ?_); refine with_tabW impl_IsCover.tab7 impl_IsCover.bits7 (fun HT_ HW_ => ?_)
                   generalize w59.drew = w60 at HO_5 HO_29 BK253 BK263 HB hHeld ⊢
                   refine pure_ (i := 0) (N := some 35) (v := ?_) (a' := ?_) #[true, false, false, false, false, false, false, false, false, false, false, false, false, false, false, false, false, false, false] rfl rfl (any_of HT_.out (by kernel_rfl)) (fun _ _ _ h => h) (Or.inl ⟨by rfl, ?_⟩) ?_ ?_
                   rotate_left
                   ·intro w'
                    go_simp
                    with_reducible rfl
                   rotate_left
                   ·simp only [Act.put, List.setIfInBounds_toArray, List.set_cons_zero, List.set_cons_succ, i64_w, i32_w]
                    rfl
                   refine pure_ (i := 1) (N := some 36) (v := ?_) (a' := ?_) #[true, true, false, false, false, false, false, false, false, false, false, false, false, false, false, false, false, false, false] rfl rfl (any_of HT_.out (by kernel_rfl)) (fun _ _ _ h => h) (Or.inl ⟨by rfl, ?_⟩) ?_ ?_
                   rotate_left
                   ·intro w'
                    go_simp
                    with_reducible rfl
                   rotate_left
                   ·simp only [Act.put, List.setIfInBounds_toArray, List.set_cons_zero, List.set_cons_succ, i64_w, i32_w]
                    rfl
                   refine pure_ (i := 4) (N := some 39) (v := ?_) (a' := ?_) #[true, true, false, false, true, false, false, false, false, false, false, false, false, false, false, false, false, false, false] rfl rfl (any_of HT_.out (by kernel_rfl)) (fun _ _ _ h => h) (Or.inl ⟨by rfl, ?_⟩) ?_ ?_
                   rotate_left
                   ·intro w'
                    go_simp
                    with_reducible rfl
                   rotate_left
                   ·simp only [Act.put, List.setIfInBounds_toArray, List.set_cons_zero, List.set_cons_succ, i64_w, i32_w]
                    rfl
                   refine pure_ (i := 5) (N := some 40) (v := ?_) (a' := ?_) #[true, true, false, false, true, true, false, false, false, false, false, false, false, false, false, false, false, false, false] rfl rfl (any_of HT_.out (by kernel_rfl)) (fun _ _ _ h => h) (Or.inl ⟨by rfl, ?_⟩) ?_ ?_
                   rotate_left
                   ·intro w'
                    go_simp
                    with_reducible rfl
                   rotate_left
                   ·simp only [Act.put, List.setIfInBounds_toArray, List.set_cons_zero, List.set_cons_succ, i64_w, i32_w]
                    rfl
                   refine pure_ (i := 8) (N := some 43) (v := ?_) (a' := ?_) #[true, true, false, false, true, true, false, false, true, false, false, false, false, false, false, false, false, false, false] rfl rfl (any_of HT_.out (by kernel_rfl)) (fun _ _ _ h => h) (Or.inl ⟨by rfl, ?_⟩) ?_ ?_
                   rotate_left
                   ·intro w'
                    go_simp
                    with_reducible rfl
                   rotate_left
                   ·simp only [Act.put, List.setIfInBounds_toArray, List.set_cons_zero, List.set_cons_succ, i64_w, i32_w]
                    rfl
                   refine pure_ (i := 9) (N := some 44) (v := ?_) (a' := ?_) #[true, true, false, false, true, true, false, false, true, true, false, false, false, false, false, false, false, false, false] rfl rfl (any_of HT_.out (by kernel_rfl)) (fun _ _ _ h => h) (Or.inl ⟨by rfl, ?_⟩) ?_ ?_
                   rotate_left
                   ·intro w'
                    go_simp
                    with_reducible rfl
                   rotate_left
                   ·simp only [Act.put, List.setIfInBounds_toArray, List.set_cons_zero, List.set_cons_succ, i64_w, i32_w]
                    rfl
                   refine pure_ (i := 12) (N := some 47) (v := ?_) (a' := ?_) #[true, true, false, false, true, true, false, false, true, true, false, false, true, false, false, false, false, false, false] rfl rfl (any_of HT_.out (by kernel_rfl)) (fun _ _ _ h => h) (Or.inl ⟨by rfl, ?_⟩) ?_ ?_
                   rotate_left
                   ·intro w'
                    go_simp
                    with_reducible rfl
                   rotate_left
                   ·simp only [Act.put, List.setIfInBounds_toArray, List.set_cons_zero, List.set_cons_succ, i64_w, i32_w]
                    rfl
                   refine pure_ (i := 13) (N := some 48) (v := ?_) (a' := ?_) #[true, true, false, false, true, true, false, false, true, true, false, false, true, true, false, false, false, false, false] rfl rfl (any_of HT_.out (by kernel_rfl)) (fun _ _ _ h => h) (Or.inl ⟨by rfl, ?_⟩) ?_ ?_
                   rotate_left
                   ·intro w'
                    go_simp
                    with_reducible rfl
                   rotate_left
                   ·simp only [Act.put, List.setIfInBounds_toArray, List.set_cons_zero, List.set_cons_succ, i64_w, i32_w]
                    rfl
                   refine take_ (i := 2) (N := some 37) (v := ?_) (a' := ?_) #[true, true, true, false, true, true, false, false, true, true, false, false, true, true, false, false, false, false, false] rfl rfl (take_ofW HT_.out HW_.out (by kernel_rfl)) (fun _ _ _ h => h) (Or.inl ⟨by rfl, ?_⟩) hHeld ?_ ?_
                   rotate_left
                   ·rintro w' ⟨s0, s1, s2, s3⟩
                    go_simp
                    with_reducible rfl
                   rotate_left
                   ·simp only [Act.put, List.setIfInBounds_toArray, List.set_cons_zero, List.set_cons_succ, i64_w, i32_w]
                    rfl
                   refine take_ (i := 3) (N := some 38) (v := ?_) (a' := ?_) #[true, true, true, true, true, true, false, false, true, true, false, false, true, true, false, false, false, false, false] rfl rfl (take_ofW HT_.out HW_.out (by kernel_rfl)) (fun _ _ _ h => h) (Or.inl ⟨by rfl, ?_⟩) hHeld ?_ ?_
                   rotate_left
                   ·rintro w' ⟨s0, s1, s2, s3⟩
                    go_simp
                    with_reducible rfl
                   rotate_left
                   ·simp only [Act.put, List.setIfInBounds_toArray, List.set_cons_zero, List.set_cons_succ, i64_w, i32_w]
                    rfl
                   refine take_ (i := 6) (N := some 41) (v := ?_) (a' := ?_) #[true, true, true, true, true, true, true, false, true, true, false, false, true, true, false, false, false, false, false] rfl rfl (take_ofW HT_.out HW_.out (by kernel_rfl)) (fun _ _ _ h => h) (Or.inl ⟨by rfl, ?_⟩) hHeld ?_ ?_
                   rotate_left
                   ·rintro w' ⟨s0, s1, s2, s3⟩
                    go_simp
                    with_reducible rfl
                   rotate_left
                   ·simp only [Act.put, List.setIfInBounds_toArray, List.set_cons_zero, List.set_cons_succ, i64_w, i32_w]
                    rfl
                   refine take_ (i := 7) (N := some 42) (v := ?_) (a' := ?_) #[true, true, true, true, true, true, true, true, true, true, false, false, true, true, false, false, false, false, false] rfl rfl (take_ofW HT_.out HW_.out (by kernel_rfl)) (fun _ _ _ h => h) (Or.inl ⟨by rfl, ?_⟩) hHeld ?_ ?_
                   rotate_left
                   ·rintro w' ⟨s0, s1, s2, s3⟩
                    go_simp
                    with_reducible rfl
                   rotate_left
                   ·simp only [Act.put, List.setIfInBounds_toArray, List.set_cons_zero, List.set_cons_succ, i64_w, i32_w]
                    rfl
                   refine take_ (i := 10) (N := some 45) (v := ?_) (a' := ?_) #[true, true, true, true, true, true, true, true, true, true, true, false, true, true, false, false, false, false, false] rfl rfl (take_ofW HT_.out HW_.out (by kernel_rfl)) (fun _ _ _ h => h) (Or.inl ⟨by rfl, ?_⟩) hHeld ?_ ?_
                   rotate_left
                   ·rintro w' ⟨s0, s1, s2, s3⟩
                    go_simp
                    with_reducible rfl
                   rotate_left
                   ·simp only [Act.put, List.setIfInBounds_toArray, List.set_cons_zero, List.set_cons_succ, i64_w, i32_w]
                    rfl
                   refine take_ (i := 11) (N := some 46) (v := ?_) (a' := ?_) #[true, true, true, true, true, true, true, true, true, true, true, true, true, true, false, false, false, false, false] rfl rfl (take_ofW HT_.out HW_.out (by kernel_rfl)) (fun _ _ _ h => h) (Or.inl ⟨by rfl, ?_⟩) hHeld ?_ ?_
                   rotate_left
                   ·rintro w' ⟨s0, s1, s2, s3⟩
                    go_simp
                    with_reducible rfl
                   rotate_left
                   ·simp only [Act.put, List.setIfInBounds_toArray, List.set_cons_zero, List.set_cons_succ, i64_w, i32_w]
                    rfl
                   refine take_ (i := 14) (N := some 49) (v := ?_) (a' := ?_) #[true, true, true, true, true, true, true, true, true, true, true, true, true, true, true, false, false, false, false] rfl rfl (take_ofW HT_.out HW_.out (by kernel_rfl)) (fun _ _ _ h => h) (Or.inl ⟨by rfl, ?_⟩) hHeld ?_ ?_
                   rotate_left
                   ·rintro w' ⟨s0, s1, s2, s3⟩
                    go_simp
                    with_reducible rfl
                   rotate_left
                   ·simp only [Act.put, List.setIfInBounds_toArray, List.set_cons_zero, List.set_cons_succ, i64_w, i32_w]
                    rfl
                   refine take_ (i := 15) (N := some 50) (v := ?_) (a' := ?_) #[true, true, true, true, true, true, true, true, true, true, true, true, true, true, true, true, false, false, false] rfl rfl (take_ofW HT_.out HW_.out (by kernel_rfl)) (fun _ _ _ h => h) (Or.inl ⟨by rfl, ?_⟩) hHeld ?_ ?_
                   rotate_left
                   ·rintro w' ⟨s0, s1, s2, s3⟩
                    go_simp
                    with_reducible rfl
                   rotate_left
                   ·simp only [Act.put, List.setIfInBounds_toArray, List.set_cons_zero, List.set_cons_succ, i64_w, i32_w]
                    rfl
                   refine one_ (i := 16) (N := some 51) #[true, true, true, true, true, true, true, true, true, true, true, true, true, true, true, true, true, false, false] rfl rfl (one_of HT_.out (by kernel_rfl)) (by decide) (fun K hK => ?_)
                   refine Kd.R_lit_step (Kd.int .u8) _ 5 ?hg (N := 51) ?hd (xs := ([bt a1 ((rd_T44 t259 x31_2).f0), bt a1 ((rd_T44 t259 x31_2).f1), bt a1 ((rd_T44 t259 x31_2).f2), bt a1 ((rd_T44 t259 x31_2).f3)] : List Int)) (inner := [.int .u8 (bt a1 ((rd_T44 t259 x31_2).f0)), .int .u8 (bt a1 ((rd_T44 t259 x31_2).f1)), .int .u8 (bt a1 ((rd_T44 t259 x31_2).f2)), .int .u8 (bt a1 ((rd_T44 t259 x31_2).f3))]) (ok := fun _ => True) (okp := fun _ => True) ?hr ?hp (fun _ hk => hk) trivial (Below.refl _ _) (Nat.le_refl _) (by simp) ?_; (case hd => rfl); (case hg => rfl); (case hr => first | (go_simp; done) | (go_simp; rfl)); (case hp => exact (Reps.one (show Kd.M (Kd.int .u8) _ _ _ (bt a1 ((rd_T44 t259 x31_2).f0)) [.int .u8 (bt a1 ((rd_T44 t259 x31_2).f0))] from rfl) (Reps.one (show Kd.M (Kd.int .u8) _ _ _ (bt a1 ((rd_T44 t259 x31_2).f1)) [.int .u8 (bt a1 ((rd_T44 t259 x31_2).f1))] from rfl) (Reps.one (show Kd.M (Kd.int .u8) _ _ _ (bt a1 ((rd_T44 t259 x31_2).f2)) [.int .u8 (bt a1 ((rd_T44 t259 x31_2).f2))] from rfl) (Reps.one (show Kd.M (Kd.int .u8) _ _ _ (bt a1 ((rd_T44 t259 x31_2).f3)) [.int .u8 (bt a1 ((rd_T44 t259 x31_2).f3))] from rfl) (Reps.none _ _))))))
                   intro v265 w61 ho62 hb hg_ hnew_
                   clear hg_ hnew_
                   (first | rw [← Ny264.out] at ho62 | (simp only [Int.reduceToNat] at ho62; rw [← Ny264.out] at ho62))
                   have n0_ := Aside0.mk (Kd.R_below (by (with_reducible repeat (first | apply Kd.R_alloc | apply Kd.R_drewN | apply Kd.R_drew)); exact HO_5.out) hb)
                   have n1_ := Aside0.mk (Kd.R_below (by (with_reducible repeat (first | apply Kd.R_alloc | apply Kd.R_drewN | apply Kd.R_drew)); exact HO_29.out) hb)
                   have n2_ := Aside0.mk (Kd.R_lower ho62 (below_size (by repeat (first | (with_reducible first | exact HB.out | apply below_alloc | apply pw_below_drewN | apply below_drew1 | refine below_set ?_ GE253.out | refine below_set ?_ GE263.out) | exact HB.out))))
                   have n3_ := Aside0.mk (blk_below (g := gb253) (o := .cells #[.int .i64 a0_0, .string a0_1] 32 (0, 0)) (by (with_reducible repeat (first | refine blk_drewN ?_ _ | refine blk_drew ?_ | refine blk_alloc ?_ _)); exact BK253.out) hb)
                   have n4_ := Aside0.mk (blk_below (g := gb263) (o := .cells #[.int .i64 ((rd_T44 t259 x31_2).f0), .int .i64 ((rd_T44 t259 x31_2).f1), .int .i64 ((rd_T44 t259 x31_2).f2), .int .i64 ((rd_T44 t259 x31_2).f3)] 44 (0, 0)) (by (with_reducible repeat (first | refine blk_drewN ?_ _ | refine blk_drew ?_ | refine blk_alloc ?_ _)); exact BK263.out) hb)
                   have n5_ := Aside0.mk (below_step (by repeat (first | (with_reducible first | exact HB.out | apply below_alloc | apply pw_below_drewN | apply below_drew1 | refine below_set ?_ GE253.out | refine below_set ?_ GE263.out) | exact HB.out)) hb)
                   clear HO_5
                   clear HO_29
                   clear BK253
                   clear BK263
                   clear HB
                   have HO_5 := n0_
                   have HO_29 := n1_
                   have HO266 := n2_
                   have BK253 := n3_
                   have BK263 := n4_
                   have HB := n5_
                   clear n0_ n1_ n2_ n3_ n4_ n5_
                   clear hb ho62
                   refine hK.out _ _ ⟨(blk_cell BK263.out 0).trans rfl, (blk_cell BK263.out 1).trans rfl, (blk_cell BK263.out 2).trans rfl, (blk_cell BK263.out 3).trans rfl⟩ (fun hHeld => ?_)
                   clear hK K
                   refine norm_ (a' := ?_) ?_ ?_
                   rotate_left
                   ·show Act.put _ (some 51) _ = _
                    simp only [Act.put, List.setIfInBounds_toArray, List.set_cons_zero, List.set_cons_succ, i64_w, i32_w]
                    rfl
                   refine one_ (i := 17) (N := some 52) #[true, true, true, true, true, true, true, true, true, true, true, true, true, true, true, true, true, true, false] rfl rfl (one_of HT_.out (by kernel_rfl)) (by decide) (fun K hK => ?_)
                   have hcv63 := own_string (P := Tryd.prog) Tryd.underlying36 Tryd.underlying5 Tryd.underlying9 (Kd.own_of_R HO266.out)
                   refine value_ (w1 := ?_) (v := ?_) (by rfl) rfl ?_ ?_
                   rotate_left 2
                   ·go_simp
                    constructor
                    ·rfl
                    ·rfl
                   clear hcv63
                   refine hK.out _ _ ⟨(blk_cell BK263.out 0).trans rfl, (blk_cell BK263.out 1).trans rfl, (blk_cell BK263.out 2).trans rfl, (blk_cell BK263.out 3).trans rfl⟩ (fun hHeld => ?_)
                   clear hK K
                   refine norm_ (a' := ?_) ?_ ?_
                   rotate_left
                   ·show Act.put _ (some 52) _ = _
                    simp only [Act.put, List.setIfInBounds_toArray, List.set_cons_zero, List.set_cons_succ, i64_w, i32_w]
                    rfl
                   refine pure_ (i := 18) (N := some 8) (v := ?_) (a' := ?_) #[true, true, true, true, true, true, true, true, true, true, true, true, true, true, true, true, true, true, true] rfl rfl (any_of HT_.out (by kernel_rfl)) (fun _ _ _ h => h) (Or.inl ⟨by rfl, ?_⟩) ?_ ?_
                   rotate_left
                   ·intro w'
                    go_simp
                    with_reducible rfl
                   rotate_left
                   ·simp only [Act.put, List.setIfInBounds_toArray, List.set_cons_zero, List.set_cons_succ, i64_w, i32_w]
                    rfl
                   refine done_ (done_of HT_.out (by kernel_rfl)) ?_
                   have hcz64_0 : w61.cell? ⟨gb263, 0, none⟩ = some (.int .i64 ((rd_T44 t259 x31_2).f0)) := (blk_cell BK263.out 0).trans rfl
                   have hcz64_1 : w61.cell? ⟨gb263, 1, none⟩ = some (.int .i64 ((rd_T44 t259 x31_2).f1)) := (blk_cell BK263.out 1).trans rfl
                   have hcz64_2 : w61.cell? ⟨gb263, 2, none⟩ = some (.int .i64 ((rd_T44 t259 x31_2).f2)) := (blk_cell BK263.out 2).trans rfl
                   have hcz64_3 : w61.cell? ⟨gb263, 3, none⟩ = some (.int .i64 ((rd_T44 t259 x31_2).f3)) := (blk_cell BK263.out 3).trans rfl
                   have hfz64_0 := blk_frozen BK263.out 0
                   have hfz64_1 := blk_frozen BK263.out 1
                   have hfz64_2 := blk_frozen BK263.out 2
                   have hfz64_3 := blk_frozen BK263.out 3
                   obtain ⟨Ao65, co65, eo65⟩ := Kd.R_slice HO_5.out
                   subst eo65
                   try go_wp2_with (first | ((with_reducible refine gate_callee (f := 29) rfl ?_); refine goesL_ (some 62) rfl rfl Tryd.func29 (by kernel_rfl) rfl #[.pointer Ao65, .int .i64 ((rd_T44 t259 x31_2).f0), .int .i64 ((rd_T44 t259 x31_2).f1), .int .i64 ((rd_T44 t259 x31_2).f2), .int .i64 ((rd_T44 t259 x31_2).f3)] rfl (by (try simp only [List.map_toArray, List.map_cons, List.map_nil]); first | done | rfl | (simp only [List.length_drop, List.length_take]; rfl)) ?_; (refine (impl_chi_circuit.calls k2 _ co65 t256 ((rd_T44 t259 x31_2).f0) ((rd_T44 t259 x31_2).f1) ((rd_T44 t259 x31_2).f2) ((rd_T44 t259 x31_2).f3) t267 _ ?side1 ?side2 A41.out).mono ?_); (case side1 => repeat (first | exact (Kd.R_reads' HO_5.out).2.2 | (with_reducible refine Kd.C_alloc ?_ _) | (with_reducible refine Kd.C_drewN ?_ _) | (with_reducible refine Kd.C_drew ?_))); (case side2 => exact (Kd.R_reads' HO_5.out).2.1); rintro e w66 ⟨rfl, hb⟩; refine ⟨_, rfl, ?_⟩; have n0_ := Aside0.mk (Kd.R_below (by (with_reducible repeat (first | apply Kd.R_alloc | apply Kd.R_drewN | apply Kd.R_drew)); exact HO_5.out) hb); have n1_ := Aside0.mk (Kd.R_below (by (with_reducible repeat (first | apply Kd.R_alloc | apply Kd.R_drewN | apply Kd.R_drew)); exact HO_29.out) hb); have n2_ := Aside0.mk (Kd.R_below (by (with_reducible repeat (first | apply Kd.R_alloc | apply Kd.R_drewN | apply Kd.R_drew)); exact HO266.out) hb); have n3_ := Aside0.mk (blk_below (g := gb253) (o := .cells #[.int .i64 a0_0, .string a0_1] 32 (0, 0)) (by (with_reducible repeat (first | refine blk_drewN ?_ _ | refine blk_drew ?_ | refine blk_alloc ?_ _)); exact BK253.out) hb); have n4_ := Aside0.mk (blk_below (g := gb263) (o := .cells #[.int .i64 ((rd_T44 t259 x31_2).f0), .int .i64 ((rd_T44 t259 x31_2).f1), .int .i64 ((rd_T44 t259 x31_2).f2), .int .i64 ((rd_T44 t259 x31_2).f3)] 44 (0, 0)) (by (with_reducible repeat (first | refine blk_drewN ?_ _ | refine blk_drew ?_ | refine blk_alloc ?_ _)); exact BK263.out) hb); have n5_ := Aside0.mk (below_step (by repeat (first | (with_reducible first | exact HB.out | apply below_alloc | apply pw_below_drewN | apply below_drew1 | refine below_set ?_ GE253.out | refine below_set ?_ GE263.out) | exact HB.out)) hb); clear HO_5; clear HO_29; clear HO266; clear BK253; clear BK263; clear HB; have HO_5 := n0_; have HO_29 := n1_; have HO266 := n2_; have BK253 := n3_; have BK263 := n4_; have HB := n5_; clear n0_ n1_ n2_ n3_ n4_ n5_; (try clear hb); (try clear hb2); (try clear hk); (try clear hi)) | (go_at_call 20; (with_reducible refine (impl_opposite.calls (strOfNums y264) t268 _ A54.out).mono ?_); rintro e w67 ⟨rfl, hb⟩; have n0_ := Aside0.mk (Kd.R_below (by (with_reducible repeat (first | apply Kd.R_alloc | apply Kd.R_drewN | apply Kd.R_drew)); exact HO_5.out) hb); have n1_ := Aside0.mk (Kd.R_below (by (with_reducible repeat (first | apply Kd.R_alloc | apply Kd.R_drewN | apply Kd.R_drew)); exact HO_29.out) hb); have n2_ := Aside0.mk (Kd.R_below (by (with_reducible repeat (first | apply Kd.R_alloc | apply Kd.R_drewN | apply Kd.R_drew)); exact HO266.out) hb); have n3_ := Aside0.mk (blk_below (g := gb253) (o := .cells #[.int .i64 a0_0, .string a0_1] 32 (0, 0)) (by (with_reducible repeat (first | refine blk_drewN ?_ _ | refine blk_drew ?_ | refine blk_alloc ?_ _)); exact BK253.out) hb); have n4_ := Aside0.mk (blk_below (g := gb263) (o := .cells #[.int .i64 ((rd_T44 t259 x31_2).f0), .int .i64 ((rd_T44 t259 x31_2).f1), .int .i64 ((rd_T44 t259 x31_2).f2), .int .i64 ((rd_T44 t259 x31_2).f3)] 44 (0, 0)) (by (with_reducible repeat (first | refine blk_drewN ?_ _ | refine blk_drew ?_ | refine blk_alloc ?_ _)); exact BK263.out) hb); have n5_ := Aside0.mk (below_step (by repeat (first | (with_reducible first | exact HB.out | apply below_alloc | apply pw_below_drewN | apply below_drew1 | refine below_set ?_ GE253.out | refine below_set ?_ GE263.out) | exact HB.out)) hb); clear HO_5; clear HO_29; clear HO266; clear BK253; clear BK263; clear HB; have HO_5 := n0_; have HO_29 := n1_; have HO266 := n2_; have BK253 := n3_; have BK263 := n4_; have HB := n5_; clear n0_ n1_ n2_ n3_ n4_ n5_; (try clear hb); (try clear hb2); (try clear hk); (try clear hi)))
                   go_ret
                   exact ⟨by first | rfl | (simp [errW_none, errW_some] <;> rfl) | (simp [*, errW_none, errW_some] <;> rfl), by repeat (first | (with_reducible first | exact HB.out | apply below_alloc | apply pw_below_drewN | apply below_drew1 | refine below_set ?_ GE253.out | refine below_set ?_ GE263.out) | exact HB.out)⟩
                  ·rw [if_neg c55] at H
                   have c55b0 : (t267.toList == t268.toList) = false := beq_eq_false_iff_ne.mpr c55
                   have c55b1 : (t267.toList != t268.toList) = true := bne_iff_ne.mpr c55
                   have H' := Aside0.mk H
                   clear H
                   have p262 : 0 ≤ (x31_2 : Int) := of_decide_eq_true (by first | (with_reducible assumption) | assumption)
                   have q262 : x31_2 < (t259.length : Int) := of_decide_eq_true (by first | (with_reducible assumption) | assumption)
                   obtain ⟨ad262, e262, hx262_0, hx262_1, hx262_2, hx262_3⟩ := at_T44 (Kd.R_reads' HO_29.out).2.2 x31_2 p262 q262
                   cases e262
                   replace p262 := eq_true p262
                   replace q262 := eq_true q262
                   try go_wp2_with (first | ((with_reducible refine gate_dst (N := 7) rfl ?_); (try (refine gate_guard (by rfl) ?_; dsimp only)); refine box_event ?hg (N := 7) ?hd (cs := #[.int .i64 0, .int .i64 0, .int .i64 0, .int .i64 0]) (t := 44) ?hr ?_; (case hd => rfl); (case hg => rfl); (case hr => first | (go_simp; done) | (go_simp; rfl)); intro gb263 hg w68 hbox hb; have n0_ := Aside0.mk (Kd.R_below (by (with_reducible repeat (first | apply Kd.R_alloc | apply Kd.R_drewN | apply Kd.R_drew)); exact HO_5.out) hb); have n1_ := Aside0.mk (Kd.R_below (Kd.R_elderB (by (with_reducible repeat (first | apply Kd.R_alloc | apply Kd.R_drewN | apply Kd.R_drew)); exact HO_29.out) gb263 (Nat.le_of_eq hg.symm)) hb); have n2_ := Aside0.mk (blk_below (g := gb253) (o := .cells #[.int .i64 a0_0, .string a0_1] 32 (0, 0)) (by (with_reducible repeat (first | refine blk_drewN ?_ _ | refine blk_drew ?_ | refine blk_alloc ?_ _)); exact BK253.out) hb); have n3_ := Aside0.mk (below_step (by repeat (first | (with_reducible first | exact HB.out | apply below_alloc | apply pw_below_drewN | apply below_drew1 | refine below_set ?_ GE253.out) | exact HB.out)) hb); have n4_ := Aside0.mk (hbox); have n5_ := Aside0.mk ((by rw [hg]; exact (below_size (by repeat (first | (with_reducible first | exact HB.out | apply below_alloc | apply pw_below_drewN | apply below_drew1 | refine below_set ?_ GE253.out) | exact HB.out))) : w.heap.size ≤ gb263)); have n6_ := Aside0.mk ((by rw [hg]; exact (below_size (by repeat (first | (with_reducible first | exact HB.out | apply below_alloc | apply pw_below_drewN | apply below_drew1 | refine below_set ?_ GE253.out) | exact HB.out))) : w.heap.size ≤ gb263)); have n7_ := Aside0.mk ((by rw [hg]; exact Nat.ne_of_lt (blk_lt (g := gb253) (o := .cells #[.int .i64 a0_0, .string a0_1] 32 (0, 0)) (by (with_reducible repeat (first | refine blk_drewN ?_ _ | refine blk_drew ?_ | refine blk_alloc ?_ _)); exact BK253.out)) : gb253 ≠ gb263)); have n8_ := Aside0.mk ((by rw [hg]; exact Nat.ne_of_gt (blk_lt (g := gb253) (o := .cells #[.int .i64 a0_0, .string a0_1] 32 (0, 0)) (by (with_reducible repeat (first | refine blk_drewN ?_ _ | refine blk_drew ?_ | refine blk_alloc ?_ _)); exact BK253.out)) : gb263 ≠ gb253)); clear HO_5; clear HO_29; clear BK253; clear HB; have HO_5 := n0_; have HO_29 := n1_; have BK253 := n2_; have HB := n3_; have BK263 := n4_; have GW263 := n5_; have GE263 := n6_; have NB253_263 := n7_; have NB263_253 := n8_; clear n0_ n1_ n2_ n3_ n4_ n5_ n6_ n7_ n8_; clear hb hbox hg; have hnb69 := NB263_253.out; have hnc69 := NB253_263.out; have hcz70_0 : w68.cell? ⟨gb263, 0, none⟩ = some (.int .i64 0) := (blk_cell BK263.out 0).trans rfl; have hcz70_1 : w68.cell? ⟨gb263, 1, none⟩ = some (.int .i64 0) := (blk_cell BK263.out 1).trans rfl; have hcz70_2 : w68.cell? ⟨gb263, 2, none⟩ = some (.int .i64 0) := (blk_cell BK263.out 2).trans rfl; have hcz70_3 : w68.cell? ⟨gb263, 3, none⟩ = some (.int .i64 0) := (blk_cell BK263.out 3).trans rfl; have hfz70_0 := blk_frozen BK263.out 0; have hfz70_1 := blk_frozen BK263.out 1; have hfz70_2 := blk_frozen BK263.out 2; have hfz70_3 := blk_frozen BK263.out 3))
                   have n0_ : Aside0 (Kd.R (Kd.int .i64) 61 ((((w68.setCell ⟨gb263, 0, none⟩ (.int .i64 ((rd_T44 t259 x31_2).f0))).setCell ⟨gb263, 1, none⟩ (.int .i64 ((rd_T44 t259 x31_2).f1))).setCell ⟨gb263, 2, none⟩ (.int .i64 ((rd_T44 t259 x31_2).f2))).setCell ⟨gb263, 3, none⟩ (.int .i64 ((rd_T44 t259 x31_2).f3))) w.heap.size (fun _ => True) v257 t256) := ⟨by (with_reducible repeat (first | apply Kd.R_alloc | apply Kd.R_drewN | apply Kd.R_drew)); exact Kd.R_mono (Kd.R_far (p := ⟨gb263, 3, none⟩) (Kd.R_far (p := ⟨gb263, 2, none⟩) (Kd.R_far (p := ⟨gb263, 1, none⟩) (Kd.R_far (p := ⟨gb263, 0, none⟩) (Kd.R_types HO_5.out BK263.out (by decide)) (fun _ hk => hk.2) (.int .i64 ((rd_T44 t259 x31_2).f0))) (fun _ hk => hk.2) (.int .i64 ((rd_T44 t259 x31_2).f1))) (fun _ hk => hk.2) (.int .i64 ((rd_T44 t259 x31_2).f2))) (fun _ hk => hk.2) (.int .i64 ((rd_T44 t259 x31_2).f3))) (fun _ hk => trivial)⟩
                   have n1_ : Aside0 (Kd.R k44 44 ((((w68.setCell ⟨gb263, 0, none⟩ (.int .i64 ((rd_T44 t259 x31_2).f0))).setCell ⟨gb263, 1, none⟩ (.int .i64 ((rd_T44 t259 x31_2).f1))).setCell ⟨gb263, 2, none⟩ (.int .i64 ((rd_T44 t259 x31_2).f2))).setCell ⟨gb263, 3, none⟩ (.int .i64 ((rd_T44 t259 x31_2).f3))) w.heap.size (fun k_ => k_ ≠ gb263) (.slice (some ad262) t259.length co25) t259) := ⟨by (with_reducible repeat (first | apply Kd.R_alloc | apply Kd.R_drewN | apply Kd.R_drew)); exact Kd.R_mono (Kd.R_far (p := ⟨gb263, 3, none⟩) (Kd.R_far (p := ⟨gb263, 2, none⟩) (Kd.R_far (p := ⟨gb263, 1, none⟩) (Kd.R_far (p := ⟨gb263, 0, none⟩) (Kd.R_mono HO_29.out (fun k_ hk => (⟨hk, hk.2⟩ : _ ∧ k_ ≠ gb263))) (fun _ hk => hk.2) (.int .i64 ((rd_T44 t259 x31_2).f0))) (fun _ hk => hk.2) (.int .i64 ((rd_T44 t259 x31_2).f1))) (fun _ hk => hk.2) (.int .i64 ((rd_T44 t259 x31_2).f2))) (fun _ hk => hk.2) (.int .i64 ((rd_T44 t259 x31_2).f3))) (fun _ hk => hk.1.2)⟩
                   have n2_ : Aside0 (((((w68.setCell ⟨gb263, 0, none⟩ (.int .i64 ((rd_T44 t259 x31_2).f0))).setCell ⟨gb263, 1, none⟩ (.int .i64 ((rd_T44 t259 x31_2).f1))).setCell ⟨gb263, 2, none⟩ (.int .i64 ((rd_T44 t259 x31_2).f2))).setCell ⟨gb263, 3, none⟩ (.int .i64 ((rd_T44 t259 x31_2).f3))).heap[gb253]? = some (.cells #[.int .i64 a0_0, .string a0_1] 32 (0, 0))) := ⟨by (with_reducible repeat (first | refine blk_drewN ?_ _ | refine blk_drew ?_ | refine blk_alloc ?_ _)); refine blk_far ?_ NB253_263.out _; (with_reducible repeat (first | refine blk_drewN ?_ _ | refine blk_drew ?_ | refine blk_alloc ?_ _)); refine blk_far ?_ NB253_263.out _; (with_reducible repeat (first | refine blk_drewN ?_ _ | refine blk_drew ?_ | refine blk_alloc ?_ _)); refine blk_far ?_ NB253_263.out _; (with_reducible repeat (first | refine blk_drewN ?_ _ | refine blk_drew ?_ | refine blk_alloc ?_ _)); refine blk_far ?_ NB253_263.out _; (with_reducible repeat (first | refine blk_drewN ?_ _ | refine blk_drew ?_ | refine blk_alloc ?_ _)); exact BK253.out⟩
                   have n3_ : Aside0 (((((w68.setCell ⟨gb263, 0, none⟩ (.int .i64 ((rd_T44 t259 x31_2).f0))).setCell ⟨gb263, 1, none⟩ (.int .i64 ((rd_T44 t259 x31_2).f1))).setCell ⟨gb263, 2, none⟩ (.int .i64 ((rd_T44 t259 x31_2).f2))).setCell ⟨gb263, 3, none⟩ (.int .i64 ((rd_T44 t259 x31_2).f3))).heap[gb263]? = some (.cells #[.int .i64 ((rd_T44 t259 x31_2).f0), .int .i64 ((rd_T44 t259 x31_2).f1), .int .i64 ((rd_T44 t259 x31_2).f2), .int .i64 ((rd_T44 t259 x31_2).f3)] 44 (0, 0))) := ⟨by (with_reducible repeat (first | refine blk_drewN ?_ _ | refine blk_drew ?_ | refine blk_alloc ?_ _)); refine blk_put (cs := #[.int .i64 ((rd_T44 t259 x31_2).f0), .int .i64 ((rd_T44 t259 x31_2).f1), .int .i64 ((rd_T44 t259 x31_2).f2), .int .i64 0]) ?_ 3 _ rfl; (with_reducible repeat (first | refine blk_drewN ?_ _ | refine blk_drew ?_ | refine blk_alloc ?_ _)); refine blk_put (cs := #[.int .i64 ((rd_T44 t259 x31_2).f0), .int .i64 ((rd_T44 t259 x31_2).f1), .int .i64 0, .int .i64 0]) ?_ 2 _ rfl; (with_reducible repeat (first | refine blk_drewN ?_ _ | refine blk_drew ?_ | refine blk_alloc ?_ _)); refine blk_put (cs := #[.int .i64 ((rd_T44 t259 x31_2).f0), .int .i64 0, .int .i64 0, .int .i64 0]) ?_ 1 _ rfl; (with_reducible repeat (first | refine blk_drewN ?_ _ | refine blk_drew ?_ | refine blk_alloc ?_ _)); refine blk_put (cs := #[.int .i64 0, .int .i64 0, .int .i64 0, .int .i64 0]) ?_ 0 _ rfl; (with_reducible repeat (first | refine blk_drewN ?_ _ | refine blk_drew ?_ | refine blk_alloc ?_ _)); exact BK263.out⟩
                   have n4_ : Aside0 (Below w.heap.size w ((((w68.setCell ⟨gb263, 0, none⟩ (.int .i64 ((rd_T44 t259 x31_2).f0))).setCell ⟨gb263, 1, none⟩ (.int .i64 ((rd_T44 t259 x31_2).f1))).setCell ⟨gb263, 2, none⟩ (.int .i64 ((rd_T44 t259 x31_2).f2))).setCell ⟨gb263, 3, none⟩ (.int .i64 ((rd_T44 t259 x31_2).f3)))) := ⟨by repeat (first | (with_reducible first | exact HB.out | apply below_alloc | apply pw_below_drewN | apply below_drew1 | refine below_set ?_ GE253.out | refine below_set ?_ GE263.out) | exact HB.out)⟩
                   (try clear HO_5)
                   (try clear HO_29)
                   (try clear BK253)
                   (try clear BK263)
                   (try clear HB)
                   generalize ((((w68.setCell ⟨gb263, 0, none⟩ (.int .i64 ((rd_T44 t259 x31_2).f0))).setCell ⟨gb263, 1, none⟩ (.int .i64 ((rd_T44 t259 x31_2).f1))).setCell ⟨gb263, 2, none⟩ (.int .i64 ((rd_T44 t259 x31_2).f2))).setCell ⟨gb263, 3, none⟩ (.int .i64 ((rd_T44 t259 x31_2).f3))) = w71 at n0_ n1_ n2_ n3_ n4_ ⊢
                   have HO_5 := n0_
                   have HO_29 := n1_
                   have BK253 := n2_
                   have BK263 := n3_
                   have HB := n4_
                   clear n0_ n1_ n2_ n3_ n4_
                   have n0_ := Aside0.mk (Kd.R_drew HO_5.out)
                   have n1_ := Aside0.mk (Kd.R_drew HO_29.out)
                   have n2_ := Aside0.mk (blk_drew BK253.out)
                   have n3_ := Aside0.mk (blk_drew BK263.out)
                   have n4_ := Aside0.mk (below_drew1 HB.out)
                   clear HO_5
                   clear HO_29
                   clear BK253
                   clear BK263
                   clear HB
                   have HO_5 := n0_
                   have HO_29 := n1_
                   have BK253 := n2_
                   have BK263 := n3_
                   have HB := n4_
                   clear n0_ n1_ n2_ n3_ n4_
                   have p31 : 0 ≤ (((rd_T44 t259 x31_2).f0) : Int) := of_decide_eq_true (by first | (with_reducible assumption) | assumption)
                   have q31 : ((rd_T44 t259 x31_2).f0) < (a1.size : Int) := of_decide_eq_true (by first | (with_reducible assumption) | assumption)
                   have hx31 := bt_at a1 ((rd_T44 t259 x31_2).f0)
                   replace p31 := eq_true p31
                   replace q31 := eq_true q31
                   have p34 : 0 ≤ (((rd_T44 t259 x31_2).f1) : Int) := of_decide_eq_true (by first | (with_reducible assumption) | assumption)
                   have q34 : ((rd_T44 t259 x31_2).f1) < (a1.size : Int) := of_decide_eq_true (by first | (with_reducible assumption) | assumption)
                   have hx34 := bt_at a1 ((rd_T44 t259 x31_2).f1)
                   replace p34 := eq_true p34
                   replace q34 := eq_true q34
                   have p37 : 0 ≤ (((rd_T44 t259 x31_2).f2) : Int) := of_decide_eq_true (by first | (with_reducible assumption) | assumption)
                   have q37 : ((rd_T44 t259 x31_2).f2) < (a1.size : Int) := of_decide_eq_true (by first | (with_reducible assumption) | assumption)
                   have hx37 := bt_at a1 ((rd_T44 t259 x31_2).f2)
                   replace p37 := eq_true p37
                   replace q37 := eq_true q37
                   have p40 : 0 ≤ (((rd_T44 t259 x31_2).f3) : Int) := of_decide_eq_true (by first | (with_reducible assumption) | assumption)
                   have q40 : ((rd_T44 t259 x31_2).f3) < (a1.size : Int) := of_decide_eq_true (by first | (with_reducible assumption) | assumption)
                   have hx40 := bt_at a1 ((rd_T44 t259 x31_2).f3)
                   replace p40 := eq_true p40
                   replace q40 := eq_true q40
                   refine start_ (n := 19) (S := fun w' => w'.cell? ⟨gb263, 0, none⟩ = some (.int .i64 ((rd_T44 t259 x31_2).f0)) ∧ w'.cell? ⟨gb263, 1, none⟩ = some (.int .i64 ((rd_T44 t259 x31_2).f1)) ∧ w'.cell? ⟨gb263, 2, none⟩ = some (.int .i64 ((rd_T44 t259 x31_2).f2)) ∧ w'.cell? ⟨gb263, 3, none⟩ = some (.int .i64 ((rd_T44 t259 x31_2).f3))) (ds := []) #[false, false, false, false, false, false, false, false, false, false, false, false, false, false, false, false, false, false, false] (by kernel_rfl) rfl rfl ⟨(blk_cell BK263.out 0).trans rfl, (blk_cell BK263.out 1).trans rfl, (blk_cell BK263.out 2).trans rfl, (blk_cell BK263.out 3).trans rfl⟩ (fun hHeld => ?_); refine with_tabW impl_IsCover.tab7 impl_IsCover.bits7 (fun HT_ HW_ => ?_)
                   generalize w71.drew = w72 at HO_5 HO_29 BK253 BK263 HB hHeld ⊢
                   refine pure_ (i := 0) (N := some 35) (v := ?_) (a' := ?_) #[true, false, false, false, false, false, false, false, false, false, false, false, false, false, false, false, false, false, false] rfl rfl (any_of HT_.out (by kernel_rfl)) (fun _ _ _ h => h) (Or.inl ⟨by rfl, ?_⟩) ?_ ?_
                   rotate_left
                   ·intro w'
                    go_simp
                    with_reducible rfl
                   rotate_left
                   ·simp only [Act.put, List.setIfInBounds_toArray, List.set_cons_zero, List.set_cons_succ, i64_w, i32_w]
                    rfl
                   refine pure_ (i := 1) (N := some 36) (v := ?_) (a' := ?_) #[true, true, false, false, false, false, false, false, false, false, false, false, false, false, false, false, false, false, false] rfl rfl (any_of HT_.out (by kernel_rfl)) (fun _ _ _ h => h) (Or.inl ⟨by rfl, ?_⟩) ?_ ?_
                   rotate_left
                   ·intro w'
                    go_simp
                    with_reducible rfl
                   rotate_left
                   ·simp only [Act.put, List.setIfInBounds_toArray, List.set_cons_zero, List.set_cons_succ, i64_w, i32_w]
                    rfl
                   refine pure_ (i := 4) (N := some 39) (v := ?_) (a' := ?_) #[true, true, false, false, true, false, false, false, false, false, false, false, false, false, false, false, false, false, false] rfl rfl (any_of HT_.out (by kernel_rfl)) (fun _ _ _ h => h) (Or.inl ⟨by rfl, ?_⟩) ?_ ?_
                   rotate_left
                   ·intro w'
                    go_simp
                    with_reducible rfl
                   rotate_left
                   ·simp only [Act.put, List.setIfInBounds_toArray, List.set_cons_zero, List.set_cons_succ, i64_w, i32_w]
                    rfl
                   refine pure_ (i := 5) (N := some 40) (v := ?_) (a' := ?_) #[true, true, false, false, true, true, false, false, false, false, false, false, false, false, false, false, false, false, false] rfl rfl (any_of HT_.out (by kernel_rfl)) (fun _ _ _ h => h) (Or.inl ⟨by rfl, ?_⟩) ?_ ?_
                   rotate_left
                   ·intro w'
                    go_simp
                    with_reducible rfl
                   rotate_left
                   ·simp only [Act.put, List.setIfInBounds_toArray, List.set_cons_zero, List.set_cons_succ, i64_w, i32_w]
                    rfl
                   refine pure_ (i := 8) (N := some 43) (v := ?_) (a' := ?_) #[true, true, false, false, true, true, false, false, true, false, false, false, false, false, false, false, false, false, false] rfl rfl (any_of HT_.out (by kernel_rfl)) (fun _ _ _ h => h) (Or.inl ⟨by rfl, ?_⟩) ?_ ?_
                   rotate_left
                   ·intro w'
                    go_simp
                    with_reducible rfl
                   rotate_left
                   ·simp only [Act.put, List.setIfInBounds_toArray, List.set_cons_zero, List.set_cons_succ, i64_w, i32_w]
                    rfl
                   refine pure_ (i := 9) (N := some 44) (v := ?_) (a' := ?_) #[true, true, false, false, true, true, false, false, true, true, false, false, false, false, false, false, false, false, false] rfl rfl (any_of HT_.out (by kernel_rfl)) (fun _ _ _ h => h) (Or.inl ⟨by rfl, ?_⟩) ?_ ?_
                   rotate_left
                   ·intro w'
                    go_simp
                    with_reducible rfl
                   rotate_left
                   ·simp only [Act.put, List.setIfInBounds_toArray, List.set_cons_zero, List.set_cons_succ, i64_w, i32_w]
                    rfl
                   refine pure_ (i := 12) (N := some 47) (v := ?_) (a' := ?_) #[true, true, false, false, true, true, false, false, true, true, false, false, true, false, false, false, false, false, false] rfl rfl (any_of HT_.out (by kernel_rfl)) (fun _ _ _ h => h) (Or.inl ⟨by rfl, ?_⟩) ?_ ?_
                   rotate_left
                   ·intro w'
                    go_simp
                    with_reducible rfl
                   rotate_left
                   ·simp only [Act.put, List.setIfInBounds_toArray, List.set_cons_zero, List.set_cons_succ, i64_w, i32_w]
                    rfl
                   refine pure_ (i := 13) (N := some 48) (v := ?_) (a' := ?_) #[true, true, false, false, true, true, false, false, true, true, false, false, true, true, false, false, false, false, false] rfl rfl (any_of HT_.out (by kernel_rfl)) (fun _ _ _ h => h) (Or.inl ⟨by rfl, ?_⟩) ?_ ?_
                   rotate_left
                   ·intro w'
                    go_simp
                    with_reducible rfl
                   rotate_left
                   ·simp only [Act.put, List.setIfInBounds_toArray, List.set_cons_zero, List.set_cons_succ, i64_w, i32_w]
                    rfl
                   refine take_ (i := 2) (N := some 37) (v := ?_) (a' := ?_) #[true, true, true, false, true, true, false, false, true, true, false, false, true, true, false, false, false, false, false] rfl rfl (take_ofW HT_.out HW_.out (by kernel_rfl)) (fun _ _ _ h => h) (Or.inl ⟨by rfl, ?_⟩) hHeld ?_ ?_
                   rotate_left
                   ·rintro w' ⟨s0, s1, s2, s3⟩
                    go_simp
                    with_reducible rfl
                   rotate_left
                   ·simp only [Act.put, List.setIfInBounds_toArray, List.set_cons_zero, List.set_cons_succ, i64_w, i32_w]
                    rfl
                   refine take_ (i := 3) (N := some 38) (v := ?_) (a' := ?_) #[true, true, true, true, true, true, false, false, true, true, false, false, true, true, false, false, false, false, false] rfl rfl (take_ofW HT_.out HW_.out (by kernel_rfl)) (fun _ _ _ h => h) (Or.inl ⟨by rfl, ?_⟩) hHeld ?_ ?_
                   rotate_left
                   ·rintro w' ⟨s0, s1, s2, s3⟩
                    go_simp
                    with_reducible rfl
                   rotate_left
                   ·simp only [Act.put, List.setIfInBounds_toArray, List.set_cons_zero, List.set_cons_succ, i64_w, i32_w]
                    rfl
                   refine take_ (i := 6) (N := some 41) (v := ?_) (a' := ?_) #[true, true, true, true, true, true, true, false, true, true, false, false, true, true, false, false, false, false, false] rfl rfl (take_ofW HT_.out HW_.out (by kernel_rfl)) (fun _ _ _ h => h) (Or.inl ⟨by rfl, ?_⟩) hHeld ?_ ?_
                   rotate_left
                   ·rintro w' ⟨s0, s1, s2, s3⟩
                    go_simp
                    with_reducible rfl
                   rotate_left
                   ·simp only [Act.put, List.setIfInBounds_toArray, List.set_cons_zero, List.set_cons_succ, i64_w, i32_w]
                    rfl
                   refine take_ (i := 7) (N := some 42) (v := ?_) (a' := ?_) #[true, true, true, true, true, true, true, true, true, true, false, false, true, true, false, false, false, false, false] rfl rfl (take_ofW HT_.out HW_.out (by kernel_rfl)) (fun _ _ _ h => h) (Or.inl ⟨by rfl, ?_⟩) hHeld ?_ ?_
                   rotate_left
                   ·rintro w' ⟨s0, s1, s2, s3⟩
                    go_simp
                    with_reducible rfl
                   rotate_left
                   ·simp only [Act.put, List.setIfInBounds_toArray, List.set_cons_zero, List.set_cons_succ, i64_w, i32_w]
                    rfl
                   refine take_ (i := 10) (N := some 45) (v := ?_) (a' := ?_) #[true, true, true, true, true, true, true, true, true, true, true, false, true, true, false, false, false, false, false] rfl rfl (take_ofW HT_.out HW_.out (by kernel_rfl)) (fun _ _ _ h => h) (Or.inl ⟨by rfl, ?_⟩) hHeld ?_ ?_
                   rotate_left
                   ·rintro w' ⟨s0, s1, s2, s3⟩
                    go_simp
                    with_reducible rfl
                   rotate_left
                   ·simp only [Act.put, List.setIfInBounds_toArray, List.set_cons_zero, List.set_cons_succ, i64_w, i32_w]
                    rfl
                   refine take_ (i := 11) (N := some 46) (v := ?_) (a' := ?_) #[true, true, true, true, true, true, true, true, true, true, true, true, true, true, false, false, false, false, false] rfl rfl (take_ofW HT_.out HW_.out (by kernel_rfl)) (fun _ _ _ h => h) (Or.inl ⟨by rfl, ?_⟩) hHeld ?_ ?_
                   rotate_left
                   ·rintro w' ⟨s0, s1, s2, s3⟩
                    go_simp
                    with_reducible rfl
                   rotate_left
                   ·simp only [Act.put, List.setIfInBounds_toArray, List.set_cons_zero, List.set_cons_succ, i64_w, i32_w]
                    rfl
                   refine take_ (i := 14) (N := some 49) (v := ?_) (a' := ?_) #[true, true, true, true, true, true, true, true, true, true, true, true, true, true, true, false, false, false, false] rfl rfl (take_ofW HT_.out HW_.out (by kernel_rfl)) (fun _ _ _ h => h) (Or.inl ⟨by rfl, ?_⟩) hHeld ?_ ?_
                   rotate_left
                   ·rintro w' ⟨s0, s1, s2, s3⟩
                    go_simp
                    with_reducible rfl
                   rotate_left
                   ·simp only [Act.put, List.setIfInBounds_toArray, List.set_cons_zero, List.set_cons_succ, i64_w, i32_w]
                    rfl
                   refine take_ (i := 15) (N := some 50) (v := ?_) (a' := ?_) #[true, true, true, true, true, true, true, true, true, true, true, true, true, true, true, true, false, false, false] rfl rfl (take_ofW HT_.out HW_.out (by kernel_rfl)) (fun _ _ _ h => h) (Or.inl ⟨by rfl, ?_⟩) hHeld ?_ ?_
                   rotate_left
                   ·rintro w' ⟨s0, s1, s2, s3⟩
                    go_simp
                    with_reducible rfl
                   rotate_left
                   ·simp only [Act.put, List.setIfInBounds_toArray, List.set_cons_zero, List.set_cons_succ, i64_w, i32_w]
                    rfl
                   refine one_ (i := 16) (N := some 51) #[true, true, true, true, true, true, true, true, true, true, true, true, true, true, true, true, true, false, false] rfl rfl (one_of HT_.out (by kernel_rfl)) (by decide) (fun K hK => ?_)
                   refine Kd.R_lit_step (Kd.int .u8) _ 5 ?hg (N := 51) ?hd (xs := ([bt a1 ((rd_T44 t259 x31_2).f0), bt a1 ((rd_T44 t259 x31_2).f1), bt a1 ((rd_T44 t259 x31_2).f2), bt a1 ((rd_T44 t259 x31_2).f3)] : List Int)) (inner := [.int .u8 (bt a1 ((rd_T44 t259 x31_2).f0)), .int .u8 (bt a1 ((rd_T44 t259 x31_2).f1)), .int .u8 (bt a1 ((rd_T44 t259 x31_2).f2)), .int .u8 (bt a1 ((rd_T44 t259 x31_2).f3))]) (ok := fun _ => True) (okp := fun _ => True) ?hr ?hp (fun _ hk => hk) trivial (Below.refl _ _) (Nat.le_refl _) (by simp) ?_; (case hd => rfl); (case hg => rfl); (case hr => first | (go_simp; done) | (go_simp; rfl)); (case hp => exact (Reps.one (show Kd.M (Kd.int .u8) _ _ _ (bt a1 ((rd_T44 t259 x31_2).f0)) [.int .u8 (bt a1 ((rd_T44 t259 x31_2).f0))] from rfl) (Reps.one (show Kd.M (Kd.int .u8) _ _ _ (bt a1 ((rd_T44 t259 x31_2).f1)) [.int .u8 (bt a1 ((rd_T44 t259 x31_2).f1))] from rfl) (Reps.one (show Kd.M (Kd.int .u8) _ _ _ (bt a1 ((rd_T44 t259 x31_2).f2)) [.int .u8 (bt a1 ((rd_T44 t259 x31_2).f2))] from rfl) (Reps.one (show Kd.M (Kd.int .u8) _ _ _ (bt a1 ((rd_T44 t259 x31_2).f3)) [.int .u8 (bt a1 ((rd_T44 t259 x31_2).f3))] from rfl) (Reps.none _ _))))))
                   intro v265 w73 ho74 hb hg_ hnew_
                   clear hg_ hnew_
                   (first | rw [← Ny264.out] at ho74 | (simp only [Int.reduceToNat] at ho74; rw [← Ny264.out] at ho74))
                   have n0_ := Aside0.mk (Kd.R_below (by (with_reducible repeat (first | apply Kd.R_alloc | apply Kd.R_drewN | apply Kd.R_drew)); exact HO_5.out) hb)
                   have n1_ := Aside0.mk (Kd.R_below (by (with_reducible repeat (first | apply Kd.R_alloc | apply Kd.R_drewN | apply Kd.R_drew)); exact HO_29.out) hb)
                   have n2_ := Aside0.mk (Kd.R_lower ho74 (below_size (by repeat (first | (with_reducible first | exact HB.out | apply below_alloc | apply pw_below_drewN | apply below_drew1 | refine below_set ?_ GE253.out | refine below_set ?_ GE263.out) | exact HB.out))))
                   have n3_ := Aside0.mk (blk_below (g := gb253) (o := .cells #[.int .i64 a0_0, .string a0_1] 32 (0, 0)) (by (with_reducible repeat (first | refine blk_drewN ?_ _ | refine blk_drew ?_ | refine blk_alloc ?_ _)); exact BK253.out) hb)
                   have n4_ := Aside0.mk (blk_below (g := gb263) (o := .cells #[.int .i64 ((rd_T44 t259 x31_2).f0), .int .i64 ((rd_T44 t259 x31_2).f1), .int .i64 ((rd_T44 t259 x31_2).f2), .int .i64 ((rd_T44 t259 x31_2).f3)] 44 (0, 0)) (by (with_reducible repeat (first | refine blk_drewN ?_ _ | refine blk_drew ?_ | refine blk_alloc ?_ _)); exact BK263.out) hb)
                   have n5_ := Aside0.mk (below_step (by repeat (first | (with_reducible first | exact HB.out | apply below_alloc | apply pw_below_drewN | apply below_drew1 | refine below_set ?_ GE253.out | refine below_set ?_ GE263.out) | exact HB.out)) hb)
                   clear HO_5
                   clear HO_29
                   clear BK253
                   clear BK263
                   clear HB
                   have HO_5 := n0_
                   have HO_29 := n1_
                   have HO266 := n2_
                   have BK253 := n3_
                   have BK263 := n4_
                   have HB := n5_
                   clear n0_ n1_ n2_ n3_ n4_ n5_
                   clear hb ho74
                   refine hK.out _ _ ⟨(blk_cell BK263.out 0).trans rfl, (blk_cell BK263.out 1).trans rfl, (blk_cell BK263.out 2).trans rfl, (blk_cell BK263.out 3).trans rfl⟩ (fun hHeld => ?_)
                   clear hK K
                   refine norm_ (a' := ?_) ?_ ?_
                   rotate_left
                   ·show Act.put _ (some 51) _ = _
                    simp only [Act.put, List.setIfInBounds_toArray, List.set_cons_zero, List.set_cons_succ, i64_w, i32_w]
                    rfl
                   refine one_ (i := 17) (N := some 52) #[true, true, true, true, true, true, true, true, true, true, true, true, true, true, true, true, true, true, false] rfl rfl (one_of HT_.out (by kernel_rfl)) (by decide) (fun K hK => ?_)
                   have hcv75 := own_string (P := Tryd.prog) Tryd.underlying36 Tryd.underlying5 Tryd.underlying9 (Kd.own_of_R HO266.out)
                   refine value_ (w1 := ?_) (v := ?_) (by rfl) rfl ?_ ?_
                   rotate_left 2
                   ·go_simp
                    constructor
                    ·rfl
                    ·rfl
                   clear hcv75
                   refine hK.out _ _ ⟨(blk_cell BK263.out 0).trans rfl, (blk_cell BK263.out 1).trans rfl, (blk_cell BK263.out 2).trans rfl, (blk_cell BK263.out 3).trans rfl⟩ (fun hHeld => ?_)
                   clear hK K
                   refine norm_ (a' := ?_) ?_ ?_
                   rotate_left
                   ·show Act.put _ (some 52) _ = _
                    simp only [Act.put, List.setIfInBounds_toArray, List.set_cons_zero, List.set_cons_succ, i64_w, i32_w]
                    rfl
                   refine pure_ (i := 18) (N := some 8) (v := ?_) (a' := ?_) #[true, true, true, true, true, true, true, true, true, true, true, true, true, true, true, true, true, true, true] rfl rfl (any_of HT_.out (by kernel_rfl)) (fun _ _ _ h => h) (Or.inl ⟨by rfl, ?_⟩) ?_ ?_
                   rotate_left
                   ·intro w'
                    go_simp
                    with_reducible rfl
                   rotate_left
                   ·simp only [Act.put, List.setIfInBounds_toArray, List.set_cons_zero, List.set_cons_succ, i64_w, i32_w]
                    rfl
                   refine done_ (done_of HT_.out (by kernel_rfl)) ?_
                   have hcz76_0 : w73.cell? ⟨gb263, 0, none⟩ = some (.int .i64 ((rd_T44 t259 x31_2).f0)) := (blk_cell BK263.out 0).trans rfl
                   have hcz76_1 : w73.cell? ⟨gb263, 1, none⟩ = some (.int .i64 ((rd_T44 t259 x31_2).f1)) := (blk_cell BK263.out 1).trans rfl
                   have hcz76_2 : w73.cell? ⟨gb263, 2, none⟩ = some (.int .i64 ((rd_T44 t259 x31_2).f2)) := (blk_cell BK263.out 2).trans rfl
                   have hcz76_3 : w73.cell? ⟨gb263, 3, none⟩ = some (.int .i64 ((rd_T44 t259 x31_2).f3)) := (blk_cell BK263.out 3).trans rfl
                   have hfz76_0 := blk_frozen BK263.out 0
                   have hfz76_1 := blk_frozen BK263.out 1
                   have hfz76_2 := blk_frozen BK263.out 2
                   have hfz76_3 := blk_frozen BK263.out 3
                   obtain ⟨Ao77, co77, eo77⟩ := Kd.R_slice HO_5.out
                   subst eo77
                   try go_wp2_with (first | ((with_reducible refine gate_callee (f := 29) rfl ?_); refine goesL_ (some 62) rfl rfl Tryd.func29 (by kernel_rfl) rfl #[.pointer Ao77, .int .i64 ((rd_T44 t259 x31_2).f0), .int .i64 ((rd_T44 t259 x31_2).f1), .int .i64 ((rd_T44 t259 x31_2).f2), .int .i64 ((rd_T44 t259 x31_2).f3)] rfl (by (try simp only [List.map_toArray, List.map_cons, List.map_nil]); first | done | rfl | (simp only [List.length_drop, List.length_take]; rfl)) ?_; (refine (impl_chi_circuit.calls k2 _ co77 t256 ((rd_T44 t259 x31_2).f0) ((rd_T44 t259 x31_2).f1) ((rd_T44 t259 x31_2).f2) ((rd_T44 t259 x31_2).f3) t267 _ ?side1 ?side2 A41.out).mono ?_); (case side1 => repeat (first | exact (Kd.R_reads' HO_5.out).2.2 | (with_reducible refine Kd.C_alloc ?_ _) | (with_reducible refine Kd.C_drewN ?_ _) | (with_reducible refine Kd.C_drew ?_))); (case side2 => exact (Kd.R_reads' HO_5.out).2.1); rintro e w78 ⟨rfl, hb⟩; refine ⟨_, rfl, ?_⟩; have n0_ := Aside0.mk (Kd.R_below (by (with_reducible repeat (first | apply Kd.R_alloc | apply Kd.R_drewN | apply Kd.R_drew)); exact HO_5.out) hb); have n1_ := Aside0.mk (Kd.R_below (by (with_reducible repeat (first | apply Kd.R_alloc | apply Kd.R_drewN | apply Kd.R_drew)); exact HO_29.out) hb); have n2_ := Aside0.mk (Kd.R_below (by (with_reducible repeat (first | apply Kd.R_alloc | apply Kd.R_drewN | apply Kd.R_drew)); exact HO266.out) hb); have n3_ := Aside0.mk (blk_below (g := gb253) (o := .cells #[.int .i64 a0_0, .string a0_1] 32 (0, 0)) (by (with_reducible repeat (first | refine blk_drewN ?_ _ | refine blk_drew ?_ | refine blk_alloc ?_ _)); exact BK253.out) hb); have n4_ := Aside0.mk (blk_below (g := gb263) (o := .cells #[.int .i64 ((rd_T44 t259 x31_2).f0), .int .i64 ((rd_T44 t259 x31_2).f1), .int .i64 ((rd_T44 t259 x31_2).f2), .int .i64 ((rd_T44 t259 x31_2).f3)] 44 (0, 0)) (by (with_reducible repeat (first | refine blk_drewN ?_ _ | refine blk_drew ?_ | refine blk_alloc ?_ _)); exact BK263.out) hb); have n5_ := Aside0.mk (below_step (by repeat (first | (with_reducible first | exact HB.out | apply below_alloc | apply pw_below_drewN | apply below_drew1 | refine below_set ?_ GE253.out | refine below_set ?_ GE263.out) | exact HB.out)) hb); clear HO_5; clear HO_29; clear HO266; clear BK253; clear BK263; clear HB; have HO_5 := n0_; have HO_29 := n1_; have HO266 := n2_; have BK253 := n3_; have BK263 := n4_; have HB := n5_; clear n0_ n1_ n2_ n3_ n4_ n5_; (try clear hb); (try clear hb2); (try clear hk); (try clear hi)) | (go_at_call 20; (with_reducible refine (impl_opposite.calls (strOfNums y264) t268 _ A54.out).mono ?_); rintro e w79 ⟨rfl, hb⟩; have n0_ := Aside0.mk (Kd.R_below (by (with_reducible repeat (first | apply Kd.R_alloc | apply Kd.R_drewN | apply Kd.R_drew)); exact HO_5.out) hb); have n1_ := Aside0.mk (Kd.R_below (by (with_reducible repeat (first | apply Kd.R_alloc | apply Kd.R_drewN | apply Kd.R_drew)); exact HO_29.out) hb); have n2_ := Aside0.mk (Kd.R_below (by (with_reducible repeat (first | apply Kd.R_alloc | apply Kd.R_drewN | apply Kd.R_drew)); exact HO266.out) hb); have n3_ := Aside0.mk (blk_below (g := gb253) (o := .cells #[.int .i64 a0_0, .string a0_1] 32 (0, 0)) (by (with_reducible repeat (first | refine blk_drewN ?_ _ | refine blk_drew ?_ | refine blk_alloc ?_ _)); exact BK253.out) hb); have n4_ := Aside0.mk (blk_below (g := gb263) (o := .cells #[.int .i64 ((rd_T44 t259 x31_2).f0), .int .i64 ((rd_T44 t259 x31_2).f1), .int .i64 ((rd_T44 t259 x31_2).f2), .int .i64 ((rd_T44 t259 x31_2).f3)] 44 (0, 0)) (by (with_reducible repeat (first | refine blk_drewN ?_ _ | refine blk_drew ?_ | refine blk_alloc ?_ _)); exact BK263.out) hb); have n5_ := Aside0.mk (below_step (by repeat (first | (with_reducible first | exact HB.out | apply below_alloc | apply pw_below_drewN | apply below_drew1 | refine below_set ?_ GE253.out | refine below_set ?_ GE263.out) | exact HB.out)) hb); clear HO_5; clear HO_29; clear HO266; clear BK253; clear BK263; clear HB; have HO_5 := n0_; have HO_29 := n1_; have HO266 := n2_; have BK253 := n3_; have BK263 := n4_; have HB := n5_; clear n0_ n1_ n2_ n3_ n4_ n5_; (try clear hb); (try clear hb2); (try clear hk); (try clear hi)))
                   go_roundg k2
                   case measure => have := HJ2.out; have := HK2.out; omega
                   case rel => exact ⟨(wrap64 (x31_2 + 1)), (by first | rfl | (simp; done) | (simp [*]; done)), H', ⟨by have := HJ2.out; have := HK2.out; omega⟩, ⟨by (with_reducible repeat (first | apply Kd.R_alloc | apply Kd.R_drewN | apply Kd.R_drew)); exact HO_5.out⟩, ⟨by (with_reducible repeat (first | apply Kd.R_alloc | apply Kd.R_drewN | apply Kd.R_drew)); exact Kd.R_mono HO_29.out (fun _ hk => trivial)⟩, ⟨by (with_reducible repeat (first | refine blk_drewN ?_ _ | refine blk_drew ?_ | refine blk_alloc ?_ _)); exact BK253.out⟩, ⟨by repeat (first | (with_reducible first | exact HB.out | apply below_alloc | apply pw_below_drewN | apply below_drew1 | refine below_set ?_ GE253.out | refine below_set ?_ GE263.out) | exact HB.out)⟩⟩
                ·rw [if_neg c39] at H
                 exact absurd H (by simp)
               ·rw [if_neg c38] at H
                exact absurd H (by simp)
              ·rw [if_neg c36] at H
               exact absurd H (by simp)
             ·rw [if_neg c35] at H
              exact absurd H (by simp)
            ·rw [if_neg c33] at H
             exact absurd H (by simp)
           ·rw [if_neg c32] at H
            exact absurd H (by simp)
          ·rw [if_neg c30] at H
           exact absurd H (by simp)
         ·rw [if_neg c29] at H
          exact absurd H (by simp)
        ·rw [if_neg c28] at H
         exact absurd H (by simp)
       ·rw [if_neg c27] at H
        exact absurd H (by simp)
      ·rw [if_neg c26] at H
       have c26b0 : decide (x31_2 < (t259.length : Int)) = false := decide_eq_false c26
       clear c26
       obtain rfl := Option.some.inj H
       go_wp2
       go_ret
       exact ⟨by first | rfl | (simp [errW_none, errW_some] <;> rfl) | (simp [*, errW_none, errW_some] <;> rfl), by repeat (first | (with_reducible first | exact HB.out | apply below_alloc | apply pw_below_drewN | apply below_drew1 | refine below_set ?_ GE253.out) | exact HB.out)⟩
end Go.Proofs.YtajogmlblknfdaaDoor.P
