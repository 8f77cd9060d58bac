/- What the law FnExactSplitsInto reaches, part 5: functions as plain Lean functions with the proofs that their calls come to them, and plain lemmas over these. Put together by a program (wip/pack.py). -/
import Derived.Test.YtbglgapndefcfaaKFnExactSplitsIntoc
import Derived.Test.YtbglgapndefcfaaKFnExactSplitsIntod
namespace Go.Proofs.Ytbglgapndefcfaa.P
open Go.RowKit Go.Proofs.YtbglgapndefcfaaW.PrintWords Go.Proofs.YtbglgapndefcfaaW.PrintLast Go.Proofs.YtbglgapndefcfaaW.PrintMore
attribute [local go_sem] ptrOf_slice
attribute [local go_sem] max2_int min2_int max_two min_two max_three min_three max_four min_four
set_option linter.unusedVariables false
set_option linter.unusedSimpArgs false
mutual
def spec_l7Apart.l0 : Nat → Int → Int → Int → Int → ByteArray → Option (Bool)
 | 0, _, _, _, _, _ => none
 | k + 1, x1, x5, x6, x715000, x715001 => if x6 < x715000 then ((spec_l6Has.f x1 x6).bind fun t715 => (if t715 = true then ((spec_l6In.f k x715000 x715001 x5 x6).bind fun t716 => (if t716 = true then (some false) else ((spec_l6Has.f x5 x6).bind fun t717 => (if t717 = true then ((spec_l6In.f k x715000 x715001 x1 x6).bind fun t718 => (if t718 = true then (some false) else (spec_l7Apart.l0 k x1 x5 (wrap64 (x6 + 1)) x715000 x715001))) else (spec_l7Apart.l0 k x1 x5 (wrap64 (x6 + 1)) x715000 x715001))))) else ((spec_l6Has.f x5 x6).bind fun t719 => (if t719 = true then ((spec_l6In.f k x715000 x715001 x1 x6).bind fun t720 => (if t720 = true then (some false) else (spec_l7Apart.l0 k x1 x5 (wrap64 (x6 + 1)) x715000 x715001))) else (spec_l7Apart.l0 k x1 x5 (wrap64 (x6 + 1)) x715000 x715001))))) else (spec_l7Apart.l1 k x1 0 x715000 x715001)
def spec_l7Apart.l1 : Nat → Int → Int → Int → ByteArray → Option (Bool)
 | 0, _, _, _, _ => none
 | k + 1, x1, x7, x715000, x715001 => if x7 < x715000 then (spec_l7Apart.l2 k x1 x7 (wrap64 (x7 + 1)) x715000 x715001) else (some true)
def spec_l7Apart.l2 : Nat → Int → Int → Int → Int → ByteArray → Option (Bool)
 | 0, _, _, _, _, _ => none
 | k + 1, x1, x7, x8, x715000, x715001 => if x8 < x715000 then (spec_l7Apart.l3 k x1 x7 x8 0 x715000 x715001) else (spec_l7Apart.l1 k x1 (wrap64 (x7 + 1)) x715000 x715001)
def spec_l7Apart.l3 : Nat → Int → Int → Int → Int → Int → ByteArray → Option (Bool)
 | 0, _, _, _, _, _, _ => none
 | k + 1, x1, x7, x8, x9, x715000, x715001 => if x9 < x715000 then (spec_l7Apart.l4 k x1 x7 x8 x9 (wrap64 (x9 + 1)) x715000 x715001) else (spec_l7Apart.l2 k x1 x7 (wrap64 (x8 + 1)) x715000 x715001)
def spec_l7Apart.l4 : Nat → Int → Int → Int → Int → Int → Int → ByteArray → Option (Bool)
 | 0, _, _, _, _, _, _, _ => none
 | k + 1, x1, x7, x8, x9, x10, x715000, x715001 => if x10 < x715000 then ((spec_l6Has.f x1 x7).bind fun t721 => (if t721 = true then ((spec_l6Has.f x1 x8).bind fun t722 => (if t722 = true then ((spec_l6Has.f x1 x9).bind fun t723 => (if t723 = true then (spec_l7Apart.j5 k x1 x7 x8 x9 x10 true x715000 x715001) else ((spec_l6Has.f x1 x10).bind fun t724 => (spec_l7Apart.j5 k x1 x7 x8 x9 x10 t724 x715000 x715001)))) else (spec_l7Apart.j5 k x1 x7 x8 x9 x10 true x715000 x715001))) else (spec_l7Apart.j5 k x1 x7 x8 x9 x10 true x715000 x715001))) else (spec_l7Apart.l3 k x1 x7 x8 (wrap64 (x9 + 1)) x715000 x715001)
def spec_l7Apart.j5 : Nat → Int → Int → Int → Int → Int → Bool → Int → ByteArray → Option (Bool)
 | 0, _, _, _, _, _, _, _, _ => none
 | k + 1, x1, x7, x8, x9, x10, x93, x715000, x715001 => if x93 = true then (spec_l7Apart.l4 k x1 x7 x8 x9 (wrap64 (x10 + 1)) x715000 x715001) else ((spec_l5Split.f k x715000 x715001 (([x7, x8, x9, x10] : List Int))).bind fun bt728 => (if 0 ≤ (IntKind.u64.wrap (x7)) then (if 0 ≤ (IntKind.u64.wrap (x8)) then (if bt728.1 = (wrap64 ((shl .i64 1 (IntKind.u64.wrap (x7))) + (shl .i64 1 (IntKind.u64.wrap (x8))))) then (some false) else (spec_l7Apart.l4 k x1 x7 x8 x9 (wrap64 (x10 + 1)) x715000 x715001)) else (none)) else (none)))
end
def spec_l7Apart.f (k : Nat) (a0_0 : Int) (a0_1 : ByteArray) (a1 : Int) : Option (Bool) := if 0 ≤ (IntKind.u64.wrap (a0_0)) then (spec_l7Apart.l0 k a1 (wrap64 ((wrap64 ((shl .i64 1 (IntKind.u64.wrap (a0_0))) - 1)) - a1)) 0 a0_0 a0_1) else (none)
theorem spec_l7Apart.mono_l : ∀ k, (∀ y0 y1 y2 y3 y4, LeO (spec_l7Apart.l0 k y0 y1 y2 y3 y4) (spec_l7Apart.l0 (k + 1) y0 y1 y2 y3 y4)) ∧ (∀ y0 y1 y2 y3, LeO (spec_l7Apart.l1 k y0 y1 y2 y3) (spec_l7Apart.l1 (k + 1) y0 y1 y2 y3)) ∧ (∀ y0 y1 y2 y3 y4, LeO (spec_l7Apart.l2 k y0 y1 y2 y3 y4) (spec_l7Apart.l2 (k + 1) y0 y1 y2 y3 y4)) ∧ (∀ y0 y1 y2 y3 y4 y5, LeO (spec_l7Apart.l3 k y0 y1 y2 y3 y4 y5) (spec_l7Apart.l3 (k + 1) y0 y1 y2 y3 y4 y5)) ∧ (∀ y0 y1 y2 y3 y4 y5 y6, LeO (spec_l7Apart.l4 k y0 y1 y2 y3 y4 y5 y6) (spec_l7Apart.l4 (k + 1) y0 y1 y2 y3 y4 y5 y6)) ∧ (∀ y0 y1 y2 y3 y4 y5 y6 y7, LeO (spec_l7Apart.j5 k y0 y1 y2 y3 y4 y5 y6 y7) (spec_l7Apart.j5 (k + 1) y0 y1 y2 y3 y4 y5 y6 y7))
 | 0 => ⟨fun _ _ _ _ _ r h => by simp [spec_l7Apart.l0] at h, fun _ _ _ _ r h => by simp [spec_l7Apart.l1] at h, fun _ _ _ _ _ r h => by simp [spec_l7Apart.l2] at h, fun _ _ _ _ _ _ r h => by simp [spec_l7Apart.l3] at h, fun _ _ _ _ _ _ _ r h => by simp [spec_l7Apart.l4] at h, fun _ _ _ _ _ _ _ _ r h => by simp [spec_l7Apart.j5] at h⟩
 | k + 1 => by
  obtain ⟨ih0, ih1, ih2, ih3, ih4, ih5⟩ := spec_l7Apart.mono_l k
  refine ⟨?_, ?_, ?_, ?_, ?_, ?_⟩
  ·intro y0 y1 y2 y3 y4
   unfold spec_l7Apart.l0
   repeat' first
   | (with_reducible exact ih0 _ _ _ _ _)
   | (with_reducible exact ih1 _ _ _ _)
   | (with_reducible exact ih2 _ _ _ _ _)
   | (with_reducible exact ih3 _ _ _ _ _ _)
   | (with_reducible exact ih4 _ _ _ _ _ _ _)
   | (with_reducible exact ih5 _ _ _ _ _ _ _ _)
   | (with_reducible exact spec_l5Split.mono _ _ _ _)
   | (with_reducible exact spec_l6In.mono _ _ _ _ _)
   | (with_reducible exact LeO.refl _)
   | (with_reducible exact LeO.none _)
   | (with_reducible refine LeO.ite ?_ ?_)
   | (with_reducible refine LeO.bind ?_ (fun _ => ?_))
   | exact ih0 _ _ _ _ _
   | exact ih1 _ _ _ _
   | exact ih2 _ _ _ _ _
   | exact ih3 _ _ _ _ _ _
   | exact ih4 _ _ _ _ _ _ _
   | exact ih5 _ _ _ _ _ _ _ _
   | exact spec_l5Split.mono _ _ _ _
   | exact spec_l6In.mono _ _ _ _ _
   | exact LeO.none _
   | refine LeO.ite ?_ ?_
   | refine LeO.bind ?_ (fun _ => ?_)
  ·intro y0 y1 y2 y3
   unfold spec_l7Apart.l1
   repeat' first
   | (with_reducible exact ih0 _ _ _ _ _)
   | (with_reducible exact ih1 _ _ _ _)
   | (with_reducible exact ih2 _ _ _ _ _)
   | (with_reducible exact ih3 _ _ _ _ _ _)
   | (with_reducible exact ih4 _ _ _ _ _ _ _)
   | (with_reducible exact ih5 _ _ _ _ _ _ _ _)
   | (with_reducible exact spec_l5Split.mono _ _ _ _)
   | (with_reducible exact spec_l6In.mono _ _ _ _ _)
   | (with_reducible exact LeO.refl _)
   | (with_reducible exact LeO.none _)
   | (with_reducible refine LeO.ite ?_ ?_)
   | (with_reducible refine LeO.bind ?_ (fun _ => ?_))
   | exact ih0 _ _ _ _ _
   | exact ih1 _ _ _ _
   | exact ih2 _ _ _ _ _
   | exact ih3 _ _ _ _ _ _
   | exact ih4 _ _ _ _ _ _ _
   | exact ih5 _ _ _ _ _ _ _ _
   | exact spec_l5Split.mono _ _ _ _
   | exact spec_l6In.mono _ _ _ _ _
   | exact LeO.none _
   | refine LeO.ite ?_ ?_
   | refine LeO.bind ?_ (fun _ => ?_)
  ·intro y0 y1 y2 y3 y4
   unfold spec_l7Apart.l2
   repeat' first
   | (with_reducible exact ih0 _ _ _ _ _)
   | (with_reducible exact ih1 _ _ _ _)
   | (with_reducible exact ih2 _ _ _ _ _)
   | (with_reducible exact ih3 _ _ _ _ _ _)
   | (with_reducible exact ih4 _ _ _ _ _ _ _)
   | (with_reducible exact ih5 _ _ _ _ _ _ _ _)
   | (with_reducible exact spec_l5Split.mono _ _ _ _)
   | (with_reducible exact spec_l6In.mono _ _ _ _ _)
   | (with_reducible exact LeO.refl _)
   | (with_reducible exact LeO.none _)
   | (with_reducible refine LeO.ite ?_ ?_)
   | (with_reducible refine LeO.bind ?_ (fun _ => ?_))
   | exact ih0 _ _ _ _ _
   | exact ih1 _ _ _ _
   | exact ih2 _ _ _ _ _
   | exact ih3 _ _ _ _ _ _
   | exact ih4 _ _ _ _ _ _ _
   | exact ih5 _ _ _ _ _ _ _ _
   | exact spec_l5Split.mono _ _ _ _
   | exact spec_l6In.mono _ _ _ _ _
   | exact LeO.none _
   | refine LeO.ite ?_ ?_
   | refine LeO.bind ?_ (fun _ => ?_)
  ·intro y0 y1 y2 y3 y4 y5
   unfold spec_l7Apart.l3
   repeat' first
   | (with_reducible exact ih0 _ _ _ _ _)
   | (with_reducible exact ih1 _ _ _ _)
   | (with_reducible exact ih2 _ _ _ _ _)
   | (with_reducible exact ih3 _ _ _ _ _ _)
   | (with_reducible exact ih4 _ _ _ _ _ _ _)
   | (with_reducible exact ih5 _ _ _ _ _ _ _ _)
   | (with_reducible exact spec_l5Split.mono _ _ _ _)
   | (with_reducible exact spec_l6In.mono _ _ _ _ _)
   | (with_reducible exact LeO.refl _)
   | (with_reducible exact LeO.none _)
   | (with_reducible refine LeO.ite ?_ ?_)
   | (with_reducible refine LeO.bind ?_ (fun _ => ?_))
   | exact ih0 _ _ _ _ _
   | exact ih1 _ _ _ _
   | exact ih2 _ _ _ _ _
   | exact ih3 _ _ _ _ _ _
   | exact ih4 _ _ _ _ _ _ _
   | exact ih5 _ _ _ _ _ _ _ _
   | exact spec_l5Split.mono _ _ _ _
   | exact spec_l6In.mono _ _ _ _ _
   | exact LeO.none _
   | refine LeO.ite ?_ ?_
   | refine LeO.bind ?_ (fun _ => ?_)
  ·intro y0 y1 y2 y3 y4 y5 y6
   unfold spec_l7Apart.l4
   repeat' first
   | (with_reducible exact ih0 _ _ _ _ _)
   | (with_reducible exact ih1 _ _ _ _)
   | (with_reducible exact ih2 _ _ _ _ _)
   | (with_reducible exact ih3 _ _ _ _ _ _)
   | (with_reducible exact ih4 _ _ _ _ _ _ _)
   | (with_reducible exact ih5 _ _ _ _ _ _ _ _)
   | (with_reducible exact spec_l5Split.mono _ _ _ _)
   | (with_reducible exact spec_l6In.mono _ _ _ _ _)
   | (with_reducible exact LeO.refl _)
   | (with_reducible exact LeO.none _)
   | (with_reducible refine LeO.ite ?_ ?_)
   | (with_reducible refine LeO.bind ?_ (fun _ => ?_))
   | exact ih0 _ _ _ _ _
   | exact ih1 _ _ _ _
   | exact ih2 _ _ _ _ _
   | exact ih3 _ _ _ _ _ _
   | exact ih4 _ _ _ _ _ _ _
   | exact ih5 _ _ _ _ _ _ _ _
   | exact spec_l5Split.mono _ _ _ _
   | exact spec_l6In.mono _ _ _ _ _
   | exact LeO.none _
   | refine LeO.ite ?_ ?_
   | refine LeO.bind ?_ (fun _ => ?_)
  ·intro y0 y1 y2 y3 y4 y5 y6 y7
   unfold spec_l7Apart.j5
   repeat' first
   | (with_reducible exact ih0 _ _ _ _ _)
   | (with_reducible exact ih1 _ _ _ _)
   | (with_reducible exact ih2 _ _ _ _ _)
   | (with_reducible exact ih3 _ _ _ _ _ _)
   | (with_reducible exact ih4 _ _ _ _ _ _ _)
   | (with_reducible exact ih5 _ _ _ _ _ _ _ _)
   | (with_reducible exact spec_l5Split.mono _ _ _ _)
   | (with_reducible exact spec_l6In.mono _ _ _ _ _)
   | (with_reducible exact LeO.refl _)
   | (with_reducible exact LeO.none _)
   | (with_reducible refine LeO.ite ?_ ?_)
   | (with_reducible refine LeO.bind ?_ (fun _ => ?_))
   | exact ih0 _ _ _ _ _
   | exact ih1 _ _ _ _
   | exact ih2 _ _ _ _ _
   | exact ih3 _ _ _ _ _ _
   | exact ih4 _ _ _ _ _ _ _
   | exact ih5 _ _ _ _ _ _ _ _
   | exact spec_l5Split.mono _ _ _ _
   | exact spec_l6In.mono _ _ _ _ _
   | exact LeO.none _
   | refine LeO.ite ?_ ?_
   | refine LeO.bind ?_ (fun _ => ?_)
theorem spec_l7Apart.mono : ∀ a0 a1 a2 k, LeO (spec_l7Apart.f k a0 a1 a2) (spec_l7Apart.f (k + 1) a0 a1 a2) := by
 intro a0 a1 a2 k
 obtain ⟨ih0, ih1, ih2, ih3, ih4, ih5⟩ := spec_l7Apart.mono_l k
 unfold spec_l7Apart.f
 repeat' first
   | (with_reducible exact ih0 _ _ _ _ _)
   | (with_reducible exact ih1 _ _ _ _)
   | (with_reducible exact ih2 _ _ _ _ _)
   | (with_reducible exact ih3 _ _ _ _ _ _)
   | (with_reducible exact ih4 _ _ _ _ _ _ _)
   | (with_reducible exact ih5 _ _ _ _ _ _ _ _)
   | (with_reducible exact spec_l5Split.mono _ _ _ _)
   | (with_reducible exact spec_l6In.mono _ _ _ _ _)
   | (with_reducible exact LeO.refl _)
   | (with_reducible exact LeO.none _)
   | (with_reducible refine LeO.ite ?_ ?_)
   | (with_reducible refine LeO.bind ?_ (fun _ => ?_))
   | exact ih0 _ _ _ _ _
   | exact ih1 _ _ _ _
   | exact ih2 _ _ _ _ _
   | exact ih3 _ _ _ _ _ _
   | exact ih4 _ _ _ _ _ _ _
   | exact ih5 _ _ _ _ _ _ _ _
   | exact spec_l5Split.mono _ _ _ _
   | exact spec_l6In.mono _ _ _ _ _
   | exact LeO.none _
   | refine LeO.ite ?_ ?_
   | refine LeO.bind ?_ (fun _ => ?_)
set_option maxHeartbeats 8000000 in
set_option maxRecDepth 100000 in
theorem spec_l7Apart.calls (k : Nat) (a0_0 : Int) (a0_1 : ByteArray) (a1 : Int) (r : Bool) (w : World) (h : spec_l7Apart.f k a0_0 a0_1 a1 = some r) :
  Calls Try.prog 74 #[.agg #[.int .i64 a0_0, .string a0_1], .int .i64 a1] w fun e w' => e = .returned (.bool r) ∧ Below w.heap.size w w' := by
 have hu26 := Try.underlying26
 have HB := Aside0.mk (Below.refl w.heap.size w)
 have H : (if 0 ≤ (IntKind.u64.wrap (a0_0)) then (spec_l7Apart.l0 k a1 (wrap64 ((wrap64 ((shl .i64 1 (IntKind.u64.wrap (a0_0))) - 1)) - a1)) 0 a0_0 a0_1) else (none)) = some r := h
 clear h
 obtain ⟨ji3, hji3⟩ : ∃ j_ : Int, (IntKind.u64.wrap (a0_0)) = j_ := ⟨_, rfl⟩
 replace H : (if 0 ≤ (ji3) then (spec_l7Apart.l0 k a1 (wrap64 ((wrap64 ((shl .i64 1 (ji3)) - 1)) - a1)) 0 a0_0 a0_1) else (none)) = some r := by first | (rw [hji3] at H; exact H) | (simp only [hji3] at H ⊢; exact H)
 by_cases c4 : 0 ≤ (ji3)
 ·rw [if_pos c4] at H
  have c4b0 := eq_true c4
  have c4b1 : decide (0 ≤ (ji3)) = true := decide_eq_true c4
  clear c4
  obtain ⟨ji5, hji5⟩ : ∃ j_ : Int, (shl .i64 1 (ji3)) = j_ := ⟨_, rfl⟩
  replace H : (spec_l7Apart.l0 k a1 (wrap64 ((wrap64 ((ji5) - 1)) - a1)) 0 a0_0 a0_1) = some r := by first | (rw [hji5] at H; exact H) | (simp only [hji5] at H ⊢; exact H)
  have hji5_ : (IntKind.i64.wrap (1 * 2 ^ min (ji3).toNat 64)) = ji5 := hji5
  have hji5z : (ji3) ≤ 64 → (IntKind.i64.wrap (1 * 2 ^ (ji3).toNat)) = ji5 := shl_small hji5
  have hji5u : (IntKind.i64.wrap (2 ^ min (ji3).toNat 64)) = ji5 := by have h_ := hji5_; rw [Int.one_mul] at h_; exact h_
  have hji5v : (ji3) ≤ 64 → (IntKind.i64.wrap (2 ^ (ji3).toNat)) = ji5 := fun hle_ => by have h_ := hji5z hle_; rw [Int.one_mul] at h_; exact h_
  have hji5y : (wrap64 (1 * 2 ^ min (ji3).toNat 64)) = ji5 := (i64_w _).symm.trans hji5_
  have hji5x : (ji3) ≤ 64 → (wrap64 (1 * 2 ^ (ji3).toNat)) = ji5 := fun h_ => (i64_w _).symm.trans (hji5z h_)
  have H' := Aside0.mk H
  clear H
  go_enter Try.func74, Try.ntmps74
  go_wp2_with (first | ((with_reducible refine gate_dst (N := 2) rfl ?_); refine box_event ?hg (N := 2) ?hd (cs := #[.int .i64 a0_0, .string a0_1]) (t := 26) ?hr ?_; (case hd => rfl); (case hg => rfl); (case hr => first | (go_simp; done) | (go_simp; rfl)); intro gb714 hg w6 hbox hb; have n0_ := Aside0.mk (below_step (by repeat (first | (with_reducible first | exact HB.out | apply below_alloc | apply pw_below_drewN | apply below_drew1) | exact HB.out)) hb); have n1_ := Aside0.mk (hbox); have n2_ := Aside0.mk ((by rw [hg]; exact (below_size (by repeat (first | (with_reducible first | exact HB.out | apply below_alloc | apply pw_below_drewN | apply below_drew1) | exact HB.out))) : w.heap.size ≤ gb714)); have n3_ := Aside0.mk ((by rw [hg]; exact (below_size (by repeat (first | (with_reducible first | exact HB.out | apply below_alloc | apply pw_below_drewN | apply below_drew1) | exact HB.out))) : w.heap.size ≤ gb714)); clear HB; have HB := n0_; have BK714 := n1_; have GW714 := n2_; have GE714 := n3_; clear n0_ n1_ n2_ n3_; clear hb hbox hg; have hcz7_0 : w6.cell? ⟨gb714, 0, none⟩ = some (.int .i64 a0_0) := (blk_cell BK714.out 0).trans rfl; have hcz7_1 : w6.cell? ⟨gb714, 1, none⟩ = some (.string a0_1) := (blk_cell BK714.out 1).trans rfl; have hfz7_0 := blk_frozen BK714.out 0; have hfz7_1 := blk_frozen BK714.out 1))
  go_loopg [6] k (fun kq v6 w' => ∃ (x6_1 : Int), v6 = .int .i64 x6_1 ∧ Aside0 (spec_l7Apart.l0 kq a1 (wrap64 ((wrap64 ((ji5) - 1)) - a1)) x6_1 a0_0 a0_1 = some r) ∧ Aside0 (kq ≤ k) ∧ Aside0 (w'.heap[gb714]? = some (.cells #[.int .i64 a0_0, .string a0_1] 26 (0, 0))) ∧ Aside0 (Below w.heap.size w w'))
  case atStart => exact ⟨(0), (by first | rfl | (simp; done) | (simp [*]; done)), H', ⟨Nat.le_refl _⟩, ⟨by (with_reducible repeat (first | refine blk_drewN ?_ _ | refine blk_drew ?_ | refine blk_alloc ?_ _)); exact BK714.out⟩, ⟨by repeat (first | (with_reducible first | exact HB.out | apply below_alloc | apply pw_below_drewN | apply below_drew1 | refine below_set ?_ GE714.out) | exact HB.out)⟩⟩
  case round =>
   clear H'
   try clear p2
   try clear c4
   try clear c4b0
   try clear c4b1
   try clear p6
   try clear c7
   try clear hcz7_0
   try clear hcz7_1
   try clear hfz7_0
   try clear hfz7_1
   obtain ⟨x6_1, rfl, HA, HK1, BK714, HB⟩ := hrel
   cases gk with
   | zero => exact absurd HA.out (by simp [spec_l7Apart.l0])
   | succ k1 =>
    have H := HA.out
    clear HA
    simp only [spec_l7Apart.l0] at H
    by_cases c8 : x6_1 < a0_0
    ·rw [if_pos c8] at H
     have c8b0 : decide (x6_1 < a0_0) = true := decide_eq_true c8
     clear c8
     replace H := Option.bind_eq_some_iff.mp H
     obtain ⟨t715, A90, H⟩ := H
     replace H : (if t715 = true then ((spec_l6In.f k1 a0_0 a0_1 (wrap64 ((wrap64 ((ji5) - 1)) - a1)) x6_1).bind fun t716 => (if t716 = true then (some false) else ((spec_l6Has.f (wrap64 ((wrap64 ((ji5) - 1)) - a1)) x6_1).bind fun t717 => (if t717 = true then ((spec_l6In.f k1 a0_0 a0_1 a1 x6_1).bind fun t718 => (if t718 = true then (some false) else (spec_l7Apart.l0 k1 a1 (wrap64 ((wrap64 ((ji5) - 1)) - a1)) (wrap64 (x6_1 + 1)) a0_0 a0_1))) else (spec_l7Apart.l0 k1 a1 (wrap64 ((wrap64 ((ji5) - 1)) - a1)) (wrap64 (x6_1 + 1)) a0_0 a0_1))))) else ((spec_l6Has.f (wrap64 ((wrap64 ((ji5) - 1)) - a1)) x6_1).bind fun t719 => (if t719 = true then ((spec_l6In.f k1 a0_0 a0_1 a1 x6_1).bind fun t720 => (if t720 = true then (some false) else (spec_l7Apart.l0 k1 a1 (wrap64 ((wrap64 ((ji5) - 1)) - a1)) (wrap64 (x6_1 + 1)) a0_0 a0_1))) else (spec_l7Apart.l0 k1 a1 (wrap64 ((wrap64 ((ji5) - 1)) - a1)) (wrap64 (x6_1 + 1)) a0_0 a0_1)))) = some r := H
     have A9 := Aside0.mk A90
     clear A90
     by_cases c10 : t715 = true
     ·subst c10
      have H1 : ((spec_l6In.f k1 a0_0 a0_1 (wrap64 ((wrap64 ((ji5) - 1)) - a1)) x6_1).bind fun t716 => (if t716 = true then (some false) else ((spec_l6Has.f (wrap64 ((wrap64 ((ji5) - 1)) - a1)) x6_1).bind fun t717 => (if t717 = true then ((spec_l6In.f k1 a0_0 a0_1 a1 x6_1).bind fun t718 => (if t718 = true then (some false) else (spec_l7Apart.l0 k1 a1 (wrap64 ((wrap64 ((ji5) - 1)) - a1)) (wrap64 (x6_1 + 1)) a0_0 a0_1))) else (spec_l7Apart.l0 k1 a1 (wrap64 ((wrap64 ((ji5) - 1)) - a1)) (wrap64 (x6_1 + 1)) a0_0 a0_1))))) = some r := by rw [if_pos rfl] at H; exact H
      clear H
      have H := H1
      clear H1
      replace H := Option.bind_eq_some_iff.mp H
      obtain ⟨t716, A110, H⟩ := H
      replace H : (if t716 = true then (some false) else ((spec_l6Has.f (wrap64 ((wrap64 ((ji5) - 1)) - a1)) x6_1).bind fun t717 => (if t717 = true then ((spec_l6In.f k1 a0_0 a0_1 a1 x6_1).bind fun t718 => (if t718 = true then (some false) else (spec_l7Apart.l0 k1 a1 (wrap64 ((wrap64 ((ji5) - 1)) - a1)) (wrap64 (x6_1 + 1)) a0_0 a0_1))) else (spec_l7Apart.l0 k1 a1 (wrap64 ((wrap64 ((ji5) - 1)) - a1)) (wrap64 (x6_1 + 1)) a0_0 a0_1)))) = some r := H
      have A11 := Aside0.mk A110
      clear A110
      by_cases c12 : t716 = true
      ·subst c12
       have H1 : (some false) = some r := by rw [if_pos rfl] at H; exact H
       clear H
       have H := H1
       clear H1
       obtain rfl := Option.some.inj H
       have hcz13_0 : wr.cell? ⟨gb714, 0, none⟩ = some (.int .i64 a0_0) := (blk_cell BK714.out 0).trans rfl
       have hcz13_1 : wr.cell? ⟨gb714, 1, none⟩ = some (.string a0_1) := (blk_cell BK714.out 1).trans rfl
       have hfz13_0 := blk_frozen BK714.out 0
       have hfz13_1 := blk_frozen BK714.out 1
       go_wp2_with (first | ((with_reducible refine gate_callee (f := 61) rfl ?_); refine goesL_ (some 28) rfl rfl Try.func61 (by kernel_rfl) rfl #[.int .i64 a1, .int .i64 x6_1] rfl (by (try simp only [List.map_toArray, List.map_cons, List.map_nil]); first | done | rfl | (simp only [List.length_drop, List.length_take]; rfl)) ?_; (with_reducible refine (spec_l6Has.calls a1 x6_1 true _ A9.out).mono ?_); rintro e w' ⟨rfl, ⟨nd, rfl⟩⟩; refine ⟨_, rfl, ?_⟩) | (go_at_call 114; refine calls_of_args (args' := #[.agg #[.int .i64 a0_0, .string a0_1], .int .i64 (wrap64 ((wrap64 ((ji5) - 1)) - a1)), .int .i64 x6_1]) (by first | (simp only [hji5]; rfl) | rfl | (simp only [List.length_drop, List.length_take]; rfl)) ?_; (with_reducible refine (spec_l6In.calls k1 a0_0 a0_1 (wrap64 ((wrap64 ((ji5) - 1)) - a1)) x6_1 true _ A11.out).mono ?_); rintro e w14 ⟨rfl, hb⟩; have n0_ := Aside0.mk (blk_below (g := gb714) (o := .cells #[.int .i64 a0_0, .string a0_1] 26 (0, 0)) (by (with_reducible repeat (first | refine blk_drewN ?_ _ | refine blk_drew ?_ | refine blk_alloc ?_ _)); exact BK714.out) hb); have n1_ := Aside0.mk (below_step (by repeat (first | (with_reducible first | exact HB.out | apply below_alloc | apply pw_below_drewN | apply below_drew1 | refine below_set ?_ GE714.out) | exact HB.out)) hb); clear BK714; clear HB; have BK714 := n0_; have HB := n1_; clear n0_ n1_; (try clear hb); (try clear hb2); (try clear hk); (try clear hi)))
       go_ret
       exact ⟨by first | rfl | (simp [errW_none, errW_some] <;> rfl) | (simp only [← hji3, ← hji5]; first | rfl | (simp [errW_none, errW_some] <;> rfl)) | (simp [*, errW_none, errW_some] <;> rfl), by repeat (first | (with_reducible first | exact HB.out | apply below_alloc | apply pw_below_drewN | apply below_drew1 | refine below_set ?_ GE714.out) | exact HB.out)⟩
      ·replace c12 := Bool.eq_false_iff.mpr c12
       subst c12
       have H1 : ((spec_l6Has.f (wrap64 ((wrap64 ((ji5) - 1)) - a1)) x6_1).bind fun t717 => (if t717 = true then ((spec_l6In.f k1 a0_0 a0_1 a1 x6_1).bind fun t718 => (if t718 = true then (some false) else (spec_l7Apart.l0 k1 a1 (wrap64 ((wrap64 ((ji5) - 1)) - a1)) (wrap64 (x6_1 + 1)) a0_0 a0_1))) else (spec_l7Apart.l0 k1 a1 (wrap64 ((wrap64 ((ji5) - 1)) - a1)) (wrap64 (x6_1 + 1)) a0_0 a0_1))) = some r := by rw [if_neg (show ¬ (false = true) by decide)] at H; exact H
       clear H
       have H := H1
       clear H1
       replace H := Option.bind_eq_some_iff.mp H
       obtain ⟨t717, A150, H⟩ := H
       replace H : (if t717 = true then ((spec_l6In.f k1 a0_0 a0_1 a1 x6_1).bind fun t718 => (if t718 = true then (some false) else (spec_l7Apart.l0 k1 a1 (wrap64 ((wrap64 ((ji5) - 1)) - a1)) (wrap64 (x6_1 + 1)) a0_0 a0_1))) else (spec_l7Apart.l0 k1 a1 (wrap64 ((wrap64 ((ji5) - 1)) - a1)) (wrap64 (x6_1 + 1)) a0_0 a0_1)) = some r := H
       have A15 := Aside0.mk A150
       clear A150
       by_cases c16 : t717 = true
       ·subst c16
        have H1 : ((spec_l6In.f k1 a0_0 a0_1 a1 x6_1).bind fun t718 => (if t718 = true then (some false) else (spec_l7Apart.l0 k1 a1 (wrap64 ((wrap64 ((ji5) - 1)) - a1)) (wrap64 (x6_1 + 1)) a0_0 a0_1))) = some r := by rw [if_pos rfl] at H; exact H
        clear H
        have H := H1
        clear H1
        replace H := Option.bind_eq_some_iff.mp H
        obtain ⟨t718, A170, H⟩ := H
        replace H : (if t718 = true then (some false) else (spec_l7Apart.l0 k1 a1 (wrap64 ((wrap64 ((ji5) - 1)) - a1)) (wrap64 (x6_1 + 1)) a0_0 a0_1)) = some r := H
        have A17 := Aside0.mk A170
        clear A170
        by_cases c18 : t718 = true
        ·subst c18
         have H1 : (some false) = some r := by rw [if_pos rfl] at H; exact H
         clear H
         have H := H1
         clear H1
         obtain rfl := Option.some.inj H
         have hcz19_0 : wr.cell? ⟨gb714, 0, none⟩ = some (.int .i64 a0_0) := (blk_cell BK714.out 0).trans rfl
         have hcz19_1 : wr.cell? ⟨gb714, 1, none⟩ = some (.string a0_1) := (blk_cell BK714.out 1).trans rfl
         have hfz19_0 := blk_frozen BK714.out 0
         have hfz19_1 := blk_frozen BK714.out 1
         go_wp2_with (first | ((with_reducible refine gate_callee (f := 61) rfl ?_); refine goesL_ (some 28) rfl rfl Try.func61 (by kernel_rfl) rfl #[.int .i64 a1, .int .i64 x6_1] rfl (by (try simp only [List.map_toArray, List.map_cons, List.map_nil]); first | done | rfl | (simp only [List.length_drop, List.length_take]; rfl)) ?_; (with_reducible refine (spec_l6Has.calls a1 x6_1 true _ A9.out).mono ?_); rintro e w' ⟨rfl, ⟨nd, rfl⟩⟩; refine ⟨_, rfl, ?_⟩) | (go_at_call 114; refine calls_of_args (args' := #[.agg #[.int .i64 a0_0, .string a0_1], .int .i64 (wrap64 ((wrap64 ((ji5) - 1)) - a1)), .int .i64 x6_1]) (by first | (simp only [hji5]; rfl) | rfl | (simp only [List.length_drop, List.length_take]; rfl)) ?_; (with_reducible refine (spec_l6In.calls k1 a0_0 a0_1 (wrap64 ((wrap64 ((ji5) - 1)) - a1)) x6_1 false _ A11.out).mono ?_); rintro e w20 ⟨rfl, hb⟩; have n0_ := Aside0.mk (blk_below (g := gb714) (o := .cells #[.int .i64 a0_0, .string a0_1] 26 (0, 0)) (by (with_reducible repeat (first | refine blk_drewN ?_ _ | refine blk_drew ?_ | refine blk_alloc ?_ _)); exact BK714.out) hb); have n1_ := Aside0.mk (below_step (by repeat (first | (with_reducible first | exact HB.out | apply below_alloc | apply pw_below_drewN | apply below_drew1 | refine below_set ?_ GE714.out) | exact HB.out)) hb); clear BK714; clear HB; have BK714 := n0_; have HB := n1_; clear n0_ n1_; (try clear hb); (try clear hb2); (try clear hk); (try clear hi)) | (go_at_call 61; refine calls_of_args (args' := #[.int .i64 (wrap64 ((wrap64 ((ji5) - 1)) - a1)), .int .i64 x6_1]) (by first | (simp only [hji5]; rfl) | rfl | (simp only [List.length_drop, List.length_take]; rfl)) ?_; (with_reducible refine (spec_l6Has.calls (wrap64 ((wrap64 ((ji5) - 1)) - a1)) x6_1 true _ A15.out).mono ?_); rintro e w' ⟨rfl, ⟨nd, rfl⟩⟩; have hcz21_0 : w20.cell? ⟨gb714, 0, none⟩ = some (.int .i64 a0_0) := (blk_cell BK714.out 0).trans rfl; have hcz21_1 : w20.cell? ⟨gb714, 1, none⟩ = some (.string a0_1) := (blk_cell BK714.out 1).trans rfl; have hfz21_0 := blk_frozen BK714.out 0; have hfz21_1 := blk_frozen BK714.out 1) | (go_at_call 114; (with_reducible refine (spec_l6In.calls k1 a0_0 a0_1 a1 x6_1 true _ A17.out).mono ?_); rintro e w22 ⟨rfl, hb⟩; have n0_ := Aside0.mk (blk_below (g := gb714) (o := .cells #[.int .i64 a0_0, .string a0_1] 26 (0, 0)) (by (with_reducible repeat (first | refine blk_drewN ?_ _ | refine blk_drew ?_ | refine blk_alloc ?_ _)); exact BK714.out) hb); have n1_ := Aside0.mk (below_step (by repeat (first | (with_reducible first | exact HB.out | apply below_alloc | apply pw_below_drewN | apply below_drew1 | refine below_set ?_ GE714.out) | exact HB.out)) hb); clear BK714; clear HB; have BK714 := n0_; have HB := n1_; clear n0_ n1_; (try clear hb); (try clear hb2); (try clear hk); (try clear hi)))
         go_ret
         exact ⟨by first | rfl | (simp [errW_none, errW_some] <;> rfl) | (simp only [← hji3, ← hji5]; first | rfl | (simp [errW_none, errW_some] <;> rfl)) | (simp [*, errW_none, errW_some] <;> rfl), by repeat (first | (with_reducible first | exact HB.out | apply below_alloc | apply pw_below_drewN | apply below_drew1 | refine below_set ?_ GE714.out) | exact HB.out)⟩
        ·replace c18 := Bool.eq_false_iff.mpr c18
         subst c18
         have H1 : (spec_l7Apart.l0 k1 a1 (wrap64 ((wrap64 ((ji5) - 1)) - a1)) (wrap64 (x6_1 + 1)) a0_0 a0_1) = some r := by rw [if_neg (show ¬ (false = true) by decide)] at H; exact H
         clear H
         have H := H1
         clear H1
         have H' := Aside0.mk H
         clear H
         have hcz23_0 : wr.cell? ⟨gb714, 0, none⟩ = some (.int .i64 a0_0) := (blk_cell BK714.out 0).trans rfl
         have hcz23_1 : wr.cell? ⟨gb714, 1, none⟩ = some (.string a0_1) := (blk_cell BK714.out 1).trans rfl
         have hfz23_0 := blk_frozen BK714.out 0
         have hfz23_1 := blk_frozen BK714.out 1
         go_wp2_with (first | ((with_reducible refine gate_callee (f := 61) rfl ?_); refine goesL_ (some 28) rfl rfl Try.func61 (by kernel_rfl) rfl #[.int .i64 a1, .int .i64 x6_1] rfl (by (try simp only [List.map_toArray, List.map_cons, List.map_nil]); first | done | rfl | (simp only [List.length_drop, List.length_take]; rfl)) ?_; (with_reducible refine (spec_l6Has.calls a1 x6_1 true _ A9.out).mono ?_); rintro e w' ⟨rfl, ⟨nd, rfl⟩⟩; refine ⟨_, rfl, ?_⟩) | (go_at_call 114; refine calls_of_args (args' := #[.agg #[.int .i64 a0_0, .string a0_1], .int .i64 (wrap64 ((wrap64 ((ji5) - 1)) - a1)), .int .i64 x6_1]) (by first | (simp only [hji5]; rfl) | rfl | (simp only [List.length_drop, List.length_take]; rfl)) ?_; (with_reducible refine (spec_l6In.calls k1 a0_0 a0_1 (wrap64 ((wrap64 ((ji5) - 1)) - a1)) x6_1 false _ A11.out).mono ?_); rintro e w24 ⟨rfl, hb⟩; have n0_ := Aside0.mk (blk_below (g := gb714) (o := .cells #[.int .i64 a0_0, .string a0_1] 26 (0, 0)) (by (with_reducible repeat (first | refine blk_drewN ?_ _ | refine blk_drew ?_ | refine blk_alloc ?_ _)); exact BK714.out) hb); have n1_ := Aside0.mk (below_step (by repeat (first | (with_reducible first | exact HB.out | apply below_alloc | apply pw_below_drewN | apply below_drew1 | refine below_set ?_ GE714.out) | exact HB.out)) hb); clear BK714; clear HB; have BK714 := n0_; have HB := n1_; clear n0_ n1_; (try clear hb); (try clear hb2); (try clear hk); (try clear hi)) | (go_at_call 61; refine calls_of_args (args' := #[.int .i64 (wrap64 ((wrap64 ((ji5) - 1)) - a1)), .int .i64 x6_1]) (by first | (simp only [hji5]; rfl) | rfl | (simp only [List.length_drop, List.length_take]; rfl)) ?_; (with_reducible refine (spec_l6Has.calls (wrap64 ((wrap64 ((ji5) - 1)) - a1)) x6_1 true _ A15.out).mono ?_); rintro e w' ⟨rfl, ⟨nd, rfl⟩⟩; have hcz25_0 : w24.cell? ⟨gb714, 0, none⟩ = some (.int .i64 a0_0) := (blk_cell BK714.out 0).trans rfl; have hcz25_1 : w24.cell? ⟨gb714, 1, none⟩ = some (.string a0_1) := (blk_cell BK714.out 1).trans rfl; have hfz25_0 := blk_frozen BK714.out 0; have hfz25_1 := blk_frozen BK714.out 1) | (go_at_call 114; (with_reducible refine (spec_l6In.calls k1 a0_0 a0_1 a1 x6_1 false _ A17.out).mono ?_); rintro e w26 ⟨rfl, hb⟩; have n0_ := Aside0.mk (blk_below (g := gb714) (o := .cells #[.int .i64 a0_0, .string a0_1] 26 (0, 0)) (by (with_reducible repeat (first | refine blk_drewN ?_ _ | refine blk_drew ?_ | refine blk_alloc ?_ _)); exact BK714.out) hb); have n1_ := Aside0.mk (below_step (by repeat (first | (with_reducible first | exact HB.out | apply below_alloc | apply pw_below_drewN | apply below_drew1 | refine below_set ?_ GE714.out) | exact HB.out)) hb); clear BK714; clear HB; have BK714 := n0_; have HB := n1_; clear n0_ n1_; (try clear hb); (try clear hb2); (try clear hk); (try clear hi)))
         go_roundg k1
         case measure => have := HK1.out; omega
         case rel => exact ⟨(wrap64 (x6_1 + 1)), (by first | rfl | (simp; done) | (simp [*]; done)), H', ⟨by have := HK1.out; omega⟩, ⟨by (with_reducible repeat (first | refine blk_drewN ?_ _ | refine blk_drew ?_ | refine blk_alloc ?_ _)); exact BK714.out⟩, ⟨by repeat (first | (with_reducible first | exact HB.out | apply below_alloc | apply pw_below_drewN | apply below_drew1 | refine below_set ?_ GE714.out) | exact HB.out)⟩⟩
       ·replace c16 := Bool.eq_false_iff.mpr c16
        subst c16
        have H1 : (spec_l7Apart.l0 k1 a1 (wrap64 ((wrap64 ((ji5) - 1)) - a1)) (wrap64 (x6_1 + 1)) a0_0 a0_1) = some r := by rw [if_neg (show ¬ (false = true) by decide)] at H; exact H
        clear H
        have H := H1
        clear H1
        have H' := Aside0.mk H
        clear H
        have hcz27_0 : wr.cell? ⟨gb714, 0, none⟩ = some (.int .i64 a0_0) := (blk_cell BK714.out 0).trans rfl
        have hcz27_1 : wr.cell? ⟨gb714, 1, none⟩ = some (.string a0_1) := (blk_cell BK714.out 1).trans rfl
        have hfz27_0 := blk_frozen BK714.out 0
        have hfz27_1 := blk_frozen BK714.out 1
        go_wp2_with (first | ((with_reducible refine gate_callee (f := 61) rfl ?_); refine goesL_ (some 28) rfl rfl Try.func61 (by kernel_rfl) rfl #[.int .i64 a1, .int .i64 x6_1] rfl (by (try simp only [List.map_toArray, List.map_cons, List.map_nil]); first | done | rfl | (simp only [List.length_drop, List.length_take]; rfl)) ?_; (with_reducible refine (spec_l6Has.calls a1 x6_1 true _ A9.out).mono ?_); rintro e w' ⟨rfl, ⟨nd, rfl⟩⟩; refine ⟨_, rfl, ?_⟩) | (go_at_call 114; refine calls_of_args (args' := #[.agg #[.int .i64 a0_0, .string a0_1], .int .i64 (wrap64 ((wrap64 ((ji5) - 1)) - a1)), .int .i64 x6_1]) (by first | (simp only [hji5]; rfl) | rfl | (simp only [List.length_drop, List.length_take]; rfl)) ?_; (with_reducible refine (spec_l6In.calls k1 a0_0 a0_1 (wrap64 ((wrap64 ((ji5) - 1)) - a1)) x6_1 false _ A11.out).mono ?_); rintro e w28 ⟨rfl, hb⟩; have n0_ := Aside0.mk (blk_below (g := gb714) (o := .cells #[.int .i64 a0_0, .string a0_1] 26 (0, 0)) (by (with_reducible repeat (first | refine blk_drewN ?_ _ | refine blk_drew ?_ | refine blk_alloc ?_ _)); exact BK714.out) hb); have n1_ := Aside0.mk (below_step (by repeat (first | (with_reducible first | exact HB.out | apply below_alloc | apply pw_below_drewN | apply below_drew1 | refine below_set ?_ GE714.out) | exact HB.out)) hb); clear BK714; clear HB; have BK714 := n0_; have HB := n1_; clear n0_ n1_; (try clear hb); (try clear hb2); (try clear hk); (try clear hi)) | (go_at_call 61; refine calls_of_args (args' := #[.int .i64 (wrap64 ((wrap64 ((ji5) - 1)) - a1)), .int .i64 x6_1]) (by first | (simp only [hji5]; rfl) | rfl | (simp only [List.length_drop, List.length_take]; rfl)) ?_; (with_reducible refine (spec_l6Has.calls (wrap64 ((wrap64 ((ji5) - 1)) - a1)) x6_1 false _ A15.out).mono ?_); rintro e w' ⟨rfl, ⟨nd, rfl⟩⟩))
        go_roundg k1
        case measure => have := HK1.out; omega
        case rel => exact ⟨(wrap64 (x6_1 + 1)), (by first | rfl | (simp; done) | (simp [*]; done)), H', ⟨by have := HK1.out; omega⟩, ⟨by (with_reducible repeat (first | refine blk_drewN ?_ _ | refine blk_drew ?_ | refine blk_alloc ?_ _)); exact BK714.out⟩, ⟨by repeat (first | (with_reducible first | exact HB.out | apply below_alloc | apply pw_below_drewN | apply below_drew1 | refine below_set ?_ GE714.out) | exact HB.out)⟩⟩
     ·replace c10 := Bool.eq_false_iff.mpr c10
      subst c10
      have H1 : ((spec_l6Has.f (wrap64 ((wrap64 ((ji5) - 1)) - a1)) x6_1).bind fun t719 => (if t719 = true then ((spec_l6In.f k1 a0_0 a0_1 a1 x6_1).bind fun t720 => (if t720 = true then (some false) else (spec_l7Apart.l0 k1 a1 (wrap64 ((wrap64 ((ji5) - 1)) - a1)) (wrap64 (x6_1 + 1)) a0_0 a0_1))) else (spec_l7Apart.l0 k1 a1 (wrap64 ((wrap64 ((ji5) - 1)) - a1)) (wrap64 (x6_1 + 1)) a0_0 a0_1))) = some r := by rw [if_neg (show ¬ (false = true) by decide)] at H; exact H
      clear H
      have H := H1
      clear H1
      replace H := Option.bind_eq_some_iff.mp H
      obtain ⟨t719, A290, H⟩ := H
      replace H : (if t719 = true then ((spec_l6In.f k1 a0_0 a0_1 a1 x6_1).bind fun t720 => (if t720 = true then (some false) else (spec_l7Apart.l0 k1 a1 (wrap64 ((wrap64 ((ji5) - 1)) - a1)) (wrap64 (x6_1 + 1)) a0_0 a0_1))) else (spec_l7Apart.l0 k1 a1 (wrap64 ((wrap64 ((ji5) - 1)) - a1)) (wrap64 (x6_1 + 1)) a0_0 a0_1)) = some r := H
      have A29 := Aside0.mk A290
      clear A290
      by_cases c30 : t719 = true
      ·subst c30
       have H1 : ((spec_l6In.f k1 a0_0 a0_1 a1 x6_1).bind fun t720 => (if t720 = true then (some false) else (spec_l7Apart.l0 k1 a1 (wrap64 ((wrap64 ((ji5) - 1)) - a1)) (wrap64 (x6_1 + 1)) a0_0 a0_1))) = some r := by rw [if_pos rfl] at H; exact H
       clear H
       have H := H1
       clear H1
       replace H := Option.bind_eq_some_iff.mp H
       obtain ⟨t720, A310, H⟩ := H
       replace H : (if t720 = true then (some false) else (spec_l7Apart.l0 k1 a1 (wrap64 ((wrap64 ((ji5) - 1)) - a1)) (wrap64 (x6_1 + 1)) a0_0 a0_1)) = some r := H
       have A31 := Aside0.mk A310
       clear A310
       by_cases c32 : t720 = true
       ·subst c32
        have H1 : (some false) = some r := by rw [if_pos rfl] at H; exact H
        clear H
        have H := H1
        clear H1
        obtain rfl := Option.some.inj H
        have hcz33_0 : wr.cell? ⟨gb714, 0, none⟩ = some (.int .i64 a0_0) := (blk_cell BK714.out 0).trans rfl
        have hcz33_1 : wr.cell? ⟨gb714, 1, none⟩ = some (.string a0_1) := (blk_cell BK714.out 1).trans rfl
        have hfz33_0 := blk_frozen BK714.out 0
        have hfz33_1 := blk_frozen BK714.out 1
        go_wp2_with (first | ((with_reducible refine gate_callee (f := 61) rfl ?_); refine goesL_ (some 28) rfl rfl Try.func61 (by kernel_rfl) rfl #[.int .i64 a1, .int .i64 x6_1] rfl (by (try simp only [List.map_toArray, List.map_cons, List.map_nil]); first | done | rfl | (simp only [List.length_drop, List.length_take]; rfl)) ?_; (with_reducible refine (spec_l6Has.calls a1 x6_1 false _ A9.out).mono ?_); rintro e w' ⟨rfl, ⟨nd, rfl⟩⟩; refine ⟨_, rfl, ?_⟩) | (go_at_call 61; refine calls_of_args (args' := #[.int .i64 (wrap64 ((wrap64 ((ji5) - 1)) - a1)), .int .i64 x6_1]) (by first | (simp only [hji5]; rfl) | rfl | (simp only [List.length_drop, List.length_take]; rfl)) ?_; (with_reducible refine (spec_l6Has.calls (wrap64 ((wrap64 ((ji5) - 1)) - a1)) x6_1 true _ A29.out).mono ?_); rintro e w' ⟨rfl, ⟨nd, rfl⟩⟩) | (go_at_call 114; (with_reducible refine (spec_l6In.calls k1 a0_0 a0_1 a1 x6_1 true _ A31.out).mono ?_); rintro e w34 ⟨rfl, hb⟩; have n0_ := Aside0.mk (blk_below (g := gb714) (o := .cells #[.int .i64 a0_0, .string a0_1] 26 (0, 0)) (by (with_reducible repeat (first | refine blk_drewN ?_ _ | refine blk_drew ?_ | refine blk_alloc ?_ _)); exact BK714.out) hb); have n1_ := Aside0.mk (below_step (by repeat (first | (with_reducible first | exact HB.out | apply below_alloc | apply pw_below_drewN | apply below_drew1 | refine below_set ?_ GE714.out) | exact HB.out)) hb); clear BK714; clear HB; have BK714 := n0_; have HB := n1_; clear n0_ n1_; (try clear hb); (try clear hb2); (try clear hk); (try clear hi)))
        go_ret
        exact ⟨by first | rfl | (simp [errW_none, errW_some] <;> rfl) | (simp only [← hji3, ← hji5]; first | rfl | (simp [errW_none, errW_some] <;> rfl)) | (simp [*, errW_none, errW_some] <;> rfl), by repeat (first | (with_reducible first | exact HB.out | apply below_alloc | apply pw_below_drewN | apply below_drew1 | refine below_set ?_ GE714.out) | exact HB.out)⟩
       ·replace c32 := Bool.eq_false_iff.mpr c32
        subst c32
        have H1 : (spec_l7Apart.l0 k1 a1 (wrap64 ((wrap64 ((ji5) - 1)) - a1)) (wrap64 (x6_1 + 1)) a0_0 a0_1) = some r := by rw [if_neg (show ¬ (false = true) by decide)] at H; exact H
        clear H
        have H := H1
        clear H1
        have H' := Aside0.mk H
        clear H
        have hcz35_0 : wr.cell? ⟨gb714, 0, none⟩ = some (.int .i64 a0_0) := (blk_cell BK714.out 0).trans rfl
        have hcz35_1 : wr.cell? ⟨gb714, 1, none⟩ = some (.string a0_1) := (blk_cell BK714.out 1).trans rfl
        have hfz35_0 := blk_frozen BK714.out 0
        have hfz35_1 := blk_frozen BK714.out 1
        go_wp2_with (first | ((with_reducible refine gate_callee (f := 61) rfl ?_); refine goesL_ (some 28) rfl rfl Try.func61 (by kernel_rfl) rfl #[.int .i64 a1, .int .i64 x6_1] rfl (by (try simp only [List.map_toArray, List.map_cons, List.map_nil]); first | done | rfl | (simp only [List.length_drop, List.length_take]; rfl)) ?_; (with_reducible refine (spec_l6Has.calls a1 x6_1 false _ A9.out).mono ?_); rintro e w' ⟨rfl, ⟨nd, rfl⟩⟩; refine ⟨_, rfl, ?_⟩) | (go_at_call 61; refine calls_of_args (args' := #[.int .i64 (wrap64 ((wrap64 ((ji5) - 1)) - a1)), .int .i64 x6_1]) (by first | (simp only [hji5]; rfl) | rfl | (simp only [List.length_drop, List.length_take]; rfl)) ?_; (with_reducible refine (spec_l6Has.calls (wrap64 ((wrap64 ((ji5) - 1)) - a1)) x6_1 true _ A29.out).mono ?_); rintro e w' ⟨rfl, ⟨nd, rfl⟩⟩) | (go_at_call 114; (with_reducible refine (spec_l6In.calls k1 a0_0 a0_1 a1 x6_1 false _ A31.out).mono ?_); rintro e w36 ⟨rfl, hb⟩; have n0_ := Aside0.mk (blk_below (g := gb714) (o := .cells #[.int .i64 a0_0, .string a0_1] 26 (0, 0)) (by (with_reducible repeat (first | refine blk_drewN ?_ _ | refine blk_drew ?_ | refine blk_alloc ?_ _)); exact BK714.out) hb); have n1_ := Aside0.mk (below_step (by repeat (first | (with_reducible first | exact HB.out | apply below_alloc | apply pw_below_drewN | apply below_drew1 | refine below_set ?_ GE714.out) | exact HB.out)) hb); clear BK714; clear HB; have BK714 := n0_; have HB := n1_; clear n0_ n1_; (try clear hb); (try clear hb2); (try clear hk); (try clear hi)))
        go_roundg k1
        case measure => have := HK1.out; omega
        case rel => exact ⟨(wrap64 (x6_1 + 1)), (by first | rfl | (simp; done) | (simp [*]; done)), H', ⟨by have := HK1.out; omega⟩, ⟨by (with_reducible repeat (first | refine blk_drewN ?_ _ | refine blk_drew ?_ | refine blk_alloc ?_ _)); exact BK714.out⟩, ⟨by repeat (first | (with_reducible first | exact HB.out | apply below_alloc | apply pw_below_drewN | apply below_drew1 | refine below_set ?_ GE714.out) | exact HB.out)⟩⟩
      ·replace c30 := Bool.eq_false_iff.mpr c30
       subst c30
       have H1 : (spec_l7Apart.l0 k1 a1 (wrap64 ((wrap64 ((ji5) - 1)) - a1)) (wrap64 (x6_1 + 1)) a0_0 a0_1) = some r := by rw [if_neg (show ¬ (false = true) by decide)] at H; exact H
       clear H
       have H := H1
       clear H1
       have H' := Aside0.mk H
       clear H
       have hcz37_0 : wr.cell? ⟨gb714, 0, none⟩ = some (.int .i64 a0_0) := (blk_cell BK714.out 0).trans rfl
       have hcz37_1 : wr.cell? ⟨gb714, 1, none⟩ = some (.string a0_1) := (blk_cell BK714.out 1).trans rfl
       have hfz37_0 := blk_frozen BK714.out 0
       have hfz37_1 := blk_frozen BK714.out 1
       go_wp2_with (first | ((with_reducible refine gate_callee (f := 61) rfl ?_); refine goesL_ (some 28) rfl rfl Try.func61 (by kernel_rfl) rfl #[.int .i64 a1, .int .i64 x6_1] rfl (by (try simp only [List.map_toArray, List.map_cons, List.map_nil]); first | done | rfl | (simp only [List.length_drop, List.length_take]; rfl)) ?_; (with_reducible refine (spec_l6Has.calls a1 x6_1 false _ A9.out).mono ?_); rintro e w' ⟨rfl, ⟨nd, rfl⟩⟩; refine ⟨_, rfl, ?_⟩) | (go_at_call 61; refine calls_of_args (args' := #[.int .i64 (wrap64 ((wrap64 ((ji5) - 1)) - a1)), .int .i64 x6_1]) (by first | (simp only [hji5]; rfl) | rfl | (simp only [List.length_drop, List.length_take]; rfl)) ?_; (with_reducible refine (spec_l6Has.calls (wrap64 ((wrap64 ((ji5) - 1)) - a1)) x6_1 false _ A29.out).mono ?_); rintro e w' ⟨rfl, ⟨nd, rfl⟩⟩))
       go_roundg k1
       case measure => have := HK1.out; omega
       case rel => exact ⟨(wrap64 (x6_1 + 1)), (by first | rfl | (simp; done) | (simp [*]; done)), H', ⟨by have := HK1.out; omega⟩, ⟨by (with_reducible repeat (first | refine blk_drewN ?_ _ | refine blk_drew ?_ | refine blk_alloc ?_ _)); exact BK714.out⟩, ⟨by repeat (first | (with_reducible first | exact HB.out | apply below_alloc | apply pw_below_drewN | apply below_drew1 | refine below_set ?_ GE714.out) | exact HB.out)⟩⟩
    ·rw [if_neg c8] at H
     have c8b0 : decide (x6_1 < a0_0) = false := decide_eq_false c8
     clear c8
     have H' := Aside0.mk H
     clear H
     have hcz38_0 : wr.cell? ⟨gb714, 0, none⟩ = some (.int .i64 a0_0) := (blk_cell BK714.out 0).trans rfl
     have hcz38_1 : wr.cell? ⟨gb714, 1, none⟩ = some (.string a0_1) := (blk_cell BK714.out 1).trans rfl
     have hfz38_0 := blk_frozen BK714.out 0
     have hfz38_1 := blk_frozen BK714.out 1
     go_wp2
     go_loopg [7] k1 (fun kq v7 w' => ∃ (x7_2 : Int), v7 = .int .i64 x7_2 ∧ Aside0 (spec_l7Apart.l1 kq a1 x7_2 a0_0 a0_1 = some r) ∧ Aside0 (kq ≤ k1) ∧ Aside0 (w'.heap[gb714]? = some (.cells #[.int .i64 a0_0, .string a0_1] 26 (0, 0))) ∧ Aside0 (Below w.heap.size w w'))
     case atStart => exact ⟨(0), (by first | rfl | (simp; done) | (simp [*]; done)), H', ⟨Nat.le_refl _⟩, ⟨by (with_reducible repeat (first | refine blk_drewN ?_ _ | refine blk_drew ?_ | refine blk_alloc ?_ _)); exact BK714.out⟩, ⟨by repeat (first | (with_reducible first | exact HB.out | apply below_alloc | apply pw_below_drewN | apply below_drew1 | refine below_set ?_ GE714.out) | exact HB.out)⟩⟩
     case round =>
      clear H'
      try clear c1
      try clear p2
      try clear c3
      try clear c4
      try clear c4b0
      try clear c4b1
      try clear c6
      try clear p6
      try clear c7
      try clear c8
      try clear c8b0
      try clear c10
      try clear c12
      try clear c16
      try clear c18
      try clear c30
      try clear c32
      try clear hcz13_0
      try clear hcz13_1
      try clear hcz19_0
      try clear hcz19_1
      try clear hcz21_0
      try clear hcz21_1
      try clear hcz23_0
      try clear hcz23_1
      try clear hcz25_0
      try clear hcz25_1
      try clear hcz27_0
      try clear hcz27_1
      try clear hcz33_0
      try clear hcz33_1
      try clear hcz35_0
      try clear hcz35_1
      try clear hcz37_0
      try clear hcz37_1
      try clear hcz38_0
      try clear hcz38_1
      try clear hcz7_0
      try clear hcz7_1
      try clear hfz13_0
      try clear hfz13_1
      try clear hfz19_0
      try clear hfz19_1
      try clear hfz21_0
      try clear hfz21_1
      try clear hfz23_0
      try clear hfz23_1
      try clear hfz25_0
      try clear hfz25_1
      try clear hfz27_0
      try clear hfz27_1
      try clear hfz33_0
      try clear hfz33_1
      try clear hfz35_0
      try clear hfz35_1
      try clear hfz37_0
      try clear hfz37_1
      try clear hfz38_0
      try clear hfz38_1
      try clear hfz7_0
      try clear hfz7_1
      try clear p2
      try clear p6
      obtain ⟨x7_2, rfl, HA, HK2, BK714, HB⟩ := hrel
      cases gk with
      | zero => exact absurd HA.out (by simp [spec_l7Apart.l1])
      | succ k2 =>
       have H := HA.out
       clear HA
       simp only [spec_l7Apart.l1] at H
       by_cases c39 : x7_2 < a0_0
       ·rw [if_pos c39] at H
        have c39b0 : decide (x7_2 < a0_0) = true := decide_eq_true c39
        clear c39
        have H' := Aside0.mk H
        clear H
        have hcz40_0 : wr.cell? ⟨gb714, 0, none⟩ = some (.int .i64 a0_0) := (blk_cell BK714.out 0).trans rfl
        have hcz40_1 : wr.cell? ⟨gb714, 1, none⟩ = some (.string a0_1) := (blk_cell BK714.out 1).trans rfl
        have hfz40_0 := blk_frozen BK714.out 0
        have hfz40_1 := blk_frozen BK714.out 1
        go_wp2
        go_loopg [8] k2 (fun kq v8 w' => ∃ (x8_3 : Int), v8 = .int .i64 x8_3 ∧ Aside0 (spec_l7Apart.l2 kq a1 x7_2 x8_3 a0_0 a0_1 = some r) ∧ Aside0 (kq ≤ k2) ∧ Aside0 (w'.heap[gb714]? = some (.cells #[.int .i64 a0_0, .string a0_1] 26 (0, 0))) ∧ Aside0 (Below w.heap.size w w'))
        case atStart => exact ⟨(wrap64 (x7_2 + 1)), (by first | rfl | (simp; done) | (simp [*]; done)), H', ⟨Nat.le_refl _⟩, ⟨by (with_reducible repeat (first | refine blk_drewN ?_ _ | refine blk_drew ?_ | refine blk_alloc ?_ _)); exact BK714.out⟩, ⟨by repeat (first | (with_reducible first | exact HB.out | apply below_alloc | apply pw_below_drewN | apply below_drew1 | refine below_set ?_ GE714.out) | exact HB.out)⟩⟩
        case round =>
         clear H'
         try clear c1
         try clear p2
         try clear c3
         try clear c4
         try clear c4b0
         try clear c4b1
         try clear c6
         try clear p6
         try clear c7
         try clear c8
         try clear c8b0
         try clear c10
         try clear c12
         try clear c16
         try clear c18
         try clear c30
         try clear c32
         try clear c39
         try clear c39b0
         try clear hcz13_0
         try clear hcz13_1
         try clear hcz19_0
         try clear hcz19_1
         try clear hcz21_0
         try clear hcz21_1
         try clear hcz23_0
         try clear hcz23_1
         try clear hcz25_0
         try clear hcz25_1
         try clear hcz27_0
         try clear hcz27_1
         try clear hcz33_0
         try clear hcz33_1
         try clear hcz35_0
         try clear hcz35_1
         try clear hcz37_0
         try clear hcz37_1
         try clear hcz38_0
         try clear hcz38_1
         try clear hcz40_0
         try clear hcz40_1
         try clear hcz7_0
         try clear hcz7_1
         try clear hfz13_0
         try clear hfz13_1
         try clear hfz19_0
         try clear hfz19_1
         try clear hfz21_0
         try clear hfz21_1
         try clear hfz23_0
         try clear hfz23_1
         try clear hfz25_0
         try clear hfz25_1
         try clear hfz27_0
         try clear hfz27_1
         try clear hfz33_0
         try clear hfz33_1
         try clear hfz35_0
         try clear hfz35_1
         try clear hfz37_0
         try clear hfz37_1
         try clear hfz38_0
         try clear hfz38_1
         try clear hfz40_0
         try clear hfz40_1
         try clear hfz7_0
         try clear hfz7_1
         try clear p2
         try clear p6
         obtain ⟨x8_3, rfl, HA, HK3, BK714, HB⟩ := hrel
         cases gk with
         | zero => exact absurd HA.out (by simp [spec_l7Apart.l2])
         | succ k3 =>
          have H := HA.out
          clear HA
          simp only [spec_l7Apart.l2] at H
          by_cases c41 : x8_3 < a0_0
          ·rw [if_pos c41] at H
           have c41b0 : decide (x8_3 < a0_0) = true := decide_eq_true c41
           clear c41
           have H' := Aside0.mk H
           clear H
           have hcz42_0 : wr.cell? ⟨gb714, 0, none⟩ = some (.int .i64 a0_0) := (blk_cell BK714.out 0).trans rfl
           have hcz42_1 : wr.cell? ⟨gb714, 1, none⟩ = some (.string a0_1) := (blk_cell BK714.out 1).trans rfl
           have hfz42_0 := blk_frozen BK714.out 0
           have hfz42_1 := blk_frozen BK714.out 1
           go_wp2
           go_loopg [9] k3 (fun kq v9 w' => ∃ (x9_4 : Int), v9 = .int .i64 x9_4 ∧ Aside0 (spec_l7Apart.l3 kq a1 x7_2 x8_3 x9_4 a0_0 a0_1 = some r) ∧ Aside0 (kq ≤ k3) ∧ Aside0 (w'.heap[gb714]? = some (.cells #[.int .i64 a0_0, .string a0_1] 26 (0, 0))) ∧ Aside0 (Below w.heap.size w w'))
           case atStart => exact ⟨(0), (by first | rfl | (simp; done) | (simp [*]; done)), H', ⟨Nat.le_refl _⟩, ⟨by (with_reducible repeat (first | refine blk_drewN ?_ _ | refine blk_drew ?_ | refine blk_alloc ?_ _)); exact BK714.out⟩, ⟨by repeat (first | (with_reducible first | exact HB.out | apply below_alloc | apply pw_below_drewN | apply below_drew1 | refine below_set ?_ GE714.out) | exact HB.out)⟩⟩
           case round =>
            clear H'
            try clear c1
            try clear p2
            try clear c3
            try clear c4
            try clear c4b0
            try clear c4b1
            try clear c6
            try clear p6
            try clear c7
            try clear c8
            try clear c8b0
            try clear c10
            try clear c12
            try clear c16
            try clear c18
            try clear c30
            try clear c32
            try clear c39
            try clear c39b0
            try clear c41
            try clear c41b0
            try clear hcz13_0
            try clear hcz13_1
            try clear hcz19_0
            try clear hcz19_1
            try clear hcz21_0
            try clear hcz21_1
            try clear hcz23_0
            try clear hcz23_1
            try clear hcz25_0
            try clear hcz25_1
            try clear hcz27_0
            try clear hcz27_1
            try clear hcz33_0
            try clear hcz33_1
            try clear hcz35_0
            try clear hcz35_1
            try clear hcz37_0
            try clear hcz37_1
            try clear hcz38_0
            try clear hcz38_1
            try clear hcz40_0
            try clear hcz40_1
            try clear hcz42_0
            try clear hcz42_1
            try clear hcz7_0
            try clear hcz7_1
            try clear hfz13_0
            try clear hfz13_1
            try clear hfz19_0
            try clear hfz19_1
            try clear hfz21_0
            try clear hfz21_1
            try clear hfz23_0
            try clear hfz23_1
            try clear hfz25_0
            try clear hfz25_1
            try clear hfz27_0
            try clear hfz27_1
            try clear hfz33_0
            try clear hfz33_1
            try clear hfz35_0
            try clear hfz35_1
            try clear hfz37_0
            try clear hfz37_1
            try clear hfz38_0
            try clear hfz38_1
            try clear hfz40_0
            try clear hfz40_1
            try clear hfz42_0
            try clear hfz42_1
            try clear hfz7_0
            try clear hfz7_1
            try clear p2
            try clear p6
            obtain ⟨x9_4, rfl, HA, HK4, BK714, HB⟩ := hrel
            cases gk with
            | zero => exact absurd HA.out (by simp [spec_l7Apart.l3])
            | succ k4 =>
             have H := HA.out
             clear HA
             simp only [spec_l7Apart.l3] at H
             by_cases c43 : x9_4 < a0_0
             ·rw [if_pos c43] at H
              have c43b0 : decide (x9_4 < a0_0) = true := decide_eq_true c43
              clear c43
              have H' := Aside0.mk H
              clear H
              have hcz44_0 : wr.cell? ⟨gb714, 0, none⟩ = some (.int .i64 a0_0) := (blk_cell BK714.out 0).trans rfl
              have hcz44_1 : wr.cell? ⟨gb714, 1, none⟩ = some (.string a0_1) := (blk_cell BK714.out 1).trans rfl
              have hfz44_0 := blk_frozen BK714.out 0
              have hfz44_1 := blk_frozen BK714.out 1
              go_wp2
              go_loopg [10] k4 (fun kq v10 w' => ∃ (x10_5 : Int), v10 = .int .i64 x10_5 ∧ Aside0 (spec_l7Apart.l4 kq a1 x7_2 x8_3 x9_4 x10_5 a0_0 a0_1 = some r) ∧ Aside0 (kq ≤ k4) ∧ Aside0 (w'.heap[gb714]? = some (.cells #[.int .i64 a0_0, .string a0_1] 26 (0, 0))) ∧ Aside0 (Below w.heap.size w w'))
              case atStart => exact ⟨(wrap64 (x9_4 + 1)), (by first | rfl | (simp; done) | (simp [*]; done)), H', ⟨Nat.le_refl _⟩, ⟨by (with_reducible repeat (first | refine blk_drewN ?_ _ | refine blk_drew ?_ | refine blk_alloc ?_ _)); exact BK714.out⟩, ⟨by repeat (first | (with_reducible first | exact HB.out | apply below_alloc | apply pw_below_drewN | apply below_drew1 | refine below_set ?_ GE714.out) | exact HB.out)⟩⟩
              case round =>
               clear H'
               try clear c1
               try clear p2
               try clear c3
               try clear c4
               try clear c4b0
               try clear c4b1
               try clear c6
               try clear p6
               try clear c7
               try clear c8
               try clear c8b0
               try clear c10
               try clear c12
               try clear c16
               try clear c18
               try clear c30
               try clear c32
               try clear c39
               try clear c39b0
               try clear c41
               try clear c41b0
               try clear c43
               try clear c43b0
               try clear hcz13_0
               try clear hcz13_1
               try clear hcz19_0
               try clear hcz19_1
               try clear hcz21_0
               try clear hcz21_1
               try clear hcz23_0
               try clear hcz23_1
               try clear hcz25_0
               try clear hcz25_1
               try clear hcz27_0
               try clear hcz27_1
               try clear hcz33_0
               try clear hcz33_1
               try clear hcz35_0
               try clear hcz35_1
               try clear hcz37_0
               try clear hcz37_1
               try clear hcz38_0
               try clear hcz38_1
               try clear hcz40_0
               try clear hcz40_1
               try clear hcz42_0
               try clear hcz42_1
               try clear hcz44_0
               try clear hcz44_1
               try clear hcz7_0
               try clear hcz7_1
               try clear hfz13_0
               try clear hfz13_1
               try clear hfz19_0
               try clear hfz19_1
               try clear hfz21_0
               try clear hfz21_1
               try clear hfz23_0
               try clear hfz23_1
               try clear hfz25_0
               try clear hfz25_1
               try clear hfz27_0
               try clear hfz27_1
               try clear hfz33_0
               try clear hfz33_1
               try clear hfz35_0
               try clear hfz35_1
               try clear hfz37_0
               try clear hfz37_1
               try clear hfz38_0
               try clear hfz38_1
               try clear hfz40_0
               try clear hfz40_1
               try clear hfz42_0
               try clear hfz42_1
               try clear hfz44_0
               try clear hfz44_1
               try clear hfz7_0
               try clear hfz7_1
               try clear p2
               try clear p6
               obtain ⟨x10_5, rfl, HA, HK5, BK714, HB⟩ := hrel
               cases gk with
               | zero => exact absurd HA.out (by simp [spec_l7Apart.l4])
               | succ k5 =>
                have H := HA.out
                clear HA
                simp only [spec_l7Apart.l4] at H
                by_cases c45 : x10_5 < a0_0
                ·rw [if_pos c45] at H
                 have c45b0 : decide (x10_5 < a0_0) = true := decide_eq_true c45
                 clear c45
                 have HC46 := Aside0.mk H
                 clear H
                 have hcz47_0 : wr.cell? ⟨gb714, 0, none⟩ = some (.int .i64 a0_0) := (blk_cell BK714.out 0).trans rfl
                 have hcz47_1 : wr.cell? ⟨gb714, 1, none⟩ = some (.string a0_1) := (blk_cell BK714.out 1).trans rfl
                 have hfz47_0 := blk_frozen BK714.out 0
                 have hfz47_1 := blk_frozen BK714.out 1
                 go_upto_region 19 with (fail)
                 go_cut [93] (fun v93 wc => ∃ (kq : Nat) (x93_45 : Bool), v93 = .bool x93_45 ∧ Aside0 (spec_l7Apart.j5 kq a1 x7_2 x8_3 x9_4 x10_5 x93_45 a0_0 a0_1 = some r) ∧ Aside0 (kq ≤ k5) ∧ Aside0 (wc.heap[gb714]? = some (.cells #[.int .i64 a0_0, .string a0_1] 26 (0, 0))) ∧ Aside0 (Below w.heap.size w wc))
                 case first =>
                  have H := HC46.out
                  clear HC46
                  replace H := Option.bind_eq_some_iff.mp H
                  obtain ⟨t721, A480, H⟩ := H
                  replace H : (if t721 = true then ((spec_l6Has.f a1 x8_3).bind fun t722 => (if t722 = true then ((spec_l6Has.f a1 x9_4).bind fun t723 => (if t723 = true then (spec_l7Apart.j5 k5 a1 x7_2 x8_3 x9_4 x10_5 true a0_0 a0_1) else ((spec_l6Has.f a1 x10_5).bind fun t724 => (spec_l7Apart.j5 k5 a1 x7_2 x8_3 x9_4 x10_5 t724 a0_0 a0_1)))) else (spec_l7Apart.j5 k5 a1 x7_2 x8_3 x9_4 x10_5 true a0_0 a0_1))) else (spec_l7Apart.j5 k5 a1 x7_2 x8_3 x9_4 x10_5 true a0_0 a0_1)) = some r := H
                  have A48 := Aside0.mk A480
                  clear A480
                  by_cases c49 : t721 = true
                  ·subst c49
                   have H1 : ((spec_l6Has.f a1 x8_3).bind fun t722 => (if t722 = true then ((spec_l6Has.f a1 x9_4).bind fun t723 => (if t723 = true then (spec_l7Apart.j5 k5 a1 x7_2 x8_3 x9_4 x10_5 true a0_0 a0_1) else ((spec_l6Has.f a1 x10_5).bind fun t724 => (spec_l7Apart.j5 k5 a1 x7_2 x8_3 x9_4 x10_5 t724 a0_0 a0_1)))) else (spec_l7Apart.j5 k5 a1 x7_2 x8_3 x9_4 x10_5 true a0_0 a0_1))) = some r := by rw [if_pos rfl] at H; exact H
                   clear H
                   have H := H1
                   clear H1
                   replace H := Option.bind_eq_some_iff.mp H
                   obtain ⟨t722, A500, H⟩ := H
                   replace H : (if t722 = true then ((spec_l6Has.f a1 x9_4).bind fun t723 => (if t723 = true then (spec_l7Apart.j5 k5 a1 x7_2 x8_3 x9_4 x10_5 true a0_0 a0_1) else ((spec_l6Has.f a1 x10_5).bind fun t724 => (spec_l7Apart.j5 k5 a1 x7_2 x8_3 x9_4 x10_5 t724 a0_0 a0_1)))) else (spec_l7Apart.j5 k5 a1 x7_2 x8_3 x9_4 x10_5 true a0_0 a0_1)) = some r := H
                   have A50 := Aside0.mk A500
                   clear A500
                   by_cases c51 : t722 = true
                   ·subst c51
                    have H1 : ((spec_l6Has.f a1 x9_4).bind fun t723 => (if t723 = true then (spec_l7Apart.j5 k5 a1 x7_2 x8_3 x9_4 x10_5 true a0_0 a0_1) else ((spec_l6Has.f a1 x10_5).bind fun t724 => (spec_l7Apart.j5 k5 a1 x7_2 x8_3 x9_4 x10_5 t724 a0_0 a0_1)))) = some r := by rw [if_pos rfl] at H; exact H
                    clear H
                    have H := H1
                    clear H1
                    replace H := Option.bind_eq_some_iff.mp H
                    obtain ⟨t723, A520, H⟩ := H
                    replace H : (if t723 = true then (spec_l7Apart.j5 k5 a1 x7_2 x8_3 x9_4 x10_5 true a0_0 a0_1) else ((spec_l6Has.f a1 x10_5).bind fun t724 => (spec_l7Apart.j5 k5 a1 x7_2 x8_3 x9_4 x10_5 t724 a0_0 a0_1))) = some r := H
                    have A52 := Aside0.mk A520
                    clear A520
                    by_cases c53 : t723 = true
                    ·subst c53
                     have H1 : (spec_l7Apart.j5 k5 a1 x7_2 x8_3 x9_4 x10_5 true a0_0 a0_1) = some r := by rw [if_pos rfl] at H; exact H
                     clear H
                     have H := H1
                     clear H1
                     have H' := Aside0.mk H
                     clear H
                     go_wp2_with (first | ((with_reducible refine gate_callee (f := 61) rfl ?_); refine goesL_ (some 76) rfl rfl Try.func61 (by kernel_rfl) rfl #[.int .i64 a1, .int .i64 x7_2] rfl (by (try simp only [List.map_toArray, List.map_cons, List.map_nil]); first | done | rfl | (simp only [List.length_drop, List.length_take]; rfl)) ?_; (with_reducible refine (spec_l6Has.calls a1 x7_2 true _ A48.out).mono ?_); rintro e w' ⟨rfl, ⟨nd, rfl⟩⟩; refine ⟨_, rfl, ?_⟩) | (go_at_call 61; (with_reducible refine (spec_l6Has.calls a1 x8_3 true _ A50.out).mono ?_); rintro e w' ⟨rfl, ⟨nd, rfl⟩⟩) | (go_at_call 61; (with_reducible refine (spec_l6Has.calls a1 x9_4 true _ A52.out).mono ?_); rintro e w' ⟨rfl, ⟨nd, rfl⟩⟩))
                     go_meet
                     case rel => exact ⟨_, (true), (by first | rfl | (simp; done) | (simp [*]; done)), H', ⟨by have := HK1.out; have := HK2.out; have := HK3.out; have := HK4.out; have := HK5.out; first | omega | exact Nat.le_refl _⟩, ⟨by (with_reducible repeat (first | refine blk_drewN ?_ _ | refine blk_drew ?_ | refine blk_alloc ?_ _)); exact BK714.out⟩, ⟨by repeat (first | (with_reducible first | exact HB.out | apply below_alloc | apply pw_below_drewN | apply below_drew1 | refine below_set ?_ GE714.out) | exact HB.out)⟩⟩
                    ·replace c53 := Bool.eq_false_iff.mpr c53
                     subst c53
                     have H1 : ((spec_l6Has.f a1 x10_5).bind fun t724 => (spec_l7Apart.j5 k5 a1 x7_2 x8_3 x9_4 x10_5 t724 a0_0 a0_1)) = some r := by rw [if_neg (show ¬ (false = true) by decide)] at H; exact H
                     clear H
                     have H := H1
                     clear H1
                     replace H := Option.bind_eq_some_iff.mp H
                     obtain ⟨t724, A540, H⟩ := H
                     replace H : (spec_l7Apart.j5 k5 a1 x7_2 x8_3 x9_4 x10_5 t724 a0_0 a0_1) = some r := H
                     have A54 := Aside0.mk A540
                     clear A540
                     have H' := Aside0.mk H
                     clear H
                     go_wp2_with (first | ((with_reducible refine gate_callee (f := 61) rfl ?_); refine goesL_ (some 76) rfl rfl Try.func61 (by kernel_rfl) rfl #[.int .i64 a1, .int .i64 x7_2] rfl (by (try simp only [List.map_toArray, List.map_cons, List.map_nil]); first | done | rfl | (simp only [List.length_drop, List.length_take]; rfl)) ?_; (with_reducible refine (spec_l6Has.calls a1 x7_2 true _ A48.out).mono ?_); rintro e w' ⟨rfl, ⟨nd, rfl⟩⟩; refine ⟨_, rfl, ?_⟩) | (go_at_call 61; (with_reducible refine (spec_l6Has.calls a1 x8_3 true _ A50.out).mono ?_); rintro e w' ⟨rfl, ⟨nd, rfl⟩⟩) | (go_at_call 61; (with_reducible refine (spec_l6Has.calls a1 x9_4 false _ A52.out).mono ?_); rintro e w' ⟨rfl, ⟨nd, rfl⟩⟩) | (go_at_call 61; (with_reducible refine (spec_l6Has.calls a1 x10_5 t724 _ A54.out).mono ?_); rintro e w' ⟨rfl, ⟨nd, rfl⟩⟩))
                     go_meet
                     case rel => exact ⟨_, (t724), (by first | rfl | (simp; done) | (simp [*]; done)), H', ⟨by have := HK1.out; have := HK2.out; have := HK3.out; have := HK4.out; have := HK5.out; first | omega | exact Nat.le_refl _⟩, ⟨by (with_reducible repeat (first | refine blk_drewN ?_ _ | refine blk_drew ?_ | refine blk_alloc ?_ _)); exact BK714.out⟩, ⟨by repeat (first | (with_reducible first | exact HB.out | apply below_alloc | apply pw_below_drewN | apply below_drew1 | refine below_set ?_ GE714.out) | exact HB.out)⟩⟩
                   ·replace c51 := Bool.eq_false_iff.mpr c51
                    subst c51
                    have H1 : (spec_l7Apart.j5 k5 a1 x7_2 x8_3 x9_4 x10_5 true a0_0 a0_1) = some r := by rw [if_neg (show ¬ (false = true) by decide)] at H; exact H
                    clear H
                    have H := H1
                    clear H1
                    have H' := Aside0.mk H
                    clear H
                    go_wp2_with (first | ((with_reducible refine gate_callee (f := 61) rfl ?_); refine goesL_ (some 76) rfl rfl Try.func61 (by kernel_rfl) rfl #[.int .i64 a1, .int .i64 x7_2] rfl (by (try simp only [List.map_toArray, List.map_cons, List.map_nil]); first | done | rfl | (simp only [List.length_drop, List.length_take]; rfl)) ?_; (with_reducible refine (spec_l6Has.calls a1 x7_2 true _ A48.out).mono ?_); rintro e w' ⟨rfl, ⟨nd, rfl⟩⟩; refine ⟨_, rfl, ?_⟩) | (go_at_call 61; (with_reducible refine (spec_l6Has.calls a1 x8_3 false _ A50.out).mono ?_); rintro e w' ⟨rfl, ⟨nd, rfl⟩⟩))
                    go_meet
                    case rel => exact ⟨_, (true), (by first | rfl | (simp; done) | (simp [*]; done)), H', ⟨by have := HK1.out; have := HK2.out; have := HK3.out; have := HK4.out; have := HK5.out; first | omega | exact Nat.le_refl _⟩, ⟨by (with_reducible repeat (first | refine blk_drewN ?_ _ | refine blk_drew ?_ | refine blk_alloc ?_ _)); exact BK714.out⟩, ⟨by repeat (first | (with_reducible first | exact HB.out | apply below_alloc | apply pw_below_drewN | apply below_drew1 | refine below_set ?_ GE714.out) | exact HB.out)⟩⟩
                  ·replace c49 := Bool.eq_false_iff.mpr c49
                   subst c49
                   have H1 : (spec_l7Apart.j5 k5 a1 x7_2 x8_3 x9_4 x10_5 true a0_0 a0_1) = some r := by rw [if_neg (show ¬ (false = true) by decide)] at H; exact H
                   clear H
                   have H := H1
                   clear H1
                   have H' := Aside0.mk H
                   clear H
                   go_wp2_with (first | ((with_reducible refine gate_callee (f := 61) rfl ?_); refine goesL_ (some 76) rfl rfl Try.func61 (by kernel_rfl) rfl #[.int .i64 a1, .int .i64 x7_2] rfl (by (try simp only [List.map_toArray, List.map_cons, List.map_nil]); first | done | rfl | (simp only [List.length_drop, List.length_take]; rfl)) ?_; (with_reducible refine (spec_l6Has.calls a1 x7_2 false _ A48.out).mono ?_); rintro e w' ⟨rfl, ⟨nd, rfl⟩⟩; refine ⟨_, rfl, ?_⟩))
                   go_meet
                   case rel => exact ⟨_, (true), (by first | rfl | (simp; done) | (simp [*]; done)), H', ⟨by have := HK1.out; have := HK2.out; have := HK3.out; have := HK4.out; have := HK5.out; first | omega | exact Nat.le_refl _⟩, ⟨by (with_reducible repeat (first | refine blk_drewN ?_ _ | refine blk_drew ?_ | refine blk_alloc ?_ _)); exact BK714.out⟩, ⟨by repeat (first | (with_reducible first | exact HB.out | apply below_alloc | apply pw_below_drewN | apply below_drew1 | refine below_set ?_ GE714.out) | exact HB.out)⟩⟩
                 case rest =>
                  clear HC46
                  try clear c1
                  try clear p2
                  try clear c3
                  try clear c4
                  try clear c4b0
                  try clear c4b1
                  try clear c5
                  try clear c6
                  try clear p6
                  try clear c7
                  try clear c8
                  try clear c8b0
                  try clear c10
                  try clear c12
                  try clear c16
                  try clear c18
                  try clear c30
                  try clear c32
                  try clear c39
                  try clear c39b0
                  try clear c41
                  try clear c41b0
                  try clear c43
                  try clear c43b0
                  try clear c45
                  try clear c45b0
                  try clear c49
                  try clear c51
                  try clear c53
                  try clear hcz13_0
                  try clear hcz13_1
                  try clear hcz19_0
                  try clear hcz19_1
                  try clear hcz21_0
                  try clear hcz21_1
                  try clear hcz23_0
                  try clear hcz23_1
                  try clear hcz25_0
                  try clear hcz25_1
                  try clear hcz27_0
                  try clear hcz27_1
                  try clear hcz33_0
                  try clear hcz33_1
                  try clear hcz35_0
                  try clear hcz35_1
                  try clear hcz37_0
                  try clear hcz37_1
                  try clear hcz38_0
                  try clear hcz38_1
                  try clear hcz40_0
                  try clear hcz40_1
                  try clear hcz42_0
                  try clear hcz42_1
                  try clear hcz44_0
                  try clear hcz44_1
                  try clear hcz47_0
                  try clear hcz47_1
                  try clear hcz7_0
                  try clear hcz7_1
                  try clear hfz13_0
                  try clear hfz13_1
                  try clear hfz19_0
                  try clear hfz19_1
                  try clear hfz21_0
                  try clear hfz21_1
                  try clear hfz23_0
                  try clear hfz23_1
                  try clear hfz25_0
                  try clear hfz25_1
                  try clear hfz27_0
                  try clear hfz27_1
                  try clear hfz33_0
                  try clear hfz33_1
                  try clear hfz35_0
                  try clear hfz35_1
                  try clear hfz37_0
                  try clear hfz37_1
                  try clear hfz38_0
                  try clear hfz38_1
                  try clear hfz40_0
                  try clear hfz40_1
                  try clear hfz42_0
                  try clear hfz42_1
                  try clear hfz44_0
                  try clear hfz44_1
                  try clear hfz47_0
                  try clear hfz47_1
                  try clear hfz7_0
                  try clear hfz7_1
                  try clear p2
                  try clear p6
                  obtain ⟨kq, x93_45, rfl, HA, HJ45, BK714, HB⟩ := hcut
                  cases kq with
                  | zero => exact absurd HA.out (by simp [spec_l7Apart.j5])
                  | succ kj45 =>
                   have H := HA.out
                   clear HA
                   simp only [spec_l7Apart.j5] at H
                   by_cases c55 : x93_45 = true
                   ·subst c55
                    have H1 : (spec_l7Apart.l4 kj45 a1 x7_2 x8_3 x9_4 (wrap64 (x10_5 + 1)) a0_0 a0_1) = some r := by rw [if_pos rfl] at H; exact H
                    clear H
                    have H := H1
                    clear H1
                    have H' := Aside0.mk H
                    clear H
                    go_wp2
                    go_roundg kj45
                    case measure => have := HK1.out; have := HK2.out; have := HK3.out; have := HK4.out; have := HK5.out; have := HJ45.out; omega
                    case rel => exact ⟨(wrap64 (x10_5 + 1)), (by first | rfl | (simp; done) | (simp [*]; done)), H', ⟨by have := HK1.out; have := HK2.out; have := HK3.out; have := HK4.out; have := HK5.out; have := HJ45.out; omega⟩, ⟨by (with_reducible repeat (first | refine blk_drewN ?_ _ | refine blk_drew ?_ | refine blk_alloc ?_ _)); exact BK714.out⟩, ⟨by repeat (first | (with_reducible first | exact HB.out | apply below_alloc | apply pw_below_drewN | apply below_drew1 | refine below_set ?_ GE714.out) | exact HB.out)⟩⟩
                   ·replace c55 := Bool.eq_false_iff.mpr c55
                    subst c55
                    have H1 : ((spec_l5Split.f kj45 a0_0 a0_1 (([x7_2, x8_3, x9_4, x10_5] : List Int))).bind fun bt728 => (if 0 ≤ (IntKind.u64.wrap (x7_2)) then (if 0 ≤ (IntKind.u64.wrap (x8_3)) then (if bt728.1 = (wrap64 ((shl .i64 1 (IntKind.u64.wrap (x7_2))) + (shl .i64 1 (IntKind.u64.wrap (x8_3))))) then (some false) else (spec_l7Apart.l4 kj45 a1 x7_2 x8_3 x9_4 (wrap64 (x10_5 + 1)) a0_0 a0_1)) else (none)) else (none))) = some r := by rw [if_neg (show ¬ (false = true) by decide)] at H; exact H
                    clear H
                    have H := H1
                    clear H1
                    obtain ⟨y725, hy725⟩ : ∃ y_ : List Int, y_ = (([x7_2, x8_3, x9_4, x10_5] : List Int)) := ⟨_, rfl⟩
                    replace H : ((spec_l5Split.f kj45 a0_0 a0_1 y725).bind fun bt728 => (if 0 ≤ (IntKind.u64.wrap (x7_2)) then (if 0 ≤ (IntKind.u64.wrap (x8_3)) then (if bt728.1 = (wrap64 ((shl .i64 1 (IntKind.u64.wrap (x7_2))) + (shl .i64 1 (IntKind.u64.wrap (x8_3))))) then (some false) else (spec_l7Apart.l4 kj45 a1 x7_2 x8_3 x9_4 (wrap64 (x10_5 + 1)) a0_0 a0_1)) else (none)) else (none))) = some r := by first | (rw [hy725]; with_reducible exact H) | (have H2_ := (Option.bind_some _ _).symm.trans H; rw [hy725]; with_reducible exact H2_) | (have H2_ := (Option.bind_some _ _).symm.trans H; with_reducible exact H2_) | with_reducible exact H | (rw [hy725]; exact H) | exact H
                    have Ny725 := Aside0.mk hy725
                    clear hy725
                    replace H := Option.bind_eq_some_iff.mp H
                    obtain ⟨⟨t728, t729⟩, A560, H⟩ := H
                    replace H : (if 0 ≤ (IntKind.u64.wrap (x7_2)) then (if 0 ≤ (IntKind.u64.wrap (x8_3)) then (if t728 = (wrap64 ((shl .i64 1 (IntKind.u64.wrap (x7_2))) + (shl .i64 1 (IntKind.u64.wrap (x8_3))))) then (some false) else (spec_l7Apart.l4 kj45 a1 x7_2 x8_3 x9_4 (wrap64 (x10_5 + 1)) a0_0 a0_1)) else (none)) else (none)) = some r := H
                    have A56 := Aside0.mk A560
                    clear A560
                    obtain ⟨ji57, hji57⟩ : ∃ j_ : Int, (IntKind.u64.wrap (x7_2)) = j_ := ⟨_, rfl⟩
                    replace H : (if 0 ≤ (ji57) then (if 0 ≤ (IntKind.u64.wrap (x8_3)) then (if t728 = (wrap64 ((shl .i64 1 (ji57)) + (shl .i64 1 (IntKind.u64.wrap (x8_3))))) then (some false) else (spec_l7Apart.l4 kj45 a1 x7_2 x8_3 x9_4 (wrap64 (x10_5 + 1)) a0_0 a0_1)) else (none)) else (none)) = some r := by first | (rw [hji57] at H; exact H) | (simp only [hji57] at H ⊢; exact H)
                    (try rw [hji57] at A56)
                    by_cases c58 : 0 ≤ (ji57)
                    ·rw [if_pos c58] at H
                     have c58b0 := eq_true c58
                     have c58b1 : decide (0 ≤ (ji57)) = true := decide_eq_true c58
                     clear c58
                     obtain ⟨ji59, hji59⟩ : ∃ j_ : Int, (shl .i64 1 (ji57)) = j_ := ⟨_, rfl⟩
                     replace H : (if 0 ≤ (IntKind.u64.wrap (x8_3)) then (if t728 = (wrap64 ((ji59) + (shl .i64 1 (IntKind.u64.wrap (x8_3))))) then (some false) else (spec_l7Apart.l4 kj45 a1 x7_2 x8_3 x9_4 (wrap64 (x10_5 + 1)) a0_0 a0_1)) else (none)) = some r := by first | (rw [hji59] at H; exact H) | (simp only [hji59] at H ⊢; exact H)
                     (try rw [hji59] at A56)
                     have hji59_ : (IntKind.i64.wrap (1 * 2 ^ min (ji57).toNat 64)) = ji59 := hji59
                     have hji59z : (ji57) ≤ 64 → (IntKind.i64.wrap (1 * 2 ^ (ji57).toNat)) = ji59 := shl_small hji59
                     have hji59u : (IntKind.i64.wrap (2 ^ min (ji57).toNat 64)) = ji59 := by have h_ := hji59_; rw [Int.one_mul] at h_; exact h_
                     have hji59v : (ji57) ≤ 64 → (IntKind.i64.wrap (2 ^ (ji57).toNat)) = ji59 := fun hle_ => by have h_ := hji59z hle_; rw [Int.one_mul] at h_; exact h_
                     have hji59y : (wrap64 (1 * 2 ^ min (ji57).toNat 64)) = ji59 := (i64_w _).symm.trans hji59_
                     have hji59x : (ji57) ≤ 64 → (wrap64 (1 * 2 ^ (ji57).toNat)) = ji59 := fun h_ => (i64_w _).symm.trans (hji59z h_)
                     obtain ⟨ji60, hji60⟩ : ∃ j_ : Int, (IntKind.u64.wrap (x8_3)) = j_ := ⟨_, rfl⟩
                     replace H : (if 0 ≤ (ji60) then (if t728 = (wrap64 ((ji59) + (shl .i64 1 (ji60)))) then (some false) else (spec_l7Apart.l4 kj45 a1 x7_2 x8_3 x9_4 (wrap64 (x10_5 + 1)) a0_0 a0_1)) else (none)) = some r := by first | (rw [hji60] at H; exact H) | (simp only [hji60] at H ⊢; exact H)
                     (try rw [hji60] at A56)
                     by_cases c61 : 0 ≤ (ji60)
                     ·rw [if_pos c61] at H
                      have c61b0 := eq_true c61
                      have c61b1 : decide (0 ≤ (ji60)) = true := decide_eq_true c61
                      clear c61
                      obtain ⟨ji62, hji62⟩ : ∃ j_ : Int, (shl .i64 1 (ji60)) = j_ := ⟨_, rfl⟩
                      replace H : (if t728 = (wrap64 ((ji59) + (ji62))) then (some false) else (spec_l7Apart.l4 kj45 a1 x7_2 x8_3 x9_4 (wrap64 (x10_5 + 1)) a0_0 a0_1)) = some r := by first | (rw [hji62] at H; exact H) | (simp only [hji62] at H ⊢; exact H)
                      (try rw [hji62] at A56)
                      have hji62_ : (IntKind.i64.wrap (1 * 2 ^ min (ji60).toNat 64)) = ji62 := hji62
                      have hji62z : (ji60) ≤ 64 → (IntKind.i64.wrap (1 * 2 ^ (ji60).toNat)) = ji62 := shl_small hji62
                      have hji62u : (IntKind.i64.wrap (2 ^ min (ji60).toNat 64)) = ji62 := by have h_ := hji62_; rw [Int.one_mul] at h_; exact h_
                      have hji62v : (ji60) ≤ 64 → (IntKind.i64.wrap (2 ^ (ji60).toNat)) = ji62 := fun hle_ => by have h_ := hji62z hle_; rw [Int.one_mul] at h_; exact h_
                      have hji62y : (wrap64 (1 * 2 ^ min (ji60).toNat 64)) = ji62 := (i64_w _).symm.trans hji62_
                      have hji62x : (ji60) ≤ 64 → (wrap64 (1 * 2 ^ (ji60).toNat)) = ji62 := fun h_ => (i64_w _).symm.trans (hji62z h_)
                      by_cases c63 : t728 = (wrap64 ((ji59) + (ji62)))
                      ·rw [if_pos c63] at H
                       have c63b0 : (t728 == (wrap64 ((ji59) + (ji62)))) = true := beq_iff_eq.mpr c63
                       have c63b1 : (t728 != (wrap64 ((ji59) + (ji62)))) = false := bne_eq_false_iff_eq.mpr c63
                       clear c63
                       obtain rfl := Option.some.inj H
                       have hcz64_0 : wc.cell? ⟨gb714, 0, none⟩ = some (.int .i64 a0_0) := (blk_cell BK714.out 0).trans rfl
                       have hcz64_1 : wc.cell? ⟨gb714, 1, none⟩ = some (.string a0_1) := (blk_cell BK714.out 1).trans rfl
                       have hfz64_0 := blk_frozen BK714.out 0
                       have hfz64_1 := blk_frozen BK714.out 1
                       go_wp2_with (first | ((with_reducible refine gate_dst (N := 100) rfl ?_); refine Kd.R_lit (Kd.int .i64) _ 3 ?hg (N := 100) ?hd (xs := ([x7_2, x8_3, x9_4, x10_5] : List Int)) (inner := [.int .i64 x7_2, .int .i64 x8_3, .int .i64 x9_4, .int .i64 x10_5]) (ok := fun _ => True) (okp := fun _ => True) ?hr ?hp (fun _ hk => hk) trivial (Below.refl _ _) (Nat.le_refl _) (by simp) ?_; (case hd => rfl); (case hg => rfl); (case hr => first | (go_simp; done) | (go_simp; rfl)); (case hp => exact (Reps.one (show Kd.M (Kd.int .i64) _ _ _ x7_2 [.int .i64 x7_2] from rfl) (Reps.one (show Kd.M (Kd.int .i64) _ _ _ x8_3 [.int .i64 x8_3] from rfl) (Reps.one (show Kd.M (Kd.int .i64) _ _ _ x9_4 [.int .i64 x9_4] from rfl) (Reps.one (show Kd.M (Kd.int .i64) _ _ _ x10_5 [.int .i64 x10_5] from rfl) (Reps.none _ _)))))); intro v726 w65 ho66 hb hg_ hnew_; clear hg_ hnew_; (first | rw [← Ny725.out] at ho66 | (simp only [Int.reduceToNat] at ho66; rw [← Ny725.out] at ho66)); have n0_ := Aside0.mk (Kd.R_lower ho66 (below_size (by repeat (first | (with_reducible first | exact HB.out | apply below_alloc | apply pw_below_drewN | apply below_drew1 | refine below_set ?_ GE714.out) | exact HB.out)))); have n1_ := Aside0.mk (blk_below (g := gb714) (o := .cells #[.int .i64 a0_0, .string a0_1] 26 (0, 0)) (by (with_reducible repeat (first | refine blk_drewN ?_ _ | refine blk_drew ?_ | refine blk_alloc ?_ _)); exact BK714.out) hb); have n2_ := Aside0.mk (below_step (by repeat (first | (with_reducible first | exact HB.out | apply below_alloc | apply pw_below_drewN | apply below_drew1 | refine below_set ?_ GE714.out) | exact HB.out)) hb); clear BK714; clear HB; have HO727 := n0_; have BK714 := n1_; have HB := n2_; clear n0_ n1_ n2_; clear hb ho66; obtain ⟨Ao67, co67, eo67⟩ := Kd.R_slice HO727.out; subst eo67) | ((with_reducible refine gate_callee (f := 115) rfl ?_); refine goesL_ (some 101) rfl rfl Try.func115 (by kernel_rfl) rfl #[.agg #[.int .i64 a0_0, .string a0_1], .slice Ao67 y725.length co67] rfl (by (try simp only [List.map_toArray, List.map_cons, List.map_nil]); first | done | rfl | (simp only [List.length_drop, List.length_take]; rfl)) ?_; (with_reducible refine (spec_l5Split.calls kj45 a0_0 a0_1 _ _ y725 t728 t729 _ ?side1 ?side2 A56.out).mono ?_); (case side1 => repeat (first | exact (Kd.R_reads' HO727.out).2.2 | (with_reducible refine Kd.C_alloc ?_ _) | (with_reducible refine Kd.C_drewN ?_ _) | (with_reducible refine Kd.C_drew ?_))); (case side2 => exact (Kd.R_reads' HO727.out).2.1); rintro e w68 ⟨rfl, hb⟩; refine ⟨_, rfl, ?_⟩; have n0_ := Aside0.mk (Kd.R_below (by (with_reducible repeat (first | apply Kd.R_alloc | apply Kd.R_drewN | apply Kd.R_drew)); exact HO727.out) hb); have n1_ := Aside0.mk (blk_below (g := gb714) (o := .cells #[.int .i64 a0_0, .string a0_1] 26 (0, 0)) (by (with_reducible repeat (first | refine blk_drewN ?_ _ | refine blk_drew ?_ | refine blk_alloc ?_ _)); exact BK714.out) hb); have n2_ := Aside0.mk (below_step (by repeat (first | (with_reducible first | exact HB.out | apply below_alloc | apply pw_below_drewN | apply below_drew1 | refine below_set ?_ GE714.out) | exact HB.out)) hb); clear HO727; clear BK714; clear HB; have HO727 := n0_; have BK714 := n1_; have HB := n2_; clear n0_ n1_ n2_; (try clear hb); (try clear hb2); (try clear hk); (try clear hi)))
                       go_ret
                       exact ⟨by first | rfl | (simp [errW_none, errW_some] <;> rfl) | (simp only [← hji3, ← hji5, ← hji57, ← hji59, ← hji60, ← hji62]; first | rfl | (simp [errW_none, errW_some] <;> rfl)) | (simp [*, errW_none, errW_some] <;> rfl), by repeat (first | (with_reducible first | exact HB.out | apply below_alloc | apply pw_below_drewN | apply below_drew1 | refine below_set ?_ GE714.out) | exact HB.out)⟩
                      ·rw [if_neg c63] at H
                       have c63b0 : (t728 == (wrap64 ((ji59) + (ji62)))) = false := beq_eq_false_iff_ne.mpr c63
                       have c63b1 : (t728 != (wrap64 ((ji59) + (ji62)))) = true := bne_iff_ne.mpr c63
                       have H' := Aside0.mk H
                       clear H
                       have hcz69_0 : wc.cell? ⟨gb714, 0, none⟩ = some (.int .i64 a0_0) := (blk_cell BK714.out 0).trans rfl
                       have hcz69_1 : wc.cell? ⟨gb714, 1, none⟩ = some (.string a0_1) := (blk_cell BK714.out 1).trans rfl
                       have hfz69_0 := blk_frozen BK714.out 0
                       have hfz69_1 := blk_frozen BK714.out 1
                       go_wp2_with (first | ((with_reducible refine gate_dst (N := 100) rfl ?_); refine Kd.R_lit (Kd.int .i64) _ 3 ?hg (N := 100) ?hd (xs := ([x7_2, x8_3, x9_4, x10_5] : List Int)) (inner := [.int .i64 x7_2, .int .i64 x8_3, .int .i64 x9_4, .int .i64 x10_5]) (ok := fun _ => True) (okp := fun _ => True) ?hr ?hp (fun _ hk => hk) trivial (Below.refl _ _) (Nat.le_refl _) (by simp) ?_; (case hd => rfl); (case hg => rfl); (case hr => first | (go_simp; done) | (go_simp; rfl)); (case hp => exact (Reps.one (show Kd.M (Kd.int .i64) _ _ _ x7_2 [.int .i64 x7_2] from rfl) (Reps.one (show Kd.M (Kd.int .i64) _ _ _ x8_3 [.int .i64 x8_3] from rfl) (Reps.one (show Kd.M (Kd.int .i64) _ _ _ x9_4 [.int .i64 x9_4] from rfl) (Reps.one (show Kd.M (Kd.int .i64) _ _ _ x10_5 [.int .i64 x10_5] from rfl) (Reps.none _ _)))))); intro v726 w70 ho71 hb hg_ hnew_; clear hg_ hnew_; (first | rw [← Ny725.out] at ho71 | (simp only [Int.reduceToNat] at ho71; rw [← Ny725.out] at ho71)); have n0_ := Aside0.mk (Kd.R_lower ho71 (below_size (by repeat (first | (with_reducible first | exact HB.out | apply below_alloc | apply pw_below_drewN | apply below_drew1 | refine below_set ?_ GE714.out) | exact HB.out)))); have n1_ := Aside0.mk (blk_below (g := gb714) (o := .cells #[.int .i64 a0_0, .string a0_1] 26 (0, 0)) (by (with_reducible repeat (first | refine blk_drewN ?_ _ | refine blk_drew ?_ | refine blk_alloc ?_ _)); exact BK714.out) hb); have n2_ := Aside0.mk (below_step (by repeat (first | (with_reducible first | exact HB.out | apply below_alloc | apply pw_below_drewN | apply below_drew1 | refine below_set ?_ GE714.out) | exact HB.out)) hb); clear BK714; clear HB; have HO727 := n0_; have BK714 := n1_; have HB := n2_; clear n0_ n1_ n2_; clear hb ho71; obtain ⟨Ao72, co72, eo72⟩ := Kd.R_slice HO727.out; subst eo72) | ((with_reducible refine gate_callee (f := 115) rfl ?_); refine goesL_ (some 101) rfl rfl Try.func115 (by kernel_rfl) rfl #[.agg #[.int .i64 a0_0, .string a0_1], .slice Ao72 y725.length co72] rfl (by (try simp only [List.map_toArray, List.map_cons, List.map_nil]); first | done | rfl | (simp only [List.length_drop, List.length_take]; rfl)) ?_; (with_reducible refine (spec_l5Split.calls kj45 a0_0 a0_1 _ _ y725 t728 t729 _ ?side1 ?side2 A56.out).mono ?_); (case side1 => repeat (first | exact (Kd.R_reads' HO727.out).2.2 | (with_reducible refine Kd.C_alloc ?_ _) | (with_reducible refine Kd.C_drewN ?_ _) | (with_reducible refine Kd.C_drew ?_))); (case side2 => exact (Kd.R_reads' HO727.out).2.1); rintro e w73 ⟨rfl, hb⟩; refine ⟨_, rfl, ?_⟩; have n0_ := Aside0.mk (Kd.R_below (by (with_reducible repeat (first | apply Kd.R_alloc | apply Kd.R_drewN | apply Kd.R_drew)); exact HO727.out) hb); have n1_ := Aside0.mk (blk_below (g := gb714) (o := .cells #[.int .i64 a0_0, .string a0_1] 26 (0, 0)) (by (with_reducible repeat (first | refine blk_drewN ?_ _ | refine blk_drew ?_ | refine blk_alloc ?_ _)); exact BK714.out) hb); have n2_ := Aside0.mk (below_step (by repeat (first | (with_reducible first | exact HB.out | apply below_alloc | apply pw_below_drewN | apply below_drew1 | refine below_set ?_ GE714.out) | exact HB.out)) hb); clear HO727; clear BK714; clear HB; have HO727 := n0_; have BK714 := n1_; have HB := n2_; clear n0_ n1_ n2_; (try clear hb); (try clear hb2); (try clear hk); (try clear hi)))
                       go_roundg kj45
                       case measure => have := HK1.out; have := HK2.out; have := HK3.out; have := HK4.out; have := HK5.out; have := HJ45.out; omega
                       case rel => exact ⟨(wrap64 (x10_5 + 1)), (by first | rfl | (simp; done) | (simp [*]; done)), H', ⟨by have := HK1.out; have := HK2.out; have := HK3.out; have := HK4.out; have := HK5.out; have := HJ45.out; omega⟩, ⟨by (with_reducible repeat (first | refine blk_drewN ?_ _ | refine blk_drew ?_ | refine blk_alloc ?_ _)); exact BK714.out⟩, ⟨by repeat (first | (with_reducible first | exact HB.out | apply below_alloc | apply pw_below_drewN | apply below_drew1 | refine below_set ?_ GE714.out) | exact HB.out)⟩⟩
                     ·rw [if_neg c61] at H
                      exact absurd H (by simp)
                    ·rw [if_neg c58] at H
                     exact absurd H (by simp)
                ·rw [if_neg c45] at H
                 have c45b0 : decide (x10_5 < a0_0) = false := decide_eq_false c45
                 clear c45
                 have H' := Aside0.mk H
                 clear H
                 have hcz74_0 : wr.cell? ⟨gb714, 0, none⟩ = some (.int .i64 a0_0) := (blk_cell BK714.out 0).trans rfl
                 have hcz74_1 : wr.cell? ⟨gb714, 1, none⟩ = some (.string a0_1) := (blk_cell BK714.out 1).trans rfl
                 have hfz74_0 := blk_frozen BK714.out 0
                 have hfz74_1 := blk_frozen BK714.out 1
                 go_wp2
                 go_roundg k5
                 case measure => have := HK1.out; have := HK2.out; have := HK3.out; have := HK4.out; have := HK5.out; omega
                 case rel => exact ⟨(wrap64 (x9_4 + 1)), (by first | rfl | (simp; done) | (simp [*]; done)), H', ⟨by have := HK1.out; have := HK2.out; have := HK3.out; have := HK4.out; have := HK5.out; omega⟩, ⟨by (with_reducible repeat (first | refine blk_drewN ?_ _ | refine blk_drew ?_ | refine blk_alloc ?_ _)); exact BK714.out⟩, ⟨by repeat (first | (with_reducible first | exact HB.out | apply below_alloc | apply pw_below_drewN | apply below_drew1 | refine below_set ?_ GE714.out) | exact HB.out)⟩⟩
             ·rw [if_neg c43] at H
              have c43b0 : decide (x9_4 < a0_0) = false := decide_eq_false c43
              clear c43
              have H' := Aside0.mk H
              clear H
              have hcz75_0 : wr.cell? ⟨gb714, 0, none⟩ = some (.int .i64 a0_0) := (blk_cell BK714.out 0).trans rfl
              have hcz75_1 : wr.cell? ⟨gb714, 1, none⟩ = some (.string a0_1) := (blk_cell BK714.out 1).trans rfl
              have hfz75_0 := blk_frozen BK714.out 0
              have hfz75_1 := blk_frozen BK714.out 1
              go_wp2
              go_roundg k4
              case measure => have := HK1.out; have := HK2.out; have := HK3.out; have := HK4.out; omega
              case rel => exact ⟨(wrap64 (x8_3 + 1)), (by first | rfl | (simp; done) | (simp [*]; done)), H', ⟨by have := HK1.out; have := HK2.out; have := HK3.out; have := HK4.out; omega⟩, ⟨by (with_reducible repeat (first | refine blk_drewN ?_ _ | refine blk_drew ?_ | refine blk_alloc ?_ _)); exact BK714.out⟩, ⟨by repeat (first | (with_reducible first | exact HB.out | apply below_alloc | apply pw_below_drewN | apply below_drew1 | refine below_set ?_ GE714.out) | exact HB.out)⟩⟩
          ·rw [if_neg c41] at H
           have c41b0 : decide (x8_3 < a0_0) = false := decide_eq_false c41
           clear c41
           have H' := Aside0.mk H
           clear H
           have hcz76_0 : wr.cell? ⟨gb714, 0, none⟩ = some (.int .i64 a0_0) := (blk_cell BK714.out 0).trans rfl
           have hcz76_1 : wr.cell? ⟨gb714, 1, none⟩ = some (.string a0_1) := (blk_cell BK714.out 1).trans rfl
           have hfz76_0 := blk_frozen BK714.out 0
           have hfz76_1 := blk_frozen BK714.out 1
           go_wp2
           go_roundg k3
           case measure => have := HK1.out; have := HK2.out; have := HK3.out; omega
           case rel => exact ⟨(wrap64 (x7_2 + 1)), (by first | rfl | (simp; done) | (simp [*]; done)), H', ⟨by have := HK1.out; have := HK2.out; have := HK3.out; omega⟩, ⟨by (with_reducible repeat (first | refine blk_drewN ?_ _ | refine blk_drew ?_ | refine blk_alloc ?_ _)); exact BK714.out⟩, ⟨by repeat (first | (with_reducible first | exact HB.out | apply below_alloc | apply pw_below_drewN | apply below_drew1 | refine below_set ?_ GE714.out) | exact HB.out)⟩⟩
       ·rw [if_neg c39] at H
        have c39b0 : decide (x7_2 < a0_0) = false := decide_eq_false c39
        clear c39
        obtain rfl := Option.some.inj H
        have hcz77_0 : wr.cell? ⟨gb714, 0, none⟩ = some (.int .i64 a0_0) := (blk_cell BK714.out 0).trans rfl
        have hcz77_1 : wr.cell? ⟨gb714, 1, none⟩ = some (.string a0_1) := (blk_cell BK714.out 1).trans rfl
        have hfz77_0 := blk_frozen BK714.out 0
        have hfz77_1 := blk_frozen BK714.out 1
        go_wp2
        go_ret
        exact ⟨by first | rfl | (simp [errW_none, errW_some] <;> rfl) | (simp only [← hji3, ← hji5]; first | rfl | (simp [errW_none, errW_some] <;> rfl)) | (simp [*, errW_none, errW_some] <;> rfl), by repeat (first | (with_reducible first | exact HB.out | apply below_alloc | apply pw_below_drewN | apply below_drew1 | refine below_set ?_ GE714.out) | exact HB.out)⟩
 ·rw [if_neg c4] at H
  exact absurd H (by simp)
def spec_SplitsInto.f (k : Nat) (a0_0 : Int) (a0_1 : ByteArray) (a1 : Int) : Option (Bool) := (spec_IsAcyclic.f k a0_0 a0_1).bind fun t731 => (if t731 = true then (if 0 ≤ (IntKind.u64.wrap (a0_0)) then ((spec_l1In.f a1 0 (wrap64 ((shl .i64 1 (IntKind.u64.wrap (a0_0))) - 1))).bind fun t732 => (if t732 = true then ((spec_l7Apart.f k a0_0 a0_1 a1).bind fun t733 => (some t733)) else (some false))) else (none)) else (some false))
theorem spec_SplitsInto.mono : ∀ a0 a1 a2 k, LeO (spec_SplitsInto.f k a0 a1 a2) (spec_SplitsInto.f (k + 1) a0 a1 a2) := by
 intro a0 a1 a2 k
 unfold spec_SplitsInto.f
 repeat' first
   | (with_reducible exact spec_IsAcyclic.mono _ _ _)
   | (with_reducible exact spec_l7Apart.mono _ _ _ _)
   | (with_reducible exact LeO.refl _)
   | (with_reducible exact LeO.none _)
   | (with_reducible refine LeO.ite ?_ ?_)
   | (with_reducible refine LeO.bind ?_ (fun _ => ?_))
   | exact spec_IsAcyclic.mono _ _ _
   | exact spec_l7Apart.mono _ _ _ _
   | exact LeO.none _
   | refine LeO.ite ?_ ?_
   | refine LeO.bind ?_ (fun _ => ?_)
set_option maxHeartbeats 8000000 in
set_option maxRecDepth 100000 in
theorem spec_SplitsInto.calls (k : Nat) (a0_0 : Int) (a0_1 : ByteArray) (a1 : Int) (r : Bool) (w : World) (h : spec_SplitsInto.f k a0_0 a0_1 a1 = some r) :
  Calls Try.prog 35 #[.agg #[.int .i64 a0_0, .string a0_1], .int .i64 a1] w fun e w' => e = .returned (.bool r) ∧ Below w.heap.size w w' := by
 have hu26 := Try.underlying26
 have HB := Aside0.mk (Below.refl w.heap.size w)
 have H : ((spec_IsAcyclic.f k a0_0 a0_1).bind fun t731 => (if t731 = true then (if 0 ≤ (IntKind.u64.wrap (a0_0)) then ((spec_l1In.f a1 0 (wrap64 ((shl .i64 1 (IntKind.u64.wrap (a0_0))) - 1))).bind fun t732 => (if t732 = true then ((spec_l7Apart.f k a0_0 a0_1 a1).bind fun t733 => (some t733)) else (some false))) else (none)) else (some false))) = some r := h
 clear h
 replace H := Option.bind_eq_some_iff.mp H
 obtain ⟨t731, A30, H⟩ := H
 replace H : (if t731 = true then (if 0 ≤ (IntKind.u64.wrap (a0_0)) then ((spec_l1In.f a1 0 (wrap64 ((shl .i64 1 (IntKind.u64.wrap (a0_0))) - 1))).bind fun t732 => (if t732 = true then ((spec_l7Apart.f k a0_0 a0_1 a1).bind fun t733 => (some t733)) else (some false))) else (none)) else (some false)) = some r := H
 have A3 := Aside0.mk A30
 clear A30
 by_cases c4 : t731 = true
 ·subst c4
  have H1 : (if 0 ≤ (IntKind.u64.wrap (a0_0)) then ((spec_l1In.f a1 0 (wrap64 ((shl .i64 1 (IntKind.u64.wrap (a0_0))) - 1))).bind fun t732 => (if t732 = true then ((spec_l7Apart.f k a0_0 a0_1 a1).bind fun t733 => (some t733)) else (some false))) else (none)) = some r := by rw [if_pos rfl] at H; exact H
  clear H
  have H := H1
  clear H1
  obtain ⟨ji5, hji5⟩ : ∃ j_ : Int, (IntKind.u64.wrap (a0_0)) = j_ := ⟨_, rfl⟩
  replace H : (if 0 ≤ (ji5) then ((spec_l1In.f a1 0 (wrap64 ((shl .i64 1 (ji5)) - 1))).bind fun t732 => (if t732 = true then ((spec_l7Apart.f k a0_0 a0_1 a1).bind fun t733 => (some t733)) else (some false))) else (none)) = some r := by first | (rw [hji5] at H; exact H) | (simp only [hji5] at H ⊢; exact H)
  (try rw [hji5] at A3)
  by_cases c6 : 0 ≤ (ji5)
  ·rw [if_pos c6] at H
   have c6b0 := eq_true c6
   have c6b1 : decide (0 ≤ (ji5)) = true := decide_eq_true c6
   clear c6
   obtain ⟨ji7, hji7⟩ : ∃ j_ : Int, (shl .i64 1 (ji5)) = j_ := ⟨_, rfl⟩
   replace H : ((spec_l1In.f a1 0 (wrap64 ((ji7) - 1))).bind fun t732 => (if t732 = true then ((spec_l7Apart.f k a0_0 a0_1 a1).bind fun t733 => (some t733)) else (some false))) = some r := by first | (rw [hji7] at H; exact H) | (simp only [hji7] at H ⊢; exact H)
   (try rw [hji7] at A3)
   have hji7_ : (IntKind.i64.wrap (1 * 2 ^ min (ji5).toNat 64)) = ji7 := hji7
   have hji7z : (ji5) ≤ 64 → (IntKind.i64.wrap (1 * 2 ^ (ji5).toNat)) = ji7 := shl_small hji7
   have hji7u : (IntKind.i64.wrap (2 ^ min (ji5).toNat 64)) = ji7 := by have h_ := hji7_; rw [Int.one_mul] at h_; exact h_
   have hji7v : (ji5) ≤ 64 → (IntKind.i64.wrap (2 ^ (ji5).toNat)) = ji7 := fun hle_ => by have h_ := hji7z hle_; rw [Int.one_mul] at h_; exact h_
   have hji7y : (wrap64 (1 * 2 ^ min (ji5).toNat 64)) = ji7 := (i64_w _).symm.trans hji7_
   have hji7x : (ji5) ≤ 64 → (wrap64 (1 * 2 ^ (ji5).toNat)) = ji7 := fun h_ => (i64_w _).symm.trans (hji7z h_)
   replace H := Option.bind_eq_some_iff.mp H
   obtain ⟨t732, A80, H⟩ := H
   replace H : (if t732 = true then ((spec_l7Apart.f k a0_0 a0_1 a1).bind fun t733 => (some t733)) else (some false)) = some r := H
   have A8 := Aside0.mk A80
   clear A80
   by_cases c9 : t732 = true
   ·subst c9
    have H1 : ((spec_l7Apart.f k a0_0 a0_1 a1).bind fun t733 => (some t733)) = some r := by rw [if_pos rfl] at H; exact H
    clear H
    have H := H1
    clear H1
    replace H := Option.bind_eq_some_iff.mp H
    obtain ⟨t733, A100, H⟩ := H
    replace H : (some t733) = some r := H
    have A10 := Aside0.mk A100
    clear A100
    obtain rfl := Option.some.inj H
    go_enter Try.func35, Try.ntmps35
    go_wp2_with (first | ((with_reducible refine gate_dst (N := 2) rfl ?_); refine box_event ?hg (N := 2) ?hd (cs := #[.int .i64 a0_0, .string a0_1]) (t := 26) ?hr ?_; (case hd => rfl); (case hg => rfl); (case hr => first | (go_simp; done) | (go_simp; rfl)); intro gb730 hg w11 hbox hb; have n0_ := Aside0.mk (below_step (by repeat (first | (with_reducible first | exact HB.out | apply below_alloc | apply pw_below_drewN | apply below_drew1) | exact HB.out)) hb); have n1_ := Aside0.mk (hbox); have n2_ := Aside0.mk ((by rw [hg]; exact (below_size (by repeat (first | (with_reducible first | exact HB.out | apply below_alloc | apply pw_below_drewN | apply below_drew1) | exact HB.out))) : w.heap.size ≤ gb730)); have n3_ := Aside0.mk ((by rw [hg]; exact (below_size (by repeat (first | (with_reducible first | exact HB.out | apply below_alloc | apply pw_below_drewN | apply below_drew1) | exact HB.out))) : w.heap.size ≤ gb730)); clear HB; have HB := n0_; have BK730 := n1_; have GW730 := n2_; have GE730 := n3_; clear n0_ n1_ n2_ n3_; clear hb hbox hg; have hcz12_0 : w11.cell? ⟨gb730, 0, none⟩ = some (.int .i64 a0_0) := (blk_cell BK730.out 0).trans rfl; have hcz12_1 : w11.cell? ⟨gb730, 1, none⟩ = some (.string a0_1) := (blk_cell BK730.out 1).trans rfl; have hfz12_0 := blk_frozen BK730.out 0; have hfz12_1 := blk_frozen BK730.out 1) | ((with_reducible refine gate_callee (f := 67) rfl ?_); refine goesL_ (some 6) rfl rfl Try.func67 (by kernel_rfl) rfl #[.agg #[.int .i64 a0_0, .string a0_1]] rfl (by (try simp only [List.map_toArray, List.map_cons, List.map_nil]); first | done | rfl | (simp only [List.length_drop, List.length_take]; rfl)) ?_; (with_reducible refine (spec_IsAcyclic.calls k a0_0 a0_1 true _ A3.out).mono ?_); rintro e w13 ⟨rfl, hb⟩; refine ⟨_, rfl, ?_⟩; have n0_ := Aside0.mk (blk_below (g := gb730) (o := .cells #[.int .i64 a0_0, .string a0_1] 26 (0, 0)) (by (with_reducible repeat (first | refine blk_drewN ?_ _ | refine blk_drew ?_ | refine blk_alloc ?_ _)); exact BK730.out) hb); have n1_ := Aside0.mk (below_step (by repeat (first | (with_reducible first | exact HB.out | apply below_alloc | apply pw_below_drewN | apply below_drew1 | refine below_set ?_ GE730.out) | exact HB.out)) hb); clear BK730; clear HB; have BK730 := n0_; have HB := n1_; clear n0_ n1_; (try clear hb); (try clear hb2); (try clear hk); (try clear hi); have hcz14_0 : w13.cell? ⟨gb730, 0, none⟩ = some (.int .i64 a0_0) := (blk_cell BK730.out 0).trans rfl; have hcz14_1 : w13.cell? ⟨gb730, 1, none⟩ = some (.string a0_1) := (blk_cell BK730.out 1).trans rfl; have hfz14_0 := blk_frozen BK730.out 0; have hfz14_1 := blk_frozen BK730.out 1) | (go_at_call 73; refine calls_of_args (args' := #[.int .i64 a1, .int .i64 0, .int .i64 (wrap64 ((ji7) - 1))]) (by first | (simp only [hji7]; rfl) | rfl | (simp only [List.length_drop, List.length_take]; rfl)) ?_; (with_reducible refine (spec_l1In.calls a1 0 (wrap64 ((ji7) - 1)) true _ A8.out).mono ?_); rintro e w' ⟨rfl, ⟨nd, rfl⟩⟩) | (go_at_call 74; (with_reducible refine (spec_l7Apart.calls k a0_0 a0_1 a1 t733 _ A10.out).mono ?_); rintro e w15 ⟨rfl, hb⟩; have n0_ := Aside0.mk (blk_below (g := gb730) (o := .cells #[.int .i64 a0_0, .string a0_1] 26 (0, 0)) (by (with_reducible repeat (first | refine blk_drewN ?_ _ | refine blk_drew ?_ | refine blk_alloc ?_ _)); exact BK730.out) hb); have n1_ := Aside0.mk (below_step (by repeat (first | (with_reducible first | exact HB.out | apply below_alloc | apply pw_below_drewN | apply below_drew1 | refine below_set ?_ GE730.out) | exact HB.out)) hb); clear BK730; clear HB; have BK730 := n0_; have HB := n1_; clear n0_ n1_; (try clear hb); (try clear hb2); (try clear hk); (try clear hi)))
    go_ret
    exact ⟨by first | rfl | (simp [errW_none, errW_some] <;> rfl) | (simp only [← hji5, ← hji7]; first | rfl | (simp [errW_none, errW_some] <;> rfl)) | (simp [*, errW_none, errW_some] <;> rfl), by repeat (first | (with_reducible first | exact HB.out | apply below_alloc | apply pw_below_drewN | apply below_drew1 | refine below_set ?_ GE730.out) | exact HB.out)⟩
   ·replace c9 := Bool.eq_false_iff.mpr c9
    subst c9
    have H1 : (some false) = some r := by rw [if_neg (show ¬ (false = true) by decide)] at H; exact H
    clear H
    have H := H1
    clear H1
    obtain rfl := Option.some.inj H
    go_enter Try.func35, Try.ntmps35
    go_wp2_with (first | ((with_reducible refine gate_dst (N := 2) rfl ?_); refine box_event ?hg (N := 2) ?hd (cs := #[.int .i64 a0_0, .string a0_1]) (t := 26) ?hr ?_; (case hd => rfl); (case hg => rfl); (case hr => first | (go_simp; done) | (go_simp; rfl)); intro gb730 hg w16 hbox hb; have n0_ := Aside0.mk (below_step (by repeat (first | (with_reducible first | exact HB.out | apply below_alloc | apply pw_below_drewN | apply below_drew1) | exact HB.out)) hb); have n1_ := Aside0.mk (hbox); have n2_ := Aside0.mk ((by rw [hg]; exact (below_size (by repeat (first | (with_reducible first | exact HB.out | apply below_alloc | apply pw_below_drewN | apply below_drew1) | exact HB.out))) : w.heap.size ≤ gb730)); have n3_ := Aside0.mk ((by rw [hg]; exact (below_size (by repeat (first | (with_reducible first | exact HB.out | apply below_alloc | apply pw_below_drewN | apply below_drew1) | exact HB.out))) : w.heap.size ≤ gb730)); clear HB; have HB := n0_; have BK730 := n1_; have GW730 := n2_; have GE730 := n3_; clear n0_ n1_ n2_ n3_; clear hb hbox hg; have hcz17_0 : w16.cell? ⟨gb730, 0, none⟩ = some (.int .i64 a0_0) := (blk_cell BK730.out 0).trans rfl; have hcz17_1 : w16.cell? ⟨gb730, 1, none⟩ = some (.string a0_1) := (blk_cell BK730.out 1).trans rfl; have hfz17_0 := blk_frozen BK730.out 0; have hfz17_1 := blk_frozen BK730.out 1) | ((with_reducible refine gate_callee (f := 67) rfl ?_); refine goesL_ (some 6) rfl rfl Try.func67 (by kernel_rfl) rfl #[.agg #[.int .i64 a0_0, .string a0_1]] rfl (by (try simp only [List.map_toArray, List.map_cons, List.map_nil]); first | done | rfl | (simp only [List.length_drop, List.length_take]; rfl)) ?_; (with_reducible refine (spec_IsAcyclic.calls k a0_0 a0_1 true _ A3.out).mono ?_); rintro e w18 ⟨rfl, hb⟩; refine ⟨_, rfl, ?_⟩; have n0_ := Aside0.mk (blk_below (g := gb730) (o := .cells #[.int .i64 a0_0, .string a0_1] 26 (0, 0)) (by (with_reducible repeat (first | refine blk_drewN ?_ _ | refine blk_drew ?_ | refine blk_alloc ?_ _)); exact BK730.out) hb); have n1_ := Aside0.mk (below_step (by repeat (first | (with_reducible first | exact HB.out | apply below_alloc | apply pw_below_drewN | apply below_drew1 | refine below_set ?_ GE730.out) | exact HB.out)) hb); clear BK730; clear HB; have BK730 := n0_; have HB := n1_; clear n0_ n1_; (try clear hb); (try clear hb2); (try clear hk); (try clear hi); have hcz19_0 : w18.cell? ⟨gb730, 0, none⟩ = some (.int .i64 a0_0) := (blk_cell BK730.out 0).trans rfl; have hcz19_1 : w18.cell? ⟨gb730, 1, none⟩ = some (.string a0_1) := (blk_cell BK730.out 1).trans rfl; have hfz19_0 := blk_frozen BK730.out 0; have hfz19_1 := blk_frozen BK730.out 1) | (go_at_call 73; refine calls_of_args (args' := #[.int .i64 a1, .int .i64 0, .int .i64 (wrap64 ((ji7) - 1))]) (by first | (simp only [hji7]; rfl) | rfl | (simp only [List.length_drop, List.length_take]; rfl)) ?_; (with_reducible refine (spec_l1In.calls a1 0 (wrap64 ((ji7) - 1)) false _ A8.out).mono ?_); rintro e w' ⟨rfl, ⟨nd, rfl⟩⟩))
    go_ret
    exact ⟨by first | rfl | (simp [errW_none, errW_some] <;> rfl) | (simp only [← hji5, ← hji7]; first | rfl | (simp [errW_none, errW_some] <;> rfl)) | (simp [*, errW_none, errW_some] <;> rfl), by repeat (first | (with_reducible first | exact HB.out | apply below_alloc | apply pw_below_drewN | apply below_drew1 | refine below_set ?_ GE730.out) | exact HB.out)⟩
  ·rw [if_neg c6] at H
   exact absurd H (by simp)
 ·replace c4 := Bool.eq_false_iff.mpr c4
  subst c4
  have H1 : (some false) = some r := by rw [if_neg (show ¬ (false = true) by decide)] at H; exact H
  clear H
  have H := H1
  clear H1
  obtain rfl := Option.some.inj H
  go_enter Try.func35, Try.ntmps35
  go_wp2_with (first | ((with_reducible refine gate_dst (N := 2) rfl ?_); refine box_event ?hg (N := 2) ?hd (cs := #[.int .i64 a0_0, .string a0_1]) (t := 26) ?hr ?_; (case hd => rfl); (case hg => rfl); (case hr => first | (go_simp; done) | (go_simp; rfl)); intro gb730 hg w20 hbox hb; have n0_ := Aside0.mk (below_step (by repeat (first | (with_reducible first | exact HB.out | apply below_alloc | apply pw_below_drewN | apply below_drew1) | exact HB.out)) hb); have n1_ := Aside0.mk (hbox); have n2_ := Aside0.mk ((by rw [hg]; exact (below_size (by repeat (first | (with_reducible first | exact HB.out | apply below_alloc | apply pw_below_drewN | apply below_drew1) | exact HB.out))) : w.heap.size ≤ gb730)); have n3_ := Aside0.mk ((by rw [hg]; exact (below_size (by repeat (first | (with_reducible first | exact HB.out | apply below_alloc | apply pw_below_drewN | apply below_drew1) | exact HB.out))) : w.heap.size ≤ gb730)); clear HB; have HB := n0_; have BK730 := n1_; have GW730 := n2_; have GE730 := n3_; clear n0_ n1_ n2_ n3_; clear hb hbox hg; have hcz21_0 : w20.cell? ⟨gb730, 0, none⟩ = some (.int .i64 a0_0) := (blk_cell BK730.out 0).trans rfl; have hcz21_1 : w20.cell? ⟨gb730, 1, none⟩ = some (.string a0_1) := (blk_cell BK730.out 1).trans rfl; have hfz21_0 := blk_frozen BK730.out 0; have hfz21_1 := blk_frozen BK730.out 1) | ((with_reducible refine gate_callee (f := 67) rfl ?_); refine goesL_ (some 6) rfl rfl Try.func67 (by kernel_rfl) rfl #[.agg #[.int .i64 a0_0, .string a0_1]] rfl (by (try simp only [List.map_toArray, List.map_cons, List.map_nil]); first | done | rfl | (simp only [List.length_drop, List.length_take]; rfl)) ?_; (with_reducible refine (spec_IsAcyclic.calls k a0_0 a0_1 false _ A3.out).mono ?_); rintro e w22 ⟨rfl, hb⟩; refine ⟨_, rfl, ?_⟩; have n0_ := Aside0.mk (blk_below (g := gb730) (o := .cells #[.int .i64 a0_0, .string a0_1] 26 (0, 0)) (by (with_reducible repeat (first | refine blk_drewN ?_ _ | refine blk_drew ?_ | refine blk_alloc ?_ _)); exact BK730.out) hb); have n1_ := Aside0.mk (below_step (by repeat (first | (with_reducible first | exact HB.out | apply below_alloc | apply pw_below_drewN | apply below_drew1 | refine below_set ?_ GE730.out) | exact HB.out)) hb); clear BK730; clear HB; have BK730 := n0_; have HB := n1_; clear n0_ n1_; (try clear hb); (try clear hb2); (try clear hk); (try clear hi)))
  go_ret
  exact ⟨by first | rfl | (simp [errW_none, errW_some] <;> rfl) | (simp [*, errW_none, errW_some] <;> rfl), by repeat (first | (with_reducible first | exact HB.out | apply below_alloc | apply pw_below_drewN | apply below_drew1 | refine below_set ?_ GE730.out) | exact HB.out)⟩
mutual
def impl_triplesOf.l0 : Nat → Int → List (S107) → Int → Option ((List (S107)))
 | 0, _, _, _ => none
 | k + 1, x0, x3, x4 => if x4 < x0 then (impl_triplesOf.l1 k x0 x3 x4 (wrap64 (x4 + 1))) else (some x3)
def impl_triplesOf.l1 : Nat → Int → List (S107) → Int → Int → Option ((List (S107)))
 | 0, _, _, _, _ => none
 | k + 1, x0, x3, x4, x5 => if x5 < x0 then (impl_triplesOf.l2 k x0 x3 x4 x5 (wrap64 (x5 + 1))) else (impl_triplesOf.l0 k x0 x3 (wrap64 (x4 + 1)))
def impl_triplesOf.l2 : Nat → Int → List (S107) → Int → Int → Int → Option ((List (S107)))
 | 0, _, _, _, _, _ => none
 | k + 1, x0, x3, x4, x5, x6 => if x6 < x0 then (if x3.length < 5864062014805 then (impl_triplesOf.l2 k x0 (x3 ++ [(⟨x4, x5, x6⟩ : S107)]) x4 x5 (wrap64 (x6 + 1))) else (none)) else (impl_triplesOf.l1 k x0 x3 x4 (wrap64 (x5 + 1)))
end
def impl_triplesOf.f (k : Nat) (a0 : Int) : Option ((List (S107))) := impl_triplesOf.l0 k a0 ([] : List (S107)) 0
theorem impl_triplesOf.mono_l : ∀ k, (∀ y0 y1 y2, LeO (impl_triplesOf.l0 k y0 y1 y2) (impl_triplesOf.l0 (k + 1) y0 y1 y2)) ∧ (∀ y0 y1 y2 y3, LeO (impl_triplesOf.l1 k y0 y1 y2 y3) (impl_triplesOf.l1 (k + 1) y0 y1 y2 y3)) ∧ (∀ y0 y1 y2 y3 y4, LeO (impl_triplesOf.l2 k y0 y1 y2 y3 y4) (impl_triplesOf.l2 (k + 1) y0 y1 y2 y3 y4))
 | 0 => ⟨fun _ _ _ r h => by simp [impl_triplesOf.l0] at h, fun _ _ _ _ r h => by simp [impl_triplesOf.l1] at h, fun _ _ _ _ _ r h => by simp [impl_triplesOf.l2] at h⟩
 | k + 1 => by
  obtain ⟨ih0, ih1, ih2⟩ := impl_triplesOf.mono_l k
  refine ⟨?_, ?_, ?_⟩
  ·intro y0 y1 y2
   unfold impl_triplesOf.l0
   repeat' first
   | (with_reducible exact ih0 _ _ _)
   | (with_reducible exact ih1 _ _ _ _)
   | (with_reducible exact ih2 _ _ _ _ _)
   | (with_reducible exact LeO.refl _)
   | (with_reducible exact LeO.none _)
   | (with_reducible refine LeO.ite ?_ ?_)
   | (with_reducible refine LeO.bind ?_ (fun _ => ?_))
   | exact ih0 _ _ _
   | exact ih1 _ _ _ _
   | exact ih2 _ _ _ _ _
   | exact LeO.none _
   | refine LeO.ite ?_ ?_
   | refine LeO.bind ?_ (fun _ => ?_)
  ·intro y0 y1 y2 y3
   unfold impl_triplesOf.l1
   repeat' first
   | (with_reducible exact ih0 _ _ _)
   | (with_reducible exact ih1 _ _ _ _)
   | (with_reducible exact ih2 _ _ _ _ _)
   | (with_reducible exact LeO.refl _)
   | (with_reducible exact LeO.none _)
   | (with_reducible refine LeO.ite ?_ ?_)
   | (with_reducible refine LeO.bind ?_ (fun _ => ?_))
   | exact ih0 _ _ _
   | exact ih1 _ _ _ _
   | exact ih2 _ _ _ _ _
   | exact LeO.none _
   | refine LeO.ite ?_ ?_
   | refine LeO.bind ?_ (fun _ => ?_)
  ·intro y0 y1 y2 y3 y4
   unfold impl_triplesOf.l2
   repeat' first
   | (with_reducible exact ih0 _ _ _)
   | (with_reducible exact ih1 _ _ _ _)
   | (with_reducible exact ih2 _ _ _ _ _)
   | (with_reducible exact LeO.refl _)
   | (with_reducible exact LeO.none _)
   | (with_reducible refine LeO.ite ?_ ?_)
   | (with_reducible refine LeO.bind ?_ (fun _ => ?_))
   | exact ih0 _ _ _
   | exact ih1 _ _ _ _
   | exact ih2 _ _ _ _ _
   | exact LeO.none _
   | refine LeO.ite ?_ ?_
   | refine LeO.bind ?_ (fun _ => ?_)
theorem impl_triplesOf.mono : ∀ a0 k, LeO (impl_triplesOf.f k a0) (impl_triplesOf.f (k + 1) a0) := by
 intro a0 k
 obtain ⟨ih0, ih1, ih2⟩ := impl_triplesOf.mono_l k
 unfold impl_triplesOf.f
 repeat' first
   | (with_reducible exact ih0 _ _ _)
   | (with_reducible exact ih1 _ _ _ _)
   | (with_reducible exact ih2 _ _ _ _ _)
   | (with_reducible exact LeO.refl _)
   | (with_reducible exact LeO.none _)
   | (with_reducible refine LeO.ite ?_ ?_)
   | (with_reducible refine LeO.bind ?_ (fun _ => ?_))
   | exact ih0 _ _ _
   | exact ih1 _ _ _ _
   | exact ih2 _ _ _ _ _
   | exact LeO.none _
   | refine LeO.ite ?_ ?_
   | refine LeO.bind ?_ (fun _ => ?_)
set_option maxHeartbeats 8000000 in
set_option maxRecDepth 100000 in
theorem impl_triplesOf.calls (k : Nat) (a0 : Int) (r : List (S107)) (w : World) (h : impl_triplesOf.f k a0 = some r) :
  Calls Try.prog 128 #[.int .i64 a0] w fun e w' => ∃ v0_ : Value, e = .returned (v0_) ∧ Kd.R k107 107 w' w.heap.size (fun _ => True) v0_ r ∧ Below w.heap.size w w' := by
 have hu107 := Try.underlying107
 have HB := Aside0.mk (Below.refl w.heap.size w)
 have H : (impl_triplesOf.l0 k a0 ([] : List (S107)) 0) = some r := h
 clear h
 have H' := Aside0.mk H
 clear H
 go_enter Try.func128, Try.ntmps128
 go_wp2
 go_loopg [3, 4] k (fun kq v3 v4 w' => ∃ (x3_1 : List (S107)) (x4_1 : Int), v4 = .int .i64 x4_1 ∧ Aside0 (impl_triplesOf.l0 kq a0 x3_1 x4_1 = some r) ∧ Aside0 (kq ≤ k) ∧ Aside0 (Kd.R k107 107 w' w.heap.size (fun _ => True) v3 x3_1) ∧ Aside0 (Below w.heap.size w w'))
 case atStart => exact ⟨(([] : List (S107))), (0), (by first | rfl | (simp; done) | (simp [*]; done)), H', ⟨Nat.le_refl _⟩, ⟨by first | exact Kd.R_nil _ _ _ _ _ | exact Kd.N_nil _ _ _ _ _ | exact Kd.V_nil _ _ _ _ _ | exact Kd.Q_nil _ _ _ _ _ | exact Kd.S_nil _ _ _ _ _⟩, ⟨by repeat (first | (with_reducible first | exact HB.out | apply below_alloc | apply pw_below_drewN | apply below_drew1) | exact HB.out)⟩⟩
 case round =>
  clear H'
  try clear c1
  obtain ⟨x3_1, x4_1, rfl, HA, HK1, HO_3, HB⟩ := hrel
  cases gk with
  | zero => exact absurd HA.out (by simp [impl_triplesOf.l0])
  | succ k1 =>
   have H := HA.out
   clear HA
   simp only [impl_triplesOf.l0] at H
   by_cases c2 : x4_1 < a0
   ·rw [if_pos c2] at H
    have c2b0 : decide (x4_1 < a0) = true := decide_eq_true c2
    clear c2
    have H' := Aside0.mk H
    clear H
    go_wp2
    go_loopg [3, 5] k1 (fun kq v3 v5 w' => ∃ (x3_2 : List (S107)) (x5_2 : Int), v5 = .int .i64 x5_2 ∧ Aside0 (impl_triplesOf.l1 kq a0 x3_2 x4_1 x5_2 = some r) ∧ Aside0 (kq ≤ k1) ∧ Aside0 (Kd.R k107 107 w' w.heap.size (fun _ => True) v3 x3_2) ∧ Aside0 (Below w.heap.size w w'))
    case atStart => exact ⟨(x3_1), (wrap64 (x4_1 + 1)), (by first | rfl | (simp; done) | (simp [*]; done)), H', ⟨Nat.le_refl _⟩, ⟨by (with_reducible repeat (first | apply Kd.R_alloc | apply Kd.R_drewN | apply Kd.R_drew)); exact HO_3.out⟩, ⟨by repeat (first | (with_reducible first | exact HB.out | apply below_alloc | apply pw_below_drewN | apply below_drew1) | exact HB.out)⟩⟩
    case round =>
     clear H'
     try clear c1
     try clear c2
     try clear c2b0
     try clear p2
     obtain ⟨x3_2, x5_2, rfl, HA, HK2, HO_3, HB⟩ := hrel
     cases gk with
     | zero => exact absurd HA.out (by simp [impl_triplesOf.l1])
     | succ k2 =>
      have H := HA.out
      clear HA
      simp only [impl_triplesOf.l1] at H
      by_cases c3 : x5_2 < a0
      ·rw [if_pos c3] at H
       have c3b0 : decide (x5_2 < a0) = true := decide_eq_true c3
       clear c3
       have H' := Aside0.mk H
       clear H
       go_wp2
       go_loopg [3, 6] k2 (fun kq v3 v6 w' => ∃ (x3_3 : List (S107)) (x6_3 : Int), v6 = .int .i64 x6_3 ∧ Aside0 (impl_triplesOf.l2 kq a0 x3_3 x4_1 x5_2 x6_3 = some r) ∧ Aside0 (kq ≤ k2) ∧ Aside0 (Kd.R k107 107 w' w.heap.size (fun _ => True) v3 x3_3) ∧ Aside0 (Below w.heap.size w w'))
       case atStart => exact ⟨(x3_2), (wrap64 (x5_2 + 1)), (by first | rfl | (simp; done) | (simp [*]; done)), H', ⟨Nat.le_refl _⟩, ⟨by (with_reducible repeat (first | apply Kd.R_alloc | apply Kd.R_drewN | apply Kd.R_drew)); exact HO_3.out⟩, ⟨by repeat (first | (with_reducible first | exact HB.out | apply below_alloc | apply pw_below_drewN | apply below_drew1) | exact HB.out)⟩⟩
       case round =>
        clear H'
        try clear c1
        try clear c2
        try clear c2b0
        try clear p2
        try clear c3
        try clear c3b0
        try clear p2
        obtain ⟨x3_3, x6_3, rfl, HA, HK3, HO_3, HB⟩ := hrel
        cases gk with
        | zero => exact absurd HA.out (by simp [impl_triplesOf.l2])
        | succ k3 =>
         have H := HA.out
         clear HA
         simp only [impl_triplesOf.l2] at H
         by_cases c4 : x6_3 < a0
         ·rw [if_pos c4] at H
          have c4b0 : decide (x6_3 < a0) = true := decide_eq_true c4
          clear c4
          by_cases c5 : x3_3.length < 5864062014805
          ·rw [if_pos c5] at H
           have LMc5 := Aside0.mk c5
           clear c5
           obtain ⟨y168, hy168⟩ : ∃ y_ : List (S107), y_ = (x3_3 ++ [(⟨x4_1, x5_2, x6_3⟩ : S107)]) := ⟨_, rfl⟩
           replace H : (impl_triplesOf.l2 k3 a0 y168 x4_1 x5_2 (wrap64 (x6_3 + 1))) = some r := by first | (rw [hy168]; with_reducible exact H) | (have H2_ := (Option.bind_some _ _).symm.trans H; rw [hy168]; with_reducible exact H2_) | (have H2_ := (Option.bind_some _ _).symm.trans H; with_reducible exact H2_) | with_reducible exact H | (rw [hy168]; exact H) | exact H
           have Ny168 := Aside0.mk hy168
           clear hy168
           have H' := Aside0.mk H
           clear H
           go_wp2_with (first | ((with_reducible refine gate_builtin (b := .append) (xs := #[.tmp 26, .tmp 31]) rfl ?_); at_builtin; refine Kd.R_append k107 (w0 := w) w.heap.size rfl (.tmp 26) (.tmp 31) 105 107 (.agg #[(.int .i64 0), (.int .i64 0), (.int .i64 0)]) 24 rfl Try.underlying105 info107 rfl (by decide) (by omega) u3 x3_3 (⟨x4_1, x5_2, x6_3⟩ : S107) [.int .i64 x4_1, .int .i64 x5_2, .int .i64 x6_3] (fun _ => True) (fun _ => False) rfl rfl ?aP (fun _ hk => hk.elim) ?aF ?aO ?aB ?aS ?aL ?_; (case aP => exact k107_mkM _ _ _ (⟨x4_1, x5_2, x6_3⟩ : S107)); (case aB => exact (by repeat (first | (with_reducible first | exact HB.out | apply below_alloc | apply pw_below_drewN | apply below_drew1) | exact HB.out))); (case aF => exact (fun _ _ => trivial)); (case aO => exact (by (with_reducible repeat (first | apply Kd.R_alloc | apply Kd.R_drewN | apply Kd.R_drew)); exact HO_3.out)); (case aS => exact (below_size (by repeat (first | (with_reducible first | exact HB.out | apply below_alloc | apply pw_below_drewN | apply below_drew1) | exact HB.out)))); (case aL => have := LMc5.out; omega); intro v169 w6 ho hb hg hat; rw [← Ny168.out] at ho; have n0_ := Aside0.mk (hb); have n1_ := Aside0.mk (ho); clear HB; clear HO_3; have HB := n0_; have HO170 := n1_; clear n0_ n1_; clear ho hb hg hat))
           go_roundg k3
           case measure => have := HK1.out; have := HK2.out; have := HK3.out; omega
           case rel => exact ⟨(y168), (wrap64 (x6_3 + 1)), (by first | rfl | (simp; done) | (simp [*]; done)), H', ⟨by have := HK1.out; have := HK2.out; have := HK3.out; omega⟩, ⟨by (with_reducible repeat (first | apply Kd.R_alloc | apply Kd.R_drewN | apply Kd.R_drew)); exact HO170.out⟩, ⟨by repeat (first | (with_reducible first | exact HB.out | apply below_alloc | apply pw_below_drewN | apply below_drew1) | exact HB.out)⟩⟩
          ·rw [if_neg c5] at H
           exact absurd H (by simp)
         ·rw [if_neg c4] at H
          have c4b0 : decide (x6_3 < a0) = false := decide_eq_false c4
          clear c4
          have H' := Aside0.mk H
          clear H
          go_wp2
          go_roundg k3
          case measure => have := HK1.out; have := HK2.out; have := HK3.out; omega
          case rel => exact ⟨(x3_3), (wrap64 (x5_2 + 1)), (by first | rfl | (simp; done) | (simp [*]; done)), H', ⟨by have := HK1.out; have := HK2.out; have := HK3.out; omega⟩, ⟨by (with_reducible repeat (first | apply Kd.R_alloc | apply Kd.R_drewN | apply Kd.R_drew)); exact HO_3.out⟩, ⟨by repeat (first | (with_reducible first | exact HB.out | apply below_alloc | apply pw_below_drewN | apply below_drew1) | exact HB.out)⟩⟩
      ·rw [if_neg c3] at H
       have c3b0 : decide (x5_2 < a0) = false := decide_eq_false c3
       clear c3
       have H' := Aside0.mk H
       clear H
       go_wp2
       go_roundg k2
       case measure => have := HK1.out; have := HK2.out; omega
       case rel => exact ⟨(x3_2), (wrap64 (x4_1 + 1)), (by first | rfl | (simp; done) | (simp [*]; done)), H', ⟨by have := HK1.out; have := HK2.out; omega⟩, ⟨by (with_reducible repeat (first | apply Kd.R_alloc | apply Kd.R_drewN | apply Kd.R_drew)); exact HO_3.out⟩, ⟨by repeat (first | (with_reducible first | exact HB.out | apply below_alloc | apply pw_below_drewN | apply below_drew1) | exact HB.out)⟩⟩
   ·rw [if_neg c2] at H
    have c2b0 : decide (x4_1 < a0) = false := decide_eq_false c2
    clear c2
    obtain rfl := Option.some.inj H
    go_wp2
    go_ret
    exact ⟨_, by first | rfl | (simp [errW_none, errW_some] <;> rfl) | (simp [*, errW_none, errW_some] <;> rfl), by (with_reducible repeat (first | apply Kd.R_alloc | apply Kd.R_drewN | apply Kd.R_drew)); exact HO_3.out, by repeat (first | (with_reducible first | exact HB.out | apply below_alloc | apply pw_below_drewN | apply below_drew1) | exact HB.out)⟩
end Go.Proofs.Ytbglgapndefcfaa.P
namespace Go.Proofs.Ytbglgapndefcfaa.P
open Go.RowKit Go.Proofs.YtbglgapndefcfaaW.PrintWords Go.Proofs.YtbglgapndefcfaaW.PrintLast Go.Proofs.YtbglgapndefcfaaW.PrintMore
def ix (i j k : Int) : Nat := 1 + i.toNat * 49 + j.toNat * 7 + k.toNat
def setL (l : List Int) (i j k v : Int) : List Int := ((l.set (1 + i.toNat * 49 + j.toNat * 7 + k.toNat) v).set (1 + j.toNat * 49 + k.toNat * 7 + i.toNat) v).set (1 + k.toNat * 49 + i.toNat * 7 + j.toNat) v
def chiSet (l : List Int) (i j k v : Int) : List Int := setL (setL l i j k v) i k j (wrap64 (-v))
theorem setL_length (l : List Int) (i j k v : Int) : (setL l i j k v).length = l.length := by simp [setL]
theorem chiSet_length (l : List Int) (i j k v : Int) : (chiSet l i j k v).length = l.length := by simp [chiSet, setL_length]
def impl_chi_set.f (l : List Int) (i j k v : Int) : Option (List Int) :=
  if l.length = 344 ∧ (0 ≤ i ∧ i < 7) ∧ (0 ≤ j ∧ j < 7) ∧ (0 ≤ k ∧ k < 7) then some (chiSet l i j k v) else none
abbrev TBL (w : World) (base : Nat) (ok : Nat → Prop) (v : Value) (l : List Int) : Prop := Kd.R (Kd.int .i64) 82 w base ok v l
theorem tbl_cell {w : World} {base g n cap : Nat} {ok : Nat → Prop} {l : List Int} (h : TBL w base ok (.slice (some ⟨g, 0, none⟩) n cap) l) (o : Nat) (ho : o < n) : ∃ v, w.cell? ⟨g, o, none⟩ = some v ∧ w.frozen? ⟨g, o, none⟩ = false := by
  have := Kd.R_celln 0 h (o : Int) (by omega) (by omega)
  rw [Int.toNat_natCast] at this
  exact ⟨_, this⟩
theorem tbl_set {w : World} {base g n cap : Nat} {ok : Nat → Prop} {l : List Int} (h : TBL w base ok (.slice (some ⟨g, 0, none⟩) n cap) l) (o : Nat) (v : Int) : TBL (w.setCell ⟨g, o, none⟩ (.int .i64 v)) base ok (.slice (some ⟨g, 0, none⟩) n cap) (l.set o v) := by
  have := Kd.R_putn h (o : Int) v
  rw [Int.toNat_natCast] at this
  exact this
end Go.Proofs.Ytbglgapndefcfaa.P
namespace Go.Proofs.Ytbglgapndefcfaa.P
open Go.RowKit Go.Proofs.YtbglgapndefcfaaW.PrintWords Go.Proofs.YtbglgapndefcfaaW.PrintLast Go.Proofs.YtbglgapndefcfaaW.PrintMore
set_option linter.unusedVariables false
set_option linter.unusedSimpArgs false
def impl_chi_set.T0 : Bool × List (List Nat × List Nat) := (true, [([], []), ([], []), ([], []), ([], []), ([], []), ([], []), ([], []), ([], []), ([], []), ([], []), ([], []), ([], []), ([], []), ([], []), ([], []), ([0], [0]), ([15], [15]), ([16, 1], [1, 16]), ([17, 2], [2, 17]), ([18, 3, 0, 1, 2, 3, 12], [3, 18]), ([19, 12, 0, 1, 2, 3, 12], [12, 19]), ([4], [4]), ([21], [21]), ([22, 5], [5, 22]), ([23, 6], [6, 23]), ([24, 7, 0, 1, 2, 3, 4, 5, 6, 7, 12, 13, 15, 16, 17, 18, 19, 20], [7, 24]), ([25, 13, 20, 0, 1, 2, 3, 4, 5, 6, 7, 12, 13, 15, 16, 17, 18, 19, 20], [13, 25]), ([8], [8]), ([27], [27]), ([28, 9], [9, 28]), ([29, 10], [10, 29]), ([30, 11, 0, 1, 2, 3, 4, 5, 6, 7, 8, 9, 10, 11, 12, 13, 14, 15, 16, 17, 18, 19, 20, 21, 22, 23, 24, 25, 26], [11, 30]), ([31, 14, 26, 0, 1, 2, 3, 4, 5, 6, 7, 8, 9, 10, 11, 12, 13, 14, 15, 16, 17, 18, 19, 20, 21, 22, 23, 24, 25, 26], [14, 31])])
def impl_chi_set.B0 : List Nat := [0, 0, 0, 0, 0, 0, 0, 0, 0, 0, 0, 0, 0, 0, 0, 1, 32769, 98307, 229383, 495631, 1019919, 16, 2097168, 6291504, 14680176, 33534207, 67088639, 256, 134217984, 402653952, 939525888, 2147483647, 4294967295]
theorem impl_chi_set.tab0 : rtab .any (opsOf Try.f129 0) = impl_chi_set.T0 := by kernel_rfl
theorem impl_chi_set.bits0 : waitsOk impl_chi_set.T0.2 impl_chi_set.B0 = true := by kernel_rfl
def impl_chi_set.T1 : Bool × List (List Nat × List Nat) := (true, [([], []), ([], []), ([], []), ([], []), ([], []), ([], []), ([], []), ([], []), ([], []), ([], []), ([], []), ([], []), ([], []), ([12], [12]), ([], []), ([14], [14]), ([], []), ([16], [16]), ([0], [0]), ([18], [18]), ([19, 1], [1, 19]), ([20, 2], [2, 20]), ([21, 3, 0, 1, 2, 3, 12, 13], [3, 21]), ([22, 13, 0, 1, 2, 3, 12, 13], [13, 22]), ([4], [4]), ([24], [24]), ([25, 5], [5, 25]), ([26, 6], [6, 26]), ([27, 7, 0, 1, 2, 3, 4, 5, 6, 7, 12, 13, 14, 15, 18, 19, 20, 21, 22, 23], [7, 27]), ([28, 15, 23, 0, 1, 2, 3, 4, 5, 6, 7, 12, 13, 14, 15, 18, 19, 20, 21, 22, 23], [15, 28]), ([8], [8]), ([30], [30]), ([31, 9], [9, 31]), ([32, 10], [10, 32]), ([33, 11, 0, 1, 2, 3, 4, 5, 6, 7, 8, 9, 10, 11, 12, 13, 14, 15, 16, 17, 18, 19, 20, 21, 22, 23, 24, 25, 26, 27, 28, 29], [11, 33]), ([34, 17, 29, 0, 1, 2, 3, 4, 5, 6, 7, 8, 9, 10, 11, 12, 13, 14, 15, 16, 17, 18, 19, 20, 21, 22, 23, 24, 25, 26, 27, 28, 29], [17, 34])])
def impl_chi_set.B1 : List Nat := [0, 0, 0, 0, 0, 0, 0, 0, 0, 0, 0, 0, 0, 4096, 0, 16384, 0, 65536, 1, 262145, 786435, 1835015, 3944463, 8138767, 16, 16777232, 50331696, 117440624, 268235007, 536670463, 256, 1073742080, 3221226240, 7516194560, 17179869183, 34359738367]
theorem impl_chi_set.tab1 : rtab .any (opsOf Try.f129 1) = impl_chi_set.T1 := by kernel_rfl
theorem impl_chi_set.bits1 : waitsOk impl_chi_set.T1.2 impl_chi_set.B1 = true := by kernel_rfl
set_option maxHeartbeats 8000000 in
set_option maxRecDepth 100000 in
theorem impl_chi_set.calls (P0_ : Nat → Prop) (u9000_ : Value) (l : List Int) (i j k v : Int) (r : List Int) (w0 w : World) (hB : Below w0.heap.size w0 w) (ho0 : Kd.R (Kd.int .i64) 82 w w0.heap.size P0_ u9000_ l) (h : impl_chi_set.f l i j k v = some r) :
    Calls Try.prog 129 #[ptrOf u9000_, .int .i64 i, .int .i64 j, .int .i64 k, .int .i64 v] w fun e w' => e = .returned (.tuple #[]) ∧ Kd.R (Kd.int .i64) 82 w' w0.heap.size (fun k_ => (P0_ k_ ∨ w.heap.size ≤ k_)) u9000_ r ∧ Below w0.heap.size w0 w' ∧ Kept w w' (fun k_ => P0_ k_) := by
  unfold impl_chi_set.f at h
  by_cases hc : l.length = 344 ∧ (0 ≤ i ∧ i < 7) ∧ (0 ≤ j ∧ j < 7) ∧ (0 ≤ k ∧ k < 7)
  case neg => rw [if_neg hc] at h; cases h
  rw [if_pos hc] at h
  obtain rfl := Option.some.inj h
  clear h
  obtain ⟨hl, ⟨i0, i7⟩, ⟨j0, j7⟩, ⟨k0, k7⟩⟩ := hc
  have HS := ho0.1
  obtain ⟨g, cap, rfl, hge, _, _⟩ := Kd.R_form ho0 (by omega)
  have GE := Aside0.mk hge
  have HG := Aside0.mk (HS g rfl)
  have HB := Aside0.mk (show TBL w w0.heap.size (fun k_ => (P0_ k_ ∨ w.heap.size ≤ k_)) (.slice (some ⟨g, 0, none⟩) l.length cap) l from Kd.R_mono ho0 (fun k_ hk => (.inl hk)))
  have HK := Aside0.mk (Kept.refl w (fun k_ => P0_ k_))
  have HD := Aside0.mk hB
  clear hB ho0 HS hge
  have HL := Aside0.mk hl
  rw [ptrOf_slice]
  have b1 : 1 + i.toNat * 49 + j.toNat * 7 + k.toNat < l.length := by omega
  have b2 : 1 + j.toNat * 49 + k.toNat * 7 + i.toNat < l.length := by omega
  have b3 : 1 + k.toNat * 49 + i.toNat * 7 + j.toNat < l.length := by omega
  have b4 : 1 + i.toNat * 49 + k.toNat * 7 + j.toNat < l.length := by omega
  have b5 : 1 + k.toNat * 49 + j.toNat * 7 + i.toNat < l.length := by omega
  have b6 : 1 + j.toNat * 49 + i.toNat * 7 + k.toNat < l.length := by omega
  have B1 := Aside0.mk b1; have B2 := Aside0.mk b2; have B3 := Aside0.mk b3; have B4 := Aside0.mk b4; have B5 := Aside0.mk b5; have B6 := Aside0.mk b6
  clear b1 b2 b3 b4 b5 b6 hl
  replace i0 := eq_true i0; replace i7 := eq_true i7; replace j0 := eq_true j0; replace j7 := eq_true j7; replace k0 := eq_true k0; replace k7 := eq_true k7
  go_enter Try.func129, Try.ntmps129
  go_upto_region 0 with (fail)
  go_cut [] (fun wc => Aside0 (TBL wc w0.heap.size (fun k_ => (P0_ k_ ∨ w.heap.size ≤ k_)) (.slice (some ⟨g, 0, none⟩) l.length cap) (setL l i j k v)) ∧ Aside0 (Kept w wc (fun k_ => P0_ k_)) ∧ Aside0 (Below w0.heap.size w0 wc))
  case first =>
    refine start_ (n := 33) (S := fun _ => True) (ds := []) #[false, false, false, false, false, false, false, false, false, false, false, false, false, false, false, false, false, false, false, false, false, false, false, false, false, false, false, false, false, false, false, false, false] (by kernel_rfl) rfl rfl trivial (fun _ => ?_)
    refine with_tabW impl_chi_set.tab0 impl_chi_set.bits0 (fun HT_ HW_ => ?_)
    have HB2 := Aside0.mk (Kd.R_drew HB.out)
    have HK2 := Aside0.mk (Kept.drew HK.out)
    have HD2 := Aside0.mk (below_drew1 HD.out)
    clear HB HK HD
    generalize w.drew = wx at HB2 HK2 HD2 ⊢
    refine pure_ (i := 0) (N := some 10) (v := ?_) (a' := ?_) #[true, false, false, false, false, false, false, false, false, false, false, false, false, false, false, false, false, false, false, false, false, false, false, false, false, false, false, false, false, false, false, false, false] rfl rfl (any_of HT_.out (by kernel_rfl)) (fun _ _ _ h => h) (Or.inl ⟨by rfl, ?_⟩) ?_ ?_
    rotate_left
    · intro w'
      go_simp
      with_reducible rfl
    rotate_left
    · simp only [Act.put, List.setIfInBounds_toArray, List.set_cons_zero, List.set_cons_succ, i64_w, i32_w]
      rfl
    refine pure_ (i := 1) (N := some 11) (v := ?_) (a' := ?_) #[true, true, false, false, false, false, false, false, false, false, false, false, false, false, false, false, false, false, false, false, false, false, false, false, false, false, false, false, false, false, false, false, false] rfl rfl (any_of HT_.out (by kernel_rfl)) (fun _ _ _ h => h) (Or.inl ⟨by rfl, ?_⟩) ?_ ?_
    rotate_left
    · intro w'
      go_simp
      with_reducible rfl
    rotate_left
    · simp only [Act.put, List.setIfInBounds_toArray, List.set_cons_zero, List.set_cons_succ, i64_w, i32_w]
      rfl
    refine pure_ (i := 2) (N := some 12) (v := ?_) (a' := ?_) #[true, true, true, false, false, false, false, false, false, false, false, false, false, false, false, false, false, false, false, false, false, false, false, false, false, false, false, false, false, false, false, false, false] rfl rfl (any_of HT_.out (by kernel_rfl)) (fun _ _ _ h => h) (Or.inl ⟨by rfl, ?_⟩) ?_ ?_
    rotate_left
    · intro w'
      go_simp
      with_reducible rfl
    rotate_left
    · simp only [Act.put, List.setIfInBounds_toArray, List.set_cons_zero, List.set_cons_succ, i64_w, i32_w]
      rfl
    refine pure_ (i := 3) (N := some 13) (v := ?_) (a' := ?_) #[true, true, true, true, false, false, false, false, false, false, false, false, false, false, false, false, false, false, false, false, false, false, false, false, false, false, false, false, false, false, false, false, false] rfl rfl (any_of HT_.out (by kernel_rfl)) (fun _ _ _ h => h) (Or.inl ⟨by rfl, ?_⟩) ?_ ?_
    rotate_left
    · intro w'
      go_simp
      with_reducible rfl
    rotate_left
    · simp only [Act.put, List.setIfInBounds_toArray, List.set_cons_zero, List.set_cons_succ, i64_w, i32_w]
      rfl
    refine pure_ (i := 4) (N := some 14) (v := ?_) (a' := ?_) #[true, true, true, true, true, false, false, false, false, false, false, false, false, false, false, false, false, false, false, false, false, false, false, false, false, false, false, false, false, false, false, false, false] rfl rfl (any_of HT_.out (by kernel_rfl)) (fun _ _ _ h => h) (Or.inl ⟨by rfl, ?_⟩) ?_ ?_
    rotate_left
    · intro w'
      go_simp
      with_reducible rfl
    rotate_left
    · simp only [Act.put, List.setIfInBounds_toArray, List.set_cons_zero, List.set_cons_succ, i64_w, i32_w]
      rfl
    refine pure_ (i := 5) (N := some 15) (v := ?_) (a' := ?_) #[true, true, true, true, true, true, false, false, false, false, false, false, false, false, false, false, false, false, false, false, false, false, false, false, false, false, false, false, false, false, false, false, false] rfl rfl (any_of HT_.out (by kernel_rfl)) (fun _ _ _ h => h) (Or.inl ⟨by rfl, ?_⟩) ?_ ?_
    rotate_left
    · intro w'
      go_simp
      with_reducible rfl
    rotate_left
    · simp only [Act.put, List.setIfInBounds_toArray, List.set_cons_zero, List.set_cons_succ, i64_w, i32_w]
      rfl
    refine pure_ (i := 6) (N := some 16) (v := ?_) (a' := ?_) #[true, true, true, true, true, true, true, false, false, false, false, false, false, false, false, false, false, false, false, false, false, false, false, false, false, false, false, false, false, false, false, false, false] rfl rfl (any_of HT_.out (by kernel_rfl)) (fun _ _ _ h => h) (Or.inl ⟨by rfl, ?_⟩) ?_ ?_
    rotate_left
    · intro w'
      go_simp
      with_reducible rfl
    rotate_left
    · simp only [Act.put, List.setIfInBounds_toArray, List.set_cons_zero, List.set_cons_succ, i64_w, i32_w]
      rfl
    refine pure_ (i := 7) (N := some 17) (v := ?_) (a' := ?_) #[true, true, true, true, true, true, true, true, false, false, false, false, false, false, false, false, false, false, false, false, false, false, false, false, false, false, false, false, false, false, false, false, false] rfl rfl (any_of HT_.out (by kernel_rfl)) (fun _ _ _ h => h) (Or.inl ⟨by rfl, ?_⟩) ?_ ?_
    rotate_left
    · intro w'
      go_simp
      with_reducible rfl
    rotate_left
    · simp only [Act.put, List.setIfInBounds_toArray, List.set_cons_zero, List.set_cons_succ, i64_w, i32_w]
      rfl
    refine pure_ (i := 8) (N := some 18) (v := ?_) (a' := ?_) #[true, true, true, true, true, true, true, true, true, false, false, false, false, false, false, false, false, false, false, false, false, false, false, false, false, false, false, false, false, false, false, false, false] rfl rfl (any_of HT_.out (by kernel_rfl)) (fun _ _ _ h => h) (Or.inl ⟨by rfl, ?_⟩) ?_ ?_
    rotate_left
    · intro w'
      go_simp
      with_reducible rfl
    rotate_left
    · simp only [Act.put, List.setIfInBounds_toArray, List.set_cons_zero, List.set_cons_succ, i64_w, i32_w]
      rfl
    refine pure_ (i := 9) (N := some 19) (v := ?_) (a' := ?_) #[true, true, true, true, true, true, true, true, true, true, false, false, false, false, false, false, false, false, false, false, false, false, false, false, false, false, false, false, false, false, false, false, false] rfl rfl (any_of HT_.out (by kernel_rfl)) (fun _ _ _ h => h) (Or.inl ⟨by rfl, ?_⟩) ?_ ?_
    rotate_left
    · intro w'
      go_simp
      with_reducible rfl
    rotate_left
    · simp only [Act.put, List.setIfInBounds_toArray, List.set_cons_zero, List.set_cons_succ, i64_w, i32_w]
      rfl
    refine pure_ (i := 10) (N := some 20) (v := ?_) (a' := ?_) #[true, true, true, true, true, true, true, true, true, true, true, false, false, false, false, false, false, false, false, false, false, false, false, false, false, false, false, false, false, false, false, false, false] rfl rfl (any_of HT_.out (by kernel_rfl)) (fun _ _ _ h => h) (Or.inl ⟨by rfl, ?_⟩) ?_ ?_
    rotate_left
    · intro w'
      go_simp
      with_reducible rfl
    rotate_left
    · simp only [Act.put, List.setIfInBounds_toArray, List.set_cons_zero, List.set_cons_succ, i64_w, i32_w]
      rfl
    refine pure_ (i := 11) (N := some 21) (v := ?_) (a' := ?_) #[true, true, true, true, true, true, true, true, true, true, true, true, false, false, false, false, false, false, false, false, false, false, false, false, false, false, false, false, false, false, false, false, false] rfl rfl (any_of HT_.out (by kernel_rfl)) (fun _ _ _ h => h) (Or.inl ⟨by rfl, ?_⟩) ?_ ?_
    rotate_left
    · intro w'
      go_simp
      with_reducible rfl
    rotate_left
    · simp only [Act.put, List.setIfInBounds_toArray, List.set_cons_zero, List.set_cons_succ, i64_w, i32_w]
      rfl
    refine pure_ (i := 12) (N := some 22) (v := ?_) (a' := ?_) #[true, true, true, true, true, true, true, true, true, true, true, true, true, false, false, false, false, false, false, false, false, false, false, false, false, false, false, false, false, false, false, false, false] rfl rfl (any_of HT_.out (by kernel_rfl)) (fun _ _ _ h => h) (Or.inl ⟨by rfl, ?_⟩) ?_ ?_
    rotate_left
    · intro w'
      go_simp
      with_reducible rfl
    rotate_left
    · simp only [Act.put, List.setIfInBounds_toArray, List.set_cons_zero, List.set_cons_succ, i64_w, i32_w]
      rfl
    refine pure_ (i := 13) (N := some 23) (v := ?_) (a' := ?_) #[true, true, true, true, true, true, true, true, true, true, true, true, true, true, false, false, false, false, false, false, false, false, false, false, false, false, false, false, false, false, false, false, false] rfl rfl (any_of HT_.out (by kernel_rfl)) (fun _ _ _ h => h) (Or.inl ⟨by rfl, ?_⟩) ?_ ?_
    rotate_left
    · intro w'
      go_simp
      with_reducible rfl
    rotate_left
    · simp only [Act.put, List.setIfInBounds_toArray, List.set_cons_zero, List.set_cons_succ, i64_w, i32_w]
      rfl
    refine pure_ (i := 14) (N := some 24) (v := ?_) (a' := ?_) #[true, true, true, true, true, true, true, true, true, true, true, true, true, true, true, false, false, false, false, false, false, false, false, false, false, false, false, false, false, false, false, false, false] rfl rfl (any_of HT_.out (by kernel_rfl)) (fun _ _ _ h => h) (Or.inl ⟨by rfl, ?_⟩) ?_ ?_
    rotate_left
    · intro w'
      go_simp
      with_reducible rfl
    rotate_left
    · simp only [Act.put, List.setIfInBounds_toArray, List.set_cons_zero, List.set_cons_succ, i64_w, i32_w]
      rfl
    refine pure_ (i := 15) (N := some 25) (v := ?_) (a' := ?_) #[true, true, true, true, true, true, true, true, true, true, true, true, true, true, true, true, false, false, false, false, false, false, false, false, false, false, false, false, false, false, false, false, false] rfl rfl (any_of HT_.out (by kernel_rfl)) (fun _ _ _ h => h) (Or.inl ⟨by rfl, ?_⟩) ?_ ?_
    rotate_left
    · intro w'
      go_simp
      with_reducible rfl
    rotate_left
    · simp only [Act.put, List.setIfInBounds_toArray, List.set_cons_zero, List.set_cons_succ, i64_w, i32_w]
      rfl
    refine pure_ (i := 16) (N := some 26) (v := ?_) (a' := ?_) #[true, true, true, true, true, true, true, true, true, true, true, true, true, true, true, true, true, false, false, false, false, false, false, false, false, false, false, false, false, false, false, false, false] rfl rfl (any_of HT_.out (by kernel_rfl)) (fun _ _ _ h => h) (Or.inl ⟨by rfl, ?_⟩) ?_ ?_
    rotate_left
    · intro w'
      go_simp
      with_reducible rfl
    rotate_left
    · simp only [Act.put, List.setIfInBounds_toArray, List.set_cons_zero, List.set_cons_succ, i64_w, i32_w]
      rfl
    refine pure_ (i := 17) (N := some 27) (v := ?_) (a' := ?_) #[true, true, true, true, true, true, true, true, true, true, true, true, true, true, true, true, true, true, false, false, false, false, false, false, false, false, false, false, false, false, false, false, false] rfl rfl (any_of HT_.out (by kernel_rfl)) (fun _ _ _ h => h) (Or.inl ⟨by rfl, ?_⟩) ?_ ?_
    rotate_left
    · intro w'
      go_simp
      with_reducible rfl
    rotate_left
    · simp only [Act.put, List.setIfInBounds_toArray, List.set_cons_zero, List.set_cons_succ, i64_w, i32_w]
      rfl
    refine pure_ (i := 18) (N := some 28) (v := ?_) (a' := ?_) #[true, true, true, true, true, true, true, true, true, true, true, true, true, true, true, true, true, true, true, false, false, false, false, false, false, false, false, false, false, false, false, false, false] rfl rfl (any_of HT_.out (by kernel_rfl)) (fun _ _ _ h => h) (Or.inl ⟨by rfl, ?_⟩) ?_ ?_
    rotate_left
    · intro w'
      go_simp
      with_reducible rfl
    rotate_left
    · simp only [Act.put, List.setIfInBounds_toArray, List.set_cons_zero, List.set_cons_succ, i64_w, i32_w]
      rfl
    refine pure_ (i := 19) (N := some 29) (v := ?_) (a' := ?_) #[true, true, true, true, true, true, true, true, true, true, true, true, true, true, true, true, true, true, true, true, false, false, false, false, false, false, false, false, false, false, false, false, false] rfl rfl (any_of HT_.out (by kernel_rfl)) (fun _ _ _ h => h) (Or.inl ⟨by rfl, ?_⟩) ?_ ?_
    rotate_left
    · intro w'
      go_simp
      with_reducible rfl
    rotate_left
    · simp only [Act.put, List.setIfInBounds_toArray, List.set_cons_zero, List.set_cons_succ, i64_w, i32_w]
      rfl
    refine pure_ (i := 21) (N := some 30) (v := ?_) (a' := ?_) #[true, true, true, true, true, true, true, true, true, true, true, true, true, true, true, true, true, true, true, true, false, true, false, false, false, false, false, false, false, false, false, false, false] rfl rfl (any_of HT_.out (by kernel_rfl)) (fun _ _ _ h => h) (Or.inl ⟨by rfl, ?_⟩) ?_ ?_
    rotate_left
    · intro w'
      go_simp
      with_reducible rfl
    rotate_left
    · simp only [Act.put, List.setIfInBounds_toArray, List.set_cons_zero, List.set_cons_succ, i64_w, i32_w]
      rfl
    refine pure_ (i := 22) (N := some 31) (v := ?_) (a' := ?_) #[true, true, true, true, true, true, true, true, true, true, true, true, true, true, true, true, true, true, true, true, false, true, true, false, false, false, false, false, false, false, false, false, false] rfl rfl (any_of HT_.out (by kernel_rfl)) (fun _ _ _ h => h) (Or.inl ⟨by rfl, ?_⟩) ?_ ?_
    rotate_left
    · intro w'
      go_simp
      with_reducible rfl
    rotate_left
    · simp only [Act.put, List.setIfInBounds_toArray, List.set_cons_zero, List.set_cons_succ, i64_w, i32_w]
      rfl
    refine pure_ (i := 23) (N := some 32) (v := ?_) (a' := ?_) #[true, true, true, true, true, true, true, true, true, true, true, true, true, true, true, true, true, true, true, true, false, true, true, true, false, false, false, false, false, false, false, false, false] rfl rfl (any_of HT_.out (by kernel_rfl)) (fun _ _ _ h => h) (Or.inl ⟨by rfl, ?_⟩) ?_ ?_
    rotate_left
    · intro w'
      go_simp
      with_reducible rfl
    rotate_left
    · simp only [Act.put, List.setIfInBounds_toArray, List.set_cons_zero, List.set_cons_succ, i64_w, i32_w]
      rfl
    refine pure_ (i := 24) (N := some 33) (v := ?_) (a' := ?_) #[true, true, true, true, true, true, true, true, true, true, true, true, true, true, true, true, true, true, true, true, false, true, true, true, true, false, false, false, false, false, false, false, false] rfl rfl (any_of HT_.out (by kernel_rfl)) (fun _ _ _ h => h) (Or.inl ⟨by rfl, ?_⟩) ?_ ?_
    rotate_left
    · intro w'
      go_simp
      with_reducible rfl
    rotate_left
    · simp only [Act.put, List.setIfInBounds_toArray, List.set_cons_zero, List.set_cons_succ, i64_w, i32_w]
      rfl
    refine pure_ (i := 27) (N := some 35) (v := ?_) (a' := ?_) #[true, true, true, true, true, true, true, true, true, true, true, true, true, true, true, true, true, true, true, true, false, true, true, true, true, false, false, true, false, false, false, false, false] rfl rfl (any_of HT_.out (by kernel_rfl)) (fun _ _ _ h => h) (Or.inl ⟨by rfl, ?_⟩) ?_ ?_
    rotate_left
    · intro w'
      go_simp
      with_reducible rfl
    rotate_left
    · simp only [Act.put, List.setIfInBounds_toArray, List.set_cons_zero, List.set_cons_succ, i64_w, i32_w]
      rfl
    refine pure_ (i := 28) (N := some 36) (v := ?_) (a' := ?_) #[true, true, true, true, true, true, true, true, true, true, true, true, true, true, true, true, true, true, true, true, false, true, true, true, true, false, false, true, true, false, false, false, false] rfl rfl (any_of HT_.out (by kernel_rfl)) (fun _ _ _ h => h) (Or.inl ⟨by rfl, ?_⟩) ?_ ?_
    rotate_left
    · intro w'
      go_simp
      with_reducible rfl
    rotate_left
    · simp only [Act.put, List.setIfInBounds_toArray, List.set_cons_zero, List.set_cons_succ, i64_w, i32_w]
      rfl
    refine pure_ (i := 29) (N := some 37) (v := ?_) (a' := ?_) #[true, true, true, true, true, true, true, true, true, true, true, true, true, true, true, true, true, true, true, true, false, true, true, true, true, false, false, true, true, true, false, false, false] rfl rfl (any_of HT_.out (by kernel_rfl)) (fun _ _ _ h => h) (Or.inl ⟨by rfl, ?_⟩) ?_ ?_
    rotate_left
    · intro w'
      go_simp
      with_reducible rfl
    rotate_left
    · simp only [Act.put, List.setIfInBounds_toArray, List.set_cons_zero, List.set_cons_succ, i64_w, i32_w]
      rfl
    refine pure_ (i := 30) (N := some 38) (v := ?_) (a' := ?_) #[true, true, true, true, true, true, true, true, true, true, true, true, true, true, true, true, true, true, true, true, false, true, true, true, true, false, false, true, true, true, true, false, false] rfl rfl (any_of HT_.out (by kernel_rfl)) (fun _ _ _ h => h) (Or.inl ⟨by rfl, ?_⟩) ?_ ?_
    rotate_left
    · intro w'
      go_simp
      with_reducible rfl
    rotate_left
    · simp only [Act.put, List.setIfInBounds_toArray, List.set_cons_zero, List.set_cons_succ, i64_w, i32_w]
      rfl
    obtain ⟨x0_, hc0_, hf0_⟩ := tbl_cell HB2.out (1 + i.toNat * 49 + j.toNat * 7 + k.toNat) B1.out
    refine one_ (i := 20) (N := none) #[true, true, true, true, true, true, true, true, true, true, true, true, true, true, true, true, true, true, true, true, true, true, true, true, true, false, false, true, true, true, true, false, false] rfl rfl (one_of HT_.out (by kernel_rfl)) (by decide) (fun K hK => ?_)
    refine skip_ (w1 := ?_) (by rfl) rfl ?_ ?_
    rotate_left
    · go_simp
      rfl
    refine hK.out _ _ trivial (fun _ => ?_)
    clear hK K hc0_ hf0_
    have HB20 := Aside0.mk (tbl_set HB2.out (1 + i.toNat * 49 + j.toNat * 7 + k.toNat) v)
    have HK20 := Aside0.mk (Kept.setCell (p := ⟨g, (1 + i.toNat * 49 + j.toNat * 7 + k.toNat), none⟩) HK2.out (.inl HG.out) (.int .i64 v))
    have HD20 := Aside0.mk (below_set (g := g) (j := (1 + i.toNat * 49 + j.toNat * 7 + k.toNat)) (v := .int .i64 v) HD2.out GE.out)
    refine pure_ (i := 25) (N := some 34) (v := ?_) (a' := ?_) #[true, true, true, true, true, true, true, true, true, true, true, true, true, true, true, true, true, true, true, true, true, true, true, true, true, true, false, true, true, true, true, false, false] rfl rfl (any_of HT_.out (by kernel_rfl)) (fun _ _ _ h => h) (Or.inl ⟨by rfl, ?_⟩) ?_ ?_
    rotate_left
    · intro w'
      go_simp
      with_reducible rfl
    rotate_left
    · simp only [Act.put, List.setIfInBounds_toArray, List.set_cons_zero, List.set_cons_succ, i64_w, i32_w]
      rfl
    obtain ⟨x1_, hc1_, hf1_⟩ := tbl_cell HB20.out (1 + j.toNat * 49 + k.toNat * 7 + i.toNat) B2.out
    refine one_ (i := 26) (N := none) #[true, true, true, true, true, true, true, true, true, true, true, true, true, true, true, true, true, true, true, true, true, true, true, true, true, true, true, true, true, true, true, false, false] rfl rfl (one_of HT_.out (by kernel_rfl)) (by decide) (fun K hK => ?_)
    refine skip_ (w1 := ?_) (by rfl) rfl ?_ ?_
    rotate_left
    · go_simp
      rfl
    refine hK.out _ _ trivial (fun _ => ?_)
    clear hK K hc1_ hf1_
    have HB201 := Aside0.mk (tbl_set HB20.out (1 + j.toNat * 49 + k.toNat * 7 + i.toNat) v)
    have HK201 := Aside0.mk (Kept.setCell (p := ⟨g, (1 + j.toNat * 49 + k.toNat * 7 + i.toNat), none⟩) HK20.out (.inl HG.out) (.int .i64 v))
    have HD201 := Aside0.mk (below_set (g := g) (j := (1 + j.toNat * 49 + k.toNat * 7 + i.toNat)) (v := .int .i64 v) HD20.out GE.out)
    refine pure_ (i := 31) (N := some 39) (v := ?_) (a' := ?_) #[true, true, true, true, true, true, true, true, true, true, true, true, true, true, true, true, true, true, true, true, true, true, true, true, true, true, true, true, true, true, true, true, false] rfl rfl (any_of HT_.out (by kernel_rfl)) (fun _ _ _ h => h) (Or.inl ⟨by rfl, ?_⟩) ?_ ?_
    rotate_left
    · intro w'
      go_simp
      with_reducible rfl
    rotate_left
    · simp only [Act.put, List.setIfInBounds_toArray, List.set_cons_zero, List.set_cons_succ, i64_w, i32_w]
      rfl
    obtain ⟨x2_, hc2_, hf2_⟩ := tbl_cell HB201.out (1 + k.toNat * 49 + i.toNat * 7 + j.toNat) B3.out
    refine one_ (i := 32) (N := none) #[true, true, true, true, true, true, true, true, true, true, true, true, true, true, true, true, true, true, true, true, true, true, true, true, true, true, true, true, true, true, true, true, true] rfl rfl (one_of HT_.out (by kernel_rfl)) (by decide) (fun K hK => ?_)
    refine skip_ (w1 := ?_) (by rfl) rfl ?_ ?_
    rotate_left
    · go_simp
      rfl
    refine hK.out _ _ trivial (fun _ => ?_)
    clear hK K hc2_ hf2_
    have HB2012 := Aside0.mk (tbl_set HB201.out (1 + k.toNat * 49 + i.toNat * 7 + j.toNat) v)
    have HK2012 := Aside0.mk (Kept.setCell (p := ⟨g, (1 + k.toNat * 49 + i.toNat * 7 + j.toNat), none⟩) HK201.out (.inl HG.out) (.int .i64 v))
    have HD2012 := Aside0.mk (below_set (g := g) (j := (1 + k.toNat * 49 + i.toNat * 7 + j.toNat)) (v := .int .i64 v) HD201.out GE.out)
    refine done_ (done_of HT_.out (by kernel_rfl)) ?_
    clear HT_ HW_
    try go_wp2
    go_meet
    case rel => exact ⟨HB2012, HK2012, HD2012⟩
  case rest =>
    clear HB HK HD
    obtain ⟨HB, HK, HD⟩ := hcut
    try go_wp2
    refine start_ (n := 36) (S := fun _ => True) (ds := []) #[false, false, false, false, false, false, false, false, false, false, false, false, false, false, false, false, false, false, false, false, false, false, false, false, false, false, false, false, false, false, false, false, false, false, false, false] (by kernel_rfl) rfl rfl trivial (fun _ => ?_)
    refine with_tabW impl_chi_set.tab1 impl_chi_set.bits1 (fun HT_ HW_ => ?_)
    have HB2 := Aside0.mk (Kd.R_drew HB.out)
    have HK2 := Aside0.mk (Kept.drew HK.out)
    have HD2 := Aside0.mk (below_drew1 HD.out)
    clear HB HK HD
    generalize wc.drew = wx at HB2 HK2 HD2 ⊢
    refine pure_ (i := 0) (N := some 40) (v := ?_) (a' := ?_) #[true, false, false, false, false, false, false, false, false, false, false, false, false, false, false, false, false, false, false, false, false, false, false, false, false, false, false, false, false, false, false, false, false, false, false, false] rfl rfl (any_of HT_.out (by kernel_rfl)) (fun _ _ _ h => h) (Or.inl ⟨by rfl, ?_⟩) ?_ ?_
    rotate_left
    · intro w'
      go_simp
      with_reducible rfl
    rotate_left
    · simp only [Act.put, List.setIfInBounds_toArray, List.set_cons_zero, List.set_cons_succ, i64_w, i32_w]
      rfl
    refine pure_ (i := 1) (N := some 41) (v := ?_) (a' := ?_) #[true, true, false, false, false, false, false, false, false, false, false, false, false, false, false, false, false, false, false, false, false, false, false, false, false, false, false, false, false, false, false, false, false, false, false, false] rfl rfl (any_of HT_.out (by kernel_rfl)) (fun _ _ _ h => h) (Or.inl ⟨by rfl, ?_⟩) ?_ ?_
    rotate_left
    · intro w'
      go_simp
      with_reducible rfl
    rotate_left
    · simp only [Act.put, List.setIfInBounds_toArray, List.set_cons_zero, List.set_cons_succ, i64_w, i32_w]
      rfl
    refine pure_ (i := 2) (N := some 42) (v := ?_) (a' := ?_) #[true, true, true, false, false, false, false, false, false, false, false, false, false, false, false, false, false, false, false, false, false, false, false, false, false, false, false, false, false, false, false, false, false, false, false, false] rfl rfl (any_of HT_.out (by kernel_rfl)) (fun _ _ _ h => h) (Or.inl ⟨by rfl, ?_⟩) ?_ ?_
    rotate_left
    · intro w'
      go_simp
      with_reducible rfl
    rotate_left
    · simp only [Act.put, List.setIfInBounds_toArray, List.set_cons_zero, List.set_cons_succ, i64_w, i32_w]
      rfl
    refine pure_ (i := 3) (N := some 43) (v := ?_) (a' := ?_) #[true, true, true, true, false, false, false, false, false, false, false, false, false, false, false, false, false, false, false, false, false, false, false, false, false, false, false, false, false, false, false, false, false, false, false, false] rfl rfl (any_of HT_.out (by kernel_rfl)) (fun _ _ _ h => h) (Or.inl ⟨by rfl, ?_⟩) ?_ ?_
    rotate_left
    · intro w'
      go_simp
      with_reducible rfl
    rotate_left
    · simp only [Act.put, List.setIfInBounds_toArray, List.set_cons_zero, List.set_cons_succ, i64_w, i32_w]
      rfl
    refine pure_ (i := 4) (N := some 44) (v := ?_) (a' := ?_) #[true, true, true, true, true, false, false, false, false, false, false, false, false, false, false, false, false, false, false, false, false, false, false, false, false, false, false, false, false, false, false, false, false, false, false, false] rfl rfl (any_of HT_.out (by kernel_rfl)) (fun _ _ _ h => h) (Or.inl ⟨by rfl, ?_⟩) ?_ ?_
    rotate_left
    · intro w'
      go_simp
      with_reducible rfl
    rotate_left
    · simp only [Act.put, List.setIfInBounds_toArray, List.set_cons_zero, List.set_cons_succ, i64_w, i32_w]
      rfl
    refine pure_ (i := 5) (N := some 45) (v := ?_) (a' := ?_) #[true, true, true, true, true, true, false, false, false, false, false, false, false, false, false, false, false, false, false, false, false, false, false, false, false, false, false, false, false, false, false, false, false, false, false, false] rfl rfl (any_of HT_.out (by kernel_rfl)) (fun _ _ _ h => h) (Or.inl ⟨by rfl, ?_⟩) ?_ ?_
    rotate_left
    · intro w'
      go_simp
      with_reducible rfl
    rotate_left
    · simp only [Act.put, List.setIfInBounds_toArray, List.set_cons_zero, List.set_cons_succ, i64_w, i32_w]
      rfl
    refine pure_ (i := 6) (N := some 46) (v := ?_) (a' := ?_) #[true, true, true, true, true, true, true, false, false, false, false, false, false, false, false, false, false, false, false, false, false, false, false, false, false, false, false, false, false, false, false, false, false, false, false, false] rfl rfl (any_of HT_.out (by kernel_rfl)) (fun _ _ _ h => h) (Or.inl ⟨by rfl, ?_⟩) ?_ ?_
    rotate_left
    · intro w'
      go_simp
      with_reducible rfl
    rotate_left
    · simp only [Act.put, List.setIfInBounds_toArray, List.set_cons_zero, List.set_cons_succ, i64_w, i32_w]
      rfl
    refine pure_ (i := 7) (N := some 47) (v := ?_) (a' := ?_) #[true, true, true, true, true, true, true, true, false, false, false, false, false, false, false, false, false, false, false, false, false, false, false, false, false, false, false, false, false, false, false, false, false, false, false, false] rfl rfl (any_of HT_.out (by kernel_rfl)) (fun _ _ _ h => h) (Or.inl ⟨by rfl, ?_⟩) ?_ ?_
    rotate_left
    · intro w'
      go_simp
      with_reducible rfl
    rotate_left
    · simp only [Act.put, List.setIfInBounds_toArray, List.set_cons_zero, List.set_cons_succ, i64_w, i32_w]
      rfl
    refine pure_ (i := 8) (N := some 48) (v := ?_) (a' := ?_) #[true, true, true, true, true, true, true, true, true, false, false, false, false, false, false, false, false, false, false, false, false, false, false, false, false, false, false, false, false, false, false, false, false, false, false, false] rfl rfl (any_of HT_.out (by kernel_rfl)) (fun _ _ _ h => h) (Or.inl ⟨by rfl, ?_⟩) ?_ ?_
    rotate_left
    · intro w'
      go_simp
      with_reducible rfl
    rotate_left
    · simp only [Act.put, List.setIfInBounds_toArray, List.set_cons_zero, List.set_cons_succ, i64_w, i32_w]
      rfl
    refine pure_ (i := 9) (N := some 49) (v := ?_) (a' := ?_) #[true, true, true, true, true, true, true, true, true, true, false, false, false, false, false, false, false, false, false, false, false, false, false, false, false, false, false, false, false, false, false, false, false, false, false, false] rfl rfl (any_of HT_.out (by kernel_rfl)) (fun _ _ _ h => h) (Or.inl ⟨by rfl, ?_⟩) ?_ ?_
    rotate_left
    · intro w'
      go_simp
      with_reducible rfl
    rotate_left
    · simp only [Act.put, List.setIfInBounds_toArray, List.set_cons_zero, List.set_cons_succ, i64_w, i32_w]
      rfl
    refine pure_ (i := 10) (N := some 50) (v := ?_) (a' := ?_) #[true, true, true, true, true, true, true, true, true, true, true, false, false, false, false, false, false, false, false, false, false, false, false, false, false, false, false, false, false, false, false, false, false, false, false, false] rfl rfl (any_of HT_.out (by kernel_rfl)) (fun _ _ _ h => h) (Or.inl ⟨by rfl, ?_⟩) ?_ ?_
    rotate_left
    · intro w'
      go_simp
      with_reducible rfl
    rotate_left
    · simp only [Act.put, List.setIfInBounds_toArray, List.set_cons_zero, List.set_cons_succ, i64_w, i32_w]
      rfl
    refine pure_ (i := 11) (N := some 51) (v := ?_) (a' := ?_) #[true, true, true, true, true, true, true, true, true, true, true, true, false, false, false, false, false, false, false, false, false, false, false, false, false, false, false, false, false, false, false, false, false, false, false, false] rfl rfl (any_of HT_.out (by kernel_rfl)) (fun _ _ _ h => h) (Or.inl ⟨by rfl, ?_⟩) ?_ ?_
    rotate_left
    · intro w'
      go_simp
      with_reducible rfl
    rotate_left
    · simp only [Act.put, List.setIfInBounds_toArray, List.set_cons_zero, List.set_cons_succ, i64_w, i32_w]
      rfl
    refine pure_ (i := 12) (N := some 52) (v := ?_) (a' := ?_) #[true, true, true, true, true, true, true, true, true, true, true, true, true, false, false, false, false, false, false, false, false, false, false, false, false, false, false, false, false, false, false, false, false, false, false, false] rfl rfl (any_of HT_.out (by kernel_rfl)) (fun _ _ _ h => h) (Or.inl ⟨by rfl, ?_⟩) ?_ ?_
    rotate_left
    · intro w'
      go_simp
      with_reducible rfl
    rotate_left
    · simp only [Act.put, List.setIfInBounds_toArray, List.set_cons_zero, List.set_cons_succ, i64_w, i32_w]
      rfl
    refine pure_ (i := 13) (N := some 53) (v := ?_) (a' := ?_) #[true, true, true, true, true, true, true, true, true, true, true, true, true, true, false, false, false, false, false, false, false, false, false, false, false, false, false, false, false, false, false, false, false, false, false, false] rfl rfl (any_of HT_.out (by kernel_rfl)) (fun _ _ _ h => h) (Or.inl ⟨by rfl, ?_⟩) ?_ ?_
    rotate_left
    · intro w'
      go_simp
      with_reducible rfl
    rotate_left
    · simp only [Act.put, List.setIfInBounds_toArray, List.set_cons_zero, List.set_cons_succ, i64_w, i32_w]
      rfl
    refine pure_ (i := 14) (N := some 54) (v := ?_) (a' := ?_) #[true, true, true, true, true, true, true, true, true, true, true, true, true, true, true, false, false, false, false, false, false, false, false, false, false, false, false, false, false, false, false, false, false, false, false, false] rfl rfl (any_of HT_.out (by kernel_rfl)) (fun _ _ _ h => h) (Or.inl ⟨by rfl, ?_⟩) ?_ ?_
    rotate_left
    · intro w'
      go_simp
      with_reducible rfl
    rotate_left
    · simp only [Act.put, List.setIfInBounds_toArray, List.set_cons_zero, List.set_cons_succ, i64_w, i32_w]
      rfl
    refine pure_ (i := 15) (N := some 55) (v := ?_) (a' := ?_) #[true, true, true, true, true, true, true, true, true, true, true, true, true, true, true, true, false, false, false, false, false, false, false, false, false, false, false, false, false, false, false, false, false, false, false, false] rfl rfl (any_of HT_.out (by kernel_rfl)) (fun _ _ _ h => h) (Or.inl ⟨by rfl, ?_⟩) ?_ ?_
    rotate_left
    · intro w'
      go_simp
      with_reducible rfl
    rotate_left
    · simp only [Act.put, List.setIfInBounds_toArray, List.set_cons_zero, List.set_cons_succ, i64_w, i32_w]
      rfl
    refine pure_ (i := 16) (N := some 56) (v := ?_) (a' := ?_) #[true, true, true, true, true, true, true, true, true, true, true, true, true, true, true, true, true, false, false, false, false, false, false, false, false, false, false, false, false, false, false, false, false, false, false, false] rfl rfl (any_of HT_.out (by kernel_rfl)) (fun _ _ _ h => h) (Or.inl ⟨by rfl, ?_⟩) ?_ ?_
    rotate_left
    · intro w'
      go_simp
      with_reducible rfl
    rotate_left
    · simp only [Act.put, List.setIfInBounds_toArray, List.set_cons_zero, List.set_cons_succ, i64_w, i32_w]
      rfl
    refine pure_ (i := 17) (N := some 57) (v := ?_) (a' := ?_) #[true, true, true, true, true, true, true, true, true, true, true, true, true, true, true, true, true, true, false, false, false, false, false, false, false, false, false, false, false, false, false, false, false, false, false, false] rfl rfl (any_of HT_.out (by kernel_rfl)) (fun _ _ _ h => h) (Or.inl ⟨by rfl, ?_⟩) ?_ ?_
    rotate_left
    · intro w'
      go_simp
      with_reducible rfl
    rotate_left
    · simp only [Act.put, List.setIfInBounds_toArray, List.set_cons_zero, List.set_cons_succ, i64_w, i32_w]
      rfl
    refine pure_ (i := 18) (N := some 58) (v := ?_) (a' := ?_) #[true, true, true, true, true, true, true, true, true, true, true, true, true, true, true, true, true, true, true, false, false, false, false, false, false, false, false, false, false, false, false, false, false, false, false, false] rfl rfl (any_of HT_.out (by kernel_rfl)) (fun _ _ _ h => h) (Or.inl ⟨by rfl, ?_⟩) ?_ ?_
    rotate_left
    · intro w'
      go_simp
      with_reducible rfl
    rotate_left
    · simp only [Act.put, List.setIfInBounds_toArray, List.set_cons_zero, List.set_cons_succ, i64_w, i32_w]
      rfl
    refine pure_ (i := 19) (N := some 59) (v := ?_) (a' := ?_) #[true, true, true, true, true, true, true, true, true, true, true, true, true, true, true, true, true, true, true, true, false, false, false, false, false, false, false, false, false, false, false, false, false, false, false, false] rfl rfl (any_of HT_.out (by kernel_rfl)) (fun _ _ _ h => h) (Or.inl ⟨by rfl, ?_⟩) ?_ ?_
    rotate_left
    · intro w'
      go_simp
      with_reducible rfl
    rotate_left
    · simp only [Act.put, List.setIfInBounds_toArray, List.set_cons_zero, List.set_cons_succ, i64_w, i32_w]
      rfl
    refine pure_ (i := 20) (N := some 60) (v := ?_) (a' := ?_) #[true, true, true, true, true, true, true, true, true, true, true, true, true, true, true, true, true, true, true, true, true, false, false, false, false, false, false, false, false, false, false, false, false, false, false, false] rfl rfl (any_of HT_.out (by kernel_rfl)) (fun _ _ _ h => h) (Or.inl ⟨by rfl, ?_⟩) ?_ ?_
    rotate_left
    · intro w'
      go_simp
      with_reducible rfl
    rotate_left
    · simp only [Act.put, List.setIfInBounds_toArray, List.set_cons_zero, List.set_cons_succ, i64_w, i32_w]
      rfl
    refine pure_ (i := 21) (N := some 61) (v := ?_) (a' := ?_) #[true, true, true, true, true, true, true, true, true, true, true, true, true, true, true, true, true, true, true, true, true, true, false, false, false, false, false, false, false, false, false, false, false, false, false, false] rfl rfl (any_of HT_.out (by kernel_rfl)) (fun _ _ _ h => h) (Or.inl ⟨by rfl, ?_⟩) ?_ ?_
    rotate_left
    · intro w'
      go_simp
      with_reducible rfl
    rotate_left
    · simp only [Act.put, List.setIfInBounds_toArray, List.set_cons_zero, List.set_cons_succ, i64_w, i32_w]
      rfl
    refine pure_ (i := 22) (N := some 62) (v := ?_) (a' := ?_) #[true, true, true, true, true, true, true, true, true, true, true, true, true, true, true, true, true, true, true, true, true, true, true, false, false, false, false, false, false, false, false, false, false, false, false, false] rfl rfl (any_of HT_.out (by kernel_rfl)) (fun _ _ _ h => h) (Or.inl ⟨by rfl, ?_⟩) ?_ ?_
    rotate_left
    · intro w'
      go_simp
      with_reducible rfl
    rotate_left
    · simp only [Act.put, List.setIfInBounds_toArray, List.set_cons_zero, List.set_cons_succ, i64_w, i32_w]
      rfl
    refine pure_ (i := 24) (N := some 63) (v := ?_) (a' := ?_) #[true, true, true, true, true, true, true, true, true, true, true, true, true, true, true, true, true, true, true, true, true, true, true, false, true, false, false, false, false, false, false, false, false, false, false, false] rfl rfl (any_of HT_.out (by kernel_rfl)) (fun _ _ _ h => h) (Or.inl ⟨by rfl, ?_⟩) ?_ ?_
    rotate_left
    · intro w'
      go_simp
      with_reducible rfl
    rotate_left
    · simp only [Act.put, List.setIfInBounds_toArray, List.set_cons_zero, List.set_cons_succ, i64_w, i32_w]
      rfl
    refine pure_ (i := 25) (N := some 64) (v := ?_) (a' := ?_) #[true, true, true, true, true, true, true, true, true, true, true, true, true, true, true, true, true, true, true, true, true, true, true, false, true, true, false, false, false, false, false, false, false, false, false, false] rfl rfl (any_of HT_.out (by kernel_rfl)) (fun _ _ _ h => h) (Or.inl ⟨by rfl, ?_⟩) ?_ ?_
    rotate_left
    · intro w'
      go_simp
      with_reducible rfl
    rotate_left
    · simp only [Act.put, List.setIfInBounds_toArray, List.set_cons_zero, List.set_cons_succ, i64_w, i32_w]
      rfl
    refine pure_ (i := 26) (N := some 65) (v := ?_) (a' := ?_) #[true, true, true, true, true, true, true, true, true, true, true, true, true, true, true, true, true, true, true, true, true, true, true, false, true, true, true, false, false, false, false, false, false, false, false, false] rfl rfl (any_of HT_.out (by kernel_rfl)) (fun _ _ _ h => h) (Or.inl ⟨by rfl, ?_⟩) ?_ ?_
    rotate_left
    · intro w'
      go_simp
      with_reducible rfl
    rotate_left
    · simp only [Act.put, List.setIfInBounds_toArray, List.set_cons_zero, List.set_cons_succ, i64_w, i32_w]
      rfl
    refine pure_ (i := 27) (N := some 66) (v := ?_) (a' := ?_) #[true, true, true, true, true, true, true, true, true, true, true, true, true, true, true, true, true, true, true, true, true, true, true, false, true, true, true, true, false, false, false, false, false, false, false, false] rfl rfl (any_of HT_.out (by kernel_rfl)) (fun _ _ _ h => h) (Or.inl ⟨by rfl, ?_⟩) ?_ ?_
    rotate_left
    · intro w'
      go_simp
      with_reducible rfl
    rotate_left
    · simp only [Act.put, List.setIfInBounds_toArray, List.set_cons_zero, List.set_cons_succ, i64_w, i32_w]
      rfl
    refine pure_ (i := 30) (N := some 68) (v := ?_) (a' := ?_) #[true, true, true, true, true, true, true, true, true, true, true, true, true, true, true, true, true, true, true, true, true, true, true, false, true, true, true, true, false, false, true, false, false, false, false, false] rfl rfl (any_of HT_.out (by kernel_rfl)) (fun _ _ _ h => h) (Or.inl ⟨by rfl, ?_⟩) ?_ ?_
    rotate_left
    · intro w'
      go_simp
      with_reducible rfl
    rotate_left
    · simp only [Act.put, List.setIfInBounds_toArray, List.set_cons_zero, List.set_cons_succ, i64_w, i32_w]
      rfl
    refine pure_ (i := 31) (N := some 69) (v := ?_) (a' := ?_) #[true, true, true, true, true, true, true, true, true, true, true, true, true, true, true, true, true, true, true, true, true, true, true, false, true, true, true, true, false, false, true, true, false, false, false, false] rfl rfl (any_of HT_.out (by kernel_rfl)) (fun _ _ _ h => h) (Or.inl ⟨by rfl, ?_⟩) ?_ ?_
    rotate_left
    · intro w'
      go_simp
      with_reducible rfl
    rotate_left
    · simp only [Act.put, List.setIfInBounds_toArray, List.set_cons_zero, List.set_cons_succ, i64_w, i32_w]
      rfl
    refine pure_ (i := 32) (N := some 70) (v := ?_) (a' := ?_) #[true, true, true, true, true, true, true, true, true, true, true, true, true, true, true, true, true, true, true, true, true, true, true, false, true, true, true, true, false, false, true, true, true, false, false, false] rfl rfl (any_of HT_.out (by kernel_rfl)) (fun _ _ _ h => h) (Or.inl ⟨by rfl, ?_⟩) ?_ ?_
    rotate_left
    · intro w'
      go_simp
      with_reducible rfl
    rotate_left
    · simp only [Act.put, List.setIfInBounds_toArray, List.set_cons_zero, List.set_cons_succ, i64_w, i32_w]
      rfl
    refine pure_ (i := 33) (N := some 71) (v := ?_) (a' := ?_) #[true, true, true, true, true, true, true, true, true, true, true, true, true, true, true, true, true, true, true, true, true, true, true, false, true, true, true, true, false, false, true, true, true, true, false, false] rfl rfl (any_of HT_.out (by kernel_rfl)) (fun _ _ _ h => h) (Or.inl ⟨by rfl, ?_⟩) ?_ ?_
    rotate_left
    · intro w'
      go_simp
      with_reducible rfl
    rotate_left
    · simp only [Act.put, List.setIfInBounds_toArray, List.set_cons_zero, List.set_cons_succ, i64_w, i32_w]
      rfl
    obtain ⟨x0_, hc0_, hf0_⟩ := tbl_cell HB2.out (1 + i.toNat * 49 + k.toNat * 7 + j.toNat) B4.out
    refine one_ (i := 23) (N := none) #[true, true, true, true, true, true, true, true, true, true, true, true, true, true, true, true, true, true, true, true, true, true, true, true, true, true, true, true, false, false, true, true, true, true, false, false] rfl rfl (one_of HT_.out (by kernel_rfl)) (by decide) (fun K hK => ?_)
    refine skip_ (w1 := ?_) (by rfl) rfl ?_ ?_
    rotate_left
    · go_simp
      rfl
    refine hK.out _ _ trivial (fun _ => ?_)
    clear hK K hc0_ hf0_
    have HB20 := Aside0.mk (tbl_set HB2.out (1 + i.toNat * 49 + k.toNat * 7 + j.toNat) (wrap64 (-v)))
    have HK20 := Aside0.mk (Kept.setCell (p := ⟨g, (1 + i.toNat * 49 + k.toNat * 7 + j.toNat), none⟩) HK2.out (.inl HG.out) (.int .i64 (wrap64 (-v))))
    have HD20 := Aside0.mk (below_set (g := g) (j := (1 + i.toNat * 49 + k.toNat * 7 + j.toNat)) (v := .int .i64 (wrap64 (-v))) HD2.out GE.out)
    refine pure_ (i := 28) (N := some 67) (v := ?_) (a' := ?_) #[true, true, true, true, true, true, true, true, true, true, true, true, true, true, true, true, true, true, true, true, true, true, true, true, true, true, true, true, true, false, true, true, true, true, false, false] rfl rfl (any_of HT_.out (by kernel_rfl)) (fun _ _ _ h => h) (Or.inl ⟨by rfl, ?_⟩) ?_ ?_
    rotate_left
    · intro w'
      go_simp
      with_reducible rfl
    rotate_left
    · simp only [Act.put, List.setIfInBounds_toArray, List.set_cons_zero, List.set_cons_succ, i64_w, i32_w]
      rfl
    obtain ⟨x1_, hc1_, hf1_⟩ := tbl_cell HB20.out (1 + k.toNat * 49 + j.toNat * 7 + i.toNat) B5.out
    refine one_ (i := 29) (N := none) #[true, true, true, true, true, true, true, true, true, true, true, true, true, true, true, true, true, true, true, true, true, true, true, true, true, true, true, true, true, true, true, true, true, true, false, false] rfl rfl (one_of HT_.out (by kernel_rfl)) (by decide) (fun K hK => ?_)
    refine skip_ (w1 := ?_) (by rfl) rfl ?_ ?_
    rotate_left
    · go_simp
      rfl
    refine hK.out _ _ trivial (fun _ => ?_)
    clear hK K hc1_ hf1_
    have HB201 := Aside0.mk (tbl_set HB20.out (1 + k.toNat * 49 + j.toNat * 7 + i.toNat) (wrap64 (-v)))
    have HK201 := Aside0.mk (Kept.setCell (p := ⟨g, (1 + k.toNat * 49 + j.toNat * 7 + i.toNat), none⟩) HK20.out (.inl HG.out) (.int .i64 (wrap64 (-v))))
    have HD201 := Aside0.mk (below_set (g := g) (j := (1 + k.toNat * 49 + j.toNat * 7 + i.toNat)) (v := .int .i64 (wrap64 (-v))) HD20.out GE.out)
    refine pure_ (i := 34) (N := some 72) (v := ?_) (a' := ?_) #[true, true, true, true, true, true, true, true, true, true, true, true, true, true, true, true, true, true, true, true, true, true, true, true, true, true, true, true, true, true, true, true, true, true, true, false] rfl rfl (any_of HT_.out (by kernel_rfl)) (fun _ _ _ h => h) (Or.inl ⟨by rfl, ?_⟩) ?_ ?_
    rotate_left
    · intro w'
      go_simp
      with_reducible rfl
    rotate_left
    · simp only [Act.put, List.setIfInBounds_toArray, List.set_cons_zero, List.set_cons_succ, i64_w, i32_w]
      rfl
    obtain ⟨x2_, hc2_, hf2_⟩ := tbl_cell HB201.out (1 + j.toNat * 49 + i.toNat * 7 + k.toNat) B6.out
    refine one_ (i := 35) (N := none) #[true, true, true, true, true, true, true, true, true, true, true, true, true, true, true, true, true, true, true, true, true, true, true, true, true, true, true, true, true, true, true, true, true, true, true, true] rfl rfl (one_of HT_.out (by kernel_rfl)) (by decide) (fun K hK => ?_)
    refine skip_ (w1 := ?_) (by rfl) rfl ?_ ?_
    rotate_left
    · go_simp
      rfl
    refine hK.out _ _ trivial (fun _ => ?_)
    clear hK K hc2_ hf2_
    have HB2012 := Aside0.mk (tbl_set HB201.out (1 + j.toNat * 49 + i.toNat * 7 + k.toNat) (wrap64 (-v)))
    have HK2012 := Aside0.mk (Kept.setCell (p := ⟨g, (1 + j.toNat * 49 + i.toNat * 7 + k.toNat), none⟩) HK201.out (.inl HG.out) (.int .i64 (wrap64 (-v))))
    have HD2012 := Aside0.mk (below_set (g := g) (j := (1 + j.toNat * 49 + i.toNat * 7 + k.toNat)) (v := .int .i64 (wrap64 (-v))) HD201.out GE.out)
    refine done_ (done_of HT_.out (by kernel_rfl)) ?_
    clear HT_ HW_
    try go_wp2
    go_end0
    exact ⟨rfl, HB2012.out, HD2012.out, HK2012.out⟩
end Go.Proofs.Ytbglgapndefcfaa.P
namespace Go.Proofs.Ytbglgapndefcfaa.P
open Go.RowKit Go.Proofs.YtbglgapndefcfaaW.PrintWords Go.Proofs.YtbglgapndefcfaaW.PrintLast Go.Proofs.YtbglgapndefcfaaW.PrintMore
attribute [local go_sem] ptrOf_slice
attribute [local go_sem] max2_int min2_int max_two min_two max_three min_three max_four min_four
set_option linter.unusedVariables false
set_option linter.unusedSimpArgs false
def impl_tableOf.l0 : Nat → List Int → List (S107) → Int → Int → Int → ByteArray → Option (List Int)
 | 0, _, _, _, _, _, _ => none
 | k + 1, x3, x13, x14, x15, x172000, x172001 => if x15 < x14 then (if 0 ≤ x15 then (if x15 < (x13.length : Int) then (if x15 < (x172001.size : Int) then (if (bt x172001 x15) = 45 then ((impl_chi_set.f x3 ((rd_T107 x13 x15).f0) ((rd_T107 x13 x15).f1) ((rd_T107 x13 x15).f2) (-1)).bind fun t180 => (impl_tableOf.l0 k t180 x13 x14 (wrap64 (x15 + 1)) x172000 x172001)) else ((impl_chi_set.f x3 ((rd_T107 x13 x15).f0) ((rd_T107 x13 x15).f1) ((rd_T107 x13 x15).f2) 1).bind fun t181 => (impl_tableOf.l0 k t181 x13 x14 (wrap64 (x15 + 1)) x172000 x172001))) else (none)) else (none)) else (none)) else (some x3)
def impl_tableOf.f (k : Nat) (a0_0 : Int) (a0_1 : ByteArray) : Option (List Int) := (impl_triplesOf.f k a0_0).bind fun t175 => (impl_tableOf.l0 k (chiNew a0_0) t175 (t175.length : Int) 0 a0_0 a0_1)
theorem impl_tableOf.mono_l : ∀ k, (∀ y0 y1 y2 y3 y4 y5, LeO (impl_tableOf.l0 k y0 y1 y2 y3 y4 y5) (impl_tableOf.l0 (k + 1) y0 y1 y2 y3 y4 y5))
 | 0 => fun _ _ _ _ _ _ r h => by simp [impl_tableOf.l0] at h
 | k + 1 => by
  have ih0 := impl_tableOf.mono_l k
  ·intro y0 y1 y2 y3 y4 y5
   unfold impl_tableOf.l0
   repeat' first
   | (with_reducible exact ih0 _ _ _ _ _ _)
   | (with_reducible exact impl_triplesOf.mono _ _)
   | (with_reducible exact LeO.refl _)
   | (with_reducible exact LeO.none _)
   | (with_reducible refine LeO.ite ?_ ?_)
   | (with_reducible refine LeO.bind ?_ (fun _ => ?_))
   | exact ih0 _ _ _ _ _ _
   | exact impl_triplesOf.mono _ _
   | exact LeO.none _
   | refine LeO.ite ?_ ?_
   | refine LeO.bind ?_ (fun _ => ?_)
theorem impl_tableOf.mono : ∀ a0 a1 k, LeO (impl_tableOf.f k a0 a1) (impl_tableOf.f (k + 1) a0 a1) := by
 intro a0 a1 k
 have ih0 := impl_tableOf.mono_l k
 unfold impl_tableOf.f
 repeat' first
   | (with_reducible exact ih0 _ _ _ _ _ _)
   | (with_reducible exact impl_triplesOf.mono _ _)
   | (with_reducible exact LeO.refl _)
   | (with_reducible exact LeO.none _)
   | (with_reducible refine LeO.ite ?_ ?_)
   | (with_reducible refine LeO.bind ?_ (fun _ => ?_))
   | exact ih0 _ _ _ _ _ _
   | exact impl_triplesOf.mono _ _
   | exact LeO.none _
   | refine LeO.ite ?_ ?_
   | refine LeO.bind ?_ (fun _ => ?_)
set_option maxHeartbeats 8000000 in
set_option maxRecDepth 100000 in
theorem impl_tableOf.calls (k : Nat) (a0_0 : Int) (a0_1 : ByteArray) (r : List Int) (w : World) (h : impl_tableOf.f k a0_0 a0_1 = some r) :
  Calls Try.prog 95 #[.agg #[.int .i64 a0_0, .string a0_1]] w fun e w' => ∃ v0_ : Value, e = .returned (ptrOf v0_) ∧ Kd.R (Kd.int .i64) 82 w' w.heap.size (fun _ => True) v0_ r ∧ Below w.heap.size w w' := by
 have hu26 := Try.underlying26
 have hu107 := Try.underlying107
 have HB := Aside0.mk (Below.refl w.heap.size w)
 have H : ((impl_triplesOf.f k a0_0).bind fun t175 => (impl_tableOf.l0 k (chiNew a0_0) t175 (t175.length : Int) 0 a0_0 a0_1)) = some r := h
 clear h
 obtain ⟨y172, hy172⟩ : ∃ y_ : List Int, y_ = (chiNew a0_0) := ⟨_, rfl⟩
 replace H : ((impl_triplesOf.f k a0_0).bind fun t175 => (impl_tableOf.l0 k y172 t175 (t175.length : Int) 0 a0_0 a0_1)) = some r := by first | (rw [hy172]; with_reducible exact H) | (have H2_ := (Option.bind_some _ _).symm.trans H; rw [hy172]; with_reducible exact H2_) | (have H2_ := (Option.bind_some _ _).symm.trans H; with_reducible exact H2_) | with_reducible exact H | (rw [hy172]; exact H) | exact H
 have Ny172 := Aside0.mk hy172
 clear hy172
 replace H := Option.bind_eq_some_iff.mp H
 obtain ⟨t175, A20, H⟩ := H
 replace H : (impl_tableOf.l0 k y172 t175 (t175.length : Int) 0 a0_0 a0_1) = some r := H
 have A2 := Aside0.mk A20
 clear A20
 have H' := Aside0.mk H
 clear H
 go_enter Try.func95, Try.ntmps95
 go_wp2_with (first | ((with_reducible refine gate_dst (N := 1) rfl ?_); refine box_event ?hg (N := 1) ?hd (cs := #[.int .i64 a0_0, .string a0_1]) (t := 26) ?hr ?_; (case hd => rfl); (case hg => rfl); (case hr => first | (go_simp; done) | (go_simp; rfl)); intro gb171 hg w3 hbox hb; have n0_ := Aside0.mk (below_step (by repeat (first | (with_reducible first | exact HB.out | apply below_alloc | apply pw_below_drewN | apply below_drew1) | exact HB.out)) hb); have n1_ := Aside0.mk (hbox); have n2_ := Aside0.mk ((by rw [hg]; exact (below_size (by repeat (first | (with_reducible first | exact HB.out | apply below_alloc | apply pw_below_drewN | apply below_drew1) | exact HB.out))) : w.heap.size ≤ gb171)); have n3_ := Aside0.mk ((by rw [hg]; exact (below_size (by repeat (first | (with_reducible first | exact HB.out | apply below_alloc | apply pw_below_drewN | apply below_drew1) | exact HB.out))) : w.heap.size ≤ gb171)); clear HB; have HB := n0_; have BK171 := n1_; have GW171 := n2_; have GE171 := n3_; clear n0_ n1_ n2_ n3_; clear hb hbox hg; have hcz4_0 : w3.cell? ⟨gb171, 0, none⟩ = some (.int .i64 a0_0) := (blk_cell BK171.out 0).trans rfl; have hcz4_1 : w3.cell? ⟨gb171, 1, none⟩ = some (.string a0_1) := (blk_cell BK171.out 1).trans rfl; have hfz4_0 := blk_frozen BK171.out 0; have hfz4_1 := blk_frozen BK171.out 1) | ((with_reducible refine gate_dst (N := 9) rfl ?_); refine chi_build (N := 9) ?hg ?hd (n := a0_0) ?hr ?_; (case hd => rfl); (case hg => rfl); (case hr => first | (go_simp; done) | (go_simp; rfl))) | ((with_reducible refine gate_dst (N := 10) rfl ?_); refine chi_make _ 82 ?hg (N := 10) ?hd (n := a0_0) (ok := fun _ => True) ?hr trivial (Below.refl _ _) (Nat.le_refl _) ?_; (case hd => rfl); (case hg => rfl); (case hr => first | (go_simp; done) | (go_simp; rfl)); intro v173 w5 ho6 hb hg_ hnew_; clear hg_ hnew_; (first | rw [← Ny172.out] at ho6 | (simp only [Int.reduceToNat] at ho6; rw [← Ny172.out] at ho6)); have n0_ := Aside0.mk (Kd.R_lower ho6 (below_size (by repeat (first | (with_reducible first | exact HB.out | apply below_alloc | apply pw_below_drewN | apply below_drew1 | refine below_set ?_ GE171.out) | exact HB.out)))); have n1_ := Aside0.mk (blk_below (g := gb171) (o := .cells #[.int .i64 a0_0, .string a0_1] 26 (0, 0)) (by (with_reducible repeat (first | refine blk_drewN ?_ _ | refine blk_drew ?_ | refine blk_alloc ?_ _)); exact BK171.out) hb); have n2_ := Aside0.mk (below_step (by repeat (first | (with_reducible first | exact HB.out | apply below_alloc | apply pw_below_drewN | apply below_drew1 | refine below_set ?_ GE171.out) | exact HB.out)) hb); clear BK171; clear HB; have HO174 := n0_; have BK171 := n1_; have HB := n2_; clear n0_ n1_ n2_; clear hb ho6; have hcz7_0 : w5.cell? ⟨gb171, 0, none⟩ = some (.int .i64 a0_0) := (blk_cell BK171.out 0).trans rfl; have hcz7_1 : w5.cell? ⟨gb171, 1, none⟩ = some (.string a0_1) := (blk_cell BK171.out 1).trans rfl; have hfz7_0 := blk_frozen BK171.out 0; have hfz7_1 := blk_frozen BK171.out 1) | ((with_reducible refine gate_callee (f := 128) rfl ?_); refine goesL_ (some 13) rfl rfl Try.func128 (by kernel_rfl) rfl #[.int .i64 a0_0] rfl (by (try simp only [List.map_toArray, List.map_cons, List.map_nil]); first | done | rfl | (simp only [List.length_drop, List.length_take]; rfl)) ?_; (with_reducible refine (impl_triplesOf.calls k a0_0 t175 _ A2.out).mono ?_); rintro e w8 ⟨v176, rfl, ho0, hb⟩; refine ⟨_, rfl, ?_⟩; have n0_ := Aside0.mk (Kd.R_below (by (with_reducible repeat (first | apply Kd.R_alloc | apply Kd.R_drewN | apply Kd.R_drew)); exact HO174.out) hb); have n1_ := Aside0.mk (Kd.R_lower ho0 (below_size (by repeat (first | (with_reducible first | exact HB.out | apply below_alloc | apply pw_below_drewN | apply below_drew1 | refine below_set ?_ GE171.out) | exact HB.out)))); have n2_ := Aside0.mk (blk_below (g := gb171) (o := .cells #[.int .i64 a0_0, .string a0_1] 26 (0, 0)) (by (with_reducible repeat (first | refine blk_drewN ?_ _ | refine blk_drew ?_ | refine blk_alloc ?_ _)); exact BK171.out) hb); have n3_ := Aside0.mk (below_step (by repeat (first | (with_reducible first | exact HB.out | apply below_alloc | apply pw_below_drewN | apply below_drew1 | refine below_set ?_ GE171.out) | exact HB.out)) hb); clear HO174; clear BK171; clear HB; have HO174 := n0_; have HO177 := n1_; have BK171 := n2_; have HB := n3_; clear n0_ n1_ n2_ n3_; (try clear hb); (try clear hb2); (try clear hk); (try clear hi); (try clear ho0); obtain ⟨Ao9, co9, eo9⟩ := Kd.R_slice HO177.out; subst eo9))
 go_loopg [15] k (fun kq v15 w' => ∃ (x3_1 : List Int) (x15_1 : Int), v15 = .int .i64 x15_1 ∧ Aside0 (impl_tableOf.l0 kq x3_1 t175 (t175.length : Int) x15_1 a0_0 a0_1 = some r) ∧ Aside0 (kq ≤ k) ∧ Aside0 (Kd.R (Kd.int .i64) 82 w' w.heap.size (fun _ => True) v173 x3_1) ∧ Aside0 (Kd.R k107 107 w' w.heap.size (fun _ => True) (.slice Ao9 t175.length co9) t175) ∧ Aside0 (w'.heap[gb171]? = some (.cells #[.int .i64 a0_0, .string a0_1] 26 (0, 0))) ∧ Aside0 (Below w.heap.size w w'))
 case atStart => exact ⟨(y172), (0), (by first | rfl | (simp; done) | (simp [*]; done)), H', ⟨Nat.le_refl _⟩, ⟨by (with_reducible repeat (first | apply Kd.R_alloc | apply Kd.R_drewN | apply Kd.R_drew)); exact HO174.out⟩, ⟨by (with_reducible repeat (first | apply Kd.R_alloc | apply Kd.R_drewN | apply Kd.R_drew)); exact HO177.out⟩, ⟨by (with_reducible repeat (first | refine blk_drewN ?_ _ | refine blk_drew ?_ | refine blk_alloc ?_ _)); exact BK171.out⟩, ⟨by repeat (first | (with_reducible first | exact HB.out | apply below_alloc | apply pw_below_drewN | apply below_drew1 | refine below_set ?_ GE171.out) | exact HB.out)⟩⟩
 case round =>
  clear H'
  try clear c1
  try clear p2
  try clear c9
  try clear hcz4_0
  try clear hcz4_1
  try clear hcz7_0
  try clear hcz7_1
  try clear hfz4_0
  try clear hfz4_1
  try clear hfz7_0
  try clear hfz7_1
  obtain ⟨x3_1, x15_1, rfl, HA, HK1, HO_3, HO_13, BK171, HB⟩ := hrel
  cases gk with
  | zero => exact absurd HA.out (by simp [impl_tableOf.l0])
  | succ k1 =>
   have H := HA.out
   clear HA
   simp only [impl_tableOf.l0] at H
   by_cases c10 : x15_1 < (t175.length : Int)
   ·rw [if_pos c10] at H
    have c10b0 : decide (x15_1 < (t175.length : Int)) = true := decide_eq_true c10
    clear c10
    by_cases c11 : 0 ≤ x15_1
    ·rw [if_pos c11] at H
     have c11b0 : decide (0 ≤ x15_1) = true := decide_eq_true c11
     clear c11
     by_cases c12 : x15_1 < (t175.length : Int)
     ·rw [if_pos c12] at H
      have c12b0 : decide (x15_1 < (t175.length : Int)) = true := decide_eq_true c12
      clear c12
      by_cases c13 : x15_1 < (a0_1.size : Int)
      ·rw [if_pos c13] at H
       have c13b0 : decide (x15_1 < (a0_1.size : Int)) = true := decide_eq_true c13
       clear c13
       by_cases c15 : (bt a0_1 x15_1) = 45
       ·rw [if_pos c15] at H
        have c15b0 : ((bt a0_1 x15_1) == 45) = true := beq_iff_eq.mpr c15
        have c15b1 : ((bt a0_1 x15_1) != 45) = false := bne_eq_false_iff_eq.mpr c15
        clear c15
        replace H := Option.bind_eq_some_iff.mp H
        obtain ⟨t180, A160, H⟩ := H
        replace H : (impl_tableOf.l0 k1 t180 t175 (t175.length : Int) (wrap64 (x15_1 + 1)) a0_0 a0_1) = some r := H
        have A16 := Aside0.mk A160
        clear A160
        have H' := Aside0.mk H
        clear H
        have p178 : 0 ≤ (x15_1 : Int) := of_decide_eq_true (by first | (with_reducible assumption) | assumption)
        have q178 : x15_1 < (t175.length : Int) := of_decide_eq_true (by first | (with_reducible assumption) | assumption)
        obtain ⟨ad178, e178, hx178_0, hx178_1, hx178_2⟩ := at_T107 (Kd.R_reads' HO_13.out).2.2 x15_1 p178 q178
        cases e178
        replace p178 := eq_true p178
        replace q178 := eq_true q178
        go_wp2_with (first | ((with_reducible refine gate_dst (N := 5) rfl ?_); refine box_event ?hg (N := 5) ?hd (cs := #[.int .i64 0, .int .i64 0, .int .i64 0]) (t := 107) ?hr ?_; (case hd => rfl); (case hg => rfl); (case hr => first | (go_simp; done) | (go_simp; rfl)); intro gb179 hg w17 hbox hb; have n0_ := Aside0.mk (Kd.R_below (by (with_reducible repeat (first | apply Kd.R_alloc | apply Kd.R_drewN | apply Kd.R_drew)); exact HO_3.out) hb); have n1_ := Aside0.mk (Kd.R_below (Kd.R_elderB (by (with_reducible repeat (first | apply Kd.R_alloc | apply Kd.R_drewN | apply Kd.R_drew)); exact HO_13.out) gb179 (Nat.le_of_eq hg.symm)) hb); have n2_ := Aside0.mk (blk_below (g := gb171) (o := .cells #[.int .i64 a0_0, .string a0_1] 26 (0, 0)) (by (with_reducible repeat (first | refine blk_drewN ?_ _ | refine blk_drew ?_ | refine blk_alloc ?_ _)); exact BK171.out) hb); have n3_ := Aside0.mk (below_step (by repeat (first | (with_reducible first | exact HB.out | apply below_alloc | apply pw_below_drewN | apply below_drew1 | refine below_set ?_ GE171.out) | exact HB.out)) hb); have n4_ := Aside0.mk (hbox); have n5_ := Aside0.mk ((by rw [hg]; exact (below_size (by repeat (first | (with_reducible first | exact HB.out | apply below_alloc | apply pw_below_drewN | apply below_drew1 | refine below_set ?_ GE171.out) | exact HB.out))) : w.heap.size ≤ gb179)); have n6_ := Aside0.mk ((by rw [hg]; exact (below_size (by repeat (first | (with_reducible first | exact HB.out | apply below_alloc | apply pw_below_drewN | apply below_drew1 | refine below_set ?_ GE171.out) | exact HB.out))) : w.heap.size ≤ gb179)); have n7_ := Aside0.mk ((by rw [hg]; exact Nat.ne_of_lt (blk_lt (g := gb171) (o := .cells #[.int .i64 a0_0, .string a0_1] 26 (0, 0)) (by (with_reducible repeat (first | refine blk_drewN ?_ _ | refine blk_drew ?_ | refine blk_alloc ?_ _)); exact BK171.out)) : gb171 ≠ gb179)); have n8_ := Aside0.mk ((by rw [hg]; exact Nat.ne_of_gt (blk_lt (g := gb171) (o := .cells #[.int .i64 a0_0, .string a0_1] 26 (0, 0)) (by (with_reducible repeat (first | refine blk_drewN ?_ _ | refine blk_drew ?_ | refine blk_alloc ?_ _)); exact BK171.out)) : gb179 ≠ gb171)); clear HO_3; clear HO_13; clear BK171; clear HB; have HO_3 := n0_; have HO_13 := n1_; have BK171 := n2_; have HB := n3_; have BK179 := n4_; have GW179 := n5_; have GE179 := n6_; have NB171_179 := n7_; have NB179_171 := n8_; clear n0_ n1_ n2_ n3_ n4_ n5_ n6_ n7_ n8_; clear hb hbox hg; have hnb18 := NB179_171.out; have hnc18 := NB171_179.out; have hcz19_0 : w17.cell? ⟨gb179, 0, none⟩ = some (.int .i64 0) := (blk_cell BK179.out 0).trans rfl; have hcz19_1 : w17.cell? ⟨gb179, 1, none⟩ = some (.int .i64 0) := (blk_cell BK179.out 1).trans rfl; have hcz19_2 : w17.cell? ⟨gb179, 2, none⟩ = some (.int .i64 0) := (blk_cell BK179.out 2).trans rfl; have hfz19_0 := blk_frozen BK179.out 0; have hfz19_1 := blk_frozen BK179.out 1; have hfz19_2 := blk_frozen BK179.out 2) | ((with_reducible refine gate_store (t := 107) (p := 5) rfl ?_); refine store_event (t := 107) (p := 5) (v := ?vo_w20) (w1 := (((w17.setCell ⟨gb179, 0, none⟩ (.int .i64 ((rd_T107 t175 x15_1).f0))).setCell ⟨gb179, 1, none⟩ (.int .i64 ((rd_T107 t175 x15_1).f1))).setCell ⟨gb179, 2, none⟩ (.int .i64 ((rd_T107 t175 x15_1).f2)))) ?hg ?ho ?hn ?hr ?_; (case ho => rfl); (case hg => rfl); (case hn => rfl); (case hr => first | (go_simp; done) | (go_simp; rfl)); intro w20 hw; have n0_ : Aside0 (Kd.R (Kd.int .i64) 82 w20 w.heap.size (fun _ => True) v173 x3_1) := ⟨(by rw [hw]; exact (by (with_reducible repeat (first | apply Kd.R_alloc | apply Kd.R_drewN | apply Kd.R_drew)); exact Kd.R_mono (Kd.R_far (p := ⟨gb179, 2, none⟩) (Kd.R_far (p := ⟨gb179, 1, none⟩) (Kd.R_far (p := ⟨gb179, 0, none⟩) (Kd.R_types HO_3.out BK179.out (by decide)) (fun _ hk => hk.2) (.int .i64 ((rd_T107 t175 x15_1).f0))) (fun _ hk => hk.2) (.int .i64 ((rd_T107 t175 x15_1).f1))) (fun _ hk => hk.2) (.int .i64 ((rd_T107 t175 x15_1).f2))) (fun _ hk => trivial)))⟩; have n1_ : Aside0 (Kd.R k107 107 w20 w.heap.size (fun k_ => k_ ≠ gb179) (.slice (some ad178) t175.length co9) t175) := ⟨(by rw [hw]; exact (by (with_reducible repeat (first | apply Kd.R_alloc | apply Kd.R_drewN | apply Kd.R_drew)); exact Kd.R_mono (Kd.R_far (p := ⟨gb179, 2, none⟩) (Kd.R_far (p := ⟨gb179, 1, none⟩) (Kd.R_far (p := ⟨gb179, 0, none⟩) (Kd.R_mono HO_13.out (fun k_ hk => (⟨hk, hk.2⟩ : _ ∧ k_ ≠ gb179))) (fun _ hk => hk.2) (.int .i64 ((rd_T107 t175 x15_1).f0))) (fun _ hk => hk.2) (.int .i64 ((rd_T107 t175 x15_1).f1))) (fun _ hk => hk.2) (.int .i64 ((rd_T107 t175 x15_1).f2))) (fun _ hk => hk.1.2)))⟩; have n2_ : Aside0 (w20.heap[gb171]? = some (.cells #[.int .i64 a0_0, .string a0_1] 26 (0, 0))) := ⟨(by rw [hw]; exact (by (with_reducible repeat (first | refine blk_drewN ?_ _ | refine blk_drew ?_ | refine blk_alloc ?_ _)); refine blk_far ?_ NB171_179.out _; (with_reducible repeat (first | refine blk_drewN ?_ _ | refine blk_drew ?_ | refine blk_alloc ?_ _)); refine blk_far ?_ NB171_179.out _; (with_reducible repeat (first | refine blk_drewN ?_ _ | refine blk_drew ?_ | refine blk_alloc ?_ _)); refine blk_far ?_ NB171_179.out _; (with_reducible repeat (first | refine blk_drewN ?_ _ | refine blk_drew ?_ | refine blk_alloc ?_ _)); exact BK171.out))⟩; have n3_ : Aside0 (w20.heap[gb179]? = some (.cells #[.int .i64 ((rd_T107 t175 x15_1).f0), .int .i64 ((rd_T107 t175 x15_1).f1), .int .i64 ((rd_T107 t175 x15_1).f2)] 107 (0, 0))) := ⟨(by rw [hw]; exact (by (with_reducible repeat (first | refine blk_drewN ?_ _ | refine blk_drew ?_ | refine blk_alloc ?_ _)); refine blk_put (cs := #[.int .i64 ((rd_T107 t175 x15_1).f0), .int .i64 ((rd_T107 t175 x15_1).f1), .int .i64 0]) ?_ 2 _ rfl; (with_reducible repeat (first | refine blk_drewN ?_ _ | refine blk_drew ?_ | refine blk_alloc ?_ _)); refine blk_put (cs := #[.int .i64 ((rd_T107 t175 x15_1).f0), .int .i64 0, .int .i64 0]) ?_ 1 _ rfl; (with_reducible repeat (first | refine blk_drewN ?_ _ | refine blk_drew ?_ | refine blk_alloc ?_ _)); refine blk_put (cs := #[.int .i64 0, .int .i64 0, .int .i64 0]) ?_ 0 _ rfl; (with_reducible repeat (first | refine blk_drewN ?_ _ | refine blk_drew ?_ | refine blk_alloc ?_ _)); exact BK179.out))⟩; have n4_ : Aside0 (Below w.heap.size w w20) := ⟨(by rw [hw]; exact (by repeat (first | (with_reducible first | exact HB.out | apply below_alloc | apply pw_below_drewN | apply below_drew1 | refine below_set ?_ GE171.out | refine below_set ?_ GE179.out) | exact HB.out)))⟩; clear hw; clear HO_3; clear HO_13; clear BK171; clear BK179; clear HB; have HO_3 := n0_; have HO_13 := n1_; have BK171 := n2_; have BK179 := n3_; have HB := n4_; clear n0_ n1_ n2_ n3_ n4_; have hcz21_0 : w20.cell? ⟨gb171, 0, none⟩ = some (.int .i64 a0_0) := (blk_cell BK171.out 0).trans rfl; have hcz21_1 : w20.cell? ⟨gb171, 1, none⟩ = some (.string a0_1) := (blk_cell BK171.out 1).trans rfl; have hfz21_0 := blk_frozen BK171.out 0; have hfz21_1 := blk_frozen BK171.out 1; have p14 : 0 ≤ (x15_1 : Int) := of_decide_eq_true (by first | (with_reducible assumption) | assumption); have q14 : x15_1 < (a0_1.size : Int) := of_decide_eq_true (by first | (with_reducible assumption) | assumption); have hx14 := bt_at a0_1 x15_1; replace p14 := eq_true p14; replace q14 := eq_true q14; have hcz22_0 : w20.cell? ⟨gb179, 0, none⟩ = some (.int .i64 ((rd_T107 t175 x15_1).f0)) := (blk_cell BK179.out 0).trans rfl; have hcz22_1 : w20.cell? ⟨gb179, 1, none⟩ = some (.int .i64 ((rd_T107 t175 x15_1).f1)) := (blk_cell BK179.out 1).trans rfl; have hcz22_2 : w20.cell? ⟨gb179, 2, none⟩ = some (.int .i64 ((rd_T107 t175 x15_1).f2)) := (blk_cell BK179.out 2).trans rfl; have hfz22_0 := blk_frozen BK179.out 0; have hfz22_1 := blk_frozen BK179.out 1; have hfz22_2 := blk_frozen BK179.out 2; obtain ⟨Ao23, co23, eo23⟩ := Kd.R_slice HO_3.out; subst eo23) | ((with_reducible refine gate_callee (f := 129) rfl ?_); refine goesL_ (some 33) rfl rfl Try.func129 (by kernel_rfl) rfl #[.pointer Ao23, .int .i64 ((rd_T107 t175 x15_1).f0), .int .i64 ((rd_T107 t175 x15_1).f1), .int .i64 ((rd_T107 t175 x15_1).f2), .int .i64 (-1)] rfl (by (try simp only [List.map_toArray, List.map_cons, List.map_nil]); first | done | rfl | (simp only [List.length_drop, List.length_take]; rfl)) ?_; (refine (impl_chi_set.calls (fun k_ => some k_ = (.slice Ao23 x3_1.length co23 : Value).ownBlock) (.slice Ao23 x3_1.length co23) x3_1 ((rd_T107 t175 x15_1).f0) ((rd_T107 t175 x15_1).f1) ((rd_T107 t175 x15_1).f2) (-1) t180 w _ ?side1 ?side2 A16.out).mono ?_); (case side1 => repeat (first | (with_reducible first | exact HB.out | apply below_alloc | apply pw_below_drewN | apply below_drew1 | refine below_set ?_ GE171.out | refine below_set ?_ GE179.out) | exact HB.out)); (case side2 => exact Kd.R_tight rfl HO_3.out); rintro e w24 ⟨rfl, hy0, hb, hkp⟩; refine ⟨_, rfl, ?_⟩; have n0_ := Aside0.mk (Kd.R_reok rfl hy0 (fun k_ e_ => HO_3.out.1 k_ e_)); have n1_ := Aside0.mk (Kd.R_mono (ok' := fun k_ => k_ ≠ gb179) (Kd.R_keptB ((Kd.R_apart' HO_13.out (Kd.R_typed HO_3.out) (by decide))) hkp (fun k_ hk_ hs_ => (hk_.2) hs_)) (fun k_ hk_ => hk_.1.1)); have n2_ := Aside0.mk (blk_kept (by (with_reducible repeat (first | refine blk_drewN ?_ _ | refine blk_drew ?_ | refine blk_alloc ?_ _)); exact BK171.out) hkp (fun hs_ => (fun e_ => (Kd.R_ne HO_3.out BK171.out (by decide)) e_) hs_)); have n3_ := Aside0.mk (blk_kept (by (with_reducible repeat (first | refine blk_drewN ?_ _ | refine blk_drew ?_ | refine blk_alloc ?_ _)); exact BK179.out) hkp (fun hs_ => (fun e_ => (Kd.R_ne HO_3.out BK179.out (by decide)) e_) hs_)); have n4_ := Aside0.mk (hb); clear HO_3; clear HO_13; clear BK171; clear BK179; clear HB; have HO_3 := n0_; have HO_13 := n1_; have BK171 := n2_; have BK179 := n3_; have HB := n4_; clear n0_ n1_ n2_ n3_ n4_; (try clear hb); (try clear hkp); (try clear hy0)))
        go_roundg k1
        case measure => have := HK1.out; omega
        case rel => exact ⟨(t180), (wrap64 (x15_1 + 1)), (by first | rfl | (simp; done) | (simp [*]; done)), H', ⟨by have := HK1.out; omega⟩, ⟨by (with_reducible repeat (first | apply Kd.R_alloc | apply Kd.R_drewN | apply Kd.R_drew)); exact HO_3.out⟩, ⟨by (with_reducible repeat (first | apply Kd.R_alloc | apply Kd.R_drewN | apply Kd.R_drew)); exact Kd.R_mono HO_13.out (fun _ hk => trivial)⟩, ⟨by (with_reducible repeat (first | refine blk_drewN ?_ _ | refine blk_drew ?_ | refine blk_alloc ?_ _)); exact BK171.out⟩, ⟨by repeat (first | (with_reducible first | exact HB.out | apply below_alloc | apply pw_below_drewN | apply below_drew1 | refine below_set ?_ GE171.out | refine below_set ?_ GE179.out) | exact HB.out)⟩⟩
       ·rw [if_neg c15] at H
        have c15b0 : ((bt a0_1 x15_1) == 45) = false := beq_eq_false_iff_ne.mpr c15
        have c15b1 : ((bt a0_1 x15_1) != 45) = true := bne_iff_ne.mpr c15
        replace H := Option.bind_eq_some_iff.mp H
        obtain ⟨t181, A250, H⟩ := H
        replace H : (impl_tableOf.l0 k1 t181 t175 (t175.length : Int) (wrap64 (x15_1 + 1)) a0_0 a0_1) = some r := H
        have A25 := Aside0.mk A250
        clear A250
        have H' := Aside0.mk H
        clear H
        have p178 : 0 ≤ (x15_1 : Int) := of_decide_eq_true (by first | (with_reducible assumption) | assumption)
        have q178 : x15_1 < (t175.length : Int) := of_decide_eq_true (by first | (with_reducible assumption) | assumption)
        obtain ⟨ad178, e178, hx178_0, hx178_1, hx178_2⟩ := at_T107 (Kd.R_reads' HO_13.out).2.2 x15_1 p178 q178
        cases e178
        replace p178 := eq_true p178
        replace q178 := eq_true q178
        go_wp2_with (first | ((with_reducible refine gate_dst (N := 5) rfl ?_); refine box_event ?hg (N := 5) ?hd (cs := #[.int .i64 0, .int .i64 0, .int .i64 0]) (t := 107) ?hr ?_; (case hd => rfl); (case hg => rfl); (case hr => first | (go_simp; done) | (go_simp; rfl)); intro gb179 hg w26 hbox hb; have n0_ := Aside0.mk (Kd.R_below (by (with_reducible repeat (first | apply Kd.R_alloc | apply Kd.R_drewN | apply Kd.R_drew)); exact HO_3.out) hb); have n1_ := Aside0.mk (Kd.R_below (Kd.R_elderB (by (with_reducible repeat (first | apply Kd.R_alloc | apply Kd.R_drewN | apply Kd.R_drew)); exact HO_13.out) gb179 (Nat.le_of_eq hg.symm)) hb); have n2_ := Aside0.mk (blk_below (g := gb171) (o := .cells #[.int .i64 a0_0, .string a0_1] 26 (0, 0)) (by (with_reducible repeat (first | refine blk_drewN ?_ _ | refine blk_drew ?_ | refine blk_alloc ?_ _)); exact BK171.out) hb); have n3_ := Aside0.mk (below_step (by repeat (first | (with_reducible first | exact HB.out | apply below_alloc | apply pw_below_drewN | apply below_drew1 | refine below_set ?_ GE171.out) | exact HB.out)) hb); have n4_ := Aside0.mk (hbox); have n5_ := Aside0.mk ((by rw [hg]; exact (below_size (by repeat (first | (with_reducible first | exact HB.out | apply below_alloc | apply pw_below_drewN | apply below_drew1 | refine below_set ?_ GE171.out) | exact HB.out))) : w.heap.size ≤ gb179)); have n6_ := Aside0.mk ((by rw [hg]; exact (below_size (by repeat (first | (with_reducible first | exact HB.out | apply below_alloc | apply pw_below_drewN | apply below_drew1 | refine below_set ?_ GE171.out) | exact HB.out))) : w.heap.size ≤ gb179)); have n7_ := Aside0.mk ((by rw [hg]; exact Nat.ne_of_lt (blk_lt (g := gb171) (o := .cells #[.int .i64 a0_0, .string a0_1] 26 (0, 0)) (by (with_reducible repeat (first | refine blk_drewN ?_ _ | refine blk_drew ?_ | refine blk_alloc ?_ _)); exact BK171.out)) : gb171 ≠ gb179)); have n8_ := Aside0.mk ((by rw [hg]; exact Nat.ne_of_gt (blk_lt (g := gb171) (o := .cells #[.int .i64 a0_0, .string a0_1] 26 (0, 0)) (by (with_reducible repeat (first | refine blk_drewN ?_ _ | refine blk_drew ?_ | refine blk_alloc ?_ _)); exact BK171.out)) : gb179 ≠ gb171)); clear HO_3; clear HO_13; clear BK171; clear HB; have HO_3 := n0_; have HO_13 := n1_; have BK171 := n2_; have HB := n3_; have BK179 := n4_; have GW179 := n5_; have GE179 := n6_; have NB171_179 := n7_; have NB179_171 := n8_; clear n0_ n1_ n2_ n3_ n4_ n5_ n6_ n7_ n8_; clear hb hbox hg; have hnb27 := NB179_171.out; have hnc27 := NB171_179.out; have hcz28_0 : w26.cell? ⟨gb179, 0, none⟩ = some (.int .i64 0) := (blk_cell BK179.out 0).trans rfl; have hcz28_1 : w26.cell? ⟨gb179, 1, none⟩ = some (.int .i64 0) := (blk_cell BK179.out 1).trans rfl; have hcz28_2 : w26.cell? ⟨gb179, 2, none⟩ = some (.int .i64 0) := (blk_cell BK179.out 2).trans rfl; have hfz28_0 := blk_frozen BK179.out 0; have hfz28_1 := blk_frozen BK179.out 1; have hfz28_2 := blk_frozen BK179.out 2) | ((with_reducible refine gate_store (t := 107) (p := 5) rfl ?_); refine store_event (t := 107) (p := 5) (v := ?vo_w29) (w1 := (((w26.setCell ⟨gb179, 0, none⟩ (.int .i64 ((rd_T107 t175 x15_1).f0))).setCell ⟨gb179, 1, none⟩ (.int .i64 ((rd_T107 t175 x15_1).f1))).setCell ⟨gb179, 2, none⟩ (.int .i64 ((rd_T107 t175 x15_1).f2)))) ?hg ?ho ?hn ?hr ?_; (case ho => rfl); (case hg => rfl); (case hn => rfl); (case hr => first | (go_simp; done) | (go_simp; rfl)); intro w29 hw; have n0_ : Aside0 (Kd.R (Kd.int .i64) 82 w29 w.heap.size (fun _ => True) v173 x3_1) := ⟨(by rw [hw]; exact (by (with_reducible repeat (first | apply Kd.R_alloc | apply Kd.R_drewN | apply Kd.R_drew)); exact Kd.R_mono (Kd.R_far (p := ⟨gb179, 2, none⟩) (Kd.R_far (p := ⟨gb179, 1, none⟩) (Kd.R_far (p := ⟨gb179, 0, none⟩) (Kd.R_types HO_3.out BK179.out (by decide)) (fun _ hk => hk.2) (.int .i64 ((rd_T107 t175 x15_1).f0))) (fun _ hk => hk.2) (.int .i64 ((rd_T107 t175 x15_1).f1))) (fun _ hk => hk.2) (.int .i64 ((rd_T107 t175 x15_1).f2))) (fun _ hk => trivial)))⟩; have n1_ : Aside0 (Kd.R k107 107 w29 w.heap.size (fun k_ => k_ ≠ gb179) (.slice (some ad178) t175.length co9) t175) := ⟨(by rw [hw]; exact (by (with_reducible repeat (first | apply Kd.R_alloc | apply Kd.R_drewN | apply Kd.R_drew)); exact Kd.R_mono (Kd.R_far (p := ⟨gb179, 2, none⟩) (Kd.R_far (p := ⟨gb179, 1, none⟩) (Kd.R_far (p := ⟨gb179, 0, none⟩) (Kd.R_mono HO_13.out (fun k_ hk => (⟨hk, hk.2⟩ : _ ∧ k_ ≠ gb179))) (fun _ hk => hk.2) (.int .i64 ((rd_T107 t175 x15_1).f0))) (fun _ hk => hk.2) (.int .i64 ((rd_T107 t175 x15_1).f1))) (fun _ hk => hk.2) (.int .i64 ((rd_T107 t175 x15_1).f2))) (fun _ hk => hk.1.2)))⟩; have n2_ : Aside0 (w29.heap[gb171]? = some (.cells #[.int .i64 a0_0, .string a0_1] 26 (0, 0))) := ⟨(by rw [hw]; exact (by (with_reducible repeat (first | refine blk_drewN ?_ _ | refine blk_drew ?_ | refine blk_alloc ?_ _)); refine blk_far ?_ NB171_179.out _; (with_reducible repeat (first | refine blk_drewN ?_ _ | refine blk_drew ?_ | refine blk_alloc ?_ _)); refine blk_far ?_ NB171_179.out _; (with_reducible repeat (first | refine blk_drewN ?_ _ | refine blk_drew ?_ | refine blk_alloc ?_ _)); refine blk_far ?_ NB171_179.out _; (with_reducible repeat (first | refine blk_drewN ?_ _ | refine blk_drew ?_ | refine blk_alloc ?_ _)); exact BK171.out))⟩; have n3_ : Aside0 (w29.heap[gb179]? = some (.cells #[.int .i64 ((rd_T107 t175 x15_1).f0), .int .i64 ((rd_T107 t175 x15_1).f1), .int .i64 ((rd_T107 t175 x15_1).f2)] 107 (0, 0))) := ⟨(by rw [hw]; exact (by (with_reducible repeat (first | refine blk_drewN ?_ _ | refine blk_drew ?_ | refine blk_alloc ?_ _)); refine blk_put (cs := #[.int .i64 ((rd_T107 t175 x15_1).f0), .int .i64 ((rd_T107 t175 x15_1).f1), .int .i64 0]) ?_ 2 _ rfl; (with_reducible repeat (first | refine blk_drewN ?_ _ | refine blk_drew ?_ | refine blk_alloc ?_ _)); refine blk_put (cs := #[.int .i64 ((rd_T107 t175 x15_1).f0), .int .i64 0, .int .i64 0]) ?_ 1 _ rfl; (with_reducible repeat (first | refine blk_drewN ?_ _ | refine blk_drew ?_ | refine blk_alloc ?_ _)); refine blk_put (cs := #[.int .i64 0, .int .i64 0, .int .i64 0]) ?_ 0 _ rfl; (with_reducible repeat (first | refine blk_drewN ?_ _ | refine blk_drew ?_ | refine blk_alloc ?_ _)); exact BK179.out))⟩; have n4_ : Aside0 (Below w.heap.size w w29) := ⟨(by rw [hw]; exact (by repeat (first | (with_reducible first | exact HB.out | apply below_alloc | apply pw_below_drewN | apply below_drew1 | refine below_set ?_ GE171.out | refine below_set ?_ GE179.out) | exact HB.out)))⟩; clear hw; clear HO_3; clear HO_13; clear BK171; clear BK179; clear HB; have HO_3 := n0_; have HO_13 := n1_; have BK171 := n2_; have BK179 := n3_; have HB := n4_; clear n0_ n1_ n2_ n3_ n4_; have hcz30_0 : w29.cell? ⟨gb171, 0, none⟩ = some (.int .i64 a0_0) := (blk_cell BK171.out 0).trans rfl; have hcz30_1 : w29.cell? ⟨gb171, 1, none⟩ = some (.string a0_1) := (blk_cell BK171.out 1).trans rfl; have hfz30_0 := blk_frozen BK171.out 0; have hfz30_1 := blk_frozen BK171.out 1; have p14 : 0 ≤ (x15_1 : Int) := of_decide_eq_true (by first | (with_reducible assumption) | assumption); have q14 : x15_1 < (a0_1.size : Int) := of_decide_eq_true (by first | (with_reducible assumption) | assumption); have hx14 := bt_at a0_1 x15_1; replace p14 := eq_true p14; replace q14 := eq_true q14; have hcz31_0 : w29.cell? ⟨gb179, 0, none⟩ = some (.int .i64 ((rd_T107 t175 x15_1).f0)) := (blk_cell BK179.out 0).trans rfl; have hcz31_1 : w29.cell? ⟨gb179, 1, none⟩ = some (.int .i64 ((rd_T107 t175 x15_1).f1)) := (blk_cell BK179.out 1).trans rfl; have hcz31_2 : w29.cell? ⟨gb179, 2, none⟩ = some (.int .i64 ((rd_T107 t175 x15_1).f2)) := (blk_cell BK179.out 2).trans rfl; have hfz31_0 := blk_frozen BK179.out 0; have hfz31_1 := blk_frozen BK179.out 1; have hfz31_2 := blk_frozen BK179.out 2; obtain ⟨Ao32, co32, eo32⟩ := Kd.R_slice HO_3.out; subst eo32) | ((with_reducible refine gate_callee (f := 129) rfl ?_); refine goesL_ (some 33) rfl rfl Try.func129 (by kernel_rfl) rfl #[.pointer Ao32, .int .i64 ((rd_T107 t175 x15_1).f0), .int .i64 ((rd_T107 t175 x15_1).f1), .int .i64 ((rd_T107 t175 x15_1).f2), .int .i64 1] rfl (by (try simp only [List.map_toArray, List.map_cons, List.map_nil]); first | done | rfl | (simp only [List.length_drop, List.length_take]; rfl)) ?_; (refine (impl_chi_set.calls (fun k_ => some k_ = (.slice Ao32 x3_1.length co32 : Value).ownBlock) (.slice Ao32 x3_1.length co32) x3_1 ((rd_T107 t175 x15_1).f0) ((rd_T107 t175 x15_1).f1) ((rd_T107 t175 x15_1).f2) 1 t181 w _ ?side1 ?side2 A25.out).mono ?_); (case side1 => repeat (first | (with_reducible first | exact HB.out | apply below_alloc | apply pw_below_drewN | apply below_drew1 | refine below_set ?_ GE171.out | refine below_set ?_ GE179.out) | exact HB.out)); (case side2 => exact Kd.R_tight rfl HO_3.out); rintro e w33 ⟨rfl, hy0, hb, hkp⟩; refine ⟨_, rfl, ?_⟩; have n0_ := Aside0.mk (Kd.R_reok rfl hy0 (fun k_ e_ => HO_3.out.1 k_ e_)); have n1_ := Aside0.mk (Kd.R_mono (ok' := fun k_ => k_ ≠ gb179) (Kd.R_keptB ((Kd.R_apart' HO_13.out (Kd.R_typed HO_3.out) (by decide))) hkp (fun k_ hk_ hs_ => (hk_.2) hs_)) (fun k_ hk_ => hk_.1.1)); have n2_ := Aside0.mk (blk_kept (by (with_reducible repeat (first | refine blk_drewN ?_ _ | refine blk_drew ?_ | refine blk_alloc ?_ _)); exact BK171.out) hkp (fun hs_ => (fun e_ => (Kd.R_ne HO_3.out BK171.out (by decide)) e_) hs_)); have n3_ := Aside0.mk (blk_kept (by (with_reducible repeat (first | refine blk_drewN ?_ _ | refine blk_drew ?_ | refine blk_alloc ?_ _)); exact BK179.out) hkp (fun hs_ => (fun e_ => (Kd.R_ne HO_3.out BK179.out (by decide)) e_) hs_)); have n4_ := Aside0.mk (hb); clear HO_3; clear HO_13; clear BK171; clear BK179; clear HB; have HO_3 := n0_; have HO_13 := n1_; have BK171 := n2_; have BK179 := n3_; have HB := n4_; clear n0_ n1_ n2_ n3_ n4_; (try clear hb); (try clear hkp); (try clear hy0)))
        go_roundg k1
        case measure => have := HK1.out; omega
        case rel => exact ⟨(t181), (wrap64 (x15_1 + 1)), (by first | rfl | (simp; done) | (simp [*]; done)), H', ⟨by have := HK1.out; omega⟩, ⟨by (with_reducible repeat (first | apply Kd.R_alloc | apply Kd.R_drewN | apply Kd.R_drew)); exact HO_3.out⟩, ⟨by (with_reducible repeat (first | apply Kd.R_alloc | apply Kd.R_drewN | apply Kd.R_drew)); exact Kd.R_mono HO_13.out (fun _ hk => trivial)⟩, ⟨by (with_reducible repeat (first | refine blk_drewN ?_ _ | refine blk_drew ?_ | refine blk_alloc ?_ _)); exact BK171.out⟩, ⟨by repeat (first | (with_reducible first | exact HB.out | apply below_alloc | apply pw_below_drewN | apply below_drew1 | refine below_set ?_ GE171.out | refine below_set ?_ GE179.out) | exact HB.out)⟩⟩
      ·rw [if_neg c13] at H
       exact absurd H (by simp)
     ·rw [if_neg c12] at H
      exact absurd H (by simp)
    ·rw [if_neg c11] at H
     exact absurd H (by simp)
   ·rw [if_neg c10] at H
    have c10b0 : decide (x15_1 < (t175.length : Int)) = false := decide_eq_false c10
    clear c10
    obtain rfl := Option.some.inj H
    go_wp2
    go_ret
    exact ⟨(v173), by first | rfl | (simp [errW_none, errW_some] <;> rfl) | (simp [*, errW_none, errW_some] <;> rfl), by (with_reducible repeat (first | apply Kd.R_alloc | apply Kd.R_drewN | apply Kd.R_drew)); exact HO_3.out, by repeat (first | (with_reducible first | exact HB.out | apply below_alloc | apply pw_below_drewN | apply below_drew1 | refine below_set ?_ GE171.out) | exact HB.out)⟩
mutual
def impl_AreSigns.j0 : Nat → Bool → Int → ByteArray → Option (Bool)
 | 0, _, _, _ => none
 | k + 1, x28, x168000, x168001 => if x28 = true then (some false) else (impl_AreSigns.l0 k 0 x168000 x168001)
def impl_AreSigns.l0 : Nat → Int → Int → ByteArray → Option (Bool)
 | 0, _, _, _ => none
 | k + 1, x3, x168000, x168001 => if x3 < (x168001.size : Int) then (if 0 ≤ x3 then (if (bt x168001 x3) = 43 then (impl_AreSigns.l0 k (wrap64 (x3 + 1)) x168000 x168001) else (if (bt x168001 x3) = 45 then (impl_AreSigns.l0 k (wrap64 (x3 + 1)) x168000 x168001) else (some false))) else (none)) else (some true)
end
def impl_AreSigns.f (k : Nat) (a0_0 : Int) (a0_1 : ByteArray) : Option (Bool) := if a0_0 < 3 then (impl_AreSigns.j0 k true a0_0 a0_1) else (if a0_0 > 7 then (impl_AreSigns.j0 k true a0_0 a0_1) else (impl_AreSigns.j0 k ((a0_1.size : Int) != (wrap64 (Int.tdiv (wrap64 ((wrap64 (a0_0 * (wrap64 (a0_0 - 1)))) * (wrap64 (a0_0 - 2)))) 6))) a0_0 a0_1))
theorem impl_AreSigns.mono_l : ∀ k, (∀ y0 y1 y2, LeO (impl_AreSigns.j0 k y0 y1 y2) (impl_AreSigns.j0 (k + 1) y0 y1 y2)) ∧ (∀ y0 y1 y2, LeO (impl_AreSigns.l0 k y0 y1 y2) (impl_AreSigns.l0 (k + 1) y0 y1 y2))
 | 0 => ⟨fun _ _ _ r h => by simp [impl_AreSigns.j0] at h, fun _ _ _ r h => by simp [impl_AreSigns.l0] at h⟩
 | k + 1 => by
  obtain ⟨ih0, ih1⟩ := impl_AreSigns.mono_l k
  refine ⟨?_, ?_⟩
  ·intro y0 y1 y2
   unfold impl_AreSigns.j0
   repeat' first
   | (with_reducible exact ih0 _ _ _)
   | (with_reducible exact ih1 _ _ _)
   | (with_reducible exact LeO.refl _)
   | (with_reducible exact LeO.none _)
   | (with_reducible refine LeO.ite ?_ ?_)
   | (with_reducible refine LeO.bind ?_ (fun _ => ?_))
   | exact ih0 _ _ _
   | exact ih1 _ _ _
   | exact LeO.none _
   | refine LeO.ite ?_ ?_
   | refine LeO.bind ?_ (fun _ => ?_)
  ·intro y0 y1 y2
   unfold impl_AreSigns.l0
   repeat' first
   | (with_reducible exact ih0 _ _ _)
   | (with_reducible exact ih1 _ _ _)
   | (with_reducible exact LeO.refl _)
   | (with_reducible exact LeO.none _)
   | (with_reducible refine LeO.ite ?_ ?_)
   | (with_reducible refine LeO.bind ?_ (fun _ => ?_))
   | exact ih0 _ _ _
   | exact ih1 _ _ _
   | exact LeO.none _
   | refine LeO.ite ?_ ?_
   | refine LeO.bind ?_ (fun _ => ?_)
theorem impl_AreSigns.mono : ∀ a0 a1 k, LeO (impl_AreSigns.f k a0 a1) (impl_AreSigns.f (k + 1) a0 a1) := by
 intro a0 a1 k
 obtain ⟨ih0, ih1⟩ := impl_AreSigns.mono_l k
 unfold impl_AreSigns.f
 repeat' first
   | (with_reducible exact ih0 _ _ _)
   | (with_reducible exact ih1 _ _ _)
   | (with_reducible exact LeO.refl _)
   | (with_reducible exact LeO.none _)
   | (with_reducible refine LeO.ite ?_ ?_)
   | (with_reducible refine LeO.bind ?_ (fun _ => ?_))
   | exact ih0 _ _ _
   | exact ih1 _ _ _
   | exact LeO.none _
   | refine LeO.ite ?_ ?_
   | refine LeO.bind ?_ (fun _ => ?_)
set_option maxHeartbeats 8000000 in
set_option maxRecDepth 100000 in
theorem impl_AreSigns.calls (k : Nat) (a0_0 : Int) (a0_1 : ByteArray) (r : Bool) (w : World) (h : impl_AreSigns.f k a0_0 a0_1 = some r) :
  Calls Try.prog 94 #[.agg #[.int .i64 a0_0, .string a0_1]] w fun e w' => e = .returned (.bool r) ∧ Below w.heap.size w w' := by
 have hu26 := Try.underlying26
 have HB := Aside0.mk (Below.refl w.heap.size w)
 have H : (if a0_0 < 3 then (impl_AreSigns.j0 k true a0_0 a0_1) else (if a0_0 > 7 then (impl_AreSigns.j0 k true a0_0 a0_1) else (impl_AreSigns.j0 k ((a0_1.size : Int) != (wrap64 (Int.tdiv (wrap64 ((wrap64 (a0_0 * (wrap64 (a0_0 - 1)))) * (wrap64 (a0_0 - 2)))) 6))) a0_0 a0_1))) = some r := h
 clear h
 have HC2 := Aside0.mk H
 clear H
 go_enter Try.func94, Try.ntmps94
 go_upto_region 1 with (first | ((with_reducible refine gate_dst (N := 1) rfl ?_); (try (refine gate_guard (by rfl) ?_; dsimp only)); refine box_event ?hg (N := 1) ?hd (cs := #[.int .i64 a0_0, .string a0_1]) (t := 26) ?hr ?_; (case hd => rfl); (case hg => rfl); (case hr => first | (go_simp; done) | (go_simp; rfl)); intro gb167 hg w3 hbox hb; have n0_ := Aside0.mk (below_step (by repeat (first | (with_reducible first | exact HB.out | apply below_alloc | apply pw_below_drewN | apply below_drew1) | exact HB.out)) hb); have n1_ := Aside0.mk (hbox); have n2_ := Aside0.mk ((by rw [hg]; exact (below_size (by repeat (first | (with_reducible first | exact HB.out | apply below_alloc | apply pw_below_drewN | apply below_drew1) | exact HB.out))) : w.heap.size ≤ gb167)); have n3_ := Aside0.mk ((by rw [hg]; exact (below_size (by repeat (first | (with_reducible first | exact HB.out | apply below_alloc | apply pw_below_drewN | apply below_drew1) | exact HB.out))) : w.heap.size ≤ gb167)); clear HB; have HB := n0_; have BK167 := n1_; have GW167 := n2_; have GE167 := n3_; clear n0_ n1_ n2_ n3_; clear hb hbox hg))
 (try simp only [Act.put, List.setIfInBounds_toArray, List.set_cons_zero, List.set_cons_succ])
 go_cut [28] (fun v28 wc => ∃ (kq : Nat) (x28_1 : Bool), v28 = .bool x28_1 ∧ Aside0 (impl_AreSigns.j0 kq x28_1 a0_0 a0_1 = some r) ∧ Aside0 (kq ≤ k) ∧ Aside0 (wc.heap[gb167]? = some (.cells #[.int .i64 a0_0, .string a0_1] 26 (0, 0))) ∧ Aside0 (Below w.heap.size w wc))
 case first =>
  have H := HC2.out
  clear HC2
  by_cases c4 : a0_0 < 3
  ·rw [if_pos c4] at H
   have c4b0 : decide (a0_0 < 3) = true := decide_eq_true c4
   clear c4
   (first | rw [c4b0] | (simp only [i64_w, i32_w]; rw [c4b0]) | skip)
   have H' := Aside0.mk H
   clear H
   have hcz5_0 : w3.cell? ⟨gb167, 0, none⟩ = some (.int .i64 a0_0) := (blk_cell BK167.out 0).trans rfl
   have hcz5_1 : w3.cell? ⟨gb167, 1, none⟩ = some (.string a0_1) := (blk_cell BK167.out 1).trans rfl
   have hfz5_0 := blk_frozen BK167.out 0
   have hfz5_1 := blk_frozen BK167.out 1
   go_wp2
   go_meet
   case rel => exact ⟨_, (true), (by first | rfl | (simp; done) | (simp [*]; done)), H', ⟨by first | omega | exact Nat.le_refl _⟩, ⟨by (with_reducible repeat (first | refine blk_drewN ?_ _ | refine blk_drew ?_ | refine blk_alloc ?_ _)); exact BK167.out⟩, ⟨by repeat (first | (with_reducible first | exact HB.out | apply below_alloc | apply pw_below_drewN | apply below_drew1 | refine below_set ?_ GE167.out) | exact HB.out)⟩⟩
  ·rw [if_neg c4] at H
   have c4b0 : decide (a0_0 < 3) = false := decide_eq_false c4
   clear c4
   (first | rw [c4b0] | (simp only [i64_w, i32_w]; rw [c4b0]) | skip)
   by_cases c6 : a0_0 > 7
   ·rw [if_pos c6] at H
    have c6b0 : decide (7 < a0_0) = true := decide_eq_true c6
    clear c6
    have H' := Aside0.mk H
    clear H
    have hcz7_0 : w3.cell? ⟨gb167, 0, none⟩ = some (.int .i64 a0_0) := (blk_cell BK167.out 0).trans rfl
    have hcz7_1 : w3.cell? ⟨gb167, 1, none⟩ = some (.string a0_1) := (blk_cell BK167.out 1).trans rfl
    have hfz7_0 := blk_frozen BK167.out 0
    have hfz7_1 := blk_frozen BK167.out 1
    go_wp2
    go_meet
    case rel => exact ⟨_, (true), (by first | rfl | (simp; done) | (simp [*]; done)), H', ⟨by first | omega | exact Nat.le_refl _⟩, ⟨by (with_reducible repeat (first | refine blk_drewN ?_ _ | refine blk_drew ?_ | refine blk_alloc ?_ _)); exact BK167.out⟩, ⟨by repeat (first | (with_reducible first | exact HB.out | apply below_alloc | apply pw_below_drewN | apply below_drew1 | refine below_set ?_ GE167.out) | exact HB.out)⟩⟩
   ·rw [if_neg c6] at H
    have c6b0 : decide (7 < a0_0) = false := decide_eq_false c6
    clear c6
    have H' := Aside0.mk H
    clear H
    have hcz8_0 : w3.cell? ⟨gb167, 0, none⟩ = some (.int .i64 a0_0) := (blk_cell BK167.out 0).trans rfl
    have hcz8_1 : w3.cell? ⟨gb167, 1, none⟩ = some (.string a0_1) := (blk_cell BK167.out 1).trans rfl
    have hfz8_0 := blk_frozen BK167.out 0
    have hfz8_1 := blk_frozen BK167.out 1
    go_wp2
    go_meet
    case rel => exact ⟨_, (((a0_1.size : Int) != (wrap64 (Int.tdiv (wrap64 ((wrap64 (a0_0 * (wrap64 (a0_0 - 1)))) * (wrap64 (a0_0 - 2)))) 6)))), (by first | rfl | (simp; done) | (simp [*]; done)), H', ⟨by first | omega | exact Nat.le_refl _⟩, ⟨by (with_reducible repeat (first | refine blk_drewN ?_ _ | refine blk_drew ?_ | refine blk_alloc ?_ _)); exact BK167.out⟩, ⟨by repeat (first | (with_reducible first | exact HB.out | apply below_alloc | apply pw_below_drewN | apply below_drew1 | refine below_set ?_ GE167.out) | exact HB.out)⟩⟩
 case rest =>
  clear HC2
  try clear p2
  try clear c4
  try clear c4b0
  try clear c6
  try clear c6b0
  try clear p6
  try clear hcz5_0
  try clear hcz5_1
  try clear hcz7_0
  try clear hcz7_1
  try clear hcz8_0
  try clear hcz8_1
  try clear hfz5_0
  try clear hfz5_1
  try clear hfz7_0
  try clear hfz7_1
  try clear hfz8_0
  try clear hfz8_1
  obtain ⟨kq, x28_1, rfl, HA, HJ1, BK167, HB⟩ := hcut
  cases kq with
  | zero => exact absurd HA.out (by simp [impl_AreSigns.j0])
  | succ kj1 =>
   have H := HA.out
   clear HA
   simp only [impl_AreSigns.j0] at H
   by_cases c9 : x28_1 = true
   ·subst c9
    have H1 : (some false) = some r := by rw [if_pos rfl] at H; exact H
    clear H
    have H := H1
    clear H1
    obtain rfl := Option.some.inj H
    go_wp2
    go_ret
    exact ⟨by first | rfl | (simp [errW_none, errW_some] <;> rfl) | (simp [*, errW_none, errW_some] <;> rfl), by repeat (first | (with_reducible first | exact HB.out | apply below_alloc | apply pw_below_drewN | apply below_drew1 | refine below_set ?_ GE167.out) | exact HB.out)⟩
   ·replace c9 := Bool.eq_false_iff.mpr c9
    subst c9
    have H1 : (impl_AreSigns.l0 kj1 0 a0_0 a0_1) = some r := by rw [if_neg (show ¬ (false = true) by decide)] at H; exact H
    clear H
    have H := H1
    clear H1
    have H' := Aside0.mk H
    clear H
    go_wp2
    go_loopg [3] kj1 (fun kq v3 w' => ∃ (x3_2 : Int), v3 = .int .i64 x3_2 ∧ Aside0 (impl_AreSigns.l0 kq x3_2 a0_0 a0_1 = some r) ∧ Aside0 (kq ≤ kj1) ∧ Aside0 (w'.heap[gb167]? = some (.cells #[.int .i64 a0_0, .string a0_1] 26 (0, 0))) ∧ Aside0 (Below w.heap.size w w'))
    case atStart => exact ⟨(0), (by first | rfl | (simp; done) | (simp [*]; done)), H', ⟨Nat.le_refl _⟩, ⟨by (with_reducible repeat (first | refine blk_drewN ?_ _ | refine blk_drew ?_ | refine blk_alloc ?_ _)); exact BK167.out⟩, ⟨by repeat (first | (with_reducible first | exact HB.out | apply below_alloc | apply pw_below_drewN | apply below_drew1 | refine below_set ?_ GE167.out) | exact HB.out)⟩⟩
    case round =>
     clear H'
     try clear p2
     try clear c4
     try clear c4b0
     try clear c6
     try clear c6b0
     try clear p6
     try clear c9
     try clear hcz5_0
     try clear hcz5_1
     try clear hcz7_0
     try clear hcz7_1
     try clear hcz8_0
     try clear hcz8_1
     try clear hfz5_0
     try clear hfz5_1
     try clear hfz7_0
     try clear hfz7_1
     try clear hfz8_0
     try clear hfz8_1
     try clear p2
     try clear p6
     obtain ⟨x3_2, rfl, HA, HK2, BK167, HB⟩ := hrel
     cases gk with
     | zero => exact absurd HA.out (by simp [impl_AreSigns.l0])
     | succ k2 =>
      have H := HA.out
      clear HA
      simp only [impl_AreSigns.l0] at H
      by_cases c10 : x3_2 < (a0_1.size : Int)
      ·rw [if_pos c10] at H
       have c10b0 : decide (x3_2 < (a0_1.size : Int)) = true := decide_eq_true c10
       clear c10
       by_cases c11 : 0 ≤ x3_2
       ·rw [if_pos c11] at H
        have c11b0 : decide (0 ≤ x3_2) = true := decide_eq_true c11
        clear c11
        by_cases c13 : (bt a0_1 x3_2) = 43
        ·rw [if_pos c13] at H
         have c13b0 : ((bt a0_1 x3_2) == 43) = true := beq_iff_eq.mpr c13
         have c13b1 : ((bt a0_1 x3_2) != 43) = false := bne_eq_false_iff_eq.mpr c13
         clear c13
         have H' := Aside0.mk H
         clear H
         have hcz14_0 : wr.cell? ⟨gb167, 0, none⟩ = some (.int .i64 a0_0) := (blk_cell BK167.out 0).trans rfl
         have hcz14_1 : wr.cell? ⟨gb167, 1, none⟩ = some (.string a0_1) := (blk_cell BK167.out 1).trans rfl
         have hfz14_0 := blk_frozen BK167.out 0
         have hfz14_1 := blk_frozen BK167.out 1
         have p12 : 0 ≤ (x3_2 : Int) := of_decide_eq_true (by first | (with_reducible assumption) | assumption)
         have q12 : x3_2 < (a0_1.size : Int) := of_decide_eq_true (by first | (with_reducible assumption) | assumption)
         have hx12 := bt_at a0_1 x3_2
         replace p12 := eq_true p12
         replace q12 := eq_true q12
         go_wp2
         go_roundg k2
         case measure => have := HJ1.out; have := HK2.out; omega
         case rel => exact ⟨(wrap64 (x3_2 + 1)), (by first | rfl | (simp; done) | (simp [*]; done)), H', ⟨by have := HJ1.out; have := HK2.out; omega⟩, ⟨by (with_reducible repeat (first | refine blk_drewN ?_ _ | refine blk_drew ?_ | refine blk_alloc ?_ _)); exact BK167.out⟩, ⟨by repeat (first | (with_reducible first | exact HB.out | apply below_alloc | apply pw_below_drewN | apply below_drew1 | refine below_set ?_ GE167.out) | exact HB.out)⟩⟩
        ·rw [if_neg c13] at H
         have c13b0 : ((bt a0_1 x3_2) == 43) = false := beq_eq_false_iff_ne.mpr c13
         have c13b1 : ((bt a0_1 x3_2) != 43) = true := bne_iff_ne.mpr c13
         by_cases c16 : (bt a0_1 x3_2) = 45
         ·rw [if_pos c16] at H
          have c16b0 : ((bt a0_1 x3_2) == 45) = true := beq_iff_eq.mpr c16
          have c16b1 : ((bt a0_1 x3_2) != 45) = false := bne_eq_false_iff_eq.mpr c16
          clear c16
          have H' := Aside0.mk H
          clear H
          have hcz17_0 : wr.cell? ⟨gb167, 0, none⟩ = some (.int .i64 a0_0) := (blk_cell BK167.out 0).trans rfl
          have hcz17_1 : wr.cell? ⟨gb167, 1, none⟩ = some (.string a0_1) := (blk_cell BK167.out 1).trans rfl
          have hfz17_0 := blk_frozen BK167.out 0
          have hfz17_1 := blk_frozen BK167.out 1
          have p12 : 0 ≤ (x3_2 : Int) := of_decide_eq_true (by first | (with_reducible assumption) | assumption)
          have q12 : x3_2 < (a0_1.size : Int) := of_decide_eq_true (by first | (with_reducible assumption) | assumption)
          have hx12 := bt_at a0_1 x3_2
          replace p12 := eq_true p12
          replace q12 := eq_true q12
          have p15 : 0 ≤ (x3_2 : Int) := of_decide_eq_true (by first | (with_reducible assumption) | assumption)
          have q15 : x3_2 < (a0_1.size : Int) := of_decide_eq_true (by first | (with_reducible assumption) | assumption)
          have hx15 := bt_at a0_1 x3_2
          replace p15 := eq_true p15
          replace q15 := eq_true q15
          go_wp2
          go_roundg k2
          case measure => have := HJ1.out; have := HK2.out; omega
          case rel => exact ⟨(wrap64 (x3_2 + 1)), (by first | rfl | (simp; done) | (simp [*]; done)), H', ⟨by have := HJ1.out; have := HK2.out; omega⟩, ⟨by (with_reducible repeat (first | refine blk_drewN ?_ _ | refine blk_drew ?_ | refine blk_alloc ?_ _)); exact BK167.out⟩, ⟨by repeat (first | (with_reducible first | exact HB.out | apply below_alloc | apply pw_below_drewN | apply below_drew1 | refine below_set ?_ GE167.out) | exact HB.out)⟩⟩
         ·rw [if_neg c16] at H
          have c16b0 : ((bt a0_1 x3_2) == 45) = false := beq_eq_false_iff_ne.mpr c16
          have c16b1 : ((bt a0_1 x3_2) != 45) = true := bne_iff_ne.mpr c16
          obtain rfl := Option.some.inj H
          have hcz18_0 : wr.cell? ⟨gb167, 0, none⟩ = some (.int .i64 a0_0) := (blk_cell BK167.out 0).trans rfl
          have hcz18_1 : wr.cell? ⟨gb167, 1, none⟩ = some (.string a0_1) := (blk_cell BK167.out 1).trans rfl
          have hfz18_0 := blk_frozen BK167.out 0
          have hfz18_1 := blk_frozen BK167.out 1
          have p12 : 0 ≤ (x3_2 : Int) := of_decide_eq_true (by first | (with_reducible assumption) | assumption)
          have q12 : x3_2 < (a0_1.size : Int) := of_decide_eq_true (by first | (with_reducible assumption) | assumption)
          have hx12 := bt_at a0_1 x3_2
          replace p12 := eq_true p12
          replace q12 := eq_true q12
          have p15 : 0 ≤ (x3_2 : Int) := of_decide_eq_true (by first | (with_reducible assumption) | assumption)
          have q15 : x3_2 < (a0_1.size : Int) := of_decide_eq_true (by first | (with_reducible assumption) | assumption)
          have hx15 := bt_at a0_1 x3_2
          replace p15 := eq_true p15
          replace q15 := eq_true q15
          go_wp2
          go_ret
          exact ⟨by first | rfl | (simp [errW_none, errW_some] <;> rfl) | (simp [*, errW_none, errW_some] <;> rfl), by repeat (first | (with_reducible first | exact HB.out | apply below_alloc | apply pw_below_drewN | apply below_drew1 | refine below_set ?_ GE167.out) | exact HB.out)⟩
       ·rw [if_neg c11] at H
        exact absurd H (by simp)
      ·rw [if_neg c10] at H
       have c10b0 : decide (x3_2 < (a0_1.size : Int)) = false := decide_eq_false c10
       clear c10
       obtain rfl := Option.some.inj H
       have hcz19_0 : wr.cell? ⟨gb167, 0, none⟩ = some (.int .i64 a0_0) := (blk_cell BK167.out 0).trans rfl
       have hcz19_1 : wr.cell? ⟨gb167, 1, none⟩ = some (.string a0_1) := (blk_cell BK167.out 1).trans rfl
       have hfz19_0 := blk_frozen BK167.out 0
       have hfz19_1 := blk_frozen BK167.out 1
       go_wp2
       go_ret
       exact ⟨by first | rfl | (simp [errW_none, errW_some] <;> rfl) | (simp [*, errW_none, errW_some] <;> rfl), by repeat (first | (with_reducible first | exact HB.out | apply below_alloc | apply pw_below_drewN | apply below_drew1 | refine below_set ?_ GE167.out) | exact HB.out)⟩
mutual
def impl_quadsOf.l0 : Nat → Int → List (S97) → List (S107) → Int → Int → Option ((List (S97)))
 | 0, _, _, _, _, _ => none
 | k + 1, x0, x3, x8, x9, x10 => if x10 < x9 then (if 0 ≤ x10 then (if x10 < (x8.length : Int) then (impl_quadsOf.l1 k x0 x3 (wrap64 (((rd_T107 x8 x10).f2) + 1)) x8 x9 x10 ((rd_T107 x8 x10).f0) ((rd_T107 x8 x10).f1) ((rd_T107 x8 x10).f2)) else (none)) else (none)) else (some x3)
def impl_quadsOf.l1 : Nat → Int → List (S97) → Int → List (S107) → Int → Int → Int → Int → Int → Option ((List (S97)))
 | 0, _, _, _, _, _, _, _, _, _ => none
 | k + 1, x0, x3, x6, x8, x9, x10, x435000, x435001, x435002 => if x6 < x0 then (if x3.length < 4398046511104 then (impl_quadsOf.l1 k x0 (x3 ++ [(⟨x435000, x435001, x435002, x6⟩ : S97)]) (wrap64 (x6 + 1)) x8 x9 x10 x435000 x435001 x435002) else (none)) else (impl_quadsOf.l0 k x0 x3 x8 x9 (wrap64 (x10 + 1)))
end
def impl_quadsOf.f (k : Nat) (a0 : Int) : Option ((List (S97))) := (impl_triplesOf.f k a0).bind fun t430 => (impl_quadsOf.l0 k a0 ([] : List (S97)) t430 (t430.length : Int) 0)
theorem impl_quadsOf.mono_l : ∀ k, (∀ y0 y1 y2 y3 y4, LeO (impl_quadsOf.l0 k y0 y1 y2 y3 y4) (impl_quadsOf.l0 (k + 1) y0 y1 y2 y3 y4)) ∧ (∀ y0 y1 y2 y3 y4 y5 y6 y7 y8, LeO (impl_quadsOf.l1 k y0 y1 y2 y3 y4 y5 y6 y7 y8) (impl_quadsOf.l1 (k + 1) y0 y1 y2 y3 y4 y5 y6 y7 y8))
 | 0 => ⟨fun _ _ _ _ _ r h => by simp [impl_quadsOf.l0] at h, fun _ _ _ _ _ _ _ _ _ r h => by simp [impl_quadsOf.l1] at h⟩
 | k + 1 => by
  obtain ⟨ih0, ih1⟩ := impl_quadsOf.mono_l k
  refine ⟨?_, ?_⟩
  ·intro y0 y1 y2 y3 y4
   unfold impl_quadsOf.l0
   repeat' first
   | (with_reducible exact ih0 _ _ _ _ _)
   | (with_reducible exact ih1 _ _ _ _ _ _ _ _ _)
   | (with_reducible exact impl_triplesOf.mono _ _)
   | (with_reducible exact LeO.refl _)
   | (with_reducible exact LeO.none _)
   | (with_reducible refine LeO.ite ?_ ?_)
   | (with_reducible refine LeO.bind ?_ (fun _ => ?_))
   | exact ih0 _ _ _ _ _
   | exact ih1 _ _ _ _ _ _ _ _ _
   | exact impl_triplesOf.mono _ _
   | exact LeO.none _
   | refine LeO.ite ?_ ?_
   | refine LeO.bind ?_ (fun _ => ?_)
  ·intro y0 y1 y2 y3 y4 y5 y6 y7 y8
   unfold impl_quadsOf.l1
   repeat' first
   | (with_reducible exact ih0 _ _ _ _ _)
   | (with_reducible exact ih1 _ _ _ _ _ _ _ _ _)
   | (with_reducible exact impl_triplesOf.mono _ _)
   | (with_reducible exact LeO.refl _)
   | (with_reducible exact LeO.none _)
   | (with_reducible refine LeO.ite ?_ ?_)
   | (with_reducible refine LeO.bind ?_ (fun _ => ?_))
   | exact ih0 _ _ _ _ _
   | exact ih1 _ _ _ _ _ _ _ _ _
   | exact impl_triplesOf.mono _ _
   | exact LeO.none _
   | refine LeO.ite ?_ ?_
   | refine LeO.bind ?_ (fun _ => ?_)
theorem impl_quadsOf.mono : ∀ a0 k, LeO (impl_quadsOf.f k a0) (impl_quadsOf.f (k + 1) a0) := by
 intro a0 k
 obtain ⟨ih0, ih1⟩ := impl_quadsOf.mono_l k
 unfold impl_quadsOf.f
 repeat' first
   | (with_reducible exact ih0 _ _ _ _ _)
   | (with_reducible exact ih1 _ _ _ _ _ _ _ _ _)
   | (with_reducible exact impl_triplesOf.mono _ _)
   | (with_reducible exact LeO.refl _)
   | (with_reducible exact LeO.none _)
   | (with_reducible refine LeO.ite ?_ ?_)
   | (with_reducible refine LeO.bind ?_ (fun _ => ?_))
   | exact ih0 _ _ _ _ _
   | exact ih1 _ _ _ _ _ _ _ _ _
   | exact impl_triplesOf.mono _ _
   | exact LeO.none _
   | refine LeO.ite ?_ ?_
   | refine LeO.bind ?_ (fun _ => ?_)
set_option maxHeartbeats 8000000 in
set_option maxRecDepth 100000 in
theorem impl_quadsOf.calls (k : Nat) (a0 : Int) (r : List (S97)) (w : World) (h : impl_quadsOf.f k a0 = some r) :
  Calls Try.prog 117 #[.int .i64 a0] w fun e w' => ∃ v0_ : Value, e = .returned (v0_) ∧ Kd.R k97 97 w' w.heap.size (fun _ => True) v0_ r ∧ Below w.heap.size w w' := by
 have hu107 := Try.underlying107
 have hu97 := Try.underlying97
 have HB := Aside0.mk (Below.refl w.heap.size w)
 have H : ((impl_triplesOf.f k a0).bind fun t430 => (impl_quadsOf.l0 k a0 ([] : List (S97)) t430 (t430.length : Int) 0)) = some r := h
 clear h
 replace H := Option.bind_eq_some_iff.mp H
 obtain ⟨t430, A20, H⟩ := H
 replace H : (impl_quadsOf.l0 k a0 ([] : List (S97)) t430 (t430.length : Int) 0) = some r := H
 have A2 := Aside0.mk A20
 clear A20
 have H' := Aside0.mk H
 clear H
 go_enter Try.func117, Try.ntmps117
 go_wp2_with (first | ((with_reducible refine gate_callee (f := 128) rfl ?_); refine goesL_ (some 8) rfl rfl Try.func128 (by kernel_rfl) rfl #[.int .i64 a0] rfl (by (try simp only [List.map_toArray, List.map_cons, List.map_nil]); first | done | rfl | (simp only [List.length_drop, List.length_take]; rfl)) ?_; (with_reducible refine (impl_triplesOf.calls k a0 t430 _ A2.out).mono ?_); rintro e w3 ⟨v431, rfl, ho0, hb⟩; refine ⟨_, rfl, ?_⟩; have n0_ := Aside0.mk (Kd.R_lower ho0 (below_size (by repeat (first | (with_reducible first | exact HB.out | apply below_alloc | apply pw_below_drewN | apply below_drew1) | exact HB.out)))); have n1_ := Aside0.mk (below_step (by repeat (first | (with_reducible first | exact HB.out | apply below_alloc | apply pw_below_drewN | apply below_drew1) | exact HB.out)) hb); clear HB; have HO432 := n0_; have HB := n1_; clear n0_ n1_; (try clear hb); (try clear hb2); (try clear hk); (try clear hi); (try clear ho0); obtain ⟨Ao4, co4, eo4⟩ := Kd.R_slice HO432.out; subst eo4))
 go_loopg [3, 10] k (fun kq v3 v10 w' => ∃ (x3_1 : List (S97)) (x10_1 : Int), v10 = .int .i64 x10_1 ∧ Aside0 (impl_quadsOf.l0 kq a0 x3_1 t430 (t430.length : Int) x10_1 = some r) ∧ Aside0 (kq ≤ k) ∧ Aside0 (Kd.R k97 97 w' w.heap.size (fun _ => True) v3 x3_1) ∧ Aside0 (Kd.R k107 107 w' w.heap.size (fun _ => True) (.slice Ao4 t430.length co4) t430) ∧ Aside0 (Below w.heap.size w w'))
 case atStart => exact ⟨(([] : List (S97))), (0), (by first | rfl | (simp; done) | (simp [*]; done)), H', ⟨Nat.le_refl _⟩, ⟨by first | exact Kd.R_nil _ _ _ _ _ | exact Kd.N_nil _ _ _ _ _ | exact Kd.V_nil _ _ _ _ _ | exact Kd.Q_nil _ _ _ _ _ | exact Kd.S_nil _ _ _ _ _⟩, ⟨by (with_reducible repeat (first | apply Kd.R_alloc | apply Kd.R_drewN | apply Kd.R_drew)); exact HO432.out⟩, ⟨by repeat (first | (with_reducible first | exact HB.out | apply below_alloc | apply pw_below_drewN | apply below_drew1) | exact HB.out)⟩⟩
 case round =>
  clear H'
  try clear c1
  try clear p2
  obtain ⟨x3_1, x10_1, rfl, HA, HK1, HO_3, HO_8, HB⟩ := hrel
  cases gk with
  | zero => exact absurd HA.out (by simp [impl_quadsOf.l0])
  | succ k1 =>
   have H := HA.out
   clear HA
   simp only [impl_quadsOf.l0] at H
   by_cases c5 : x10_1 < (t430.length : Int)
   ·rw [if_pos c5] at H
    have c5b0 : decide (x10_1 < (t430.length : Int)) = true := decide_eq_true c5
    clear c5
    by_cases c6 : 0 ≤ x10_1
    ·rw [if_pos c6] at H
     have c6b0 : decide (0 ≤ x10_1) = true := decide_eq_true c6
     clear c6
     by_cases c7 : x10_1 < (t430.length : Int)
     ·rw [if_pos c7] at H
      have c7b0 : decide (x10_1 < (t430.length : Int)) = true := decide_eq_true c7
      clear c7
      have H' := Aside0.mk H
      clear H
      have p433 : 0 ≤ (x10_1 : Int) := of_decide_eq_true (by first | (with_reducible assumption) | assumption)
      have q433 : x10_1 < (t430.length : Int) := of_decide_eq_true (by first | (with_reducible assumption) | assumption)
      obtain ⟨ad433, e433, hx433_0, hx433_1, hx433_2⟩ := at_T107 (Kd.R_reads' HO_8.out).2.2 x10_1 p433 q433
      cases e433
      replace p433 := eq_true p433
      replace q433 := eq_true q433
      go_wp2_with (first | ((with_reducible refine gate_dst (N := 5) rfl ?_); refine box_event ?hg (N := 5) ?hd (cs := #[.int .i64 0, .int .i64 0, .int .i64 0]) (t := 107) ?hr ?_; (case hd => rfl); (case hg => rfl); (case hr => first | (go_simp; done) | (go_simp; rfl)); intro gb434 hg w8 hbox hb; have n0_ := Aside0.mk (Kd.R_below (by (with_reducible repeat (first | apply Kd.R_alloc | apply Kd.R_drewN | apply Kd.R_drew)); exact HO_3.out) hb); have n1_ := Aside0.mk (Kd.R_below (Kd.R_elderB (by (with_reducible repeat (first | apply Kd.R_alloc | apply Kd.R_drewN | apply Kd.R_drew)); exact HO_8.out) gb434 (Nat.le_of_eq hg.symm)) hb); have n2_ := Aside0.mk (below_step (by repeat (first | (with_reducible first | exact HB.out | apply below_alloc | apply pw_below_drewN | apply below_drew1) | exact HB.out)) hb); have n3_ := Aside0.mk (hbox); have n4_ := Aside0.mk ((by rw [hg]; exact (below_size (by repeat (first | (with_reducible first | exact HB.out | apply below_alloc | apply pw_below_drewN | apply below_drew1) | exact HB.out))) : w.heap.size ≤ gb434)); have n5_ := Aside0.mk ((by rw [hg]; exact (below_size (by repeat (first | (with_reducible first | exact HB.out | apply below_alloc | apply pw_below_drewN | apply below_drew1) | exact HB.out))) : w.heap.size ≤ gb434)); clear HO_3; clear HO_8; clear HB; have HO_3 := n0_; have HO_8 := n1_; have HB := n2_; have BK434 := n3_; have GW434 := n4_; have GE434 := n5_; clear n0_ n1_ n2_ n3_ n4_ n5_; clear hb hbox hg; have hcz9_0 : w8.cell? ⟨gb434, 0, none⟩ = some (.int .i64 0) := (blk_cell BK434.out 0).trans rfl; have hcz9_1 : w8.cell? ⟨gb434, 1, none⟩ = some (.int .i64 0) := (blk_cell BK434.out 1).trans rfl; have hcz9_2 : w8.cell? ⟨gb434, 2, none⟩ = some (.int .i64 0) := (blk_cell BK434.out 2).trans rfl; have hfz9_0 := blk_frozen BK434.out 0; have hfz9_1 := blk_frozen BK434.out 1; have hfz9_2 := blk_frozen BK434.out 2))
      go_loopg [3, 6] k1 (fun kq v3 v6 w' => ∃ (x3_2 : List (S97)) (x6_2 : Int), v6 = .int .i64 x6_2 ∧ Aside0 (impl_quadsOf.l1 kq a0 x3_2 x6_2 t430 (t430.length : Int) x10_1 ((rd_T107 t430 x10_1).f0) ((rd_T107 t430 x10_1).f1) ((rd_T107 t430 x10_1).f2) = some r) ∧ Aside0 (kq ≤ k1) ∧ Aside0 (Kd.R k97 97 w' w.heap.size (fun _ => True) v3 x3_2) ∧ Aside0 (Kd.R k107 107 w' w.heap.size (fun k_ => k_ ≠ gb434) (.slice (some ad433) t430.length co4) t430) ∧ Aside0 (w'.heap[gb434]? = some (.cells #[.int .i64 ((rd_T107 t430 x10_1).f0), .int .i64 ((rd_T107 t430 x10_1).f1), .int .i64 ((rd_T107 t430 x10_1).f2)] 107 (0, 0))) ∧ Aside0 (Below w.heap.size w w'))
      case atStart => exact ⟨(x3_1), (wrap64 (((rd_T107 t430 x10_1).f2) + 1)), (by first | rfl | (simp; done) | (simp [*]; done)), H', ⟨Nat.le_refl _⟩, ⟨by (with_reducible repeat (first | apply Kd.R_alloc | apply Kd.R_drewN | apply Kd.R_drew)); exact Kd.R_mono (Kd.R_far (p := ⟨gb434, 2, none⟩) (Kd.R_far (p := ⟨gb434, 1, none⟩) (Kd.R_far (p := ⟨gb434, 0, none⟩) (Kd.R_types HO_3.out BK434.out (by decide)) (fun _ hk => hk.2) (.int .i64 ((rd_T107 t430 x10_1).f0))) (fun _ hk => hk.2) (.int .i64 ((rd_T107 t430 x10_1).f1))) (fun _ hk => hk.2) (.int .i64 ((rd_T107 t430 x10_1).f2))) (fun _ hk => trivial)⟩, ⟨by (with_reducible repeat (first | apply Kd.R_alloc | apply Kd.R_drewN | apply Kd.R_drew)); exact Kd.R_mono (Kd.R_far (p := ⟨gb434, 2, none⟩) (Kd.R_far (p := ⟨gb434, 1, none⟩) (Kd.R_far (p := ⟨gb434, 0, none⟩) (Kd.R_mono HO_8.out (fun k_ hk => (⟨hk, hk.2⟩ : _ ∧ k_ ≠ gb434))) (fun _ hk => hk.2) (.int .i64 ((rd_T107 t430 x10_1).f0))) (fun _ hk => hk.2) (.int .i64 ((rd_T107 t430 x10_1).f1))) (fun _ hk => hk.2) (.int .i64 ((rd_T107 t430 x10_1).f2))) (fun _ hk => hk.1.2)⟩, ⟨by (with_reducible repeat (first | refine blk_drewN ?_ _ | refine blk_drew ?_ | refine blk_alloc ?_ _)); refine blk_put (cs := #[.int .i64 ((rd_T107 t430 x10_1).f0), .int .i64 ((rd_T107 t430 x10_1).f1), .int .i64 0]) ?_ 2 _ rfl; (with_reducible repeat (first | refine blk_drewN ?_ _ | refine blk_drew ?_ | refine blk_alloc ?_ _)); refine blk_put (cs := #[.int .i64 ((rd_T107 t430 x10_1).f0), .int .i64 0, .int .i64 0]) ?_ 1 _ rfl; (with_reducible repeat (first | refine blk_drewN ?_ _ | refine blk_drew ?_ | refine blk_alloc ?_ _)); refine blk_put (cs := #[.int .i64 0, .int .i64 0, .int .i64 0]) ?_ 0 _ rfl; (with_reducible repeat (first | refine blk_drewN ?_ _ | refine blk_drew ?_ | refine blk_alloc ?_ _)); exact BK434.out⟩, ⟨by repeat (first | (with_reducible first | exact HB.out | apply below_alloc | apply pw_below_drewN | apply below_drew1 | refine below_set ?_ GE434.out) | exact HB.out)⟩⟩
      case round =>
       clear H'
       try clear c1
       try clear p2
       try clear p4
       try clear q4
       try clear hx4
       try clear c5
       try clear c5b0
       try clear c6
       try clear c6b0
       try clear p6
       try clear c7
       try clear c7b0
       try clear hcz9_0
       try clear hcz9_1
       try clear hcz9_2
       try clear hfz9_0
       try clear hfz9_1
       try clear hfz9_2
       try clear hx433_0
       try clear hx433_1
       try clear hx433_2
       try clear p2
       try clear p433
       try clear q433
       obtain ⟨x3_2, x6_2, rfl, HA, HK2, HO_3, HO_8, BK434, HB⟩ := hrel
       cases gk with
       | zero => exact absurd HA.out (by simp [impl_quadsOf.l1])
       | succ k2 =>
        have H := HA.out
        clear HA
        simp only [impl_quadsOf.l1] at H
        by_cases c10 : x6_2 < a0
        ·rw [if_pos c10] at H
         have c10b0 : decide (x6_2 < a0) = true := decide_eq_true c10
         clear c10
         by_cases c11 : x3_2.length < 4398046511104
         ·rw [if_pos c11] at H
          have LMc11 := Aside0.mk c11
          clear c11
          obtain ⟨y435, hy435⟩ : ∃ y_ : List (S97), y_ = (x3_2 ++ [(⟨((rd_T107 t430 x10_1).f0), ((rd_T107 t430 x10_1).f1), ((rd_T107 t430 x10_1).f2), x6_2⟩ : S97)]) := ⟨_, rfl⟩
          replace H : (impl_quadsOf.l1 k2 a0 y435 (wrap64 (x6_2 + 1)) t430 (t430.length : Int) x10_1 ((rd_T107 t430 x10_1).f0) ((rd_T107 t430 x10_1).f1) ((rd_T107 t430 x10_1).f2)) = some r := by first | (rw [hy435]; with_reducible exact H) | (have H2_ := (Option.bind_some _ _).symm.trans H; rw [hy435]; with_reducible exact H2_) | (have H2_ := (Option.bind_some _ _).symm.trans H; with_reducible exact H2_) | with_reducible exact H | (rw [hy435]; exact H) | exact H
          have Ny435 := Aside0.mk hy435
          clear hy435
          have H' := Aside0.mk H
          clear H
          have hcz12_0 : wr.cell? ⟨gb434, 0, none⟩ = some (.int .i64 ((rd_T107 t430 x10_1).f0)) := (blk_cell BK434.out 0).trans rfl
          have hcz12_1 : wr.cell? ⟨gb434, 1, none⟩ = some (.int .i64 ((rd_T107 t430 x10_1).f1)) := (blk_cell BK434.out 1).trans rfl
          have hcz12_2 : wr.cell? ⟨gb434, 2, none⟩ = some (.int .i64 ((rd_T107 t430 x10_1).f2)) := (blk_cell BK434.out 2).trans rfl
          have hfz12_0 := blk_frozen BK434.out 0
          have hfz12_1 := blk_frozen BK434.out 1
          have hfz12_2 := blk_frozen BK434.out 2
          go_wp2_with (first | ((with_reducible refine gate_builtin (b := .append) (xs := #[.tmp 22, .tmp 31]) rfl ?_); at_builtin; refine Kd.R_append k97 (w0 := w) w.heap.size rfl (.tmp 22) (.tmp 31) 95 97 (.agg #[(.int .i64 0), (.int .i64 0), (.int .i64 0), (.int .i64 0)]) 32 rfl Try.underlying95 info97 rfl (by decide) (by omega) u3 x3_2 (⟨((rd_T107 t430 x10_1).f0), ((rd_T107 t430 x10_1).f1), ((rd_T107 t430 x10_1).f2), x6_2⟩ : S97) [.int .i64 ((rd_T107 t430 x10_1).f0), .int .i64 ((rd_T107 t430 x10_1).f1), .int .i64 ((rd_T107 t430 x10_1).f2), .int .i64 x6_2] (fun _ => True) (fun _ => False) rfl rfl ?aP (fun _ hk => hk.elim) ?aF ?aO ?aB ?aS ?aL ?_; (case aP => exact k97_mkM _ _ _ (⟨((rd_T107 t430 x10_1).f0), ((rd_T107 t430 x10_1).f1), ((rd_T107 t430 x10_1).f2), x6_2⟩ : S97)); (case aB => exact (by repeat (first | (with_reducible first | exact HB.out | apply below_alloc | apply pw_below_drewN | apply below_drew1 | refine below_set ?_ GE434.out) | exact HB.out))); (case aF => exact (fun _ _ => trivial)); (case aO => exact (by (with_reducible repeat (first | apply Kd.R_alloc | apply Kd.R_drewN | apply Kd.R_drew)); exact HO_3.out)); (case aS => exact (below_size (by repeat (first | (with_reducible first | exact HB.out | apply below_alloc | apply pw_below_drewN | apply below_drew1 | refine below_set ?_ GE434.out) | exact HB.out)))); (case aL => have := LMc11.out; omega); intro v436 w13 ho hb hg hat; rw [← Ny435.out] at ho; have n0_ := Aside0.mk (Kd.R_over' (by (with_reducible repeat (first | apply Kd.R_alloc | apply Kd.R_drewN | apply Kd.R_drew)); exact HO_8.out) (Kd.R_typed (by (with_reducible repeat (first | apply Kd.R_alloc | apply Kd.R_drewN | apply Kd.R_drew)); exact HO_3.out)) (by decide) hg); have n1_ := Aside0.mk (blk_grown (g := gb434) (o := .cells #[.int .i64 ((rd_T107 t430 x10_1).f0), .int .i64 ((rd_T107 t430 x10_1).f1), .int .i64 ((rd_T107 t430 x10_1).f2)] 107 (0, 0)) (by (with_reducible repeat (first | refine blk_drewN ?_ _ | refine blk_drew ?_ | refine blk_alloc ?_ _)); exact BK434.out) hg (Kd.R_ne HO_3.out BK434.out (by decide))); have n2_ := Aside0.mk (hb); have n3_ := Aside0.mk (ho); clear HO_8; clear BK434; clear HB; clear HO_3; have HO_8 := n0_; have BK434 := n1_; have HB := n2_; have HO437 := n3_; clear n0_ n1_ n2_ n3_; clear ho hb hg hat))
          go_roundg k2
          case measure => have := HK1.out; have := HK2.out; omega
          case rel => exact ⟨(y435), (wrap64 (x6_2 + 1)), (by first | rfl | (simp; done) | (simp [*]; done)), H', ⟨by have := HK1.out; have := HK2.out; omega⟩, ⟨by (with_reducible repeat (first | apply Kd.R_alloc | apply Kd.R_drewN | apply Kd.R_drew)); exact HO437.out⟩, ⟨by (with_reducible repeat (first | apply Kd.R_alloc | apply Kd.R_drewN | apply Kd.R_drew)); exact HO_8.out⟩, ⟨by (with_reducible repeat (first | refine blk_drewN ?_ _ | refine blk_drew ?_ | refine blk_alloc ?_ _)); exact BK434.out⟩, ⟨by repeat (first | (with_reducible first | exact HB.out | apply below_alloc | apply pw_below_drewN | apply below_drew1 | refine below_set ?_ GE434.out) | exact HB.out)⟩⟩
         ·rw [if_neg c11] at H
          exact absurd H (by simp)
        ·rw [if_neg c10] at H
         have c10b0 : decide (x6_2 < a0) = false := decide_eq_false c10
         clear c10
         have H' := Aside0.mk H
         clear H
         go_wp2
         go_roundg k2
         case measure => have := HK1.out; have := HK2.out; omega
         case rel => exact ⟨(x3_2), (wrap64 (x10_1 + 1)), (by first | rfl | (simp; done) | (simp [*]; done)), H', ⟨by have := HK1.out; have := HK2.out; omega⟩, ⟨by (with_reducible repeat (first | apply Kd.R_alloc | apply Kd.R_drewN | apply Kd.R_drew)); exact HO_3.out⟩, ⟨by (with_reducible repeat (first | apply Kd.R_alloc | apply Kd.R_drewN | apply Kd.R_drew)); exact Kd.R_mono HO_8.out (fun _ hk => trivial)⟩, ⟨by repeat (first | (with_reducible first | exact HB.out | apply below_alloc | apply pw_below_drewN | apply below_drew1 | refine below_set ?_ GE434.out) | exact HB.out)⟩⟩
     ·rw [if_neg c7] at H
      exact absurd H (by simp)
    ·rw [if_neg c6] at H
     exact absurd H (by simp)
   ·rw [if_neg c5] at H
    have c5b0 : decide (x10_1 < (t430.length : Int)) = false := decide_eq_false c5
    clear c5
    obtain rfl := Option.some.inj H
    go_wp2
    go_ret
    exact ⟨_, by first | rfl | (simp [errW_none, errW_some] <;> rfl) | (simp [*, errW_none, errW_some] <;> rfl), by (with_reducible repeat (first | apply Kd.R_alloc | apply Kd.R_drewN | apply Kd.R_drew)); exact HO_3.out, by repeat (first | (with_reducible first | exact HB.out | apply below_alloc | apply pw_below_drewN | apply below_drew1) | exact HB.out)⟩
def impl_chi_breaks.f (l0 : List Int) (a1 : Int) (a2 : Int) (a3 : Int) (a4 : Int) (a5 : Int) : Option (Bool) := if 344 ≤ (l0.length : Int) then (if 0 ≤ a1 then (if a1 < 7 then (if 0 ≤ a2 then (if a2 < 7 then (if 0 ≤ a3 then (if a3 < 7 then (if 0 ≤ a4 then (if a4 < 7 then (if 0 ≤ a5 then (if a5 < 7 then (if (wrap64 ((chiA l0 a1 a2 a3) * (chiA l0 a1 a4 a5))) = (wrap64 ((chiA l0 a1 a2 a5) * (chiA l0 a1 a3 a4))) then (some ((wrap64 ((chiA l0 a1 a2 a5) * (chiA l0 a1 a3 a4))) == (wrap64 ((wrap64 (-(chiA l0 a1 a2 a4))) * (chiA l0 a1 a3 a5))))) else (some false)) else (none)) else (none)) else (none)) else (none)) else (none)) else (none)) else (none)) else (none)) else (none)) else (none)) else (none)
set_option maxHeartbeats 8000000 in
set_option maxRecDepth 100000 in
theorem impl_chi_breaks.calls (A0 : Option Addr) (c0 : Nat) (l0 : List Int) (a1 : Int) (a2 : Int) (a3 : Int) (a4 : Int) (a5 : Int) (r : Bool) (w : World) (hr0 : Kd.C (Kd.int .i64) w A0 l0.length l0) (hc0 : l0.length ≤ c0) (h : impl_chi_breaks.f l0 a1 a2 a3 a4 a5 = some r) :
  Calls Try.prog 148 #[.pointer A0, .int .i64 a1, .int .i64 a2, .int .i64 a3, .int .i64 a4, .int .i64 a5] w fun e w' => e = .returned (.bool r) ∧ Drawn0 w w' := by
 have HR0 := Aside0.mk hr0
 have HC0 := Aside0.mk hc0
 clear hr0 hc0
 have H : (if 344 ≤ (l0.length : Int) then (if 0 ≤ a1 then (if a1 < 7 then (if 0 ≤ a2 then (if a2 < 7 then (if 0 ≤ a3 then (if a3 < 7 then (if 0 ≤ a4 then (if a4 < 7 then (if 0 ≤ a5 then (if a5 < 7 then (if (wrap64 ((chiA l0 a1 a2 a3) * (chiA l0 a1 a4 a5))) = (wrap64 ((chiA l0 a1 a2 a5) * (chiA l0 a1 a3 a4))) then (some ((wrap64 ((chiA l0 a1 a2 a5) * (chiA l0 a1 a3 a4))) == (wrap64 ((wrap64 (-(chiA l0 a1 a2 a4))) * (chiA l0 a1 a3 a5))))) else (some false)) else (none)) else (none)) else (none)) else (none)) else (none)) else (none)) else (none)) else (none)) else (none)) else (none)) else (none)) = some r := h
 clear h
 by_cases c7 : 344 ≤ (l0.length : Int)
 ·rw [if_pos c7] at H
  have c7b0 := eq_true c7
  have c7b1 : decide (344 ≤ (l0.length : Int)) = true := decide_eq_true c7
  clear c7
  by_cases c8 : 0 ≤ a1
  ·rw [if_pos c8] at H
   have c8b0 : decide (0 ≤ a1) = true := decide_eq_true c8
   clear c8
   by_cases c9 : a1 < 7
   ·rw [if_pos c9] at H
    have c9b0 : decide (a1 < 7) = true := decide_eq_true c9
    clear c9
    by_cases c10 : 0 ≤ a2
    ·rw [if_pos c10] at H
     have c10b0 : decide (0 ≤ a2) = true := decide_eq_true c10
     clear c10
     by_cases c11 : a2 < 7
     ·rw [if_pos c11] at H
      have c11b0 : decide (a2 < 7) = true := decide_eq_true c11
      clear c11
      by_cases c12 : 0 ≤ a3
      ·rw [if_pos c12] at H
       have c12b0 : decide (0 ≤ a3) = true := decide_eq_true c12
       clear c12
       by_cases c13 : a3 < 7
       ·rw [if_pos c13] at H
        have c13b0 : decide (a3 < 7) = true := decide_eq_true c13
        clear c13
        by_cases c14 : 0 ≤ a4
        ·rw [if_pos c14] at H
         have c14b0 : decide (0 ≤ a4) = true := decide_eq_true c14
         clear c14
         by_cases c15 : a4 < 7
         ·rw [if_pos c15] at H
          have c15b0 : decide (a4 < 7) = true := decide_eq_true c15
          clear c15
          by_cases c16 : 0 ≤ a5
          ·rw [if_pos c16] at H
           have c16b0 : decide (0 ≤ a5) = true := decide_eq_true c16
           clear c16
           by_cases c17 : a5 < 7
           ·rw [if_pos c17] at H
            have c17b0 : decide (a5 < 7) = true := decide_eq_true c17
            clear c17
            by_cases c18 : (wrap64 ((chiA l0 a1 a2 a3) * (chiA l0 a1 a4 a5))) = (wrap64 ((chiA l0 a1 a2 a5) * (chiA l0 a1 a3 a4)))
            ·rw [if_pos c18] at H
             have c18b0 : ((wrap64 ((chiA l0 a1 a2 a3) * (chiA l0 a1 a4 a5))) == (wrap64 ((chiA l0 a1 a2 a5) * (chiA l0 a1 a3 a4)))) = true := beq_iff_eq.mpr c18
             have c18b1 : ((wrap64 ((chiA l0 a1 a2 a3) * (chiA l0 a1 a4 a5))) != (wrap64 ((chiA l0 a1 a2 a5) * (chiA l0 a1 a3 a4)))) = false := bne_eq_false_iff_eq.mpr c18
             clear c18
             obtain rfl := Option.some.inj H
             have q438 : 344 ≤ (l0.length : Int) := of_decide_eq_true (by first | (with_reducible assumption) | assumption)
             have p438_0a : 0 ≤ (a1 : Int) := of_decide_eq_true (by first | (with_reducible assumption) | assumption)
             have p438_0b : (a1 : Int) < 7 := of_decide_eq_true (by first | (with_reducible assumption) | assumption)
             have p438_1a : 0 ≤ (a2 : Int) := of_decide_eq_true (by first | (with_reducible assumption) | assumption)
             have p438_1b : (a2 : Int) < 7 := of_decide_eq_true (by first | (with_reducible assumption) | assumption)
             have p438_2a : 0 ≤ (a3 : Int) := of_decide_eq_true (by first | (with_reducible assumption) | assumption)
             have p438_2b : (a3 : Int) < 7 := of_decide_eq_true (by first | (with_reducible assumption) | assumption)
             obtain ⟨ad438, e438, hx438_0⟩ := chi_at HR0.out q438 p438_0a p438_0b p438_1a p438_1b p438_2a p438_2b
             cases e438
             replace p438_0a := eq_true p438_0a
             replace p438_0b := eq_true p438_0b
             replace p438_1a := eq_true p438_1a
             replace p438_1b := eq_true p438_1b
             replace p438_2a := eq_true p438_2a
             replace p438_2b := eq_true p438_2b
             have q439 : 344 ≤ (l0.length : Int) := of_decide_eq_true (by first | (with_reducible assumption) | assumption)
             have p439_0a : 0 ≤ (a1 : Int) := of_decide_eq_true (by first | (with_reducible assumption) | assumption)
             have p439_0b : (a1 : Int) < 7 := of_decide_eq_true (by first | (with_reducible assumption) | assumption)
             have p439_1a : 0 ≤ (a4 : Int) := of_decide_eq_true (by first | (with_reducible assumption) | assumption)
             have p439_1b : (a4 : Int) < 7 := of_decide_eq_true (by first | (with_reducible assumption) | assumption)
             have p439_2a : 0 ≤ (a5 : Int) := of_decide_eq_true (by first | (with_reducible assumption) | assumption)
             have p439_2b : (a5 : Int) < 7 := of_decide_eq_true (by first | (with_reducible assumption) | assumption)
             obtain ⟨ad439, e439, hx439_0⟩ := chi_at HR0.out q439 p439_0a p439_0b p439_1a p439_1b p439_2a p439_2b
             obtain rfl : ad438 = ad439 := (by injection e439)
             replace p439_0a := eq_true p439_0a
             replace p439_0b := eq_true p439_0b
             replace p439_1a := eq_true p439_1a
             replace p439_1b := eq_true p439_1b
             replace p439_2a := eq_true p439_2a
             replace p439_2b := eq_true p439_2b
             have q440 : 344 ≤ (l0.length : Int) := of_decide_eq_true (by first | (with_reducible assumption) | assumption)
             have p440_0a : 0 ≤ (a1 : Int) := of_decide_eq_true (by first | (with_reducible assumption) | assumption)
             have p440_0b : (a1 : Int) < 7 := of_decide_eq_true (by first | (with_reducible assumption) | assumption)
             have p440_1a : 0 ≤ (a2 : Int) := of_decide_eq_true (by first | (with_reducible assumption) | assumption)
             have p440_1b : (a2 : Int) < 7 := of_decide_eq_true (by first | (with_reducible assumption) | assumption)
             have p440_2a : 0 ≤ (a5 : Int) := of_decide_eq_true (by first | (with_reducible assumption) | assumption)
             have p440_2b : (a5 : Int) < 7 := of_decide_eq_true (by first | (with_reducible assumption) | assumption)
             obtain ⟨ad440, e440, hx440_0⟩ := chi_at HR0.out q440 p440_0a p440_0b p440_1a p440_1b p440_2a p440_2b
             obtain rfl : ad438 = ad440 := (by injection e440)
             replace p440_0a := eq_true p440_0a
             replace p440_0b := eq_true p440_0b
             replace p440_1a := eq_true p440_1a
             replace p440_1b := eq_true p440_1b
             replace p440_2a := eq_true p440_2a
             replace p440_2b := eq_true p440_2b
             have q441 : 344 ≤ (l0.length : Int) := of_decide_eq_true (by first | (with_reducible assumption) | assumption)
             have p441_0a : 0 ≤ (a1 : Int) := of_decide_eq_true (by first | (with_reducible assumption) | assumption)
             have p441_0b : (a1 : Int) < 7 := of_decide_eq_true (by first | (with_reducible assumption) | assumption)
             have p441_1a : 0 ≤ (a3 : Int) := of_decide_eq_true (by first | (with_reducible assumption) | assumption)
             have p441_1b : (a3 : Int) < 7 := of_decide_eq_true (by first | (with_reducible assumption) | assumption)
             have p441_2a : 0 ≤ (a4 : Int) := of_decide_eq_true (by first | (with_reducible assumption) | assumption)
             have p441_2b : (a4 : Int) < 7 := of_decide_eq_true (by first | (with_reducible assumption) | assumption)
             obtain ⟨ad441, e441, hx441_0⟩ := chi_at HR0.out q441 p441_0a p441_0b p441_1a p441_1b p441_2a p441_2b
             obtain rfl : ad438 = ad441 := (by injection e441)
             replace p441_0a := eq_true p441_0a
             replace p441_0b := eq_true p441_0b
             replace p441_1a := eq_true p441_1a
             replace p441_1b := eq_true p441_1b
             replace p441_2a := eq_true p441_2a
             replace p441_2b := eq_true p441_2b
             have q442 : 344 ≤ (l0.length : Int) := of_decide_eq_true (by first | (with_reducible assumption) | assumption)
             have p442_0a : 0 ≤ (a1 : Int) := of_decide_eq_true (by first | (with_reducible assumption) | assumption)
             have p442_0b : (a1 : Int) < 7 := of_decide_eq_true (by first | (with_reducible assumption) | assumption)
             have p442_1a : 0 ≤ (a2 : Int) := of_decide_eq_true (by first | (with_reducible assumption) | assumption)
             have p442_1b : (a2 : Int) < 7 := of_decide_eq_true (by first | (with_reducible assumption) | assumption)
             have p442_2a : 0 ≤ (a4 : Int) := of_decide_eq_true (by first | (with_reducible assumption) | assumption)
             have p442_2b : (a4 : Int) < 7 := of_decide_eq_true (by first | (with_reducible assumption) | assumption)
             obtain ⟨ad442, e442, hx442_0⟩ := chi_at HR0.out q442 p442_0a p442_0b p442_1a p442_1b p442_2a p442_2b
             obtain rfl : ad438 = ad442 := (by injection e442)
             replace p442_0a := eq_true p442_0a
             replace p442_0b := eq_true p442_0b
             replace p442_1a := eq_true p442_1a
             replace p442_1b := eq_true p442_1b
             replace p442_2a := eq_true p442_2a
             replace p442_2b := eq_true p442_2b
             have q443 : 344 ≤ (l0.length : Int) := of_decide_eq_true (by first | (with_reducible assumption) | assumption)
             have p443_0a : 0 ≤ (a1 : Int) := of_decide_eq_true (by first | (with_reducible assumption) | assumption)
             have p443_0b : (a1 : Int) < 7 := of_decide_eq_true (by first | (with_reducible assumption) | assumption)
             have p443_1a : 0 ≤ (a3 : Int) := of_decide_eq_true (by first | (with_reducible assumption) | assumption)
             have p443_1b : (a3 : Int) < 7 := of_decide_eq_true (by first | (with_reducible assumption) | assumption)
             have p443_2a : 0 ≤ (a5 : Int) := of_decide_eq_true (by first | (with_reducible assumption) | assumption)
             have p443_2b : (a5 : Int) < 7 := of_decide_eq_true (by first | (with_reducible assumption) | assumption)
             obtain ⟨ad443, e443, hx443_0⟩ := chi_at HR0.out q443 p443_0a p443_0b p443_1a p443_1b p443_2a p443_2b
             obtain rfl : ad438 = ad443 := (by injection e443)
             replace p443_0a := eq_true p443_0a
             replace p443_0b := eq_true p443_0b
             replace p443_1a := eq_true p443_1a
             replace p443_1b := eq_true p443_1b
             replace p443_2a := eq_true p443_2a
             replace p443_2b := eq_true p443_2b
             go_enter Try.func148, Try.ntmps148
             go_wp2
             repeat (go_quiet (fail); try go_wp2)
             go_ret
             exact ⟨by first | rfl | (simp; done) | (simp [*]; done), by repeat (first | exact Drawn0.refl _ | apply Drawn0.step)⟩
            ·rw [if_neg c18] at H
             have c18b0 : ((wrap64 ((chiA l0 a1 a2 a3) * (chiA l0 a1 a4 a5))) == (wrap64 ((chiA l0 a1 a2 a5) * (chiA l0 a1 a3 a4)))) = false := beq_eq_false_iff_ne.mpr c18
             have c18b1 : ((wrap64 ((chiA l0 a1 a2 a3) * (chiA l0 a1 a4 a5))) != (wrap64 ((chiA l0 a1 a2 a5) * (chiA l0 a1 a3 a4)))) = true := bne_iff_ne.mpr c18
             obtain rfl := Option.some.inj H
             have q438 : 344 ≤ (l0.length : Int) := of_decide_eq_true (by first | (with_reducible assumption) | assumption)
             have p438_0a : 0 ≤ (a1 : Int) := of_decide_eq_true (by first | (with_reducible assumption) | assumption)
             have p438_0b : (a1 : Int) < 7 := of_decide_eq_true (by first | (with_reducible assumption) | assumption)
             have p438_1a : 0 ≤ (a2 : Int) := of_decide_eq_true (by first | (with_reducible assumption) | assumption)
             have p438_1b : (a2 : Int) < 7 := of_decide_eq_true (by first | (with_reducible assumption) | assumption)
             have p438_2a : 0 ≤ (a3 : Int) := of_decide_eq_true (by first | (with_reducible assumption) | assumption)
             have p438_2b : (a3 : Int) < 7 := of_decide_eq_true (by first | (with_reducible assumption) | assumption)
             obtain ⟨ad438, e438, hx438_0⟩ := chi_at HR0.out q438 p438_0a p438_0b p438_1a p438_1b p438_2a p438_2b
             cases e438
             replace p438_0a := eq_true p438_0a
             replace p438_0b := eq_true p438_0b
             replace p438_1a := eq_true p438_1a
             replace p438_1b := eq_true p438_1b
             replace p438_2a := eq_true p438_2a
             replace p438_2b := eq_true p438_2b
             have q439 : 344 ≤ (l0.length : Int) := of_decide_eq_true (by first | (with_reducible assumption) | assumption)
             have p439_0a : 0 ≤ (a1 : Int) := of_decide_eq_true (by first | (with_reducible assumption) | assumption)
             have p439_0b : (a1 : Int) < 7 := of_decide_eq_true (by first | (with_reducible assumption) | assumption)
             have p439_1a : 0 ≤ (a4 : Int) := of_decide_eq_true (by first | (with_reducible assumption) | assumption)
             have p439_1b : (a4 : Int) < 7 := of_decide_eq_true (by first | (with_reducible assumption) | assumption)
             have p439_2a : 0 ≤ (a5 : Int) := of_decide_eq_true (by first | (with_reducible assumption) | assumption)
             have p439_2b : (a5 : Int) < 7 := of_decide_eq_true (by first | (with_reducible assumption) | assumption)
             obtain ⟨ad439, e439, hx439_0⟩ := chi_at HR0.out q439 p439_0a p439_0b p439_1a p439_1b p439_2a p439_2b
             obtain rfl : ad438 = ad439 := (by injection e439)
             replace p439_0a := eq_true p439_0a
             replace p439_0b := eq_true p439_0b
             replace p439_1a := eq_true p439_1a
             replace p439_1b := eq_true p439_1b
             replace p439_2a := eq_true p439_2a
             replace p439_2b := eq_true p439_2b
             have q440 : 344 ≤ (l0.length : Int) := of_decide_eq_true (by first | (with_reducible assumption) | assumption)
             have p440_0a : 0 ≤ (a1 : Int) := of_decide_eq_true (by first | (with_reducible assumption) | assumption)
             have p440_0b : (a1 : Int) < 7 := of_decide_eq_true (by first | (with_reducible assumption) | assumption)
             have p440_1a : 0 ≤ (a2 : Int) := of_decide_eq_true (by first | (with_reducible assumption) | assumption)
             have p440_1b : (a2 : Int) < 7 := of_decide_eq_true (by first | (with_reducible assumption) | assumption)
             have p440_2a : 0 ≤ (a5 : Int) := of_decide_eq_true (by first | (with_reducible assumption) | assumption)
             have p440_2b : (a5 : Int) < 7 := of_decide_eq_true (by first | (with_reducible assumption) | assumption)
             obtain ⟨ad440, e440, hx440_0⟩ := chi_at HR0.out q440 p440_0a p440_0b p440_1a p440_1b p440_2a p440_2b
             obtain rfl : ad438 = ad440 := (by injection e440)
             replace p440_0a := eq_true p440_0a
             replace p440_0b := eq_true p440_0b
             replace p440_1a := eq_true p440_1a
             replace p440_1b := eq_true p440_1b
             replace p440_2a := eq_true p440_2a
             replace p440_2b := eq_true p440_2b
             have q441 : 344 ≤ (l0.length : Int) := of_decide_eq_true (by first | (with_reducible assumption) | assumption)
             have p441_0a : 0 ≤ (a1 : Int) := of_decide_eq_true (by first | (with_reducible assumption) | assumption)
             have p441_0b : (a1 : Int) < 7 := of_decide_eq_true (by first | (with_reducible assumption) | assumption)
             have p441_1a : 0 ≤ (a3 : Int) := of_decide_eq_true (by first | (with_reducible assumption) | assumption)
             have p441_1b : (a3 : Int) < 7 := of_decide_eq_true (by first | (with_reducible assumption) | assumption)
             have p441_2a : 0 ≤ (a4 : Int) := of_decide_eq_true (by first | (with_reducible assumption) | assumption)
             have p441_2b : (a4 : Int) < 7 := of_decide_eq_true (by first | (with_reducible assumption) | assumption)
             obtain ⟨ad441, e441, hx441_0⟩ := chi_at HR0.out q441 p441_0a p441_0b p441_1a p441_1b p441_2a p441_2b
             obtain rfl : ad438 = ad441 := (by injection e441)
             replace p441_0a := eq_true p441_0a
             replace p441_0b := eq_true p441_0b
             replace p441_1a := eq_true p441_1a
             replace p441_1b := eq_true p441_1b
             replace p441_2a := eq_true p441_2a
             replace p441_2b := eq_true p441_2b
             have q442 : 344 ≤ (l0.length : Int) := of_decide_eq_true (by first | (with_reducible assumption) | assumption)
             have p442_0a : 0 ≤ (a1 : Int) := of_decide_eq_true (by first | (with_reducible assumption) | assumption)
             have p442_0b : (a1 : Int) < 7 := of_decide_eq_true (by first | (with_reducible assumption) | assumption)
             have p442_1a : 0 ≤ (a2 : Int) := of_decide_eq_true (by first | (with_reducible assumption) | assumption)
             have p442_1b : (a2 : Int) < 7 := of_decide_eq_true (by first | (with_reducible assumption) | assumption)
             have p442_2a : 0 ≤ (a4 : Int) := of_decide_eq_true (by first | (with_reducible assumption) | assumption)
             have p442_2b : (a4 : Int) < 7 := of_decide_eq_true (by first | (with_reducible assumption) | assumption)
             obtain ⟨ad442, e442, hx442_0⟩ := chi_at HR0.out q442 p442_0a p442_0b p442_1a p442_1b p442_2a p442_2b
             obtain rfl : ad438 = ad442 := (by injection e442)
             replace p442_0a := eq_true p442_0a
             replace p442_0b := eq_true p442_0b
             replace p442_1a := eq_true p442_1a
             replace p442_1b := eq_true p442_1b
             replace p442_2a := eq_true p442_2a
             replace p442_2b := eq_true p442_2b
             have q443 : 344 ≤ (l0.length : Int) := of_decide_eq_true (by first | (with_reducible assumption) | assumption)
             have p443_0a : 0 ≤ (a1 : Int) := of_decide_eq_true (by first | (with_reducible assumption) | assumption)
             have p443_0b : (a1 : Int) < 7 := of_decide_eq_true (by first | (with_reducible assumption) | assumption)
             have p443_1a : 0 ≤ (a3 : Int) := of_decide_eq_true (by first | (with_reducible assumption) | assumption)
             have p443_1b : (a3 : Int) < 7 := of_decide_eq_true (by first | (with_reducible assumption) | assumption)
             have p443_2a : 0 ≤ (a5 : Int) := of_decide_eq_true (by first | (with_reducible assumption) | assumption)
             have p443_2b : (a5 : Int) < 7 := of_decide_eq_true (by first | (with_reducible assumption) | assumption)
             obtain ⟨ad443, e443, hx443_0⟩ := chi_at HR0.out q443 p443_0a p443_0b p443_1a p443_1b p443_2a p443_2b
             obtain rfl : ad438 = ad443 := (by injection e443)
             replace p443_0a := eq_true p443_0a
             replace p443_0b := eq_true p443_0b
             replace p443_1a := eq_true p443_1a
             replace p443_1b := eq_true p443_1b
             replace p443_2a := eq_true p443_2a
             replace p443_2b := eq_true p443_2b
             go_enter Try.func148, Try.ntmps148
             go_wp2
             repeat (go_quiet (fail); try go_wp2)
             go_ret
             exact ⟨by first | rfl | (simp; done) | (simp [*]; done), by repeat (first | exact Drawn0.refl _ | apply Drawn0.step)⟩
           ·rw [if_neg c17] at H
            exact absurd H (by simp)
          ·rw [if_neg c16] at H
           exact absurd H (by simp)
         ·rw [if_neg c15] at H
          exact absurd H (by simp)
        ·rw [if_neg c14] at H
         exact absurd H (by simp)
       ·rw [if_neg c13] at H
        exact absurd H (by simp)
      ·rw [if_neg c12] at H
       exact absurd H (by simp)
     ·rw [if_neg c11] at H
      exact absurd H (by simp)
    ·rw [if_neg c10] at H
     exact absurd H (by simp)
   ·rw [if_neg c9] at H
    exact absurd H (by simp)
  ·rw [if_neg c8] at H
   exact absurd H (by simp)
 ·rw [if_neg c7] at H
  exact absurd H (by simp)
end Go.Proofs.Ytbglgapndefcfaa.P
