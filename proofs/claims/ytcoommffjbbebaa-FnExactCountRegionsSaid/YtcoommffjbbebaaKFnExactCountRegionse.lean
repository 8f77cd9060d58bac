/- What the law FnExactCountRegions reaches, part 5: functions as plain Lean functions with the proofs that their calls come to them, and plain lemmas over these. Put together by a program (wip/pack.py). -/
import Derived.Test.YtcoommffjbbebaaKFnExactCountRegionsa
import Derived.Test.YtcoommffjbbebaaKFnExactCountRegionsd
import Derived.Sort.Grow
import Derived.Shelf.SortM.Plain
import Derived.Shelf.SortM.SortNone
namespace Go.Proofs.Ytcoommffjbbebaa.P
open Go.RowKit Go.Proofs.YtcoommffjbbebaaW.PrintWords Go.Proofs.YtcoommffjbbebaaW.PrintLast Go.Proofs.YtcoommffjbbebaaW.PrintMore
attribute [local go_sem] ptrOf_slice
attribute [local go_sem] min2_str max2_int min2_int max_two min_two max_three min_three max_four min_four
set_option linter.unusedVariables false
set_option linter.unusedSimpArgs false
def slices_ContainsFunc_Simpl_Line_impl_Line_impl_AreLines_1.f (k : Nat) (l0 : List (S98)) (s1_0 : Int) (s1_1 : Int) (s1_2 : Int) : Option (Bool) := (slices_IndexFunc_Simpl_Line_impl_Line_impl_AreLines_1.f k l0 s1_0 s1_1 s1_2).bind fun t921 => (some (decide (t921 ≥ 0)))
theorem slices_ContainsFunc_Simpl_Line_impl_Line_impl_AreLines_1.mono : ∀ a0 a1 a2 a3 k, LeO (slices_ContainsFunc_Simpl_Line_impl_Line_impl_AreLines_1.f k a0 a1 a2 a3) (slices_ContainsFunc_Simpl_Line_impl_Line_impl_AreLines_1.f (k + 1) a0 a1 a2 a3) := by
 intro a0 a1 a2 a3 k
 unfold slices_ContainsFunc_Simpl_Line_impl_Line_impl_AreLines_1.f
 repeat' first
   | (with_reducible exact slices_IndexFunc_Simpl_Line_impl_Line_impl_AreLines_1.mono _ _ _ _ _)
   | (with_reducible exact LeO.refl _)
   | (with_reducible exact LeO.none _)
   | (with_reducible refine LeO.ite ?_ ?_)
   | (with_reducible refine LeO.bind ?_ (fun _ => ?_))
   | exact slices_IndexFunc_Simpl_Line_impl_Line_impl_AreLines_1.mono _ _ _ _ _
   | exact LeO.none _
   | refine LeO.ite ?_ ?_
   | refine LeO.bind ?_ (fun _ => ?_)
set_option maxHeartbeats 8000000 in
set_option maxRecDepth 100000 in
theorem slices_ContainsFunc_Simpl_Line_impl_Line_impl_AreLines_1.calls (k : Nat) (A0 : Option Addr) (c0 : Nat) (l0 : List (S98)) (gb1 : Nat) (s1_0 : Int) (s1_1 : Int) (s1_2 : Int) (r : Bool) (w : World) (hr0 : Kd.C k98 w A0 l0.length l0) (hc0 : l0.length ≤ c0) (hb1_ : w.heap[gb1]? = some (.cells #[.int .i64 s1_0, .int .i64 s1_1, .int .i64 s1_2] 98 (0, 0))) (h : slices_ContainsFunc_Simpl_Line_impl_Line_impl_AreLines_1.f k l0 s1_0 s1_1 s1_2 = some r) :
  Calls Try.prog 129 #[.slice A0 l0.length c0, .func (.func 130) #[] #[.pointer (some ⟨gb1, 0, none⟩)]] w fun e w' => e = .returned (.bool r) ∧ Below w.heap.size w w' := by
 have HR0 := Aside0.mk hr0
 have HC0 := Aside0.mk hc0
 clear hr0 hc0
 have BK1 := Aside0.mk hb1_
 clear hb1_
 have HB := Aside0.mk (Below.refl w.heap.size w)
 have H : ((slices_IndexFunc_Simpl_Line_impl_Line_impl_AreLines_1.f k l0 s1_0 s1_1 s1_2).bind fun t921 => (some (decide (t921 ≥ 0)))) = some r := h
 clear h
 replace H := Option.bind_eq_some_iff.mp H
 obtain ⟨t921, A30, H⟩ := H
 replace H : (some (decide (t921 ≥ 0))) = some r := H
 have A3 := Aside0.mk A30
 clear A30
 obtain rfl := Option.some.inj H
 go_enter Try.func129, Try.ntmps129
 go_wp2_with (first | ((with_reducible refine gate_callee (f := 166) rfl ?_); refine goesL_ (some 7) rfl rfl Try.func166 (by kernel_rfl) rfl #[.slice A0 l0.length c0, .func (.func 130) #[] #[.pointer (some ⟨gb1, 0, none⟩)]] rfl (by (try simp only [List.map_toArray, List.map_cons, List.map_nil]); first | done | rfl | (simp only [List.length_drop, List.length_take]; rfl)) ?_; (with_reducible refine (slices_IndexFunc_Simpl_Line_impl_Line_impl_AreLines_1.calls k _ _ l0 gb1 s1_0 s1_1 s1_2 t921 _ ?side1 ?side2 ?side3 A3.out).mono ?_); (case side1 => repeat (first | exact HR0.out | (with_reducible refine Kd.C_alloc ?_ _) | (with_reducible refine Kd.C_drewN ?_ _) | (with_reducible refine Kd.C_drew ?_))); (case side2 => exact HC0.out); (case side3 => exact (by (with_reducible repeat (first | refine blk_drewN ?_ _ | refine blk_drew ?_ | refine blk_alloc ?_ _)); exact BK1.out)); rintro e w4 ⟨rfl, hb⟩; refine ⟨_, rfl, ?_⟩; have n0_ := Aside0.mk (blk_below (g := gb1) (o := .cells #[.int .i64 s1_0, .int .i64 s1_1, .int .i64 s1_2] 98 (0, 0)) (by (with_reducible repeat (first | refine blk_drewN ?_ _ | refine blk_drew ?_ | refine blk_alloc ?_ _)); exact BK1.out) hb); have n1_ := Aside0.mk (below_step (by repeat (first | (with_reducible first | exact HB.out | apply below_alloc | apply pw_below_drewN | apply below_drew1 | refine below_set ?_ GE1.out) | exact HB.out)) hb); clear BK1; clear HB; have BK1 := n0_; have HB := n1_; clear n0_ n1_; (try clear hb); (try clear hb2); (try clear hk); (try clear hi)))
 go_ret
 exact ⟨by first | rfl | (simp [errW_none, errW_some] <;> rfl) | (simp [*, errW_none, errW_some] <;> rfl), by repeat (first | (with_reducible first | exact HB.out | apply below_alloc | apply pw_below_drewN | apply below_drew1 | refine below_set ?_ GE1.out) | exact HB.out)⟩
mutual
def impl_AreLines.l0 : Nat → List (S98) → List (S98) → Int → Int → Option (Bool)
 | 0, _, _, _, _ => none
 | k + 1, x0, x5, x6, x7 => if x7 < x6 then (if 0 ≤ x7 then (if x7 < (x5.length : Int) then ((impl_isFar.f ((rd_T98 x5 x7).f0) 20).bind fun t924 => (if t924 = true then (impl_AreLines.j1 k x0 x7 x5 x6 x7 true ((rd_T98 x5 x7).f0) ((rd_T98 x5 x7).f1) ((rd_T98 x5 x7).f2)) else ((impl_isFar.f ((rd_T98 x5 x7).f1) 20).bind fun t925 => (if t925 = true then (impl_AreLines.j1 k x0 x7 x5 x6 x7 true ((rd_T98 x5 x7).f0) ((rd_T98 x5 x7).f1) ((rd_T98 x5 x7).f2)) else ((impl_isFar.f ((rd_T98 x5 x7).f2) 20).bind fun t926 => (if t926 = true then (impl_AreLines.j1 k x0 x7 x5 x6 x7 true ((rd_T98 x5 x7).f0) ((rd_T98 x5 x7).f1) ((rd_T98 x5 x7).f2)) else (if ((rd_T98 x5 x7).f0) = 0 then (impl_AreLines.j1 k x0 x7 x5 x6 x7 (((rd_T98 x5 x7).f1) == 0) ((rd_T98 x5 x7).f0) ((rd_T98 x5 x7).f1) ((rd_T98 x5 x7).f2)) else (impl_AreLines.j1 k x0 x7 x5 x6 x7 false ((rd_T98 x5 x7).f0) ((rd_T98 x5 x7).f1) ((rd_T98 x5 x7).f2))))))))) else (none)) else (none)) else (if (x0.length : Int) ≥ 1 then (some (decide ((x0.length : Int) ≤ 6))) else (some false))
def impl_AreLines.j1 : Nat → List (S98) → Int → List (S98) → Int → Int → Bool → Int → Int → Int → Option (Bool)
 | 0, _, _, _, _, _, _, _, _, _ => none
 | k + 1, x0, x3, x5, x6, x7, x34, x924000, x924001, x924002 => if x34 = true then (some false) else (if 0 ≤ x3 then (if x3 ≤ (x0.length : Int) then ((slices_ContainsFunc_Simpl_Line_impl_Line_impl_AreLines_1.f k (x0.take (x3 : Int).toNat) x924000 x924001 x924002).bind fun t931 => (if t931 = true then (some false) else (impl_AreLines.l0 k x0 x5 x6 (wrap64 (x7 + 1))))) else (none)) else (none))
end
def impl_AreLines.f (k : Nat) (l0 : List (S98)) : Option (Bool) := impl_AreLines.l0 k l0 l0 (l0.length : Int) 0
theorem impl_AreLines.mono_l : ∀ k, (∀ y0 y1 y2 y3, LeO (impl_AreLines.l0 k y0 y1 y2 y3) (impl_AreLines.l0 (k + 1) y0 y1 y2 y3)) ∧ (∀ y0 y1 y2 y3 y4 y5 y6 y7 y8, LeO (impl_AreLines.j1 k y0 y1 y2 y3 y4 y5 y6 y7 y8) (impl_AreLines.j1 (k + 1) y0 y1 y2 y3 y4 y5 y6 y7 y8))
 | 0 => ⟨fun _ _ _ _ r h => by simp [impl_AreLines.l0] at h, fun _ _ _ _ _ _ _ _ _ r h => by simp [impl_AreLines.j1] at h⟩
 | k + 1 => by
  obtain ⟨ih0, ih1⟩ := impl_AreLines.mono_l k
  refine ⟨?_, ?_⟩
  ·intro y0 y1 y2 y3
   unfold impl_AreLines.l0
   repeat' first
   | (with_reducible exact ih0 _ _ _ _)
   | (with_reducible exact ih1 _ _ _ _ _ _ _ _ _)
   | (with_reducible exact slices_ContainsFunc_Simpl_Line_impl_Line_impl_AreLines_1.mono _ _ _ _ _)
   | (with_reducible exact LeO.refl _)
   | (with_reducible exact LeO.none _)
   | (with_reducible refine LeO.ite ?_ ?_)
   | (with_reducible refine LeO.bind ?_ (fun _ => ?_))
   | exact ih0 _ _ _ _
   | exact ih1 _ _ _ _ _ _ _ _ _
   | exact slices_ContainsFunc_Simpl_Line_impl_Line_impl_AreLines_1.mono _ _ _ _ _
   | exact LeO.none _
   | refine LeO.ite ?_ ?_
   | refine LeO.bind ?_ (fun _ => ?_)
  ·intro y0 y1 y2 y3 y4 y5 y6 y7 y8
   unfold impl_AreLines.j1
   repeat' first
   | (with_reducible exact ih0 _ _ _ _)
   | (with_reducible exact ih1 _ _ _ _ _ _ _ _ _)
   | (with_reducible exact slices_ContainsFunc_Simpl_Line_impl_Line_impl_AreLines_1.mono _ _ _ _ _)
   | (with_reducible exact LeO.refl _)
   | (with_reducible exact LeO.none _)
   | (with_reducible refine LeO.ite ?_ ?_)
   | (with_reducible refine LeO.bind ?_ (fun _ => ?_))
   | exact ih0 _ _ _ _
   | exact ih1 _ _ _ _ _ _ _ _ _
   | exact slices_ContainsFunc_Simpl_Line_impl_Line_impl_AreLines_1.mono _ _ _ _ _
   | exact LeO.none _
   | refine LeO.ite ?_ ?_
   | refine LeO.bind ?_ (fun _ => ?_)
theorem impl_AreLines.mono : ∀ a0 k, LeO (impl_AreLines.f k a0) (impl_AreLines.f (k + 1) a0) := by
 intro a0 k
 obtain ⟨ih0, ih1⟩ := impl_AreLines.mono_l k
 unfold impl_AreLines.f
 repeat' first
   | (with_reducible exact ih0 _ _ _ _)
   | (with_reducible exact ih1 _ _ _ _ _ _ _ _ _)
   | (with_reducible exact slices_ContainsFunc_Simpl_Line_impl_Line_impl_AreLines_1.mono _ _ _ _ _)
   | (with_reducible exact LeO.refl _)
   | (with_reducible exact LeO.none _)
   | (with_reducible refine LeO.ite ?_ ?_)
   | (with_reducible refine LeO.bind ?_ (fun _ => ?_))
   | exact ih0 _ _ _ _
   | exact ih1 _ _ _ _ _ _ _ _ _
   | exact slices_ContainsFunc_Simpl_Line_impl_Line_impl_AreLines_1.mono _ _ _ _ _
   | exact LeO.none _
   | refine LeO.ite ?_ ?_
   | refine LeO.bind ?_ (fun _ => ?_)
set_option maxHeartbeats 8000000 in
set_option maxRecDepth 100000 in
theorem impl_AreLines.calls (k : Nat) (A0 : Option Addr) (c0 : Nat) (l0 : List (S98)) (r : Bool) (w : World) (hr0 : Kd.C k98 w A0 l0.length l0) (hc0 : l0.length ≤ c0) (h : impl_AreLines.f k l0 = some r) :
  Calls Try.prog 83 #[.slice A0 l0.length c0] w fun e w' => e = .returned (.bool r) ∧ Below w.heap.size w w' := by
 have hu98 := Try.underlying98
 have HR0 := Aside0.mk hr0
 have HC0 := Aside0.mk hc0
 clear hr0 hc0
 have HB := Aside0.mk (Below.refl w.heap.size w)
 have H : (impl_AreLines.l0 k l0 l0 (l0.length : Int) 0) = some r := h
 clear h
 have H' := Aside0.mk H
 clear H
 go_enter Try.func83, Try.ntmps83
 go_wp2
 go_loopg [7] k (fun kq v7 w' => ∃ (x7_1 : Int), v7 = .int .i64 x7_1 ∧ Aside0 (impl_AreLines.l0 kq l0 l0 (l0.length : Int) x7_1 = some r) ∧ Aside0 (kq ≤ k) ∧ Aside0 (Below w.heap.size w w'))
 case atStart => exact ⟨(0), (by first | rfl | (simp; done) | (simp [*]; done)), H', ⟨Nat.le_refl _⟩, ⟨by repeat (first | (with_reducible first | exact HB.out | apply below_alloc | apply pw_below_drewN | apply below_drew1) | exact HB.out)⟩⟩
 case round =>
  clear H'
  obtain ⟨x7_1, rfl, HA, HK1, HB⟩ := hrel
  cases gk with
  | zero => exact absurd HA.out (by simp [impl_AreLines.l0])
  | succ k1 =>
   have H := HA.out
   clear HA
   simp only [impl_AreLines.l0] at H
   by_cases c2 : x7_1 < (l0.length : Int)
   ·rw [if_pos c2] at H
    have c2b0 : decide (x7_1 < (l0.length : Int)) = true := decide_eq_true c2
    clear c2
    by_cases c3 : 0 ≤ x7_1
    ·rw [if_pos c3] at H
     have c3b0 : decide (0 ≤ x7_1) = true := decide_eq_true c3
     clear c3
     by_cases c4 : x7_1 < (l0.length : Int)
     ·rw [if_pos c4] at H
      have c4b0 : decide (x7_1 < (l0.length : Int)) = true := decide_eq_true c4
      clear c4
      have HC5 := Aside0.mk H
      clear H
      have p922 : 0 ≤ (x7_1 : Int) := of_decide_eq_true (by first | (with_reducible assumption) | assumption)
      have q922 : x7_1 < (l0.length : Int) := of_decide_eq_true (by first | (with_reducible assumption) | assumption)
      obtain ⟨ad922, e922, hx922_0, hx922_1, hx922_2⟩ := at_T98 HR0.out x7_1 p922 q922
      cases e922
      replace hx922_0 := (HB.out.cell (World.block_lt_of_cell? w _ hx922_0)).trans hx922_0
      replace hx922_1 := (HB.out.cell (World.block_lt_of_cell? w _ hx922_1)).trans hx922_1
      replace hx922_2 := (HB.out.cell (World.block_lt_of_cell? w _ hx922_2)).trans hx922_2
      replace p922 := eq_true p922
      replace q922 := eq_true q922
      go_upto_region 4 with (first | ((with_reducible refine gate_dst (N := 4) rfl ?_); (try (refine gate_guard (by rfl) ?_; dsimp only)); refine box_event ?hg (N := 4) ?hd (cs := #[.int .i64 0, .int .i64 0, .int .i64 0]) (t := 98) ?hr ?_; (case hd => rfl); (case hg => rfl); (case hr => first | (go_simp; done) | (go_simp; rfl)); intro gb923 hg w6 hbox hb; have n0_ := Aside0.mk (below_step (by repeat (first | (with_reducible first | exact HB.out | apply below_alloc | apply pw_below_drewN | apply below_drew1) | exact HB.out)) hb); have n1_ := Aside0.mk (hbox); have n2_ := Aside0.mk ((by rw [hg]; exact (below_size (by repeat (first | (with_reducible first | exact HB.out | apply below_alloc | apply pw_below_drewN | apply below_drew1) | exact HB.out))) : w.heap.size ≤ gb923)); have n3_ := Aside0.mk ((by rw [hg]; exact (below_size (by repeat (first | (with_reducible first | exact HB.out | apply below_alloc | apply pw_below_drewN | apply below_drew1) | exact HB.out))) : w.heap.size ≤ gb923)); clear HB; have HB := n0_; have BK923 := n1_; have GW923 := n2_; have GE923 := n3_; clear n0_ n1_ n2_ n3_; clear hb hbox hg; have hcz7_0 : w6.cell? ⟨gb923, 0, none⟩ = some (.int .i64 0) := (blk_cell BK923.out 0).trans rfl; have hcz7_1 : w6.cell? ⟨gb923, 1, none⟩ = some (.int .i64 0) := (blk_cell BK923.out 1).trans rfl; have hcz7_2 : w6.cell? ⟨gb923, 2, none⟩ = some (.int .i64 0) := (blk_cell BK923.out 2).trans rfl; have hfz7_0 := blk_frozen BK923.out 0; have hfz7_1 := blk_frozen BK923.out 1; have hfz7_2 := blk_frozen BK923.out 2))
      (try simp only [Act.put, List.setIfInBounds_toArray, List.set_cons_zero, List.set_cons_succ])
      go_cut [34] (fun v34 wc => ∃ (kq : Nat) (x34_4 : Bool), v34 = .bool x34_4 ∧ Aside0 (impl_AreLines.j1 kq l0 x7_1 l0 (l0.length : Int) x7_1 x34_4 ((rd_T98 l0 x7_1).f0) ((rd_T98 l0 x7_1).f1) ((rd_T98 l0 x7_1).f2) = some r) ∧ Aside0 (kq ≤ k1) ∧ Aside0 (wc.heap[gb923]? = some (.cells #[.int .i64 ((rd_T98 l0 x7_1).f0), .int .i64 ((rd_T98 l0 x7_1).f1), .int .i64 ((rd_T98 l0 x7_1).f2)] 98 (0, 0))) ∧ Aside0 (Below w.heap.size w wc))
      case first =>
       have H := HC5.out
       clear HC5
       replace H := Option.bind_eq_some_iff.mp H
       obtain ⟨t924, A80, H⟩ := H
       replace H : (if t924 = true then (impl_AreLines.j1 k1 l0 x7_1 l0 (l0.length : Int) x7_1 true ((rd_T98 l0 x7_1).f0) ((rd_T98 l0 x7_1).f1) ((rd_T98 l0 x7_1).f2)) else ((impl_isFar.f ((rd_T98 l0 x7_1).f1) 20).bind fun t925 => (if t925 = true then (impl_AreLines.j1 k1 l0 x7_1 l0 (l0.length : Int) x7_1 true ((rd_T98 l0 x7_1).f0) ((rd_T98 l0 x7_1).f1) ((rd_T98 l0 x7_1).f2)) else ((impl_isFar.f ((rd_T98 l0 x7_1).f2) 20).bind fun t926 => (if t926 = true then (impl_AreLines.j1 k1 l0 x7_1 l0 (l0.length : Int) x7_1 true ((rd_T98 l0 x7_1).f0) ((rd_T98 l0 x7_1).f1) ((rd_T98 l0 x7_1).f2)) else (if ((rd_T98 l0 x7_1).f0) = 0 then (impl_AreLines.j1 k1 l0 x7_1 l0 (l0.length : Int) x7_1 (((rd_T98 l0 x7_1).f1) == 0) ((rd_T98 l0 x7_1).f0) ((rd_T98 l0 x7_1).f1) ((rd_T98 l0 x7_1).f2)) else (impl_AreLines.j1 k1 l0 x7_1 l0 (l0.length : Int) x7_1 false ((rd_T98 l0 x7_1).f0) ((rd_T98 l0 x7_1).f1) ((rd_T98 l0 x7_1).f2)))))))) = some r := H
       have A8 := Aside0.mk A80
       clear A80
       by_cases c9 : t924 = true
       ·subst c9
        have H1 : (impl_AreLines.j1 k1 l0 x7_1 l0 (l0.length : Int) x7_1 true ((rd_T98 l0 x7_1).f0) ((rd_T98 l0 x7_1).f1) ((rd_T98 l0 x7_1).f2)) = some r := by rw [if_pos rfl] at H; exact H
        clear H
        have H := H1
        clear H1
        have H' := Aside0.mk H
        clear H
        have hcz10_0 : w6.cell? ⟨gb923, 0, none⟩ = some (.int .i64 0) := (blk_cell BK923.out 0).trans rfl
        have hcz10_1 : w6.cell? ⟨gb923, 1, none⟩ = some (.int .i64 0) := (blk_cell BK923.out 1).trans rfl
        have hcz10_2 : w6.cell? ⟨gb923, 2, none⟩ = some (.int .i64 0) := (blk_cell BK923.out 2).trans rfl
        have hfz10_0 := blk_frozen BK923.out 0
        have hfz10_1 := blk_frozen BK923.out 1
        have hfz10_2 := blk_frozen BK923.out 2
        go_wp2_with (first | ((with_reducible refine gate_callee (f := 128) rfl ?_); refine goesL_ (some 14) rfl rfl Try.func128 (by kernel_rfl) rfl #[.int .i64 ((rd_T98 l0 x7_1).f0), .int .i64 20] rfl (by (try simp only [List.map_toArray, List.map_cons, List.map_nil]); first | done | rfl | (simp only [List.length_drop, List.length_take]; rfl)) ?_; (with_reducible refine (impl_isFar.calls ((rd_T98 l0 x7_1).f0) 20 true _ A8.out).mono ?_); rintro e w' ⟨rfl, ⟨nd, rfl⟩⟩; refine ⟨_, rfl, ?_⟩))
        go_meet
        case rel => exact ⟨_, (true), (by first | rfl | (simp; done) | (simp [*]; done)), H', ⟨by have := HK1.out; first | omega | exact Nat.le_refl _⟩, ⟨by (with_reducible repeat (first | refine blk_drewN ?_ _ | refine blk_drew ?_ | refine blk_alloc ?_ _)); refine blk_put (cs := #[.int .i64 ((rd_T98 l0 x7_1).f0), .int .i64 ((rd_T98 l0 x7_1).f1), .int .i64 0]) ?_ 2 _ rfl; (with_reducible repeat (first | refine blk_drewN ?_ _ | refine blk_drew ?_ | refine blk_alloc ?_ _)); refine blk_put (cs := #[.int .i64 ((rd_T98 l0 x7_1).f0), .int .i64 0, .int .i64 0]) ?_ 1 _ rfl; (with_reducible repeat (first | refine blk_drewN ?_ _ | refine blk_drew ?_ | refine blk_alloc ?_ _)); refine blk_put (cs := #[.int .i64 0, .int .i64 0, .int .i64 0]) ?_ 0 _ rfl; (with_reducible repeat (first | refine blk_drewN ?_ _ | refine blk_drew ?_ | refine blk_alloc ?_ _)); exact BK923.out⟩, ⟨by repeat (first | (with_reducible first | exact HB.out | apply below_alloc | apply pw_below_drewN | apply below_drew1 | refine below_set ?_ GE923.out) | exact HB.out)⟩⟩
       ·replace c9 := Bool.eq_false_iff.mpr c9
        subst c9
        have H1 : ((impl_isFar.f ((rd_T98 l0 x7_1).f1) 20).bind fun t925 => (if t925 = true then (impl_AreLines.j1 k1 l0 x7_1 l0 (l0.length : Int) x7_1 true ((rd_T98 l0 x7_1).f0) ((rd_T98 l0 x7_1).f1) ((rd_T98 l0 x7_1).f2)) else ((impl_isFar.f ((rd_T98 l0 x7_1).f2) 20).bind fun t926 => (if t926 = true then (impl_AreLines.j1 k1 l0 x7_1 l0 (l0.length : Int) x7_1 true ((rd_T98 l0 x7_1).f0) ((rd_T98 l0 x7_1).f1) ((rd_T98 l0 x7_1).f2)) else (if ((rd_T98 l0 x7_1).f0) = 0 then (impl_AreLines.j1 k1 l0 x7_1 l0 (l0.length : Int) x7_1 (((rd_T98 l0 x7_1).f1) == 0) ((rd_T98 l0 x7_1).f0) ((rd_T98 l0 x7_1).f1) ((rd_T98 l0 x7_1).f2)) else (impl_AreLines.j1 k1 l0 x7_1 l0 (l0.length : Int) x7_1 false ((rd_T98 l0 x7_1).f0) ((rd_T98 l0 x7_1).f1) ((rd_T98 l0 x7_1).f2))))))) = some r := by rw [if_neg (show ¬ (false = true) by decide)] at H; exact H
        clear H
        have H := H1
        clear H1
        replace H := Option.bind_eq_some_iff.mp H
        obtain ⟨t925, A110, H⟩ := H
        replace H : (if t925 = true then (impl_AreLines.j1 k1 l0 x7_1 l0 (l0.length : Int) x7_1 true ((rd_T98 l0 x7_1).f0) ((rd_T98 l0 x7_1).f1) ((rd_T98 l0 x7_1).f2)) else ((impl_isFar.f ((rd_T98 l0 x7_1).f2) 20).bind fun t926 => (if t926 = true then (impl_AreLines.j1 k1 l0 x7_1 l0 (l0.length : Int) x7_1 true ((rd_T98 l0 x7_1).f0) ((rd_T98 l0 x7_1).f1) ((rd_T98 l0 x7_1).f2)) else (if ((rd_T98 l0 x7_1).f0) = 0 then (impl_AreLines.j1 k1 l0 x7_1 l0 (l0.length : Int) x7_1 (((rd_T98 l0 x7_1).f1) == 0) ((rd_T98 l0 x7_1).f0) ((rd_T98 l0 x7_1).f1) ((rd_T98 l0 x7_1).f2)) else (impl_AreLines.j1 k1 l0 x7_1 l0 (l0.length : Int) x7_1 false ((rd_T98 l0 x7_1).f0) ((rd_T98 l0 x7_1).f1) ((rd_T98 l0 x7_1).f2)))))) = some r := H
        have A11 := Aside0.mk A110
        clear A110
        by_cases c12 : t925 = true
        ·subst c12
         have H1 : (impl_AreLines.j1 k1 l0 x7_1 l0 (l0.length : Int) x7_1 true ((rd_T98 l0 x7_1).f0) ((rd_T98 l0 x7_1).f1) ((rd_T98 l0 x7_1).f2)) = some r := by rw [if_pos rfl] at H; exact H
         clear H
         have H := H1
         clear H1
         have H' := Aside0.mk H
         clear H
         have hcz13_0 : w6.cell? ⟨gb923, 0, none⟩ = some (.int .i64 0) := (blk_cell BK923.out 0).trans rfl
         have hcz13_1 : w6.cell? ⟨gb923, 1, none⟩ = some (.int .i64 0) := (blk_cell BK923.out 1).trans rfl
         have hcz13_2 : w6.cell? ⟨gb923, 2, none⟩ = some (.int .i64 0) := (blk_cell BK923.out 2).trans rfl
         have hfz13_0 := blk_frozen BK923.out 0
         have hfz13_1 := blk_frozen BK923.out 1
         have hfz13_2 := blk_frozen BK923.out 2
         go_wp2_with (first | ((with_reducible refine gate_callee (f := 128) rfl ?_); refine goesL_ (some 14) rfl rfl Try.func128 (by kernel_rfl) rfl #[.int .i64 ((rd_T98 l0 x7_1).f0), .int .i64 20] rfl (by (try simp only [List.map_toArray, List.map_cons, List.map_nil]); first | done | rfl | (simp only [List.length_drop, List.length_take]; rfl)) ?_; (with_reducible refine (impl_isFar.calls ((rd_T98 l0 x7_1).f0) 20 false _ A8.out).mono ?_); rintro e w' ⟨rfl, ⟨nd, rfl⟩⟩; refine ⟨_, rfl, ?_⟩) | (go_at_call 128; (with_reducible refine (impl_isFar.calls ((rd_T98 l0 x7_1).f1) 20 true _ A11.out).mono ?_); rintro e w' ⟨rfl, ⟨nd, rfl⟩⟩))
         go_meet
         case rel => exact ⟨_, (true), (by first | rfl | (simp; done) | (simp [*]; done)), H', ⟨by have := HK1.out; first | omega | exact Nat.le_refl _⟩, ⟨by (with_reducible repeat (first | refine blk_drewN ?_ _ | refine blk_drew ?_ | refine blk_alloc ?_ _)); refine blk_put (cs := #[.int .i64 ((rd_T98 l0 x7_1).f0), .int .i64 ((rd_T98 l0 x7_1).f1), .int .i64 0]) ?_ 2 _ rfl; (with_reducible repeat (first | refine blk_drewN ?_ _ | refine blk_drew ?_ | refine blk_alloc ?_ _)); refine blk_put (cs := #[.int .i64 ((rd_T98 l0 x7_1).f0), .int .i64 0, .int .i64 0]) ?_ 1 _ rfl; (with_reducible repeat (first | refine blk_drewN ?_ _ | refine blk_drew ?_ | refine blk_alloc ?_ _)); refine blk_put (cs := #[.int .i64 0, .int .i64 0, .int .i64 0]) ?_ 0 _ rfl; (with_reducible repeat (first | refine blk_drewN ?_ _ | refine blk_drew ?_ | refine blk_alloc ?_ _)); exact BK923.out⟩, ⟨by repeat (first | (with_reducible first | exact HB.out | apply below_alloc | apply pw_below_drewN | apply below_drew1 | refine below_set ?_ GE923.out) | exact HB.out)⟩⟩
        ·replace c12 := Bool.eq_false_iff.mpr c12
         subst c12
         have H1 : ((impl_isFar.f ((rd_T98 l0 x7_1).f2) 20).bind fun t926 => (if t926 = true then (impl_AreLines.j1 k1 l0 x7_1 l0 (l0.length : Int) x7_1 true ((rd_T98 l0 x7_1).f0) ((rd_T98 l0 x7_1).f1) ((rd_T98 l0 x7_1).f2)) else (if ((rd_T98 l0 x7_1).f0) = 0 then (impl_AreLines.j1 k1 l0 x7_1 l0 (l0.length : Int) x7_1 (((rd_T98 l0 x7_1).f1) == 0) ((rd_T98 l0 x7_1).f0) ((rd_T98 l0 x7_1).f1) ((rd_T98 l0 x7_1).f2)) else (impl_AreLines.j1 k1 l0 x7_1 l0 (l0.length : Int) x7_1 false ((rd_T98 l0 x7_1).f0) ((rd_T98 l0 x7_1).f1) ((rd_T98 l0 x7_1).f2))))) = some r := by rw [if_neg (show ¬ (false = true) by decide)] at H; exact H
         clear H
         have H := H1
         clear H1
         replace H := Option.bind_eq_some_iff.mp H
         obtain ⟨t926, A140, H⟩ := H
         replace H : (if t926 = true then (impl_AreLines.j1 k1 l0 x7_1 l0 (l0.length : Int) x7_1 true ((rd_T98 l0 x7_1).f0) ((rd_T98 l0 x7_1).f1) ((rd_T98 l0 x7_1).f2)) else (if ((rd_T98 l0 x7_1).f0) = 0 then (impl_AreLines.j1 k1 l0 x7_1 l0 (l0.length : Int) x7_1 (((rd_T98 l0 x7_1).f1) == 0) ((rd_T98 l0 x7_1).f0) ((rd_T98 l0 x7_1).f1) ((rd_T98 l0 x7_1).f2)) else (impl_AreLines.j1 k1 l0 x7_1 l0 (l0.length : Int) x7_1 false ((rd_T98 l0 x7_1).f0) ((rd_T98 l0 x7_1).f1) ((rd_T98 l0 x7_1).f2)))) = some r := H
         have A14 := Aside0.mk A140
         clear A140
         by_cases c15 : t926 = true
         ·subst c15
          have H1 : (impl_AreLines.j1 k1 l0 x7_1 l0 (l0.length : Int) x7_1 true ((rd_T98 l0 x7_1).f0) ((rd_T98 l0 x7_1).f1) ((rd_T98 l0 x7_1).f2)) = some r := by rw [if_pos rfl] at H; exact H
          clear H
          have H := H1
          clear H1
          have H' := Aside0.mk H
          clear H
          have hcz16_0 : w6.cell? ⟨gb923, 0, none⟩ = some (.int .i64 0) := (blk_cell BK923.out 0).trans rfl
          have hcz16_1 : w6.cell? ⟨gb923, 1, none⟩ = some (.int .i64 0) := (blk_cell BK923.out 1).trans rfl
          have hcz16_2 : w6.cell? ⟨gb923, 2, none⟩ = some (.int .i64 0) := (blk_cell BK923.out 2).trans rfl
          have hfz16_0 := blk_frozen BK923.out 0
          have hfz16_1 := blk_frozen BK923.out 1
          have hfz16_2 := blk_frozen BK923.out 2
          go_wp2_with (first | ((with_reducible refine gate_callee (f := 128) rfl ?_); refine goesL_ (some 14) rfl rfl Try.func128 (by kernel_rfl) rfl #[.int .i64 ((rd_T98 l0 x7_1).f0), .int .i64 20] rfl (by (try simp only [List.map_toArray, List.map_cons, List.map_nil]); first | done | rfl | (simp only [List.length_drop, List.length_take]; rfl)) ?_; (with_reducible refine (impl_isFar.calls ((rd_T98 l0 x7_1).f0) 20 false _ A8.out).mono ?_); rintro e w' ⟨rfl, ⟨nd, rfl⟩⟩; refine ⟨_, rfl, ?_⟩) | (go_at_call 128; (with_reducible refine (impl_isFar.calls ((rd_T98 l0 x7_1).f1) 20 false _ A11.out).mono ?_); rintro e w' ⟨rfl, ⟨nd, rfl⟩⟩) | (go_at_call 128; (with_reducible refine (impl_isFar.calls ((rd_T98 l0 x7_1).f2) 20 true _ A14.out).mono ?_); rintro e w' ⟨rfl, ⟨nd, rfl⟩⟩))
          go_meet
          case rel => exact ⟨_, (true), (by first | rfl | (simp; done) | (simp [*]; done)), H', ⟨by have := HK1.out; first | omega | exact Nat.le_refl _⟩, ⟨by (with_reducible repeat (first | refine blk_drewN ?_ _ | refine blk_drew ?_ | refine blk_alloc ?_ _)); refine blk_put (cs := #[.int .i64 ((rd_T98 l0 x7_1).f0), .int .i64 ((rd_T98 l0 x7_1).f1), .int .i64 0]) ?_ 2 _ rfl; (with_reducible repeat (first | refine blk_drewN ?_ _ | refine blk_drew ?_ | refine blk_alloc ?_ _)); refine blk_put (cs := #[.int .i64 ((rd_T98 l0 x7_1).f0), .int .i64 0, .int .i64 0]) ?_ 1 _ rfl; (with_reducible repeat (first | refine blk_drewN ?_ _ | refine blk_drew ?_ | refine blk_alloc ?_ _)); refine blk_put (cs := #[.int .i64 0, .int .i64 0, .int .i64 0]) ?_ 0 _ rfl; (with_reducible repeat (first | refine blk_drewN ?_ _ | refine blk_drew ?_ | refine blk_alloc ?_ _)); exact BK923.out⟩, ⟨by repeat (first | (with_reducible first | exact HB.out | apply below_alloc | apply pw_below_drewN | apply below_drew1 | refine below_set ?_ GE923.out) | exact HB.out)⟩⟩
         ·replace c15 := Bool.eq_false_iff.mpr c15
          subst c15
          have H1 : (if ((rd_T98 l0 x7_1).f0) = 0 then (impl_AreLines.j1 k1 l0 x7_1 l0 (l0.length : Int) x7_1 (((rd_T98 l0 x7_1).f1) == 0) ((rd_T98 l0 x7_1).f0) ((rd_T98 l0 x7_1).f1) ((rd_T98 l0 x7_1).f2)) else (impl_AreLines.j1 k1 l0 x7_1 l0 (l0.length : Int) x7_1 false ((rd_T98 l0 x7_1).f0) ((rd_T98 l0 x7_1).f1) ((rd_T98 l0 x7_1).f2))) = some r := by rw [if_neg (show ¬ (false = true) by decide)] at H; exact H
          clear H
          have H := H1
          clear H1
          by_cases c17 : ((rd_T98 l0 x7_1).f0) = 0
          ·rw [if_pos c17] at H
           have c17b0 : (((rd_T98 l0 x7_1).f0) == 0) = true := beq_iff_eq.mpr c17
           have c17b1 : (((rd_T98 l0 x7_1).f0) != 0) = false := bne_eq_false_iff_eq.mpr c17
           clear c17
           (first | rw [c17b0] | (simp only [i64_w, i32_w]; rw [c17b0]) | skip)
           have H' := Aside0.mk H
           clear H
           have hcz18_0 : w6.cell? ⟨gb923, 0, none⟩ = some (.int .i64 0) := (blk_cell BK923.out 0).trans rfl
           have hcz18_1 : w6.cell? ⟨gb923, 1, none⟩ = some (.int .i64 0) := (blk_cell BK923.out 1).trans rfl
           have hcz18_2 : w6.cell? ⟨gb923, 2, none⟩ = some (.int .i64 0) := (blk_cell BK923.out 2).trans rfl
           have hfz18_0 := blk_frozen BK923.out 0
           have hfz18_1 := blk_frozen BK923.out 1
           have hfz18_2 := blk_frozen BK923.out 2
           go_wp2_with (first | ((with_reducible refine gate_callee (f := 128) rfl ?_); refine goesL_ (some 14) rfl rfl Try.func128 (by kernel_rfl) rfl #[.int .i64 ((rd_T98 l0 x7_1).f0), .int .i64 20] rfl (by (try simp only [List.map_toArray, List.map_cons, List.map_nil]); first | done | rfl | (simp only [List.length_drop, List.length_take]; rfl)) ?_; (with_reducible refine (impl_isFar.calls ((rd_T98 l0 x7_1).f0) 20 false _ A8.out).mono ?_); rintro e w' ⟨rfl, ⟨nd, rfl⟩⟩; refine ⟨_, rfl, ?_⟩) | (go_at_call 128; (with_reducible refine (impl_isFar.calls ((rd_T98 l0 x7_1).f1) 20 false _ A11.out).mono ?_); rintro e w' ⟨rfl, ⟨nd, rfl⟩⟩) | (go_at_call 128; (with_reducible refine (impl_isFar.calls ((rd_T98 l0 x7_1).f2) 20 false _ A14.out).mono ?_); rintro e w' ⟨rfl, ⟨nd, rfl⟩⟩))
           go_meet
           case rel => exact ⟨_, ((((rd_T98 l0 x7_1).f1) == 0)), (by first | rfl | (simp; done) | (simp [*]; done)), H', ⟨by have := HK1.out; first | omega | exact Nat.le_refl _⟩, ⟨by (with_reducible repeat (first | refine blk_drewN ?_ _ | refine blk_drew ?_ | refine blk_alloc ?_ _)); refine blk_put (cs := #[.int .i64 ((rd_T98 l0 x7_1).f0), .int .i64 ((rd_T98 l0 x7_1).f1), .int .i64 0]) ?_ 2 _ rfl; (with_reducible repeat (first | refine blk_drewN ?_ _ | refine blk_drew ?_ | refine blk_alloc ?_ _)); refine blk_put (cs := #[.int .i64 ((rd_T98 l0 x7_1).f0), .int .i64 0, .int .i64 0]) ?_ 1 _ rfl; (with_reducible repeat (first | refine blk_drewN ?_ _ | refine blk_drew ?_ | refine blk_alloc ?_ _)); refine blk_put (cs := #[.int .i64 0, .int .i64 0, .int .i64 0]) ?_ 0 _ rfl; (with_reducible repeat (first | refine blk_drewN ?_ _ | refine blk_drew ?_ | refine blk_alloc ?_ _)); exact BK923.out⟩, ⟨by repeat (first | (with_reducible first | exact HB.out | apply below_alloc | apply pw_below_drewN | apply below_drew1 | refine below_set ?_ GE923.out) | exact HB.out)⟩⟩
          ·rw [if_neg c17] at H
           have c17b0 : (((rd_T98 l0 x7_1).f0) == 0) = false := beq_eq_false_iff_ne.mpr c17
           have c17b1 : (((rd_T98 l0 x7_1).f0) != 0) = true := bne_iff_ne.mpr c17
           (first | rw [c17b0] | (simp only [i64_w, i32_w]; rw [c17b0]) | skip)
           have H' := Aside0.mk H
           clear H
           have hcz19_0 : w6.cell? ⟨gb923, 0, none⟩ = some (.int .i64 0) := (blk_cell BK923.out 0).trans rfl
           have hcz19_1 : w6.cell? ⟨gb923, 1, none⟩ = some (.int .i64 0) := (blk_cell BK923.out 1).trans rfl
           have hcz19_2 : w6.cell? ⟨gb923, 2, none⟩ = some (.int .i64 0) := (blk_cell BK923.out 2).trans rfl
           have hfz19_0 := blk_frozen BK923.out 0
           have hfz19_1 := blk_frozen BK923.out 1
           have hfz19_2 := blk_frozen BK923.out 2
           go_wp2_with (first | ((with_reducible refine gate_callee (f := 128) rfl ?_); refine goesL_ (some 14) rfl rfl Try.func128 (by kernel_rfl) rfl #[.int .i64 ((rd_T98 l0 x7_1).f0), .int .i64 20] rfl (by (try simp only [List.map_toArray, List.map_cons, List.map_nil]); first | done | rfl | (simp only [List.length_drop, List.length_take]; rfl)) ?_; (with_reducible refine (impl_isFar.calls ((rd_T98 l0 x7_1).f0) 20 false _ A8.out).mono ?_); rintro e w' ⟨rfl, ⟨nd, rfl⟩⟩; refine ⟨_, rfl, ?_⟩) | (go_at_call 128; (with_reducible refine (impl_isFar.calls ((rd_T98 l0 x7_1).f1) 20 false _ A11.out).mono ?_); rintro e w' ⟨rfl, ⟨nd, rfl⟩⟩) | (go_at_call 128; (with_reducible refine (impl_isFar.calls ((rd_T98 l0 x7_1).f2) 20 false _ A14.out).mono ?_); rintro e w' ⟨rfl, ⟨nd, rfl⟩⟩))
           go_meet
           case rel => exact ⟨_, (false), (by first | rfl | (simp; done) | (simp [*]; done)), H', ⟨by have := HK1.out; first | omega | exact Nat.le_refl _⟩, ⟨by (with_reducible repeat (first | refine blk_drewN ?_ _ | refine blk_drew ?_ | refine blk_alloc ?_ _)); refine blk_put (cs := #[.int .i64 ((rd_T98 l0 x7_1).f0), .int .i64 ((rd_T98 l0 x7_1).f1), .int .i64 0]) ?_ 2 _ rfl; (with_reducible repeat (first | refine blk_drewN ?_ _ | refine blk_drew ?_ | refine blk_alloc ?_ _)); refine blk_put (cs := #[.int .i64 ((rd_T98 l0 x7_1).f0), .int .i64 0, .int .i64 0]) ?_ 1 _ rfl; (with_reducible repeat (first | refine blk_drewN ?_ _ | refine blk_drew ?_ | refine blk_alloc ?_ _)); refine blk_put (cs := #[.int .i64 0, .int .i64 0, .int .i64 0]) ?_ 0 _ rfl; (with_reducible repeat (first | refine blk_drewN ?_ _ | refine blk_drew ?_ | refine blk_alloc ?_ _)); exact BK923.out⟩, ⟨by repeat (first | (with_reducible first | exact HB.out | apply below_alloc | apply pw_below_drewN | apply below_drew1 | refine below_set ?_ GE923.out) | exact HB.out)⟩⟩
      case rest =>
       clear HC5
       try clear c1
       try clear c2
       try clear c2b0
       try clear p2
       try clear c3
       try clear c3b0
       try clear c4
       try clear c4b0
       try clear c8
       try clear c9
       try clear p9
       try clear q9
       try clear hx9
       try clear c12
       try clear c15
       try clear c17
       try clear c17b0
       try clear c17b1
       try clear hcz10_0
       try clear hcz10_1
       try clear hcz10_2
       try clear hcz13_0
       try clear hcz13_1
       try clear hcz13_2
       try clear hcz16_0
       try clear hcz16_1
       try clear hcz16_2
       try clear hcz18_0
       try clear hcz18_1
       try clear hcz18_2
       try clear hcz19_0
       try clear hcz19_1
       try clear hcz19_2
       try clear hcz7_0
       try clear hcz7_1
       try clear hcz7_2
       try clear hfz10_0
       try clear hfz10_1
       try clear hfz10_2
       try clear hfz13_0
       try clear hfz13_1
       try clear hfz13_2
       try clear hfz16_0
       try clear hfz16_1
       try clear hfz16_2
       try clear hfz18_0
       try clear hfz18_1
       try clear hfz18_2
       try clear hfz19_0
       try clear hfz19_1
       try clear hfz19_2
       try clear hfz7_0
       try clear hfz7_1
       try clear hfz7_2
       try clear hx922_0
       try clear hx922_1
       try clear hx922_2
       try clear p922
       try clear q922
       obtain ⟨kq, x34_4, rfl, HA, HJ4, BK923, HB⟩ := hcut
       cases kq with
       | zero => exact absurd HA.out (by simp [impl_AreLines.j1])
       | succ kj4 =>
        have H := HA.out
        clear HA
        simp only [impl_AreLines.j1] at H
        by_cases c20 : x34_4 = true
        ·subst c20
         have H1 : (some false) = some r := by rw [if_pos rfl] at H; exact H
         clear H
         have H := H1
         clear H1
         obtain rfl := Option.some.inj H
         go_wp2
         go_ret
         exact ⟨by first | rfl | (simp [errW_none, errW_some] <;> rfl) | (simp [*, errW_none, errW_some] <;> rfl), by repeat (first | (with_reducible first | exact HB.out | apply below_alloc | apply pw_below_drewN | apply below_drew1 | refine below_set ?_ GE923.out) | exact HB.out)⟩
        ·replace c20 := Bool.eq_false_iff.mpr c20
         subst c20
         have H1 : (if 0 ≤ x7_1 then (if x7_1 ≤ (l0.length : Int) then ((slices_ContainsFunc_Simpl_Line_impl_Line_impl_AreLines_1.f kj4 (l0.take (x7_1 : Int).toNat) ((rd_T98 l0 x7_1).f0) ((rd_T98 l0 x7_1).f1) ((rd_T98 l0 x7_1).f2)).bind fun t931 => (if t931 = true then (some false) else (impl_AreLines.l0 kj4 l0 l0 (l0.length : Int) (wrap64 (x7_1 + 1))))) else (none)) else (none)) = some r := by rw [if_neg (show ¬ (false = true) by decide)] at H; exact H
         clear H
         have H := H1
         clear H1
         by_cases c21 : 0 ≤ x7_1
         ·rw [if_pos c21] at H
          have c21b0 := eq_true c21
          have c21b1 : decide (0 ≤ x7_1) = true := decide_eq_true c21
          clear c21
          by_cases c22 : x7_1 ≤ (l0.length : Int)
          ·rw [if_pos c22] at H
           have c22b0 := eq_true c22
           have c22b1 : decide (x7_1 ≤ (l0.length : Int)) = true := decide_eq_true c22
           clear c22
           obtain ⟨y927, hy927⟩ : ∃ y_ : List (S98), y_ = (l0.take (x7_1 : Int).toNat) := ⟨_, rfl⟩
           replace H : ((slices_ContainsFunc_Simpl_Line_impl_Line_impl_AreLines_1.f kj4 y927 ((rd_T98 l0 x7_1).f0) ((rd_T98 l0 x7_1).f1) ((rd_T98 l0 x7_1).f2)).bind fun t931 => (if t931 = true then (some false) else (impl_AreLines.l0 kj4 l0 l0 (l0.length : Int) (wrap64 (x7_1 + 1))))) = some r := by first | (rw [hy927]; with_reducible exact H) | (have H2_ := (Option.bind_some _ _).symm.trans H; rw [hy927]; with_reducible exact H2_) | (have H2_ := (Option.bind_some _ _).symm.trans H; with_reducible exact H2_) | with_reducible exact H | (rw [hy927]; exact H) | exact H
           have Ny927 := Aside0.mk hy927
           clear hy927
           replace H := Option.bind_eq_some_iff.mp H
           obtain ⟨t931, A230, H⟩ := H
           replace H : (if t931 = true then (some false) else (impl_AreLines.l0 kj4 l0 l0 (l0.length : Int) (wrap64 (x7_1 + 1)))) = some r := H
           have A23 := Aside0.mk A230
           clear A230
           by_cases c24 : t931 = true
           ·subst c24
            have H1 : (some false) = some r := by rw [if_pos rfl] at H; exact H
            clear H
            have H := H1
            clear H1
            obtain rfl := Option.some.inj H
            have q25 : (x7_1 : Int) ≤ ((l0.length : Int) : Int) := of_decide_eq_true (by first | (with_reducible assumption) | assumption)
            obtain ⟨i025, hi025, _, hsz25, _⟩ := info_parts info98
            have hroom25 : l0.length ≤ c0 := HC0.out
            have hC25 : Kd.C k98 _ (some ad922) l0.length l0 := HR0.out
            have hcut25 := cut_to (P := Try.prog) 52 98 .i64 Try.underlying52 hi025 (some ad922) l0.length c0 x7_1 (of_decide_eq_true (by first | (with_reducible assumption) | assumption)) q25 hroom25
            have hr25 := Kd.C_take (m := (x7_1 : Int).toNat) hC25 (by omega)
            have hy25 : y927.length = (x7_1 : Int).toNat := (by rw [Ny927.out, List.length_take]; omega)
            rw [← Ny927.out] at hr25
            rw [← hy25] at hcut25
            have HR930 := Aside0.mk hr25
            have HC930 := Aside0.mk (show y927.length ≤ c0 from by omega)
            clear hr25 hC25 hroom25 hi025 hsz25
            have KY25 := Aside0.mk hy25
            clear hy25
            replace q25 := eq_true q25
            go_wp2_with (first | ((with_reducible refine gate_callee (f := 129) rfl ?_); refine goesL_ (some 39) rfl rfl Try.func129 (by kernel_rfl) rfl #[.slice (some ad922) y927.length c0, .func (.func 130) #[] #[.pointer (some ⟨gb923, 0, none⟩)]] rfl (by (try simp only [List.map_toArray, List.map_cons, List.map_nil]); first | done | rfl | (simp only [List.length_drop, List.length_take]; rfl)) ?_; (with_reducible refine (slices_ContainsFunc_Simpl_Line_impl_Line_impl_AreLines_1.calls kj4 _ _ y927 gb923 ((rd_T98 l0 x7_1).f0) ((rd_T98 l0 x7_1).f1) ((rd_T98 l0 x7_1).f2) true _ ?side1 ?side2 ?side3 A23.out).mono ?_); (case side1 => repeat (first | exact (Kd.C_below HR930.out HB.out) | (with_reducible refine Kd.C_alloc ?_ _) | (with_reducible refine Kd.C_drewN ?_ _) | (with_reducible refine Kd.C_drew ?_))); (case side2 => exact HC930.out); (case side3 => exact (by (with_reducible repeat (first | refine blk_drewN ?_ _ | refine blk_drew ?_ | refine blk_alloc ?_ _)); exact BK923.out)); rintro e w26 ⟨rfl, hb⟩; refine ⟨_, rfl, ?_⟩; have n0_ := Aside0.mk (blk_below (g := gb923) (o := .cells #[.int .i64 ((rd_T98 l0 x7_1).f0), .int .i64 ((rd_T98 l0 x7_1).f1), .int .i64 ((rd_T98 l0 x7_1).f2)] 98 (0, 0)) (by (with_reducible repeat (first | refine blk_drewN ?_ _ | refine blk_drew ?_ | refine blk_alloc ?_ _)); exact BK923.out) hb); have n1_ := Aside0.mk (below_step (by repeat (first | (with_reducible first | exact HB.out | apply below_alloc | apply pw_below_drewN | apply below_drew1 | refine below_set ?_ GE923.out) | exact HB.out)) hb); clear BK923; clear HB; have BK923 := n0_; have HB := n1_; clear n0_ n1_; (try clear hb); (try clear hb2); (try clear hk); (try clear hi)))
            go_ret
            exact ⟨by first | rfl | (simp [errW_none, errW_some] <;> rfl) | (simp [*, errW_none, errW_some] <;> rfl), by repeat (first | (with_reducible first | exact HB.out | apply below_alloc | apply pw_below_drewN | apply below_drew1 | refine below_set ?_ GE923.out) | exact HB.out)⟩
           ·replace c24 := Bool.eq_false_iff.mpr c24
            subst c24
            have H1 : (impl_AreLines.l0 kj4 l0 l0 (l0.length : Int) (wrap64 (x7_1 + 1))) = some r := by rw [if_neg (show ¬ (false = true) by decide)] at H; exact H
            clear H
            have H := H1
            clear H1
            have H' := Aside0.mk H
            clear H
            have q27 : (x7_1 : Int) ≤ ((l0.length : Int) : Int) := of_decide_eq_true (by first | (with_reducible assumption) | assumption)
            obtain ⟨i027, hi027, _, hsz27, _⟩ := info_parts info98
            have hroom27 : l0.length ≤ c0 := HC0.out
            have hC27 : Kd.C k98 _ (some ad922) l0.length l0 := HR0.out
            have hcut27 := cut_to (P := Try.prog) 52 98 .i64 Try.underlying52 hi027 (some ad922) l0.length c0 x7_1 (of_decide_eq_true (by first | (with_reducible assumption) | assumption)) q27 hroom27
            have hr27 := Kd.C_take (m := (x7_1 : Int).toNat) hC27 (by omega)
            have hy27 : y927.length = (x7_1 : Int).toNat := (by rw [Ny927.out, List.length_take]; omega)
            rw [← Ny927.out] at hr27
            rw [← hy27] at hcut27
            have HR930 := Aside0.mk hr27
            have HC930 := Aside0.mk (show y927.length ≤ c0 from by omega)
            clear hr27 hC27 hroom27 hi027 hsz27
            have KY27 := Aside0.mk hy27
            clear hy27
            replace q27 := eq_true q27
            go_wp2_with (first | ((with_reducible refine gate_callee (f := 129) rfl ?_); refine goesL_ (some 39) rfl rfl Try.func129 (by kernel_rfl) rfl #[.slice (some ad922) y927.length c0, .func (.func 130) #[] #[.pointer (some ⟨gb923, 0, none⟩)]] rfl (by (try simp only [List.map_toArray, List.map_cons, List.map_nil]); first | done | rfl | (simp only [List.length_drop, List.length_take]; rfl)) ?_; (with_reducible refine (slices_ContainsFunc_Simpl_Line_impl_Line_impl_AreLines_1.calls kj4 _ _ y927 gb923 ((rd_T98 l0 x7_1).f0) ((rd_T98 l0 x7_1).f1) ((rd_T98 l0 x7_1).f2) false _ ?side1 ?side2 ?side3 A23.out).mono ?_); (case side1 => repeat (first | exact (Kd.C_below HR930.out HB.out) | (with_reducible refine Kd.C_alloc ?_ _) | (with_reducible refine Kd.C_drewN ?_ _) | (with_reducible refine Kd.C_drew ?_))); (case side2 => exact HC930.out); (case side3 => exact (by (with_reducible repeat (first | refine blk_drewN ?_ _ | refine blk_drew ?_ | refine blk_alloc ?_ _)); exact BK923.out)); rintro e w28 ⟨rfl, hb⟩; refine ⟨_, rfl, ?_⟩; have n0_ := Aside0.mk (blk_below (g := gb923) (o := .cells #[.int .i64 ((rd_T98 l0 x7_1).f0), .int .i64 ((rd_T98 l0 x7_1).f1), .int .i64 ((rd_T98 l0 x7_1).f2)] 98 (0, 0)) (by (with_reducible repeat (first | refine blk_drewN ?_ _ | refine blk_drew ?_ | refine blk_alloc ?_ _)); exact BK923.out) hb); have n1_ := Aside0.mk (below_step (by repeat (first | (with_reducible first | exact HB.out | apply below_alloc | apply pw_below_drewN | apply below_drew1 | refine below_set ?_ GE923.out) | exact HB.out)) hb); clear BK923; clear HB; have BK923 := n0_; have HB := n1_; clear n0_ n1_; (try clear hb); (try clear hb2); (try clear hk); (try clear hi)))
            go_roundg kj4
            case measure => have := HK1.out; have := HJ4.out; omega
            case rel => exact ⟨(wrap64 (x7_1 + 1)), (by first | rfl | (simp; done) | (simp [*]; done)), H', ⟨by have := HK1.out; have := HJ4.out; omega⟩, ⟨by repeat (first | (with_reducible first | exact HB.out | apply below_alloc | apply pw_below_drewN | apply below_drew1 | refine below_set ?_ GE923.out) | exact HB.out)⟩⟩
          ·rw [if_neg c22] at H
           exact absurd H (by simp)
         ·rw [if_neg c21] at H
          exact absurd H (by simp)
     ·rw [if_neg c4] at H
      exact absurd H (by simp)
    ·rw [if_neg c3] at H
     exact absurd H (by simp)
   ·rw [if_neg c2] at H
    have c2b0 : decide (x7_1 < (l0.length : Int)) = false := decide_eq_false c2
    clear c2
    by_cases c29 : (l0.length : Int) ≥ 1
    ·rw [if_pos c29] at H
     have c29b0 : decide (1 ≤ (l0.length : Int)) = true := decide_eq_true c29
     have c29b1 : decide (1 ≤ l0.length) = true := decide_eq_true (by omega)
     clear c29
     obtain rfl := Option.some.inj H
     go_wp2
     go_ret
     exact ⟨by first | rfl | (simp [errW_none, errW_some] <;> rfl) | (simp [*, errW_none, errW_some] <;> rfl), by repeat (first | (with_reducible first | exact HB.out | apply below_alloc | apply pw_below_drewN | apply below_drew1) | exact HB.out)⟩
    ·rw [if_neg c29] at H
     have c29b0 : decide (1 ≤ (l0.length : Int)) = false := decide_eq_false c29
     have c29b1 : decide (1 ≤ l0.length) = false := decide_eq_false (by omega)
     clear c29
     obtain rfl := Option.some.inj H
     go_wp2
     go_ret
     exact ⟨by first | rfl | (simp [errW_none, errW_some] <;> rfl) | (simp [*, errW_none, errW_some] <;> rfl), by repeat (first | (with_reducible first | exact HB.out | apply below_alloc | apply pw_below_drewN | apply below_drew1) | exact HB.out)⟩
end Go.Proofs.Ytcoommffjbbebaa.P
namespace Go.Proofs.Ytcoommffjbbebaa.P
open Go.RowKit Go.Proofs.YtcoommffjbbebaaW.PrintWords Go.Proofs.YtcoommffjbbebaaW.PrintLast Go.Proofs.YtcoommffjbbebaaW.PrintMore
set_option linter.unusedVariables false
set_option linter.unusedSimpArgs false
section
variable {α : Type} [Inhabited α] {enc : α → Value} {h1 : ∀ x, (enc x).oneCell' = true} {e base : Nat} {ok : Nat → Prop} {w : World} {v : Value} {xs : List α}
theorem row_blk (h : (Kd.scalar enc h1).R e w base ok v xs) (hne : 0 < xs.length) :
    ∃ g cap cur, v = .slice (some ⟨g, 0, none⟩) xs.length cap ∧ base ≤ g ∧ ok g ∧ w.heap[g]? = some (.cells cur e (0, 0)) ∧ xs.length ≤ cap ∧ cap ≤ maxLen ∧ cur.size = cap ∧ ∀ j, j < xs.length → cur[j]? = some (enc xs[j]!) := by
  obtain ⟨h0, inner, ⟨hl, ho⟩, hr⟩ := h
  rcases ho with ⟨rfl, h2⟩ | ⟨g, cap, cur, rfl, hg, hh, hc, hm, hs, ht⟩
  · omega
  · refine ⟨g, cap, cur, rfl, hg, h0 g rfl, hh, hc, hm, ?_, ?_⟩
    · rw [hs]; exact Nat.mul_one _
    · intro j hj
      have h3 := hr.2 j xs[j]! (by rw [List.getElem?_eq_getElem hj, getElem!_pos xs j hj])
      have h3' : (inner.drop (j * 1)).take 1 = [enc xs[j]!] := h3
      rw [Nat.mul_one] at h3'
      have h4 : inner[j]? = some (enc xs[j]!) := by
        have h5 : ((inner.drop j).take 1)[0]? = some (enc xs[j]!) := by rw [h3']; rfl
        rw [List.getElem?_take_of_lt (by omega), List.getElem?_drop, Nat.add_zero] at h5
        exact h5
      rw [← ht] at h4
      have hjl : j < xs.length * (Kd.scalar enc h1).sz := by show j < xs.length * 1; omega
      rw [List.getElem?_take_of_lt hjl, Array.getElem?_toList] at h4
      exact h4
theorem blk_row {g cap : Nat} {cur : Array Value} (hg : base ≤ g) (hok : ok g) (hh : w.heap[g]? = some (.cells cur e (0, 0))) (hc : xs.length ≤ cap) (hm : cap ≤ maxLen) (hs : cur.size = cap) (hj : ∀ j, j < xs.length → cur[j]? = some (enc xs[j]!)) :
    (Kd.scalar enc h1).R e w base ok (.slice (some ⟨g, 0, none⟩) xs.length cap) xs := by
  refine ⟨fun k hk => ?_, cur.toList.take xs.length, ⟨?_, .inr ⟨g, cap, cur, rfl, hg, hh, hc, hm, ?_, ?_⟩⟩, ?_, ?_⟩
  · have : g = k := by simpa [Value.ownBlock] using hk
    subst this; exact hok
  · show (cur.toList.take xs.length).length = xs.length * 1
    have hcl : cur.toList.length = cur.size := Array.length_toList
    rw [List.length_take, hcl]; omega
  · show cur.size = cap * 1
    omega
  · show cur.toList.take (xs.length * 1) = _
    rw [Nat.mul_one]
  · show (cur.toList.take xs.length).length = xs.length * 1
    have hcl : cur.toList.length = cur.size := Array.length_toList
    rw [List.length_take, hcl]; omega
  · intro j p hp
    have hjl := (List.getElem?_eq_some_iff.1 hp).1
    have hpx : p = xs[j]! := by rw [getElem!_pos xs j hjl]; exact (List.getElem?_eq_some_iff.1 hp).2.symm
    subst hpx
    show ((cur.toList.take xs.length).drop (j * 1)).take 1 = [enc xs[j]!]
    rw [Nat.mul_one]
    have h4 : (cur.toList.take xs.length)[j]? = some (enc xs[j]!) := by
      rw [List.getElem?_take_of_lt hjl, Array.getElem?_toList]; exact hj j hjl
    apply List.ext_getElem?
    intro i
    cases i with
    | zero => rw [List.getElem?_take_of_lt (by omega), List.getElem?_drop, Nat.add_zero, h4]; rfl
    | succ i =>
      rw [List.getElem?_eq_none (by rw [List.length_take]; omega)]
      rfl
theorem put_cur (enc : α → Value) (w : World) (n g off : Nat) (D : Array α) (os : Array Obj) {cur : Array Value} (hb : w.heap[g]? = some (.cells cur e (0, 0))) :
    (Sort.grow (Sort.putRow enc (Sort.ahead w n) g off D) os).heap[g]? = some (.cells (Sort.putCells enc off D cur) e (0, 0)) := by
  have hlt : g < w.heap.size := (Array.getElem?_eq_some_iff.1 hb).1
  show ((w.heap.modify g (Sort.onCells (Sort.putCells enc off D))) ++ os)[g]? = _
  rw [Array.getElem?_append_left (by rw [Array.size_modify]; exact hlt), Array.getElem?_modify, if_pos rfl, hb]
  rfl
theorem put_far (enc : α → Value) (w : World) (n g off : Nat) (D : Array α) (os : Array Obj) (k : Nat) (hk : k < w.heap.size) (hne : k ≠ g) :
    (Sort.grow (Sort.putRow enc (Sort.ahead w n) g off D) os).heap[k]? = w.heap[k]? := by
  show ((w.heap.modify g (Sort.onCells (Sort.putCells enc off D))) ++ os)[k]? = _
  rw [Array.getElem?_append_left (by rw [Array.size_modify]; exact hk), Array.getElem?_modify, if_neg (Ne.symm hne)]
theorem put_size (enc : α → Value) (w : World) (n g off : Nat) (D : Array α) (os : Array Obj) : w.heap.size ≤ (Sort.grow (Sort.putRow enc (Sort.ahead w n) g off D) os).heap.size := by
  show _ ≤ ((w.heap.modify g (Sort.onCells (Sort.putCells enc off D))) ++ os).size
  rw [Array.size_append, Array.size_modify]; omega
theorem put_below (enc : α → Value) (w : World) (n g off : Nat) (D : Array α) (os : Array Obj) (hg : base ≤ g) (hlt : g < w.heap.size) : Below base w (Sort.grow (Sort.putRow enc (Sort.ahead w n) g off D) os) :=
  ⟨rfl, rfl, rfl, put_size enc w n g off D os, fun k hk => put_far enc w n g off D os k (by omega) (by omega)⟩
theorem put_kept (enc : α → Value) (w : World) (n g off : Nat) (D : Array α) (os : Array Obj) (hok : ok g) : Kept w (Sort.grow (Sort.putRow enc (Sort.ahead w n) g off D) os) ok :=
  ⟨put_size enc w n g off D os, fun k hk hn => put_far enc w n g off D os k hk (fun e => hn (e ▸ hok))⟩
theorem putCells_size (enc : α → Value) (off : Nat) (D : Array α) (c : Array Value) : (Sort.putCells enc off D c).size = c.size := by simp [Sort.putCells]
theorem putCells_in (enc : α → Value) (off : Nat) (D : Array α) (c : Array Value) (j : Nat) (hj : j < D.size) (hc : off + D.size ≤ c.size) : (Sort.putCells enc off D c)[off + j]? = some (enc D[j]!) := by
  unfold Sort.putCells
  rw [Array.getElem?_mapIdx, Array.getElem?_eq_getElem (by omega)]
  simp only [Option.map_some]
  rw [if_pos ⟨by omega, by omega⟩, Nat.add_sub_cancel_left]
theorem putCells_at (enc : α → Value) (D : Array α) (c : Array Value) (j : Nat) (hj : j < D.size) (hc : D.size ≤ c.size) : (Sort.putCells enc 0 D c)[j]? = some (enc D[j]!) := by
  have h := putCells_in enc 0 D c j hj (by omega)
  rwa [Nat.zero_add] at h
theorem row_holds (h : (Kd.scalar enc h1).R e w base ok v xs) {g cap : Nat} {cur : Array Value} (hh : w.heap[g]? = some (.cells cur e (0, 0))) (hj : ∀ j, j < xs.length → cur[j]? = some (enc xs[j]!)) : Sort.Holds enc w g 0 xs.toArray := by
  intro j hlt
  have hl : j < xs.length := by simpa using hlt
  have e1 : xs.toArray[j]! = xs[j]! := by simp
  refine ⟨?_, ?_⟩
  · rw [e1]
    have := hj j hl
    simp [World.cell?, hh, this]
  · simp [World.frozen?, hh]
theorem row_put {g cap m : Nat} {cur : Array Value} {D : List α} (n : Nat) (os : Array Obj) (hg : base ≤ g) (hok : ok g) (hh : w.heap[g]? = some (.cells cur e (0, 0))) (hm : cap ≤ maxLen) (hs : cur.size = cap) (hD : D.length ≤ cap) (hmD : m ≤ D.length) :
    (Kd.scalar enc h1).R e (Sort.grow (Sort.putRow enc (Sort.ahead w n) g 0 D.toArray) os) base ok (.slice (some ⟨g, 0, none⟩) m cap) (D.take m) := by
  have hl : (D.take m).length = m := by rw [List.length_take]; omega
  have h := blk_row (enc := enc) (h1 := h1) (base := base) (ok := ok) (xs := D.take m) (cap := cap) hg hok (put_cur enc w n g 0 D.toArray os hh) (by omega) hm (by rw [putCells_size]; exact hs) (by
    intro j hj
    rw [hl] at hj
    rw [putCells_at enc _ _ j (by simp; omega) (by simp; omega)]
    have e1 : D.toArray[j]! = (D.take m)[j]! := by
      rw [getElem!_pos (D.take m) j (by omega), List.getElem_take]
      simp [getElem!_pos D j (by omega)]
    rw [e1])
  rw [hl] at h
  exact h
end
end Go.Proofs.Ytcoommffjbbebaa.P
namespace Go.Proofs.Ytcoommffjbbebaa.P
open Go.RowKit Go.Proofs.YtcoommffjbbebaaW.PrintWords Go.Proofs.YtcoommffjbbebaaW.PrintLast Go.Proofs.YtcoommffjbbebaaW.PrintMore
set_option linter.unusedVariables false
set_option linter.unusedSimpArgs false
open Go.Shelf in
def sortM5_ren : Go.Shelf.Ren := ⟨fun | 5 => 86 | 8 => 134 | 7 => 133 | 19 => 178 | 20 => 179 | 10 => 169 | 11 => 170 | 12 => 171 | 13 => 172 | 14 => 173 | 15 => 174 | 16 => 175 | 17 => 176 | 18 => 177 | 30 => 211 | 31 => 212 | 32 => 213 | 33 => 214 | 34 => 215 | 35 => 204 | 40 => 227 | n => n, fun | 23 => 35 | 25 => 3 | 3 => 3 | 32 => 148 | 22 => 35 | 0 => 0 | 44 => 186 | 46 => 188 | 4 => 4 | 36 => 180 | 35 => 179 | 41 => 93 | 5 => 5 | 9 => 9 | 53 => 209 | 57 => 213 | 63 => 222 | 64 => 223 | n => n, fun | n => n⟩
theorem sortM5 : Go.Proofs.SlLaysM.n5 Try.prog sortM5_ren :=
  { mixed := by kernel_rfl,
    f5 := ⟨Try.f86.name, by decide, Try.func86.trans (congrArg some (by kernel_rfl))⟩,
    f7 := ⟨Try.f133.name, by decide, Try.func133.trans (congrArg some (by kernel_rfl))⟩,
    f8 := Try.func134.trans (congrArg some (by kernel_rfl)),
    f10 := ⟨Try.f169.name, by decide, Try.func169.trans (congrArg some (by kernel_rfl))⟩,
    f11 := ⟨Try.f170.name, by decide, Try.func170.trans (congrArg some (by kernel_rfl))⟩,
    f12 := ⟨Try.f171.name, by decide, Try.func171.trans (congrArg some (by kernel_rfl))⟩,
    f13 := ⟨Try.f172.name, by decide, Try.func172.trans (congrArg some (by kernel_rfl))⟩,
    f14 := ⟨Try.f173.name, by decide, Try.func173.trans (congrArg some (by kernel_rfl))⟩,
    f15 := ⟨Try.f174.name, by decide, Try.func174.trans (congrArg some (by kernel_rfl))⟩,
    f16 := ⟨Try.f175.name, by decide, Try.func175.trans (congrArg some (by kernel_rfl))⟩,
    f17 := ⟨Try.f176.name, by decide, Try.func176.trans (congrArg some (by kernel_rfl))⟩,
    f18 := ⟨Try.f177.name, by decide, Try.func177.trans (congrArg some (by kernel_rfl))⟩,
    f19 := Try.func178.trans (congrArg some (by kernel_rfl)),
    f20 := Try.func179.trans (congrArg some (by kernel_rfl)),
    f30 := ⟨Try.f211.name, by decide, Try.func211.trans (congrArg some (by kernel_rfl))⟩,
    f31 := Try.func212.trans (congrArg some (by kernel_rfl)),
    f32 := Try.func213.trans (congrArg some (by kernel_rfl)),
    f33 := ⟨Try.f214.name, by decide, Try.func214.trans (congrArg some (by kernel_rfl))⟩,
    f34 := ⟨Try.f215.name, by decide, Try.func215.trans (congrArg some (by kernel_rfl))⟩,
    f35 := ⟨Try.f204.name, by decide, Try.func204.trans (congrArg some (by kernel_rfl))⟩,
    f40 := ⟨Try.f227.name, by decide, Try.func227.trans (congrArg some (by kernel_rfl))⟩,
    t0 := Try.underlying0,
    a0 := Try.isAgg0,
    z0 := Try.sizeOf0,
    v0 := Try.zeroValue0,
    t3 := Try.underlying3,
    a3 := Try.isAgg3,
    z3 := Try.sizeOf3,
    v3 := Try.zeroValue3,
    t4 := Try.underlying4,
    a4 := Try.isAgg4,
    z4 := Try.sizeOf4,
    v4 := Try.zeroValue4,
    t5 := Try.underlying5,
    a5 := Try.isAgg5,
    z5 := Try.sizeOf5,
    v5 := Try.zeroValue5,
    t9 := Try.underlying9,
    a9 := Try.isAgg9,
    z9 := Try.sizeOf9,
    v9 := Try.zeroValue9,
    t22 := Try.underlying35,
    a22 := Try.isAgg35,
    z22 := Try.sizeOf35,
    v22 := Try.zeroValue35,
    t23 := Try.underlying35,
    a23 := Try.isAgg35,
    z23 := Try.sizeOf35,
    v23 := Try.zeroValue35,
    t25 := Try.underlying3,
    a25 := Try.isAgg3,
    z25 := Try.sizeOf3,
    v25 := Try.zeroValue3,
    t32 := Try.underlying148,
    a32 := Try.isAgg148,
    z32 := Try.sizeOf148,
    v32 := Try.zeroValue148,
    t35 := Try.underlying179,
    a35 := Try.isAgg179,
    z35 := Try.sizeOf179,
    v35 := Try.zeroValue179,
    t36 := Try.underlying180,
    a36 := Try.isAgg180,
    z36 := Try.sizeOf180,
    v36 := Try.zeroValue180,
    t41 := Try.underlying93,
    a41 := Try.isAgg93,
    z41 := Try.sizeOf93,
    v41 := Try.zeroValue93,
    t44 := Try.underlying186,
    a44 := Try.isAgg186,
    z44 := Try.sizeOf186,
    v44 := Try.zeroValue186,
    t46 := Try.underlying188,
    a46 := Try.isAgg188,
    z46 := Try.sizeOf188,
    v46 := Try.zeroValue188,
    t53 := Try.underlying209,
    a53 := Try.isAgg209,
    z53 := Try.sizeOf209,
    v53 := Try.zeroValue209,
    t57 := Try.underlying213,
    a57 := Try.isAgg213,
    z57 := Try.sizeOf213,
    v57 := Try.zeroValue213,
    t63 := Try.underlying222,
    a63 := Try.isAgg222,
    z63 := Try.sizeOf222,
    v63 := Try.zeroValue222,
    t64 := Try.underlying223,
    a64 := Try.isAgg223,
    z64 := Try.sizeOf223,
    v64 := Try.zeroValue223 }
def slices_Sort_Sint_int.f (l : List Int) : Option (List Int) := if l.length < 4611686018427387904 then some (l.mergeSort fun x y => decide (x ≤ y)) else none
theorem slices_Sort_Sint_int.calls (P0_ : Nat → Prop) (u9000_ : Value) (l : List Int) (r : List Int) (w0 w : World) (hB : Below w0.heap.size w0 w) (ho0 : Kd.R (Kd.int .i64) 3 w w0.heap.size P0_ u9000_ l) (h : slices_Sort_Sint_int.f l = some r) :
    Calls Try.prog 86 #[u9000_] w fun e w' => e = .returned (.tuple #[]) ∧ Kd.R (Kd.int .i64) 3 w' w0.heap.size (fun k_ => (P0_ k_ ∨ w.heap.size ≤ k_)) u9000_ r ∧ Below w0.heap.size w0 w' ∧ Kept w w' (fun k_ => P0_ k_) := by
  unfold slices_Sort_Sint_int.f at h
  by_cases hl : l.length < 4611686018427387904
  case neg => rw [if_neg hl] at h; cases h
  rw [if_pos hl] at h
  obtain rfl := Option.some.inj h
  by_cases hne : 0 < l.length
  · obtain ⟨g, cap, cur, rfl, hg, hok, hcur, hlc, hcm, hcs, hj⟩ := row_blk ho0 hne
    have hlt : g < w.heap.size := (Array.getElem?_eq_some_iff.1 hcur).1
    refine (AnyM.slices_Sort_int sortM5 g 0 cap l w (row_holds (cap := cap) ho0 hcur hj) hlt hl).mono ?_
    rintro e w' ⟨rfl, n, os, rfl⟩
    have hlen : (l.mergeSort fun x y => decide (x ≤ y)).length = l.length := List.length_mergeSort _
    refine ⟨rfl, ?_, hB.trans (put_below (Value.int .i64) w n g 0 _ os hg hlt), put_kept (Value.int .i64) w n g 0 _ os hok⟩
    have hR := row_put (enc := Value.int .i64) (h1 := fun _ => rfl) (ok := P0_) (m := l.length) n os hg hok hcur hcm hcs (D := l.mergeSort fun x y => decide (x ≤ y)) (by omega) (by omega)
    rw [List.take_of_length_le (by omega)] at hR
    exact Kd.R_mono hR (fun k_ hk => .inl hk)
  · have hnil : l = [] := List.eq_nil_of_length_eq_zero (by omega)
    subst hnil
    obtain ⟨A, c, rfl⟩ := Kd.R_slice ho0
    have hS := AnyM.slices_Sort_int_none sortM5 A c w
    refine hS.mono ?_
    rintro e w' ⟨rfl, rfl⟩
    exact ⟨rfl, Kd.R_mono (by rw [List.mergeSort_nil]; exact ho0) (fun k_ hk => .inl hk), hB, Kept.refl _ _⟩
end Go.Proofs.Ytcoommffjbbebaa.P
namespace Go.Proofs.Ytcoommffjbbebaa.P
open Go.RowKit Go.Proofs.YtcoommffjbbebaaW.PrintWords Go.Proofs.YtcoommffjbbebaaW.PrintLast Go.Proofs.YtcoommffjbbebaaW.PrintMore
attribute [local go_sem] ptrOf_slice
attribute [local go_sem] min2_str max2_int min2_int max_two min_two max_three min_three max_four min_four
set_option linter.unusedVariables false
set_option linter.unusedSimpArgs false
def cmp_isNaN_int.f (a0 : Int) : Option (Bool) := some false
set_option maxHeartbeats 8000000 in
set_option maxRecDepth 100000 in
theorem cmp_isNaN_int.calls (a0 : Int) (r : Bool) (w : World) (h : cmp_isNaN_int.f a0 = some r) :
  Calls Try.prog 204 #[.int .i64 a0] w fun e w' => e = .returned (.bool r) ∧ Drawn0 w w' := by
 have H : (some false) = some r := h
 clear h
 obtain rfl := Option.some.inj H
 go_enter Try.func204, Try.ntmps204
 go_wp2
 go_ret
 exact ⟨by first | rfl | (simp; done) | (simp [*]; done), by repeat (first | exact Drawn0.refl _ | apply Drawn0.step)⟩
def cmp_Compare_int.f (a0 : Int) (a1 : Int) : Option (Int) := (cmp_isNaN_int.f a0).bind fun t274 => ((cmp_isNaN_int.f a1).bind fun t275 => (if t274 = true then (if t275 = true then (some 0) else (some (-1))) else (if t275 = true then (some 1) else (if a0 < a1 then (some (-1)) else (if a0 > a1 then (some 1) else (some 0))))))
set_option maxHeartbeats 8000000 in
set_option maxRecDepth 100000 in
theorem cmp_Compare_int.calls (a0 : Int) (a1 : Int) (r : Int) (w : World) (h : cmp_Compare_int.f a0 a1 = some r) :
  Calls Try.prog 152 #[.int .i64 a0, .int .i64 a1] w fun e w' => e = .returned (.int .i64 r) ∧ Drawn0 w w' := by
 have H : ((cmp_isNaN_int.f a0).bind fun t274 => ((cmp_isNaN_int.f a1).bind fun t275 => (if t274 = true then (if t275 = true then (some 0) else (some (-1))) else (if t275 = true then (some 1) else (if a0 < a1 then (some (-1)) else (if a0 > a1 then (some 1) else (some 0))))))) = some r := h
 clear h
 replace H := Option.bind_eq_some_iff.mp H
 obtain ⟨t274, A30, H⟩ := H
 replace H : ((cmp_isNaN_int.f a1).bind fun t275 => (if t274 = true then (if t275 = true then (some 0) else (some (-1))) else (if t275 = true then (some 1) else (if a0 < a1 then (some (-1)) else (if a0 > a1 then (some 1) else (some 0)))))) = some r := H
 have A3 := Aside0.mk A30
 clear A30
 replace H := Option.bind_eq_some_iff.mp H
 obtain ⟨t275, A40, H⟩ := H
 replace H : (if t274 = true then (if t275 = true then (some 0) else (some (-1))) else (if t275 = true then (some 1) else (if a0 < a1 then (some (-1)) else (if a0 > a1 then (some 1) else (some 0))))) = some r := H
 have A4 := Aside0.mk A40
 clear A40
 by_cases c5 : t274 = true
 ·subst c5
  have H1 : (if t275 = true then (some 0) else (some (-1))) = some r := by rw [if_pos rfl] at H; exact H
  clear H
  have H := H1
  clear H1
  by_cases c6 : t275 = true
  ·subst c6
   have H1 : (some 0) = some r := by rw [if_pos rfl] at H; exact H
   clear H
   have H := H1
   clear H1
   obtain rfl := Option.some.inj H
   go_enter Try.func152, Try.ntmps152
   go_wp2_with (first | ((with_reducible refine gate_callee (f := 204) rfl ?_); refine goesL_ (some 8) rfl rfl Try.func204 (by kernel_rfl) rfl #[.int .i64 a0] rfl (by (try simp only [List.map_toArray, List.map_cons, List.map_nil]); first | done | rfl | (simp only [List.length_drop, List.length_take]; rfl)) ?_; (with_reducible refine (cmp_isNaN_int.calls a0 true _ A3.out).mono ?_); rintro e w' ⟨rfl, ⟨nd, rfl⟩⟩; refine ⟨_, rfl, ?_⟩) | ((with_reducible refine gate_callee (f := 204) rfl ?_); refine goesL_ (some 10) rfl rfl Try.func204 (by kernel_rfl) rfl #[.int .i64 a1] rfl (by (try simp only [List.map_toArray, List.map_cons, List.map_nil]); first | done | rfl | (simp only [List.length_drop, List.length_take]; rfl)) ?_; (with_reducible refine (cmp_isNaN_int.calls a1 true _ A4.out).mono ?_); rintro e w' ⟨rfl, ⟨nd, rfl⟩⟩; refine ⟨_, rfl, ?_⟩))
   go_ret
   exact ⟨by first | rfl | (simp; done) | (simp [*]; done), by repeat (first | exact Drawn0.refl _ | apply Drawn0.step)⟩
  ·replace c6 := Bool.eq_false_iff.mpr c6
   subst c6
   have H1 : (some (-1)) = some r := by rw [if_neg (show ¬ (false = true) by decide)] at H; exact H
   clear H
   have H := H1
   clear H1
   obtain rfl := Option.some.inj H
   go_enter Try.func152, Try.ntmps152
   go_wp2_with (first | ((with_reducible refine gate_callee (f := 204) rfl ?_); refine goesL_ (some 8) rfl rfl Try.func204 (by kernel_rfl) rfl #[.int .i64 a0] rfl (by (try simp only [List.map_toArray, List.map_cons, List.map_nil]); first | done | rfl | (simp only [List.length_drop, List.length_take]; rfl)) ?_; (with_reducible refine (cmp_isNaN_int.calls a0 true _ A3.out).mono ?_); rintro e w' ⟨rfl, ⟨nd, rfl⟩⟩; refine ⟨_, rfl, ?_⟩) | ((with_reducible refine gate_callee (f := 204) rfl ?_); refine goesL_ (some 10) rfl rfl Try.func204 (by kernel_rfl) rfl #[.int .i64 a1] rfl (by (try simp only [List.map_toArray, List.map_cons, List.map_nil]); first | done | rfl | (simp only [List.length_drop, List.length_take]; rfl)) ?_; (with_reducible refine (cmp_isNaN_int.calls a1 false _ A4.out).mono ?_); rintro e w' ⟨rfl, ⟨nd, rfl⟩⟩; refine ⟨_, rfl, ?_⟩))
   go_ret
   exact ⟨by first | rfl | (simp; done) | (simp [*]; done), by repeat (first | exact Drawn0.refl _ | apply Drawn0.step)⟩
 ·replace c5 := Bool.eq_false_iff.mpr c5
  subst c5
  have H1 : (if t275 = true then (some 1) else (if a0 < a1 then (some (-1)) else (if a0 > a1 then (some 1) else (some 0)))) = some r := by rw [if_neg (show ¬ (false = true) by decide)] at H; exact H
  clear H
  have H := H1
  clear H1
  by_cases c7 : t275 = true
  ·subst c7
   have H1 : (some 1) = some r := by rw [if_pos rfl] at H; exact H
   clear H
   have H := H1
   clear H1
   obtain rfl := Option.some.inj H
   go_enter Try.func152, Try.ntmps152
   go_wp2_with (first | ((with_reducible refine gate_callee (f := 204) rfl ?_); refine goesL_ (some 8) rfl rfl Try.func204 (by kernel_rfl) rfl #[.int .i64 a0] rfl (by (try simp only [List.map_toArray, List.map_cons, List.map_nil]); first | done | rfl | (simp only [List.length_drop, List.length_take]; rfl)) ?_; (with_reducible refine (cmp_isNaN_int.calls a0 false _ A3.out).mono ?_); rintro e w' ⟨rfl, ⟨nd, rfl⟩⟩; refine ⟨_, rfl, ?_⟩) | ((with_reducible refine gate_callee (f := 204) rfl ?_); refine goesL_ (some 10) rfl rfl Try.func204 (by kernel_rfl) rfl #[.int .i64 a1] rfl (by (try simp only [List.map_toArray, List.map_cons, List.map_nil]); first | done | rfl | (simp only [List.length_drop, List.length_take]; rfl)) ?_; (with_reducible refine (cmp_isNaN_int.calls a1 true _ A4.out).mono ?_); rintro e w' ⟨rfl, ⟨nd, rfl⟩⟩; refine ⟨_, rfl, ?_⟩))
   go_ret
   exact ⟨by first | rfl | (simp; done) | (simp [*]; done), by repeat (first | exact Drawn0.refl _ | apply Drawn0.step)⟩
  ·replace c7 := Bool.eq_false_iff.mpr c7
   subst c7
   have H1 : (if a0 < a1 then (some (-1)) else (if a0 > a1 then (some 1) else (some 0))) = some r := by rw [if_neg (show ¬ (false = true) by decide)] at H; exact H
   clear H
   have H := H1
   clear H1
   by_cases c8 : a0 < a1
   ·rw [if_pos c8] at H
    have c8b0 : decide (a0 < a1) = true := decide_eq_true c8
    clear c8
    obtain rfl := Option.some.inj H
    go_enter Try.func152, Try.ntmps152
    go_wp2_with (first | ((with_reducible refine gate_callee (f := 204) rfl ?_); refine goesL_ (some 8) rfl rfl Try.func204 (by kernel_rfl) rfl #[.int .i64 a0] rfl (by (try simp only [List.map_toArray, List.map_cons, List.map_nil]); first | done | rfl | (simp only [List.length_drop, List.length_take]; rfl)) ?_; (with_reducible refine (cmp_isNaN_int.calls a0 false _ A3.out).mono ?_); rintro e w' ⟨rfl, ⟨nd, rfl⟩⟩; refine ⟨_, rfl, ?_⟩) | ((with_reducible refine gate_callee (f := 204) rfl ?_); refine goesL_ (some 10) rfl rfl Try.func204 (by kernel_rfl) rfl #[.int .i64 a1] rfl (by (try simp only [List.map_toArray, List.map_cons, List.map_nil]); first | done | rfl | (simp only [List.length_drop, List.length_take]; rfl)) ?_; (with_reducible refine (cmp_isNaN_int.calls a1 false _ A4.out).mono ?_); rintro e w' ⟨rfl, ⟨nd, rfl⟩⟩; refine ⟨_, rfl, ?_⟩))
    go_ret
    exact ⟨by first | rfl | (simp; done) | (simp [*]; done), by repeat (first | exact Drawn0.refl _ | apply Drawn0.step)⟩
   ·rw [if_neg c8] at H
    have c8b0 : decide (a0 < a1) = false := decide_eq_false c8
    clear c8
    by_cases c9 : a0 > a1
    ·rw [if_pos c9] at H
     have c9b0 : decide (a1 < a0) = true := decide_eq_true c9
     clear c9
     obtain rfl := Option.some.inj H
     go_enter Try.func152, Try.ntmps152
     go_wp2_with (first | ((with_reducible refine gate_callee (f := 204) rfl ?_); refine goesL_ (some 8) rfl rfl Try.func204 (by kernel_rfl) rfl #[.int .i64 a0] rfl (by (try simp only [List.map_toArray, List.map_cons, List.map_nil]); first | done | rfl | (simp only [List.length_drop, List.length_take]; rfl)) ?_; (with_reducible refine (cmp_isNaN_int.calls a0 false _ A3.out).mono ?_); rintro e w' ⟨rfl, ⟨nd, rfl⟩⟩; refine ⟨_, rfl, ?_⟩) | ((with_reducible refine gate_callee (f := 204) rfl ?_); refine goesL_ (some 10) rfl rfl Try.func204 (by kernel_rfl) rfl #[.int .i64 a1] rfl (by (try simp only [List.map_toArray, List.map_cons, List.map_nil]); first | done | rfl | (simp only [List.length_drop, List.length_take]; rfl)) ?_; (with_reducible refine (cmp_isNaN_int.calls a1 false _ A4.out).mono ?_); rintro e w' ⟨rfl, ⟨nd, rfl⟩⟩; refine ⟨_, rfl, ?_⟩))
     go_ret
     exact ⟨by first | rfl | (simp; done) | (simp [*]; done), by repeat (first | exact Drawn0.refl _ | apply Drawn0.step)⟩
    ·rw [if_neg c9] at H
     have c9b0 : decide (a1 < a0) = false := decide_eq_false c9
     clear c9
     obtain rfl := Option.some.inj H
     go_enter Try.func152, Try.ntmps152
     go_wp2_with (first | ((with_reducible refine gate_callee (f := 204) rfl ?_); refine goesL_ (some 8) rfl rfl Try.func204 (by kernel_rfl) rfl #[.int .i64 a0] rfl (by (try simp only [List.map_toArray, List.map_cons, List.map_nil]); first | done | rfl | (simp only [List.length_drop, List.length_take]; rfl)) ?_; (with_reducible refine (cmp_isNaN_int.calls a0 false _ A3.out).mono ?_); rintro e w' ⟨rfl, ⟨nd, rfl⟩⟩; refine ⟨_, rfl, ?_⟩) | ((with_reducible refine gate_callee (f := 204) rfl ?_); refine goesL_ (some 10) rfl rfl Try.func204 (by kernel_rfl) rfl #[.int .i64 a1] rfl (by (try simp only [List.map_toArray, List.map_cons, List.map_nil]); first | done | rfl | (simp only [List.length_drop, List.length_take]; rfl)) ?_; (with_reducible refine (cmp_isNaN_int.calls a1 false _ A4.out).mono ?_); rintro e w' ⟨rfl, ⟨nd, rfl⟩⟩; refine ⟨_, rfl, ?_⟩))
     go_ret
     exact ⟨by first | rfl | (simp; done) | (simp [*]; done), by repeat (first | exact Drawn0.refl _ | apply Drawn0.step)⟩
def impl_signOf.f (a0 : Int) : Option (Int) := (cmp_Compare_int.f a0 0).bind fun t276 => (some t276)
set_option maxHeartbeats 8000000 in
set_option maxRecDepth 100000 in
theorem impl_signOf.calls (a0 : Int) (r : Int) (w : World) (h : impl_signOf.f a0 = some r) :
  Calls Try.prog 159 #[.int .i64 a0] w fun e w' => e = .returned (.int .i64 r) ∧ Drawn0 w w' := by
 have H : ((cmp_Compare_int.f a0 0).bind fun t276 => (some t276)) = some r := h
 clear h
 replace H := Option.bind_eq_some_iff.mp H
 obtain ⟨t276, A20, H⟩ := H
 replace H : (some t276) = some r := H
 have A2 := Aside0.mk A20
 clear A20
 obtain rfl := Option.some.inj H
 go_enter Try.func159, Try.ntmps159
 go_wp2_with (first | ((with_reducible refine gate_callee (f := 152) rfl ?_); refine goesL_ (some 4) rfl rfl Try.func152 (by kernel_rfl) rfl #[.int .i64 a0, .int .i64 0] rfl (by (try simp only [List.map_toArray, List.map_cons, List.map_nil]); first | done | rfl | (simp only [List.length_drop, List.length_take]; rfl)) ?_; (with_reducible refine (cmp_Compare_int.calls a0 0 t276 _ A2.out).mono ?_); rintro e w' ⟨rfl, ⟨nd, rfl⟩⟩; refine ⟨_, rfl, ?_⟩))
 go_ret
 exact ⟨by first | rfl | (simp; done) | (simp [*]; done), by repeat (first | exact Drawn0.refl _ | apply Drawn0.step)⟩
def impl_areParallel.f (a0_0 : Int) (a0_1 : Int) (a0_2 : Int) (a1_0 : Int) (a1_1 : Int) (a1_2 : Int) : Option (Bool) := some ((wrap64 (a0_0 * a1_1)) == (wrap64 (a0_1 * a1_0)))
set_option maxHeartbeats 8000000 in
set_option maxRecDepth 100000 in
theorem impl_areParallel.calls (a0_0 : Int) (a0_1 : Int) (a0_2 : Int) (a1_0 : Int) (a1_1 : Int) (a1_2 : Int) (r : Bool) (w : World) (h : impl_areParallel.f a0_0 a0_1 a0_2 a1_0 a1_1 a1_2 = some r) :
  Calls Try.prog 167 #[.agg #[.int .i64 a0_0, .int .i64 a0_1, .int .i64 a0_2], .agg #[.int .i64 a1_0, .int .i64 a1_1, .int .i64 a1_2]] w fun e w' => e = .returned (.bool r) ∧ Below w.heap.size w w' := by
 have hu98 := Try.underlying98
 have HB := Aside0.mk (Below.refl w.heap.size w)
 have H : (some ((wrap64 (a0_0 * a1_1)) == (wrap64 (a0_1 * a1_0)))) = some r := h
 clear h
 obtain rfl := Option.some.inj H
 go_enter Try.func167, Try.ntmps167
 go_wp2_with (first | ((with_reducible refine gate_dst (N := 2) rfl ?_); refine box_event ?hg (N := 2) ?hd (cs := #[.int .i64 a0_0, .int .i64 a0_1, .int .i64 a0_2]) (t := 98) ?hr ?_; (case hd => rfl); (case hg => rfl); (case hr => first | (go_simp; done) | (go_simp; rfl)); intro gb932 hg w3 hbox hb; have n0_ := Aside0.mk (below_step (by repeat (first | (with_reducible first | exact HB.out | apply below_alloc | apply pw_below_drewN | apply below_drew1) | exact HB.out)) hb); have n1_ := Aside0.mk (hbox); have n2_ := Aside0.mk ((by rw [hg]; exact (below_size (by repeat (first | (with_reducible first | exact HB.out | apply below_alloc | apply pw_below_drewN | apply below_drew1) | exact HB.out))) : w.heap.size ≤ gb932)); have n3_ := Aside0.mk ((by rw [hg]; exact (below_size (by repeat (first | (with_reducible first | exact HB.out | apply below_alloc | apply pw_below_drewN | apply below_drew1) | exact HB.out))) : w.heap.size ≤ gb932)); clear HB; have HB := n0_; have BK932 := n1_; have GW932 := n2_; have GE932 := n3_; clear n0_ n1_ n2_ n3_; clear hb hbox hg) | ((with_reducible refine gate_dst (N := 3) rfl ?_); refine box_event ?hg (N := 3) ?hd (cs := #[.int .i64 a1_0, .int .i64 a1_1, .int .i64 a1_2]) (t := 98) ?hr ?_; (case hd => rfl); (case hg => rfl); (case hr => first | (go_simp; done) | (go_simp; rfl)); intro gb933 hg w4 hbox hb; have n0_ := Aside0.mk (blk_below (g := gb932) (o := .cells #[.int .i64 a0_0, .int .i64 a0_1, .int .i64 a0_2] 98 (0, 0)) (by (with_reducible repeat (first | refine blk_drewN ?_ _ | refine blk_drew ?_ | refine blk_alloc ?_ _)); exact BK932.out) hb); have n1_ := Aside0.mk (below_step (by repeat (first | (with_reducible first | exact HB.out | apply below_alloc | apply pw_below_drewN | apply below_drew1 | refine below_set ?_ GE932.out) | exact HB.out)) hb); have n2_ := Aside0.mk (hbox); have n3_ := Aside0.mk ((by rw [hg]; exact (below_size (by repeat (first | (with_reducible first | exact HB.out | apply below_alloc | apply pw_below_drewN | apply below_drew1 | refine below_set ?_ GE932.out) | exact HB.out))) : w.heap.size ≤ gb933)); have n4_ := Aside0.mk ((by rw [hg]; exact (below_size (by repeat (first | (with_reducible first | exact HB.out | apply below_alloc | apply pw_below_drewN | apply below_drew1 | refine below_set ?_ GE932.out) | exact HB.out))) : w.heap.size ≤ gb933)); have n5_ := Aside0.mk ((by rw [hg]; exact Nat.ne_of_lt (blk_lt (g := gb932) (o := .cells #[.int .i64 a0_0, .int .i64 a0_1, .int .i64 a0_2] 98 (0, 0)) (by (with_reducible repeat (first | refine blk_drewN ?_ _ | refine blk_drew ?_ | refine blk_alloc ?_ _)); exact BK932.out)) : gb932 ≠ gb933)); have n6_ := Aside0.mk ((by rw [hg]; exact Nat.ne_of_gt (blk_lt (g := gb932) (o := .cells #[.int .i64 a0_0, .int .i64 a0_1, .int .i64 a0_2] 98 (0, 0)) (by (with_reducible repeat (first | refine blk_drewN ?_ _ | refine blk_drew ?_ | refine blk_alloc ?_ _)); exact BK932.out)) : gb933 ≠ gb932)); clear BK932; clear HB; have BK932 := n0_; have HB := n1_; have BK933 := n2_; have GW933 := n3_; have GE933 := n4_; have NB932_933 := n5_; have NB933_932 := n6_; clear n0_ n1_ n2_ n3_ n4_ n5_ n6_; clear hb hbox hg; have hnb5 := NB932_933.out; have hnc5 := NB933_932.out; have hcz6_0 : w4.cell? ⟨gb932, 0, none⟩ = some (.int .i64 a0_0) := (blk_cell BK932.out 0).trans rfl; have hcz6_1 : w4.cell? ⟨gb932, 1, none⟩ = some (.int .i64 a0_1) := (blk_cell BK932.out 1).trans rfl; have hcz6_2 : w4.cell? ⟨gb932, 2, none⟩ = some (.int .i64 a0_2) := (blk_cell BK932.out 2).trans rfl; have hfz6_0 := blk_frozen BK932.out 0; have hfz6_1 := blk_frozen BK932.out 1; have hfz6_2 := blk_frozen BK932.out 2; have hcz7_0 : w4.cell? ⟨gb933, 0, none⟩ = some (.int .i64 a1_0) := (blk_cell BK933.out 0).trans rfl; have hcz7_1 : w4.cell? ⟨gb933, 1, none⟩ = some (.int .i64 a1_1) := (blk_cell BK933.out 1).trans rfl; have hcz7_2 : w4.cell? ⟨gb933, 2, none⟩ = some (.int .i64 a1_2) := (blk_cell BK933.out 2).trans rfl; have hfz7_0 := blk_frozen BK933.out 0; have hfz7_1 := blk_frozen BK933.out 1; have hfz7_2 := blk_frozen BK933.out 2))
 go_ret
 exact ⟨by first | rfl | (simp [errW_none, errW_some] <;> rfl) | (simp [*, errW_none, errW_some] <;> rfl), by repeat (first | (with_reducible first | exact HB.out | apply below_alloc | apply pw_below_drewN | apply below_drew1 | refine below_set ?_ GE932.out | refine below_set ?_ GE933.out) | exact HB.out)⟩
mutual
def impl_divisor.l0 : Nat → Int → List Int → Int → Int → Option (Int)
 | 0, _, _, _, _ => none
 | k + 1, x3, x6, x7, x8 => if x8 < x7 then (if 0 ≤ x8 then (if x8 < (x6.length : Int) then (impl_divisor.l1 k x3 (rd x6 x8) x6 x7 x8) else (none)) else (none)) else (some (mx x3 (wrap64 (-x3))))
def impl_divisor.l1 : Nat → Int → Int → List Int → Int → Int → Option (Int)
 | 0, _, _, _, _, _ => none
 | k + 1, x3, x5, x6, x7, x8 => if x5 = 0 then (impl_divisor.l0 k x3 x6 x7 (wrap64 (x8 + 1))) else (impl_divisor.l1 k x5 (Int.tmod x3 x5) x6 x7 x8)
end
def impl_divisor.f (k : Nat) (l0 : List Int) : Option (Int) := impl_divisor.l0 k 0 l0 (l0.length : Int) 0
theorem impl_divisor.mono_l : ∀ k, (∀ y0 y1 y2 y3, LeO (impl_divisor.l0 k y0 y1 y2 y3) (impl_divisor.l0 (k + 1) y0 y1 y2 y3)) ∧ (∀ y0 y1 y2 y3 y4, LeO (impl_divisor.l1 k y0 y1 y2 y3 y4) (impl_divisor.l1 (k + 1) y0 y1 y2 y3 y4))
 | 0 => ⟨fun _ _ _ _ r h => by simp [impl_divisor.l0] at h, fun _ _ _ _ _ r h => by simp [impl_divisor.l1] at h⟩
 | k + 1 => by
  obtain ⟨ih0, ih1⟩ := impl_divisor.mono_l k
  refine ⟨?_, ?_⟩
  ·intro y0 y1 y2 y3
   unfold impl_divisor.l0
   repeat' first
   | (with_reducible exact ih0 _ _ _ _)
   | (with_reducible exact ih1 _ _ _ _ _)
   | (with_reducible exact LeO.refl _)
   | (with_reducible exact LeO.none _)
   | (with_reducible refine LeO.ite ?_ ?_)
   | (with_reducible refine LeO.bind ?_ (fun _ => ?_))
   | exact ih0 _ _ _ _
   | exact ih1 _ _ _ _ _
   | exact LeO.none _
   | refine LeO.ite ?_ ?_
   | refine LeO.bind ?_ (fun _ => ?_)
  ·intro y0 y1 y2 y3 y4
   unfold impl_divisor.l1
   repeat' first
   | (with_reducible exact ih0 _ _ _ _)
   | (with_reducible exact ih1 _ _ _ _ _)
   | (with_reducible exact LeO.refl _)
   | (with_reducible exact LeO.none _)
   | (with_reducible refine LeO.ite ?_ ?_)
   | (with_reducible refine LeO.bind ?_ (fun _ => ?_))
   | exact ih0 _ _ _ _
   | exact ih1 _ _ _ _ _
   | exact LeO.none _
   | refine LeO.ite ?_ ?_
   | refine LeO.bind ?_ (fun _ => ?_)
theorem impl_divisor.mono : ∀ a0 k, LeO (impl_divisor.f k a0) (impl_divisor.f (k + 1) a0) := by
 intro a0 k
 obtain ⟨ih0, ih1⟩ := impl_divisor.mono_l k
 unfold impl_divisor.f
 repeat' first
   | (with_reducible exact ih0 _ _ _ _)
   | (with_reducible exact ih1 _ _ _ _ _)
   | (with_reducible exact LeO.refl _)
   | (with_reducible exact LeO.none _)
   | (with_reducible refine LeO.ite ?_ ?_)
   | (with_reducible refine LeO.bind ?_ (fun _ => ?_))
   | exact ih0 _ _ _ _
   | exact ih1 _ _ _ _ _
   | exact LeO.none _
   | refine LeO.ite ?_ ?_
   | refine LeO.bind ?_ (fun _ => ?_)
set_option maxHeartbeats 8000000 in
set_option maxRecDepth 100000 in
theorem impl_divisor.calls (k : Nat) (A0 : Option Addr) (c0 : Nat) (l0 : List Int) (r : Int) (w : World) (hr0 : Kd.C (Kd.int .i64) w A0 l0.length l0) (hc0 : l0.length ≤ c0) (h : impl_divisor.f k l0 = some r) :
  Calls Try.prog 168 #[.slice A0 l0.length c0] w fun e w' => e = .returned (.int .i64 r) ∧ Drawn0 w w' := by
 have HR0 := Aside0.mk hr0
 have HC0 := Aside0.mk hc0
 clear hr0 hc0
 have H : (impl_divisor.l0 k 0 l0 (l0.length : Int) 0) = some r := h
 clear h
 have H' := Aside0.mk H
 clear H
 go_enter Try.func168, Try.ntmps168
 go_wp2
 repeat (go_quiet (fail); try go_wp2)
 go_loopg [3, 8] k (fun kq v3 v8 w' => ∃ (x3_1 : Int) (x8_1 : Int), v3 = .int .i64 x3_1 ∧ v8 = .int .i64 x8_1 ∧ Aside0 (impl_divisor.l0 kq x3_1 l0 (l0.length : Int) x8_1 = some r) ∧ Aside0 (kq ≤ k) ∧ Drawn0 w w')
 case atStart => exact ⟨(0), (0), (by first | rfl | (simp; done) | (simp [*]; done)), (by first | rfl | (simp; done) | (simp [*]; done)), H', ⟨Nat.le_refl _⟩, by repeat (first | exact Drawn0.refl _ | apply Drawn0.step)⟩
 case round =>
  clear H'
  try clear c1
  obtain ⟨x3_1, x8_1, rfl, rfl, HA, HK1, ⟨m1, rfl⟩⟩ := hrel
  cases gk with
  | zero => exact absurd HA.out (by simp [impl_divisor.l0])
  | succ k1 =>
   have H := HA.out
   clear HA
   simp only [impl_divisor.l0] at H
   by_cases c2 : x8_1 < (l0.length : Int)
   ·rw [if_pos c2] at H
    have c2b0 : decide (x8_1 < (l0.length : Int)) = true := decide_eq_true c2
    clear c2
    by_cases c3 : 0 ≤ x8_1
    ·rw [if_pos c3] at H
     have c3b0 : decide (0 ≤ x8_1) = true := decide_eq_true c3
     clear c3
     by_cases c4 : x8_1 < (l0.length : Int)
     ·rw [if_pos c4] at H
      have c4b0 : decide (x8_1 < (l0.length : Int)) = true := decide_eq_true c4
      clear c4
      have H' := Aside0.mk H
      clear H
      have p934 : 0 ≤ (x8_1 : Int) := of_decide_eq_true (by first | (with_reducible assumption) | assumption)
      have q934 : x8_1 < (l0.length : Int) := of_decide_eq_true (by first | (with_reducible assumption) | assumption)
      obtain ⟨ad934, e934, hx934_0⟩ := Kd.at_int HR0.out x8_1 p934 q934
      cases e934
      replace p934 := eq_true p934
      replace q934 := eq_true q934
      go_wp2
      repeat (go_quiet (fail); try go_wp2)
      go_loopg [3, 5] k1 (fun kq v3 v5 w' => ∃ (x3_2 : Int) (x5_2 : Int), v3 = .int .i64 x3_2 ∧ v5 = .int .i64 x5_2 ∧ Aside0 (impl_divisor.l1 kq x3_2 x5_2 l0 (l0.length : Int) x8_1 = some r) ∧ Aside0 (kq ≤ k1) ∧ Drawn0 w w')
      case atStart => exact ⟨(x3_1), (rd l0 x8_1), (by first | rfl | (simp; done) | (simp [*]; done)), (by first | rfl | (simp; done) | (simp [*]; done)), H', ⟨Nat.le_refl _⟩, by repeat (first | exact Drawn0.refl _ | apply Drawn0.step)⟩
      case round =>
       clear H'
       try clear c1
       try clear c2
       try clear c2b0
       try clear p2
       try clear c3
       try clear c3b0
       try clear c4
       try clear c4b0
       try clear hx934_0
       try clear p934
       try clear q934
       obtain ⟨x3_2, x5_2, rfl, rfl, HA, HK2, ⟨m2, rfl⟩⟩ := hrel
       cases gk with
       | zero => exact absurd HA.out (by simp [impl_divisor.l1])
       | succ k2 =>
        have H := HA.out
        clear HA
        simp only [impl_divisor.l1] at H
        by_cases c5 : x5_2 = 0
        ·rw [if_pos c5] at H
         have c5b0 : (x5_2 == 0) = true := beq_iff_eq.mpr c5
         have c5b1 : (x5_2 != 0) = false := bne_eq_false_iff_eq.mpr c5
         clear c5
         have H' := Aside0.mk H
         clear H
         go_wp2
         repeat (go_quiet (fail); try go_wp2)
         go_roundg k2
         case measure => have := HK1.out; have := HK2.out; omega
         case rel => exact ⟨(x3_2), (wrap64 (x8_1 + 1)), (by first | rfl | (simp; done) | (simp [*]; done)), (by first | rfl | (simp; done) | (simp [*]; done)), H', ⟨by have := HK1.out; have := HK2.out; omega⟩, by repeat (first | exact Drawn0.refl _ | apply Drawn0.step)⟩
        ·rw [if_neg c5] at H
         have c5b0 : (x5_2 == 0) = false := beq_eq_false_iff_ne.mpr c5
         have c5b1 : (x5_2 != 0) = true := bne_iff_ne.mpr c5
         have H' := Aside0.mk H
         clear H
         go_wp2
         repeat (go_quiet (fail); try go_wp2)
         go_roundg k2
         case measure => have := HK1.out; have := HK2.out; omega
         case rel => exact ⟨(x5_2), (Int.tmod x3_2 x5_2), (by first | rfl | (simp; done) | (simp [*]; done)), (by first | rfl | (simp; done) | (simp [*]; done)), H', ⟨by have := HK1.out; have := HK2.out; omega⟩, by repeat (first | exact Drawn0.refl _ | apply Drawn0.step)⟩
     ·rw [if_neg c4] at H
      exact absurd H (by simp)
    ·rw [if_neg c3] at H
     exact absurd H (by simp)
   ·rw [if_neg c2] at H
    have c2b0 : decide (x8_1 < (l0.length : Int)) = false := decide_eq_false c2
    clear c2
    obtain ⟨ji6, hji6⟩ : ∃ j_ : Int, (mx x3_1 (wrap64 (-x3_1))) = j_ := ⟨_, rfl⟩
    replace H : (some ji6) = some r := by first | (rw [hji6] at H; exact H) | (simp only [hji6] at H ⊢; exact H)
    have hji6_ : (if x3_1 < (wrap64 (-x3_1)) then (wrap64 (-x3_1)) else x3_1) = ji6 := hji6
    obtain rfl := Option.some.inj H
    go_wp2
    repeat (go_quiet (fail); try go_wp2)
    go_ret
    exact ⟨by first | rfl | (simp; done) | (simp only [← hji6] <;> (first | rfl | simp)) | (simp [*]; done), by repeat (first | exact Drawn0.refl _ | apply Drawn0.step)⟩
end Go.Proofs.Ytcoommffjbbebaa.P
