/- What the law FnExactParallelClasses reaches, part 3: functions as plain Lean functions with the proofs that their calls come to them, and plain lemmas over these. Put together by a program (wip/pack.py). -/
import Derived.Test.YteblnjoljbdjjaaKFnExactParallelClassesa
import Derived.Test.YteblnjoljbdjjaaKFnExactParallelClassesb
namespace Go.Proofs.Yteblnjoljbdjjaa.P
open Go.RowKit Go.Proofs.YteblnjoljbdjjaaW.PrintWords Go.Proofs.YteblnjoljbdjjaaW.PrintLast Go.Proofs.YteblnjoljbdjjaaW.PrintMore
attribute [local go_sem] ptrOf_slice
attribute [local go_sem] max2_int min2_int max_two min_two max_three min_three max_four min_four
set_option linter.unusedVariables false
set_option linter.unusedSimpArgs false
def laws_toLineS.l0 : Nat → List (S107) → List (S104) → Int → Option ((List (S104)))
 | 0, _, _, _ => none
 | k + 1, x0, x3, x4 => if x4 < (x0.length : Int) then (if 0 ≤ x4 then ((laws_toLine.f ((rd_T107 x0 x4).f0) ((rd_T107 x0 x4).f1) ((rd_T107 x0 x4).f2)).bind fun bt1409 => (if x4 < (x3.length : Int) then (laws_toLineS.l0 k x0 (x3.set (x4 : Int).toNat (⟨bt1409.1, bt1409.2.1, bt1409.2.2⟩ : S104)) (wrap64 (x4 + 1))) else (none))) else (none)) else (some x3)
def laws_toLineS.f (k : Nat) (l0 : List (S107)) : Option ((List (S104))) := if 0 ≤ (l0.length : Int) then (if ((l0.length : Int) : Int).toNat ≤ 11728124029610 then (laws_toLineS.l0 k l0 (List.replicate ((l0.length : Int) : Int).toNat z104) 0) else (none)) else (none)
set_option maxHeartbeats 8000000 in
set_option maxRecDepth 100000 in
theorem laws_toLineS.calls (k : Nat) (A0 : Option Addr) (c0 : Nat) (l0 : List (S107)) (r : List (S104)) (w : World) (hr0 : Kd.C k107 w A0 l0.length l0) (hc0 : l0.length ≤ c0) (h : laws_toLineS.f k l0 = some r) :
  Calls Try.prog 50 #[.slice A0 l0.length c0] w fun e w' => ∃ v0_ : Value, e = .returned (v0_) ∧ Kd.R k104 104 w' w.heap.size (fun _ => True) v0_ r ∧ Below w.heap.size w w' := by
 have hu107 := Try.underlying107
 have hu104 := Try.underlying104
 have HR0 := Aside0.mk hr0
 have HC0 := Aside0.mk hc0
 clear hr0 hc0
 have HB := Aside0.mk (Below.refl w.heap.size w)
 have H : (if 0 ≤ (l0.length : Int) then (if ((l0.length : Int) : Int).toNat ≤ 11728124029610 then (laws_toLineS.l0 k l0 (List.replicate ((l0.length : Int) : Int).toNat z104) 0) else (none)) else (none)) = some r := h
 clear h
 by_cases c2 : 0 ≤ (l0.length : Int)
 ·rw [if_pos c2] at H
  have c2b0 := eq_true c2
  have c2b1 : decide (0 ≤ (l0.length : Int)) = true := decide_eq_true c2
  clear c2
  by_cases c3 : ((l0.length : Int) : Int).toNat ≤ 11728124029610
  ·rw [if_pos c3] at H
   have c3b0 := eq_true c3
   have c3b1 : decide (((l0.length : Int) : Int).toNat ≤ 11728124029610) = true := decide_eq_true c3
   clear c3
   obtain ⟨y1405, hy1405⟩ : ∃ y_ : List (S104), y_ = (List.replicate ((l0.length : Int) : Int).toNat z104) := ⟨_, rfl⟩
   replace H : (laws_toLineS.l0 k l0 y1405 0) = some r := by first | (rw [hy1405]; with_reducible exact H) | (have H2_ := (Option.bind_some _ _).symm.trans H; rw [hy1405]; with_reducible exact H2_) | (have H2_ := (Option.bind_some _ _).symm.trans H; with_reducible exact H2_) | with_reducible exact H | (rw [hy1405]; exact H) | exact H
   have Ny1405 := Aside0.mk hy1405
   clear hy1405
   have H' := Aside0.mk H
   clear H
   go_enter Try.func50, Try.ntmps50
   go_wp2_with (first | ((with_reducible refine gate_dst (N := 7) rfl ?_); refine Kd.R_make k104 _ 104 rfl (N := 7) rfl 54 _ _ rfl (l0.length : Int) rfl rfl Try.underlying54 (.agg #[(.int .i64 0), (.int .i64 0), (.int .i64 0)]) 24 info104 rfl (by decide) (by omega) z104 (ok := fun _ => True) (okp := fun _ => True) (k104_mkM _ _ _ z104 ) (fun _ hk => hk) trivial (of_decide_eq_true (by first | (with_reducible assumption) | assumption)) (Nat.le_trans (Nat.mul_le_mul_right _ (of_decide_eq_true (by first | (with_reducible assumption) | assumption) : (l0.length : Int).toNat ≤ 11728124029610)) (by omega)) (Below.refl _ _) (Nat.le_refl _) ?_; intro v1406 w4 ho5 hb hg_ hnew_; clear hg_ hnew_; (first | rw [← Ny1405.out] at ho5 | (simp only [Int.reduceToNat] at ho5; rw [← Ny1405.out] at ho5)); have n0_ := Aside0.mk (Kd.R_lower ho5 (below_size (by repeat (first | (with_reducible first | exact HB.out | apply below_alloc | apply pw_below_drewN | apply below_drew1) | exact HB.out)))); have n1_ := Aside0.mk (below_step (by repeat (first | (with_reducible first | exact HB.out | apply below_alloc | apply pw_below_drewN | apply below_drew1) | exact HB.out)) hb); clear HB; have HO1407 := n0_; have HB := n1_; clear n0_ n1_; clear hb ho5))
   go_loopg [4] k (fun kq v4 w' => ∃ (x3_1 : List (S104)) (x4_1 : Int), v4 = .int .i64 x4_1 ∧ Aside0 (laws_toLineS.l0 kq l0 x3_1 x4_1 = some r) ∧ Aside0 (kq ≤ k) ∧ Aside0 (Kd.R k104 104 w' w.heap.size (fun _ => True) v1406 x3_1) ∧ Aside0 (Below w.heap.size w w'))
   case atStart => exact ⟨(y1405), (0), (by first | rfl | (simp; done) | (simp [*]; done)), H', ⟨Nat.le_refl _⟩, ⟨by (with_reducible repeat (first | apply Kd.R_alloc | apply Kd.R_drewN | apply Kd.R_drew)); exact HO1407.out⟩, ⟨by repeat (first | (with_reducible first | exact HB.out | apply below_alloc | apply pw_below_drewN | apply below_drew1) | exact HB.out)⟩⟩
   case round =>
    clear H'
    try clear c2
    try clear c2b0
    try clear c2b1
    try clear p2
    try clear c3
    try clear c3b0
    try clear c3b1
    try clear c5
    obtain ⟨x3_1, x4_1, rfl, HA, HK1, HO_3, HB⟩ := hrel
    cases gk with
    | zero => exact absurd HA.out (by simp [laws_toLineS.l0])
    | succ k1 =>
     have H := HA.out
     clear HA
     simp only [laws_toLineS.l0] at H
     by_cases c6 : x4_1 < (l0.length : Int)
     ·rw [if_pos c6] at H
      have c6b0 : decide (x4_1 < (l0.length : Int)) = true := decide_eq_true c6
      clear c6
      by_cases c7 : 0 ≤ x4_1
      ·rw [if_pos c7] at H
       have c7b0 : decide (0 ≤ x4_1) = true := decide_eq_true c7
       clear c7
       replace H := Option.bind_eq_some_iff.mp H
       obtain ⟨⟨t1409, t1410, t1411⟩, A80, H⟩ := H
       replace H : (if x4_1 < (x3_1.length : Int) then (laws_toLineS.l0 k1 l0 (x3_1.set (x4_1 : Int).toNat (⟨t1409, t1410, t1411⟩ : S104)) (wrap64 (x4_1 + 1))) else (none)) = some r := H
       have A8 := Aside0.mk A80
       clear A80
       by_cases c9 : x4_1 < (x3_1.length : Int)
       ·rw [if_pos c9] at H
        have c9b0 : decide (x4_1 < (x3_1.length : Int)) = true := decide_eq_true c9
        clear c9
        obtain ⟨y1412, hy1412⟩ : ∃ y_ : List (S104), y_ = (x3_1.set (x4_1 : Int).toNat (⟨t1409, t1410, t1411⟩ : S104)) := ⟨_, rfl⟩
        replace H : (laws_toLineS.l0 k1 l0 y1412 (wrap64 (x4_1 + 1))) = some r := by first | (rw [hy1412]; with_reducible exact H) | (have H2_ := (Option.bind_some _ _).symm.trans H; rw [hy1412]; with_reducible exact H2_) | (have H2_ := (Option.bind_some _ _).symm.trans H; with_reducible exact H2_) | with_reducible exact H | (rw [hy1412]; exact H) | exact H
        have Ny1412 := Aside0.mk hy1412
        clear hy1412
        have H' := Aside0.mk H
        clear H
        have p1408 : 0 ≤ (x4_1 : Int) := of_decide_eq_true (by first | (with_reducible assumption) | assumption)
        have q1408 : x4_1 < (l0.length : Int) := of_decide_eq_true (by first | (with_reducible assumption) | assumption)
        obtain ⟨ad1408, e1408, hx1408_0, hx1408_1, hx1408_2⟩ := at_T107 HR0.out x4_1 p1408 q1408
        cases e1408
        replace hx1408_0 := (HB.out.cell (World.block_lt_of_cell? w _ hx1408_0)).trans hx1408_0
        replace hx1408_1 := (HB.out.cell (World.block_lt_of_cell? w _ hx1408_1)).trans hx1408_1
        replace hx1408_2 := (HB.out.cell (World.block_lt_of_cell? w _ hx1408_2)).trans hx1408_2
        replace p1408 := eq_true p1408
        replace q1408 := eq_true q1408
        go_wp2_with (first | ((with_reducible refine gate_callee (f := 98) rfl ?_); refine goesL_ (some 20) rfl rfl Try.func98 (by kernel_rfl) rfl #[.agg #[.int .i64 ((rd_T107 l0 x4_1).f0), .int .i64 ((rd_T107 l0 x4_1).f1), .int .i64 ((rd_T107 l0 x4_1).f2)]] rfl (by (try simp only [List.map_toArray, List.map_cons, List.map_nil]); first | done | rfl | (simp only [List.length_drop, List.length_take]; rfl)) ?_; (with_reducible refine (laws_toLine.calls ((rd_T107 l0 x4_1).f0) ((rd_T107 l0 x4_1).f1) ((rd_T107 l0 x4_1).f2) t1409 t1410 t1411 _ A8.out).mono ?_); rintro e w11 ⟨rfl, hb⟩; refine ⟨_, rfl, ?_⟩; have n0_ := Aside0.mk (Kd.R_below (by (with_reducible repeat (first | apply Kd.R_alloc | apply Kd.R_drewN | apply Kd.R_drew)); exact HO_3.out) hb); have n1_ := Aside0.mk (below_step (by repeat (first | (with_reducible first | exact HB.out | apply below_alloc | apply pw_below_drewN | apply below_drew1) | exact HB.out)) hb); clear HO_3; clear HB; have HO_3 := n0_; have HB := n1_; clear n0_ n1_; (try clear hb); (try clear hb2); (try clear hk); (try clear hi); have p10 : 0 ≤ (x4_1 : Int) := of_decide_eq_true (by first | (with_reducible assumption) | assumption); have q10 : (x4_1 : Int) < ((x3_1.length : Int) : Int) := of_decide_eq_true (by first | (with_reducible assumption) | assumption); obtain ⟨go10, co10, eo10, gb10, gl10, cl10, HG10⟩ := Kd.R_form HO_3.out (by omega); (first | cases eo10 | (injection eo10 with ea_ en_ ec_; (first | subst ea_ | (injection ea_ with ea_; subst ea_)); subst ec_; clear en_)); have GB10 := Aside0.mk gb10; have GG10 := Aside0.mk HG10; clear gb10 gl10 HG10; obtain ⟨ce10, hcl10, hM10, hcc10, hfr10⟩ := Kd.R_elem HO_3.out z104 (x4_1 : Int) p10 q10; obtain rfl := k104_openM hM10; have hx10_0 : w11.cell? ⟨go10, (x4_1 : Int).toNat * 3, none⟩ = some (.int .i64 ((rd_T104 x3_1 x4_1).f0)) := hcc10 0 _ rfl; have hx10_1 : w11.cell? ⟨go10, (x4_1 : Int).toNat * 3 + 1, none⟩ = some (.int .i64 ((rd_T104 x3_1 x4_1).f1)) := hcc10 1 _ rfl; have hx10_2 : w11.cell? ⟨go10, (x4_1 : Int).toNat * 3 + 2, none⟩ = some (.int .i64 ((rd_T104 x3_1 x4_1).f2)) := hcc10 2 _ rfl; have hf10_0 : w11.frozen? ⟨go10, (x4_1 : Int).toNat * 3, none⟩ = false := hfr10 0; have hf10_1 : w11.frozen? ⟨go10, (x4_1 : Int).toNat * 3 + 1, none⟩ = false := hfr10 1; have hf10_2 : w11.frozen? ⟨go10, (x4_1 : Int).toNat * 3 + 2, none⟩ = false := hfr10 2; clear hcl10 hcc10 hfr10 hM10; replace p10 := eq_true p10; replace q10 := eq_true q10; have HX12 := Aside0.mk (show Kd.R k104 104 w11 w.heap.size (fun _ => True) (.slice (some ⟨go10, 0, none⟩) x3_1.length co10) x3_1 from (by (with_reducible repeat (first | apply Kd.R_alloc | apply Kd.R_drewN | apply Kd.R_drew)); exact HO_3.out)); obtain ⟨ce12, hcl12, hM12, hcc12, hfr12⟩ := Kd.R_elem HX12.out z104 (x4_1 : Int) (of_decide_eq_true (by first | (with_reducible assumption) | assumption)) (by have h_ : (x4_1 : Int) < ((x3_1.length : Int) : Int) := of_decide_eq_true (by first | (with_reducible assumption) | assumption); first | exact h_ | (have e_ := (Kd.R_reads' HO_3.out).1; omega) | simpa using h_); obtain rfl := k104_openM hM12; have HP12 := Kd.R_seg HX12.out (x4_1 : Int) (of_decide_eq_true (by first | (with_reducible assumption) | assumption)) (by have h_ : (x4_1 : Int) < ((x3_1.length : Int) : Int) := of_decide_eq_true (by first | (with_reducible assumption) | assumption); first | exact h_ | (have e_ := (Kd.R_reads' HO_3.out).1; omega) | simpa using h_) (seg := [.int .i64 t1409, .int .i64 t1410, .int .i64 t1411]) (j := 0) hcl12 hcc12 (show 3 ≤ 3 from by decide) (x' := (⟨t1409, t1410, t1411⟩ : S104)) (k104_mkM _ _ _ (⟨t1409, t1410, t1411⟩ : S104) ) (fun _ hk => hk); have hx12_0 := hcc12 0 _ rfl; (try simp only [show (k104).sz = 3 from rfl, Nat.mul_one, Nat.add_zero] at hx12_0); have hf12_0 := hfr12 0; (try simp only [show (k104).sz = 3 from rfl, Nat.mul_one, Nat.add_zero] at hf12_0); have hx12_1 := hcc12 1 _ rfl; (try simp only [show (k104).sz = 3 from rfl, Nat.mul_one, Nat.add_zero] at hx12_1); have hf12_1 := hfr12 1; (try simp only [show (k104).sz = 3 from rfl, Nat.mul_one, Nat.add_zero] at hf12_1); have hx12_2 := hcc12 2 _ rfl; (try simp only [show (k104).sz = 3 from rfl, Nat.mul_one, Nat.add_zero] at hx12_2); have hf12_2 := hfr12 2; (try simp only [show (k104).sz = 3 from rfl, Nat.mul_one, Nat.add_zero] at hf12_2); clear hcl12 hcc12 hfr12 hM12) | ((with_reducible refine gate_store (t := 104) (p := 21) rfl ?_); refine store_event (t := 104) (p := 21) (v := ?vo_w13) (w1 := (((w11.setCell ⟨go10, (x4_1 : Int).toNat * 3, none⟩ (.int .i64 t1409)).setCell ⟨go10, (x4_1 : Int).toNat * 3 + 1, none⟩ (.int .i64 t1410)).setCell ⟨go10, (x4_1 : Int).toNat * 3 + 2, none⟩ (.int .i64 t1411))) ?hg ?ho ?hn ?hr ?_; (case ho => rfl); (case hg => rfl); (case hn => rfl); (case hr => first | (go_simp; done) | (go_simp; rfl)); intro w13 hw; have hg : w11.grownBy w13 (some go10) := (by rw [hw]; exact HP12.2); have hp_ : Kd.R k104 104 w13 w.heap.size (fun _ => True) (.slice (some ⟨go10, 0, none⟩) x3_1.length co10) y1412 := (by rw [hw, Ny1412.out]; exact HP12.1); clear HP12; have n0_ := Aside0.mk (hp_); have n1_ := Aside0.mk ((by rw [hw]; exact below_set (below_set (below_set (HB.out) GB10.out) GB10.out) GB10.out : Below w.heap.size w w13)); clear HO_3; clear HB; have HO_3 := n0_; have HB := n1_; clear n0_ n1_; clear hg hw hp_))
        go_roundg k1
        case measure => have := HK1.out; omega
        case rel => exact ⟨(y1412), (wrap64 (x4_1 + 1)), (by first | rfl | (simp; done) | (simp [*]; done)), H', ⟨by have := HK1.out; omega⟩, ⟨by (with_reducible repeat (first | apply Kd.R_alloc | apply Kd.R_drewN | apply Kd.R_drew)); exact HO_3.out⟩, ⟨by repeat (first | (with_reducible first | exact HB.out | apply below_alloc | apply pw_below_drewN | apply below_drew1) | exact HB.out)⟩⟩
       ·rw [if_neg c9] at H
        exact absurd H (by simp)
      ·rw [if_neg c7] at H
       exact absurd H (by simp)
     ·rw [if_neg c6] at H
      have c6b0 : decide (x4_1 < (l0.length : Int)) = false := decide_eq_false c6
      clear c6
      obtain rfl := Option.some.inj H
      go_wp2
      go_ret
      exact ⟨_, by first | rfl | (simp [errW_none, errW_some] <;> rfl) | (simp [*, errW_none, errW_some] <;> rfl), by (with_reducible repeat (first | apply Kd.R_alloc | apply Kd.R_drewN | apply Kd.R_drew)); exact HO_3.out, by repeat (first | (with_reducible first | exact HB.out | apply below_alloc | apply pw_below_drewN | apply below_drew1) | exact HB.out)⟩
  ·rw [if_neg c3] at H
   exact absurd H (by simp)
 ·rw [if_neg c2] at H
  exact absurd H (by simp)
def impl_isFar.f (a0 : Int) (a1 : Int) : Option (Bool) := if a0 < (wrap64 (-a1)) then (some true) else (some (decide (a0 > a1)))
set_option maxHeartbeats 8000000 in
set_option maxRecDepth 100000 in
theorem impl_isFar.calls (a0 : Int) (a1 : Int) (r : Bool) (w : World) (h : impl_isFar.f a0 a1 = some r) :
  Calls Try.prog 138 #[.int .i64 a0, .int .i64 a1] w fun e w' => e = .returned (.bool r) ∧ Drawn0 w w' := by
 have H : (if a0 < (wrap64 (-a1)) then (some true) else (some (decide (a0 > a1)))) = some r := h
 clear h
 by_cases c3 : a0 < (wrap64 (-a1))
 ·rw [if_pos c3] at H
  have c3b0 : decide (a0 < (wrap64 (-a1))) = true := decide_eq_true c3
  clear c3
  obtain rfl := Option.some.inj H
  go_enter Try.func138, Try.ntmps138
  go_wp2
  go_ret
  exact ⟨by first | rfl | (simp; done) | (simp [*]; done), by repeat (first | exact Drawn0.refl _ | apply Drawn0.step)⟩
 ·rw [if_neg c3] at H
  have c3b0 : decide (a0 < (wrap64 (-a1))) = false := decide_eq_false c3
  clear c3
  obtain rfl := Option.some.inj H
  go_enter Try.func138, Try.ntmps138
  go_wp2
  go_ret
  exact ⟨by first | rfl | (simp; done) | (simp [*]; done), by repeat (first | exact Drawn0.refl _ | apply Drawn0.step)⟩
def impl_areSame.f (a0_0 : Int) (a0_1 : Int) (a0_2 : Int) (a1_0 : Int) (a1_1 : Int) (a1_2 : Int) : Option (Bool) := if (wrap64 (a0_0 * a1_1)) = (wrap64 (a0_1 * a1_0)) then (if (wrap64 (a0_0 * a1_2)) = (wrap64 (a0_2 * a1_0)) then (some ((wrap64 (a0_1 * a1_2)) == (wrap64 (a0_2 * a1_1)))) else (some false)) else (some false)
set_option maxHeartbeats 8000000 in
set_option maxRecDepth 100000 in
theorem impl_areSame.calls (a0_0 : Int) (a0_1 : Int) (a0_2 : Int) (a1_0 : Int) (a1_1 : Int) (a1_2 : Int) (r : Bool) (w : World) (h : impl_areSame.f a0_0 a0_1 a0_2 a1_0 a1_1 a1_2 = some r) :
  Calls Try.prog 140 #[.agg #[.int .i64 a0_0, .int .i64 a0_1, .int .i64 a0_2], .agg #[.int .i64 a1_0, .int .i64 a1_1, .int .i64 a1_2]] w fun e w' => e = .returned (.bool r) ∧ Below w.heap.size w w' := by
 have hu104 := Try.underlying104
 have HB := Aside0.mk (Below.refl w.heap.size w)
 have H : (if (wrap64 (a0_0 * a1_1)) = (wrap64 (a0_1 * a1_0)) then (if (wrap64 (a0_0 * a1_2)) = (wrap64 (a0_2 * a1_0)) then (some ((wrap64 (a0_1 * a1_2)) == (wrap64 (a0_2 * a1_1)))) else (some false)) else (some false)) = some r := h
 clear h
 by_cases c3 : (wrap64 (a0_0 * a1_1)) = (wrap64 (a0_1 * a1_0))
 ·rw [if_pos c3] at H
  have c3b0 : ((wrap64 (a0_0 * a1_1)) == (wrap64 (a0_1 * a1_0))) = true := beq_iff_eq.mpr c3
  have c3b1 : ((wrap64 (a0_0 * a1_1)) != (wrap64 (a0_1 * a1_0))) = false := bne_eq_false_iff_eq.mpr c3
  clear c3
  by_cases c4 : (wrap64 (a0_0 * a1_2)) = (wrap64 (a0_2 * a1_0))
  ·rw [if_pos c4] at H
   have c4b0 : ((wrap64 (a0_0 * a1_2)) == (wrap64 (a0_2 * a1_0))) = true := beq_iff_eq.mpr c4
   have c4b1 : ((wrap64 (a0_0 * a1_2)) != (wrap64 (a0_2 * a1_0))) = false := bne_eq_false_iff_eq.mpr c4
   clear c4
   obtain rfl := Option.some.inj H
   go_enter Try.func140, Try.ntmps140
   go_wp2_with (first | ((with_reducible refine gate_dst (N := 2) rfl ?_); refine box_event ?hg (N := 2) ?hd (cs := #[.int .i64 a0_0, .int .i64 a0_1, .int .i64 a0_2]) (t := 104) ?hr ?_; (case hd => rfl); (case hg => rfl); (case hr => first | (go_simp; done) | (go_simp; rfl)); intro gb1413 hg w5 hbox hb; have n0_ := Aside0.mk (below_step (by repeat (first | (with_reducible first | exact HB.out | apply below_alloc | apply pw_below_drewN | apply below_drew1) | exact HB.out)) hb); have n1_ := Aside0.mk (hbox); have n2_ := Aside0.mk ((by rw [hg]; exact (below_size (by repeat (first | (with_reducible first | exact HB.out | apply below_alloc | apply pw_below_drewN | apply below_drew1) | exact HB.out))) : w.heap.size ≤ gb1413)); have n3_ := Aside0.mk ((by rw [hg]; exact (below_size (by repeat (first | (with_reducible first | exact HB.out | apply below_alloc | apply pw_below_drewN | apply below_drew1) | exact HB.out))) : w.heap.size ≤ gb1413)); clear HB; have HB := n0_; have BK1413 := n1_; have GW1413 := n2_; have GE1413 := n3_; clear n0_ n1_ n2_ n3_; clear hb hbox hg) | ((with_reducible refine gate_dst (N := 3) rfl ?_); refine box_event ?hg (N := 3) ?hd (cs := #[.int .i64 a1_0, .int .i64 a1_1, .int .i64 a1_2]) (t := 104) ?hr ?_; (case hd => rfl); (case hg => rfl); (case hr => first | (go_simp; done) | (go_simp; rfl)); intro gb1414 hg w6 hbox hb; have n0_ := Aside0.mk (blk_below (g := gb1413) (o := .cells #[.int .i64 a0_0, .int .i64 a0_1, .int .i64 a0_2] 104 (0, 0)) (by (with_reducible repeat (first | refine blk_drewN ?_ _ | refine blk_drew ?_ | refine blk_alloc ?_ _)); exact BK1413.out) hb); have n1_ := Aside0.mk (below_step (by repeat (first | (with_reducible first | exact HB.out | apply below_alloc | apply pw_below_drewN | apply below_drew1 | refine below_set ?_ GE1413.out) | exact HB.out)) hb); have n2_ := Aside0.mk (hbox); have n3_ := Aside0.mk ((by rw [hg]; exact (below_size (by repeat (first | (with_reducible first | exact HB.out | apply below_alloc | apply pw_below_drewN | apply below_drew1 | refine below_set ?_ GE1413.out) | exact HB.out))) : w.heap.size ≤ gb1414)); have n4_ := Aside0.mk ((by rw [hg]; exact (below_size (by repeat (first | (with_reducible first | exact HB.out | apply below_alloc | apply pw_below_drewN | apply below_drew1 | refine below_set ?_ GE1413.out) | exact HB.out))) : w.heap.size ≤ gb1414)); have n5_ := Aside0.mk ((by rw [hg]; exact Nat.ne_of_lt (blk_lt (g := gb1413) (o := .cells #[.int .i64 a0_0, .int .i64 a0_1, .int .i64 a0_2] 104 (0, 0)) (by (with_reducible repeat (first | refine blk_drewN ?_ _ | refine blk_drew ?_ | refine blk_alloc ?_ _)); exact BK1413.out)) : gb1413 ≠ gb1414)); have n6_ := Aside0.mk ((by rw [hg]; exact Nat.ne_of_gt (blk_lt (g := gb1413) (o := .cells #[.int .i64 a0_0, .int .i64 a0_1, .int .i64 a0_2] 104 (0, 0)) (by (with_reducible repeat (first | refine blk_drewN ?_ _ | refine blk_drew ?_ | refine blk_alloc ?_ _)); exact BK1413.out)) : gb1414 ≠ gb1413)); clear BK1413; clear HB; have BK1413 := n0_; have HB := n1_; have BK1414 := n2_; have GW1414 := n3_; have GE1414 := n4_; have NB1413_1414 := n5_; have NB1414_1413 := n6_; clear n0_ n1_ n2_ n3_ n4_ n5_ n6_; clear hb hbox hg; have hnb7 := NB1413_1414.out; have hnc7 := NB1414_1413.out; have hcz8_0 : w6.cell? ⟨gb1413, 0, none⟩ = some (.int .i64 a0_0) := (blk_cell BK1413.out 0).trans rfl; have hcz8_1 : w6.cell? ⟨gb1413, 1, none⟩ = some (.int .i64 a0_1) := (blk_cell BK1413.out 1).trans rfl; have hcz8_2 : w6.cell? ⟨gb1413, 2, none⟩ = some (.int .i64 a0_2) := (blk_cell BK1413.out 2).trans rfl; have hfz8_0 := blk_frozen BK1413.out 0; have hfz8_1 := blk_frozen BK1413.out 1; have hfz8_2 := blk_frozen BK1413.out 2; have hcz9_0 : w6.cell? ⟨gb1414, 0, none⟩ = some (.int .i64 a1_0) := (blk_cell BK1414.out 0).trans rfl; have hcz9_1 : w6.cell? ⟨gb1414, 1, none⟩ = some (.int .i64 a1_1) := (blk_cell BK1414.out 1).trans rfl; have hcz9_2 : w6.cell? ⟨gb1414, 2, none⟩ = some (.int .i64 a1_2) := (blk_cell BK1414.out 2).trans rfl; have hfz9_0 := blk_frozen BK1414.out 0; have hfz9_1 := blk_frozen BK1414.out 1; have hfz9_2 := blk_frozen BK1414.out 2))
   go_ret
   exact ⟨by first | rfl | (simp [errW_none, errW_some] <;> rfl) | (simp [*, errW_none, errW_some] <;> rfl), by repeat (first | (with_reducible first | exact HB.out | apply below_alloc | apply pw_below_drewN | apply below_drew1 | refine below_set ?_ GE1413.out | refine below_set ?_ GE1414.out) | exact HB.out)⟩
  ·rw [if_neg c4] at H
   have c4b0 : ((wrap64 (a0_0 * a1_2)) == (wrap64 (a0_2 * a1_0))) = false := beq_eq_false_iff_ne.mpr c4
   have c4b1 : ((wrap64 (a0_0 * a1_2)) != (wrap64 (a0_2 * a1_0))) = true := bne_iff_ne.mpr c4
   obtain rfl := Option.some.inj H
   go_enter Try.func140, Try.ntmps140
   go_wp2_with (first | ((with_reducible refine gate_dst (N := 2) rfl ?_); refine box_event ?hg (N := 2) ?hd (cs := #[.int .i64 a0_0, .int .i64 a0_1, .int .i64 a0_2]) (t := 104) ?hr ?_; (case hd => rfl); (case hg => rfl); (case hr => first | (go_simp; done) | (go_simp; rfl)); intro gb1413 hg w10 hbox hb; have n0_ := Aside0.mk (below_step (by repeat (first | (with_reducible first | exact HB.out | apply below_alloc | apply pw_below_drewN | apply below_drew1) | exact HB.out)) hb); have n1_ := Aside0.mk (hbox); have n2_ := Aside0.mk ((by rw [hg]; exact (below_size (by repeat (first | (with_reducible first | exact HB.out | apply below_alloc | apply pw_below_drewN | apply below_drew1) | exact HB.out))) : w.heap.size ≤ gb1413)); have n3_ := Aside0.mk ((by rw [hg]; exact (below_size (by repeat (first | (with_reducible first | exact HB.out | apply below_alloc | apply pw_below_drewN | apply below_drew1) | exact HB.out))) : w.heap.size ≤ gb1413)); clear HB; have HB := n0_; have BK1413 := n1_; have GW1413 := n2_; have GE1413 := n3_; clear n0_ n1_ n2_ n3_; clear hb hbox hg) | ((with_reducible refine gate_dst (N := 3) rfl ?_); refine box_event ?hg (N := 3) ?hd (cs := #[.int .i64 a1_0, .int .i64 a1_1, .int .i64 a1_2]) (t := 104) ?hr ?_; (case hd => rfl); (case hg => rfl); (case hr => first | (go_simp; done) | (go_simp; rfl)); intro gb1414 hg w11 hbox hb; have n0_ := Aside0.mk (blk_below (g := gb1413) (o := .cells #[.int .i64 a0_0, .int .i64 a0_1, .int .i64 a0_2] 104 (0, 0)) (by (with_reducible repeat (first | refine blk_drewN ?_ _ | refine blk_drew ?_ | refine blk_alloc ?_ _)); exact BK1413.out) hb); have n1_ := Aside0.mk (below_step (by repeat (first | (with_reducible first | exact HB.out | apply below_alloc | apply pw_below_drewN | apply below_drew1 | refine below_set ?_ GE1413.out) | exact HB.out)) hb); have n2_ := Aside0.mk (hbox); have n3_ := Aside0.mk ((by rw [hg]; exact (below_size (by repeat (first | (with_reducible first | exact HB.out | apply below_alloc | apply pw_below_drewN | apply below_drew1 | refine below_set ?_ GE1413.out) | exact HB.out))) : w.heap.size ≤ gb1414)); have n4_ := Aside0.mk ((by rw [hg]; exact (below_size (by repeat (first | (with_reducible first | exact HB.out | apply below_alloc | apply pw_below_drewN | apply below_drew1 | refine below_set ?_ GE1413.out) | exact HB.out))) : w.heap.size ≤ gb1414)); have n5_ := Aside0.mk ((by rw [hg]; exact Nat.ne_of_lt (blk_lt (g := gb1413) (o := .cells #[.int .i64 a0_0, .int .i64 a0_1, .int .i64 a0_2] 104 (0, 0)) (by (with_reducible repeat (first | refine blk_drewN ?_ _ | refine blk_drew ?_ | refine blk_alloc ?_ _)); exact BK1413.out)) : gb1413 ≠ gb1414)); have n6_ := Aside0.mk ((by rw [hg]; exact Nat.ne_of_gt (blk_lt (g := gb1413) (o := .cells #[.int .i64 a0_0, .int .i64 a0_1, .int .i64 a0_2] 104 (0, 0)) (by (with_reducible repeat (first | refine blk_drewN ?_ _ | refine blk_drew ?_ | refine blk_alloc ?_ _)); exact BK1413.out)) : gb1414 ≠ gb1413)); clear BK1413; clear HB; have BK1413 := n0_; have HB := n1_; have BK1414 := n2_; have GW1414 := n3_; have GE1414 := n4_; have NB1413_1414 := n5_; have NB1414_1413 := n6_; clear n0_ n1_ n2_ n3_ n4_ n5_ n6_; clear hb hbox hg; have hnb12 := NB1413_1414.out; have hnc12 := NB1414_1413.out; have hcz13_0 : w11.cell? ⟨gb1413, 0, none⟩ = some (.int .i64 a0_0) := (blk_cell BK1413.out 0).trans rfl; have hcz13_1 : w11.cell? ⟨gb1413, 1, none⟩ = some (.int .i64 a0_1) := (blk_cell BK1413.out 1).trans rfl; have hcz13_2 : w11.cell? ⟨gb1413, 2, none⟩ = some (.int .i64 a0_2) := (blk_cell BK1413.out 2).trans rfl; have hfz13_0 := blk_frozen BK1413.out 0; have hfz13_1 := blk_frozen BK1413.out 1; have hfz13_2 := blk_frozen BK1413.out 2; have hcz14_0 : w11.cell? ⟨gb1414, 0, none⟩ = some (.int .i64 a1_0) := (blk_cell BK1414.out 0).trans rfl; have hcz14_1 : w11.cell? ⟨gb1414, 1, none⟩ = some (.int .i64 a1_1) := (blk_cell BK1414.out 1).trans rfl; have hcz14_2 : w11.cell? ⟨gb1414, 2, none⟩ = some (.int .i64 a1_2) := (blk_cell BK1414.out 2).trans rfl; have hfz14_0 := blk_frozen BK1414.out 0; have hfz14_1 := blk_frozen BK1414.out 1; have hfz14_2 := blk_frozen BK1414.out 2))
   go_ret
   exact ⟨by first | rfl | (simp [errW_none, errW_some] <;> rfl) | (simp [*, errW_none, errW_some] <;> rfl), by repeat (first | (with_reducible first | exact HB.out | apply below_alloc | apply pw_below_drewN | apply below_drew1 | refine below_set ?_ GE1413.out | refine below_set ?_ GE1414.out) | exact HB.out)⟩
 ·rw [if_neg c3] at H
  have c3b0 : ((wrap64 (a0_0 * a1_1)) == (wrap64 (a0_1 * a1_0))) = false := beq_eq_false_iff_ne.mpr c3
  have c3b1 : ((wrap64 (a0_0 * a1_1)) != (wrap64 (a0_1 * a1_0))) = true := bne_iff_ne.mpr c3
  obtain rfl := Option.some.inj H
  go_enter Try.func140, Try.ntmps140
  go_wp2_with (first | ((with_reducible refine gate_dst (N := 2) rfl ?_); refine box_event ?hg (N := 2) ?hd (cs := #[.int .i64 a0_0, .int .i64 a0_1, .int .i64 a0_2]) (t := 104) ?hr ?_; (case hd => rfl); (case hg => rfl); (case hr => first | (go_simp; done) | (go_simp; rfl)); intro gb1413 hg w15 hbox hb; have n0_ := Aside0.mk (below_step (by repeat (first | (with_reducible first | exact HB.out | apply below_alloc | apply pw_below_drewN | apply below_drew1) | exact HB.out)) hb); have n1_ := Aside0.mk (hbox); have n2_ := Aside0.mk ((by rw [hg]; exact (below_size (by repeat (first | (with_reducible first | exact HB.out | apply below_alloc | apply pw_below_drewN | apply below_drew1) | exact HB.out))) : w.heap.size ≤ gb1413)); have n3_ := Aside0.mk ((by rw [hg]; exact (below_size (by repeat (first | (with_reducible first | exact HB.out | apply below_alloc | apply pw_below_drewN | apply below_drew1) | exact HB.out))) : w.heap.size ≤ gb1413)); clear HB; have HB := n0_; have BK1413 := n1_; have GW1413 := n2_; have GE1413 := n3_; clear n0_ n1_ n2_ n3_; clear hb hbox hg) | ((with_reducible refine gate_dst (N := 3) rfl ?_); refine box_event ?hg (N := 3) ?hd (cs := #[.int .i64 a1_0, .int .i64 a1_1, .int .i64 a1_2]) (t := 104) ?hr ?_; (case hd => rfl); (case hg => rfl); (case hr => first | (go_simp; done) | (go_simp; rfl)); intro gb1414 hg w16 hbox hb; have n0_ := Aside0.mk (blk_below (g := gb1413) (o := .cells #[.int .i64 a0_0, .int .i64 a0_1, .int .i64 a0_2] 104 (0, 0)) (by (with_reducible repeat (first | refine blk_drewN ?_ _ | refine blk_drew ?_ | refine blk_alloc ?_ _)); exact BK1413.out) hb); have n1_ := Aside0.mk (below_step (by repeat (first | (with_reducible first | exact HB.out | apply below_alloc | apply pw_below_drewN | apply below_drew1 | refine below_set ?_ GE1413.out) | exact HB.out)) hb); have n2_ := Aside0.mk (hbox); have n3_ := Aside0.mk ((by rw [hg]; exact (below_size (by repeat (first | (with_reducible first | exact HB.out | apply below_alloc | apply pw_below_drewN | apply below_drew1 | refine below_set ?_ GE1413.out) | exact HB.out))) : w.heap.size ≤ gb1414)); have n4_ := Aside0.mk ((by rw [hg]; exact (below_size (by repeat (first | (with_reducible first | exact HB.out | apply below_alloc | apply pw_below_drewN | apply below_drew1 | refine below_set ?_ GE1413.out) | exact HB.out))) : w.heap.size ≤ gb1414)); have n5_ := Aside0.mk ((by rw [hg]; exact Nat.ne_of_lt (blk_lt (g := gb1413) (o := .cells #[.int .i64 a0_0, .int .i64 a0_1, .int .i64 a0_2] 104 (0, 0)) (by (with_reducible repeat (first | refine blk_drewN ?_ _ | refine blk_drew ?_ | refine blk_alloc ?_ _)); exact BK1413.out)) : gb1413 ≠ gb1414)); have n6_ := Aside0.mk ((by rw [hg]; exact Nat.ne_of_gt (blk_lt (g := gb1413) (o := .cells #[.int .i64 a0_0, .int .i64 a0_1, .int .i64 a0_2] 104 (0, 0)) (by (with_reducible repeat (first | refine blk_drewN ?_ _ | refine blk_drew ?_ | refine blk_alloc ?_ _)); exact BK1413.out)) : gb1414 ≠ gb1413)); clear BK1413; clear HB; have BK1413 := n0_; have HB := n1_; have BK1414 := n2_; have GW1414 := n3_; have GE1414 := n4_; have NB1413_1414 := n5_; have NB1414_1413 := n6_; clear n0_ n1_ n2_ n3_ n4_ n5_ n6_; clear hb hbox hg; have hnb17 := NB1413_1414.out; have hnc17 := NB1414_1413.out; have hcz18_0 : w16.cell? ⟨gb1413, 0, none⟩ = some (.int .i64 a0_0) := (blk_cell BK1413.out 0).trans rfl; have hcz18_1 : w16.cell? ⟨gb1413, 1, none⟩ = some (.int .i64 a0_1) := (blk_cell BK1413.out 1).trans rfl; have hcz18_2 : w16.cell? ⟨gb1413, 2, none⟩ = some (.int .i64 a0_2) := (blk_cell BK1413.out 2).trans rfl; have hfz18_0 := blk_frozen BK1413.out 0; have hfz18_1 := blk_frozen BK1413.out 1; have hfz18_2 := blk_frozen BK1413.out 2; have hcz19_0 : w16.cell? ⟨gb1414, 0, none⟩ = some (.int .i64 a1_0) := (blk_cell BK1414.out 0).trans rfl; have hcz19_1 : w16.cell? ⟨gb1414, 1, none⟩ = some (.int .i64 a1_1) := (blk_cell BK1414.out 1).trans rfl; have hcz19_2 : w16.cell? ⟨gb1414, 2, none⟩ = some (.int .i64 a1_2) := (blk_cell BK1414.out 2).trans rfl; have hfz19_0 := blk_frozen BK1414.out 0; have hfz19_1 := blk_frozen BK1414.out 1; have hfz19_2 := blk_frozen BK1414.out 2))
  go_ret
  exact ⟨by first | rfl | (simp [errW_none, errW_some] <;> rfl) | (simp [*, errW_none, errW_some] <;> rfl), by repeat (first | (with_reducible first | exact HB.out | apply below_alloc | apply pw_below_drewN | apply below_drew1 | refine below_set ?_ GE1413.out | refine below_set ?_ GE1414.out) | exact HB.out)⟩
def impl_AreLines_1.f (a0_0 : Int) (a0_1 : Int) (a0_2 : Int) (s1_0 : Int) (s1_1 : Int) (s1_2 : Int) : Option (Bool) := (impl_areSame.f s1_0 s1_1 s1_2 a0_0 a0_1 a0_2).bind fun t1416 => (some t1416)
set_option maxHeartbeats 8000000 in
set_option maxRecDepth 100000 in
theorem impl_AreLines_1.calls (a0_0 : Int) (a0_1 : Int) (a0_2 : Int) (gb1 : Nat) (s1_0 : Int) (s1_1 : Int) (s1_2 : Int) (r : Bool) (w : World) (hb1_ : w.heap[gb1]? = some (.cells #[.int .i64 s1_0, .int .i64 s1_1, .int .i64 s1_2] 104 (0, 0))) (h : impl_AreLines_1.f a0_0 a0_1 a0_2 s1_0 s1_1 s1_2 = some r) :
  Calls Try.prog 139 #[.agg #[.int .i64 a0_0, .int .i64 a0_1, .int .i64 a0_2], .pointer (some ⟨gb1, 0, none⟩)] w fun e w' => e = .returned (.bool r) ∧ Below w.heap.size w w' := by
 have hu104 := Try.underlying104
 have BK1 := Aside0.mk hb1_
 clear hb1_
 have HB := Aside0.mk (Below.refl w.heap.size w)
 have H : ((impl_areSame.f s1_0 s1_1 s1_2 a0_0 a0_1 a0_2).bind fun t1416 => (some t1416)) = some r := h
 clear h
 replace H := Option.bind_eq_some_iff.mp H
 obtain ⟨t1416, A30, H⟩ := H
 replace H : (some t1416) = some r := H
 have A3 := Aside0.mk A30
 clear A30
 obtain rfl := Option.some.inj H
 go_enter Try.func139, Try.ntmps139
 go_wp2_with (first | ((with_reducible refine gate_dst (N := 2) rfl ?_); refine box_event ?hg (N := 2) ?hd (cs := #[.int .i64 a0_0, .int .i64 a0_1, .int .i64 a0_2]) (t := 104) ?hr ?_; (case hd => rfl); (case hg => rfl); (case hr => first | (go_simp; done) | (go_simp; rfl)); intro gb1415 hg w4 hbox hb; have n0_ := Aside0.mk (blk_below (g := gb1) (o := .cells #[.int .i64 s1_0, .int .i64 s1_1, .int .i64 s1_2] 104 (0, 0)) (by (with_reducible repeat (first | refine blk_drewN ?_ _ | refine blk_drew ?_ | refine blk_alloc ?_ _)); exact BK1.out) hb); have n1_ := Aside0.mk (below_step (by repeat (first | (with_reducible first | exact HB.out | apply below_alloc | apply pw_below_drewN | apply below_drew1 | refine below_set ?_ GE1.out) | exact HB.out)) hb); have n2_ := Aside0.mk (hbox); have n3_ := Aside0.mk ((by rw [hg]; exact (below_size (by repeat (first | (with_reducible first | exact HB.out | apply below_alloc | apply pw_below_drewN | apply below_drew1 | refine below_set ?_ GE1.out) | exact HB.out))) : w.heap.size ≤ gb1415)); have n4_ := Aside0.mk ((by rw [hg]; exact (below_size (by repeat (first | (with_reducible first | exact HB.out | apply below_alloc | apply pw_below_drewN | apply below_drew1 | refine below_set ?_ GE1.out) | exact HB.out))) : w.heap.size ≤ gb1415)); have n5_ := Aside0.mk ((by rw [hg]; exact Nat.ne_of_lt (blk_lt (g := gb1) (o := .cells #[.int .i64 s1_0, .int .i64 s1_1, .int .i64 s1_2] 104 (0, 0)) (by (with_reducible repeat (first | refine blk_drewN ?_ _ | refine blk_drew ?_ | refine blk_alloc ?_ _)); exact BK1.out)) : gb1 ≠ gb1415)); have n6_ := Aside0.mk ((by rw [hg]; exact Nat.ne_of_gt (blk_lt (g := gb1) (o := .cells #[.int .i64 s1_0, .int .i64 s1_1, .int .i64 s1_2] 104 (0, 0)) (by (with_reducible repeat (first | refine blk_drewN ?_ _ | refine blk_drew ?_ | refine blk_alloc ?_ _)); exact BK1.out)) : gb1415 ≠ gb1)); clear BK1; clear HB; have BK1 := n0_; have HB := n1_; have BK1415 := n2_; have GW1415 := n3_; have GE1415 := n4_; have NB1_1415 := n5_; have NB1415_1 := n6_; clear n0_ n1_ n2_ n3_ n4_ n5_ n6_; clear hb hbox hg; have hnb5 := NB1_1415.out; have hnc5 := NB1415_1.out; have hcz6_0 : w4.cell? ⟨gb1, 0, none⟩ = some (.int .i64 s1_0) := (blk_cell BK1.out 0).trans rfl; have hcz6_1 : w4.cell? ⟨gb1, 1, none⟩ = some (.int .i64 s1_1) := (blk_cell BK1.out 1).trans rfl; have hcz6_2 : w4.cell? ⟨gb1, 2, none⟩ = some (.int .i64 s1_2) := (blk_cell BK1.out 2).trans rfl; have hfz6_0 := blk_frozen BK1.out 0; have hfz6_1 := blk_frozen BK1.out 1; have hfz6_2 := blk_frozen BK1.out 2; have hcz7_0 : w4.cell? ⟨gb1415, 0, none⟩ = some (.int .i64 a0_0) := (blk_cell BK1415.out 0).trans rfl; have hcz7_1 : w4.cell? ⟨gb1415, 1, none⟩ = some (.int .i64 a0_1) := (blk_cell BK1415.out 1).trans rfl; have hcz7_2 : w4.cell? ⟨gb1415, 2, none⟩ = some (.int .i64 a0_2) := (blk_cell BK1415.out 2).trans rfl; have hfz7_0 := blk_frozen BK1415.out 0; have hfz7_1 := blk_frozen BK1415.out 1; have hfz7_2 := blk_frozen BK1415.out 2) | ((with_reducible refine gate_callee (f := 140) rfl ?_); refine goesL_ (some 6) rfl rfl Try.func140 (by kernel_rfl) rfl #[.agg #[.int .i64 s1_0, .int .i64 s1_1, .int .i64 s1_2], .agg #[.int .i64 a0_0, .int .i64 a0_1, .int .i64 a0_2]] rfl (by (try simp only [List.map_toArray, List.map_cons, List.map_nil]); first | done | rfl | (simp only [List.length_drop, List.length_take]; rfl)) ?_; (with_reducible refine (impl_areSame.calls s1_0 s1_1 s1_2 a0_0 a0_1 a0_2 t1416 _ A3.out).mono ?_); rintro e w8 ⟨rfl, hb⟩; refine ⟨_, rfl, ?_⟩; have n0_ := Aside0.mk (blk_below (g := gb1) (o := .cells #[.int .i64 s1_0, .int .i64 s1_1, .int .i64 s1_2] 104 (0, 0)) (by (with_reducible repeat (first | refine blk_drewN ?_ _ | refine blk_drew ?_ | refine blk_alloc ?_ _)); exact BK1.out) hb); have n1_ := Aside0.mk (blk_below (g := gb1415) (o := .cells #[.int .i64 a0_0, .int .i64 a0_1, .int .i64 a0_2] 104 (0, 0)) (by (with_reducible repeat (first | refine blk_drewN ?_ _ | refine blk_drew ?_ | refine blk_alloc ?_ _)); exact BK1415.out) hb); have n2_ := Aside0.mk (below_step (by repeat (first | (with_reducible first | exact HB.out | apply below_alloc | apply pw_below_drewN | apply below_drew1 | refine below_set ?_ GE1.out | refine below_set ?_ GE1415.out) | exact HB.out)) hb); clear BK1; clear BK1415; clear HB; have BK1 := n0_; have BK1415 := n1_; have HB := n2_; clear n0_ n1_ n2_; (try clear hb); (try clear hb2); (try clear hk); (try clear hi)))
 go_ret
 exact ⟨by first | rfl | (simp [errW_none, errW_some] <;> rfl) | (simp [*, errW_none, errW_some] <;> rfl), by repeat (first | (with_reducible first | exact HB.out | apply below_alloc | apply pw_below_drewN | apply below_drew1 | refine below_set ?_ GE1.out | refine below_set ?_ GE1415.out) | exact HB.out)⟩
def slices_IndexFunc_Simpl_Line_impl_Line_impl_AreLines_1.l0 : Nat → List (S104) → Int → Int → Int → Int → Int → Option (Int)
 | 0, _, _, _, _, _, _ => none
 | k + 1, x0, x7, x8, x2000, x2001, x2002 => if x8 < x7 then (if 0 ≤ x8 then (if x8 < (x0.length : Int) then ((impl_AreLines_1.f ((rd_T104 x0 x8).f0) ((rd_T104 x0 x8).f1) ((rd_T104 x0 x8).f2) x2000 x2001 x2002).bind fun t1418 => (if t1418 = true then (some x8) else (slices_IndexFunc_Simpl_Line_impl_Line_impl_AreLines_1.l0 k x0 x7 (wrap64 (x8 + 1)) x2000 x2001 x2002))) else (none)) else (none)) else (some (-1))
def slices_IndexFunc_Simpl_Line_impl_Line_impl_AreLines_1.f (k : Nat) (l0 : List (S104)) (s1_0 : Int) (s1_1 : Int) (s1_2 : Int) : Option (Int) := slices_IndexFunc_Simpl_Line_impl_Line_impl_AreLines_1.l0 k l0 (l0.length : Int) 0 s1_0 s1_1 s1_2
set_option maxHeartbeats 8000000 in
set_option maxRecDepth 100000 in
theorem slices_IndexFunc_Simpl_Line_impl_Line_impl_AreLines_1.calls (k : Nat) (A0 : Option Addr) (c0 : Nat) (l0 : List (S104)) (gb1 : Nat) (s1_0 : Int) (s1_1 : Int) (s1_2 : Int) (r : Int) (w : World) (hr0 : Kd.C k104 w A0 l0.length l0) (hc0 : l0.length ≤ c0) (hb1_ : w.heap[gb1]? = some (.cells #[.int .i64 s1_0, .int .i64 s1_1, .int .i64 s1_2] 104 (0, 0))) (h : slices_IndexFunc_Simpl_Line_impl_Line_impl_AreLines_1.f k l0 s1_0 s1_1 s1_2 = some r) :
  Calls Try.prog 141 #[.slice A0 l0.length c0, .func (.func 139) #[] #[.pointer (some ⟨gb1, 0, none⟩)]] w fun e w' => e = .returned (.int .i64 r) ∧ Below w.heap.size w w' := by
 have hu104 := Try.underlying104
 have HR0 := Aside0.mk hr0
 have HC0 := Aside0.mk hc0
 clear hr0 hc0
 have BK1 := Aside0.mk hb1_
 clear hb1_
 have HB := Aside0.mk (Below.refl w.heap.size w)
 have H : (slices_IndexFunc_Simpl_Line_impl_Line_impl_AreLines_1.l0 k l0 (l0.length : Int) 0 s1_0 s1_1 s1_2) = some r := h
 clear h
 have H' := Aside0.mk H
 clear H
 go_enter Try.func141, Try.ntmps141
 go_wp2
 go_loopg [8] k (fun kq v8 w' => ∃ (x8_1 : Int), v8 = .int .i64 x8_1 ∧ Aside0 (slices_IndexFunc_Simpl_Line_impl_Line_impl_AreLines_1.l0 kq l0 (l0.length : Int) x8_1 s1_0 s1_1 s1_2 = some r) ∧ Aside0 (kq ≤ k) ∧ Aside0 (w'.heap[gb1]? = some (.cells #[.int .i64 s1_0, .int .i64 s1_1, .int .i64 s1_2] 104 (0, 0))) ∧ Aside0 (Below w.heap.size w w'))
 case atStart => exact ⟨(0), (by first | rfl | (simp; done) | (simp [*]; done)), H', ⟨Nat.le_refl _⟩, ⟨by (with_reducible repeat (first | refine blk_drewN ?_ _ | refine blk_drew ?_ | refine blk_alloc ?_ _)); exact BK1.out⟩, ⟨by repeat (first | (with_reducible first | exact HB.out | apply below_alloc | apply pw_below_drewN | apply below_drew1 | refine below_set ?_ GE1.out) | exact HB.out)⟩⟩
 case round =>
  clear H'
  try clear p2
  obtain ⟨x8_1, rfl, HA, HK1, BK1, HB⟩ := hrel
  cases gk with
  | zero => exact absurd HA.out (by simp [slices_IndexFunc_Simpl_Line_impl_Line_impl_AreLines_1.l0])
  | succ k1 =>
   have H := HA.out
   clear HA
   simp only [slices_IndexFunc_Simpl_Line_impl_Line_impl_AreLines_1.l0] at H
   by_cases c3 : x8_1 < (l0.length : Int)
   ·rw [if_pos c3] at H
    have c3b0 : decide (x8_1 < (l0.length : Int)) = true := decide_eq_true c3
    clear c3
    by_cases c4 : 0 ≤ x8_1
    ·rw [if_pos c4] at H
     have c4b0 : decide (0 ≤ x8_1) = true := decide_eq_true c4
     clear c4
     by_cases c5 : x8_1 < (l0.length : Int)
     ·rw [if_pos c5] at H
      have c5b0 : decide (x8_1 < (l0.length : Int)) = true := decide_eq_true c5
      clear c5
      replace H := Option.bind_eq_some_iff.mp H
      obtain ⟨t1418, A60, H⟩ := H
      replace H : (if t1418 = true then (some x8_1) else (slices_IndexFunc_Simpl_Line_impl_Line_impl_AreLines_1.l0 k1 l0 (l0.length : Int) (wrap64 (x8_1 + 1)) s1_0 s1_1 s1_2)) = some r := H
      have A6 := Aside0.mk A60
      clear A60
      by_cases c7 : t1418 = true
      ·subst c7
       have H1 : (some x8_1) = some r := by rw [if_pos rfl] at H; exact H
       clear H
       have H := H1
       clear H1
       obtain rfl := Option.some.inj H
       have p1417 : 0 ≤ (x8_1 : Int) := of_decide_eq_true (by first | (with_reducible assumption) | assumption)
       have q1417 : x8_1 < (l0.length : Int) := of_decide_eq_true (by first | (with_reducible assumption) | assumption)
       obtain ⟨ad1417, e1417, hx1417_0, hx1417_1, hx1417_2⟩ := at_T104 HR0.out x8_1 p1417 q1417
       cases e1417
       replace hx1417_0 := (HB.out.cell (World.block_lt_of_cell? w _ hx1417_0)).trans hx1417_0
       replace hx1417_1 := (HB.out.cell (World.block_lt_of_cell? w _ hx1417_1)).trans hx1417_1
       replace hx1417_2 := (HB.out.cell (World.block_lt_of_cell? w _ hx1417_2)).trans hx1417_2
       replace p1417 := eq_true p1417
       replace q1417 := eq_true q1417
       go_wp2_with (first | (go_at_call 139; (with_reducible refine (impl_AreLines_1.calls ((rd_T104 l0 x8_1).f0) ((rd_T104 l0 x8_1).f1) ((rd_T104 l0 x8_1).f2) gb1 s1_0 s1_1 s1_2 true _ ?side1 A6.out).mono ?_); (case side1 => exact (by (with_reducible repeat (first | refine blk_drewN ?_ _ | refine blk_drew ?_ | refine blk_alloc ?_ _)); exact BK1.out)); rintro e w8 ⟨rfl, hb⟩; have n0_ := Aside0.mk (blk_below (g := gb1) (o := .cells #[.int .i64 s1_0, .int .i64 s1_1, .int .i64 s1_2] 104 (0, 0)) (by (with_reducible repeat (first | refine blk_drewN ?_ _ | refine blk_drew ?_ | refine blk_alloc ?_ _)); exact BK1.out) hb); have n1_ := Aside0.mk (below_step (by repeat (first | (with_reducible first | exact HB.out | apply below_alloc | apply pw_below_drewN | apply below_drew1 | refine below_set ?_ GE1.out) | exact HB.out)) hb); clear BK1; clear HB; have BK1 := n0_; have HB := n1_; clear n0_ n1_; (try clear hb); (try clear hb2); (try clear hk); (try clear hi)))
       go_ret
       exact ⟨by first | rfl | (simp [errW_none, errW_some] <;> rfl) | (simp [*, errW_none, errW_some] <;> rfl), by repeat (first | (with_reducible first | exact HB.out | apply below_alloc | apply pw_below_drewN | apply below_drew1 | refine below_set ?_ GE1.out) | exact HB.out)⟩
      ·replace c7 := Bool.eq_false_iff.mpr c7
       subst c7
       have H1 : (slices_IndexFunc_Simpl_Line_impl_Line_impl_AreLines_1.l0 k1 l0 (l0.length : Int) (wrap64 (x8_1 + 1)) s1_0 s1_1 s1_2) = some r := by rw [if_neg (show ¬ (false = true) by decide)] at H; exact H
       clear H
       have H := H1
       clear H1
       have H' := Aside0.mk H
       clear H
       have p1417 : 0 ≤ (x8_1 : Int) := of_decide_eq_true (by first | (with_reducible assumption) | assumption)
       have q1417 : x8_1 < (l0.length : Int) := of_decide_eq_true (by first | (with_reducible assumption) | assumption)
       obtain ⟨ad1417, e1417, hx1417_0, hx1417_1, hx1417_2⟩ := at_T104 HR0.out x8_1 p1417 q1417
       cases e1417
       replace hx1417_0 := (HB.out.cell (World.block_lt_of_cell? w _ hx1417_0)).trans hx1417_0
       replace hx1417_1 := (HB.out.cell (World.block_lt_of_cell? w _ hx1417_1)).trans hx1417_1
       replace hx1417_2 := (HB.out.cell (World.block_lt_of_cell? w _ hx1417_2)).trans hx1417_2
       replace p1417 := eq_true p1417
       replace q1417 := eq_true q1417
       go_wp2_with (first | (go_at_call 139; (with_reducible refine (impl_AreLines_1.calls ((rd_T104 l0 x8_1).f0) ((rd_T104 l0 x8_1).f1) ((rd_T104 l0 x8_1).f2) gb1 s1_0 s1_1 s1_2 false _ ?side1 A6.out).mono ?_); (case side1 => exact (by (with_reducible repeat (first | refine blk_drewN ?_ _ | refine blk_drew ?_ | refine blk_alloc ?_ _)); exact BK1.out)); rintro e w9 ⟨rfl, hb⟩; have n0_ := Aside0.mk (blk_below (g := gb1) (o := .cells #[.int .i64 s1_0, .int .i64 s1_1, .int .i64 s1_2] 104 (0, 0)) (by (with_reducible repeat (first | refine blk_drewN ?_ _ | refine blk_drew ?_ | refine blk_alloc ?_ _)); exact BK1.out) hb); have n1_ := Aside0.mk (below_step (by repeat (first | (with_reducible first | exact HB.out | apply below_alloc | apply pw_below_drewN | apply below_drew1 | refine below_set ?_ GE1.out) | exact HB.out)) hb); clear BK1; clear HB; have BK1 := n0_; have HB := n1_; clear n0_ n1_; (try clear hb); (try clear hb2); (try clear hk); (try clear hi)))
       go_roundg k1
       case measure => have := HK1.out; omega
       case rel => exact ⟨(wrap64 (x8_1 + 1)), (by first | rfl | (simp; done) | (simp [*]; done)), H', ⟨by have := HK1.out; omega⟩, ⟨by (with_reducible repeat (first | refine blk_drewN ?_ _ | refine blk_drew ?_ | refine blk_alloc ?_ _)); exact BK1.out⟩, ⟨by repeat (first | (with_reducible first | exact HB.out | apply below_alloc | apply pw_below_drewN | apply below_drew1 | refine below_set ?_ GE1.out) | exact HB.out)⟩⟩
     ·rw [if_neg c5] at H
      exact absurd H (by simp)
    ·rw [if_neg c4] at H
     exact absurd H (by simp)
   ·rw [if_neg c3] at H
    have c3b0 : decide (x8_1 < (l0.length : Int)) = false := decide_eq_false c3
    clear c3
    obtain rfl := Option.some.inj H
    go_wp2
    go_ret
    exact ⟨by first | rfl | (simp [errW_none, errW_some] <;> rfl) | (simp [*, errW_none, errW_some] <;> rfl), by repeat (first | (with_reducible first | exact HB.out | apply below_alloc | apply pw_below_drewN | apply below_drew1 | refine below_set ?_ GE1.out) | exact HB.out)⟩
def slices_ContainsFunc_Simpl_Line_impl_Line_impl_AreLines_1.f (k : Nat) (l0 : List (S104)) (s1_0 : Int) (s1_1 : Int) (s1_2 : Int) : Option (Bool) := (slices_IndexFunc_Simpl_Line_impl_Line_impl_AreLines_1.f k l0 s1_0 s1_1 s1_2).bind fun t1419 => (some (decide (t1419 ≥ 0)))
set_option maxHeartbeats 8000000 in
set_option maxRecDepth 100000 in
theorem slices_ContainsFunc_Simpl_Line_impl_Line_impl_AreLines_1.calls (k : Nat) (A0 : Option Addr) (c0 : Nat) (l0 : List (S104)) (gb1 : Nat) (s1_0 : Int) (s1_1 : Int) (s1_2 : Int) (r : Bool) (w : World) (hr0 : Kd.C k104 w A0 l0.length l0) (hc0 : l0.length ≤ c0) (hb1_ : w.heap[gb1]? = some (.cells #[.int .i64 s1_0, .int .i64 s1_1, .int .i64 s1_2] 104 (0, 0))) (h : slices_ContainsFunc_Simpl_Line_impl_Line_impl_AreLines_1.f k l0 s1_0 s1_1 s1_2 = some r) :
  Calls Try.prog 101 #[.slice A0 l0.length c0, .func (.func 139) #[] #[.pointer (some ⟨gb1, 0, none⟩)]] w fun e w' => e = .returned (.bool r) ∧ Below w.heap.size w w' := by
 have HR0 := Aside0.mk hr0
 have HC0 := Aside0.mk hc0
 clear hr0 hc0
 have BK1 := Aside0.mk hb1_
 clear hb1_
 have HB := Aside0.mk (Below.refl w.heap.size w)
 have H : ((slices_IndexFunc_Simpl_Line_impl_Line_impl_AreLines_1.f k l0 s1_0 s1_1 s1_2).bind fun t1419 => (some (decide (t1419 ≥ 0)))) = some r := h
 clear h
 replace H := Option.bind_eq_some_iff.mp H
 obtain ⟨t1419, A30, H⟩ := H
 replace H : (some (decide (t1419 ≥ 0))) = some r := H
 have A3 := Aside0.mk A30
 clear A30
 obtain rfl := Option.some.inj H
 go_enter Try.func101, Try.ntmps101
 go_wp2_with (first | ((with_reducible refine gate_callee (f := 141) rfl ?_); refine goesL_ (some 7) rfl rfl Try.func141 (by kernel_rfl) rfl #[.slice A0 l0.length c0, .func (.func 139) #[] #[.pointer (some ⟨gb1, 0, none⟩)]] rfl (by (try simp only [List.map_toArray, List.map_cons, List.map_nil]); first | done | rfl | (simp only [List.length_drop, List.length_take]; rfl)) ?_; (with_reducible refine (slices_IndexFunc_Simpl_Line_impl_Line_impl_AreLines_1.calls k _ _ l0 gb1 s1_0 s1_1 s1_2 t1419 _ ?side1 ?side2 ?side3 A3.out).mono ?_); (case side1 => repeat (first | exact HR0.out | (with_reducible refine Kd.C_alloc ?_ _) | (with_reducible refine Kd.C_drewN ?_ _) | (with_reducible refine Kd.C_drew ?_))); (case side2 => exact HC0.out); (case side3 => exact (by (with_reducible repeat (first | refine blk_drewN ?_ _ | refine blk_drew ?_ | refine blk_alloc ?_ _)); exact BK1.out)); rintro e w4 ⟨rfl, hb⟩; refine ⟨_, rfl, ?_⟩; have n0_ := Aside0.mk (blk_below (g := gb1) (o := .cells #[.int .i64 s1_0, .int .i64 s1_1, .int .i64 s1_2] 104 (0, 0)) (by (with_reducible repeat (first | refine blk_drewN ?_ _ | refine blk_drew ?_ | refine blk_alloc ?_ _)); exact BK1.out) hb); have n1_ := Aside0.mk (below_step (by repeat (first | (with_reducible first | exact HB.out | apply below_alloc | apply pw_below_drewN | apply below_drew1 | refine below_set ?_ GE1.out) | exact HB.out)) hb); clear BK1; clear HB; have BK1 := n0_; have HB := n1_; clear n0_ n1_; (try clear hb); (try clear hb2); (try clear hk); (try clear hi)))
 go_ret
 exact ⟨by first | rfl | (simp [errW_none, errW_some] <;> rfl) | (simp [*, errW_none, errW_some] <;> rfl), by repeat (first | (with_reducible first | exact HB.out | apply below_alloc | apply pw_below_drewN | apply below_drew1 | refine below_set ?_ GE1.out) | exact HB.out)⟩
mutual
def impl_AreLines.l0 : Nat → List (S104) → List (S104) → Int → Int → Option (Bool)
 | 0, _, _, _, _ => none
 | k + 1, x0, x5, x6, x7 => if x7 < x6 then (if 0 ≤ x7 then (if x7 < (x5.length : Int) then ((impl_isFar.f ((rd_T104 x5 x7).f0) 20).bind fun t1422 => (if t1422 = true then (impl_AreLines.j1 k x0 x7 x5 x6 x7 true ((rd_T104 x5 x7).f0) ((rd_T104 x5 x7).f1) ((rd_T104 x5 x7).f2)) else ((impl_isFar.f ((rd_T104 x5 x7).f1) 20).bind fun t1423 => (if t1423 = true then (impl_AreLines.j1 k x0 x7 x5 x6 x7 true ((rd_T104 x5 x7).f0) ((rd_T104 x5 x7).f1) ((rd_T104 x5 x7).f2)) else ((impl_isFar.f ((rd_T104 x5 x7).f2) 20).bind fun t1424 => (if t1424 = true then (impl_AreLines.j1 k x0 x7 x5 x6 x7 true ((rd_T104 x5 x7).f0) ((rd_T104 x5 x7).f1) ((rd_T104 x5 x7).f2)) else (if ((rd_T104 x5 x7).f0) = 0 then (impl_AreLines.j1 k x0 x7 x5 x6 x7 (((rd_T104 x5 x7).f1) == 0) ((rd_T104 x5 x7).f0) ((rd_T104 x5 x7).f1) ((rd_T104 x5 x7).f2)) else (impl_AreLines.j1 k x0 x7 x5 x6 x7 false ((rd_T104 x5 x7).f0) ((rd_T104 x5 x7).f1) ((rd_T104 x5 x7).f2))))))))) else (none)) else (none)) else (if (x0.length : Int) ≥ 1 then (some (decide ((x0.length : Int) ≤ 6))) else (some false))
def impl_AreLines.j1 : Nat → List (S104) → Int → List (S104) → Int → Int → Bool → Int → Int → Int → Option (Bool)
 | 0, _, _, _, _, _, _, _, _, _ => none
 | k + 1, x0, x3, x5, x6, x7, x34, x1422000, x1422001, x1422002 => if x34 = true then (some false) else (if 0 ≤ x3 then (if x3 ≤ (x0.length : Int) then ((slices_ContainsFunc_Simpl_Line_impl_Line_impl_AreLines_1.f k (x0.take (x3 : Int).toNat) x1422000 x1422001 x1422002).bind fun t1429 => (if t1429 = true then (some false) else (impl_AreLines.l0 k x0 x5 x6 (wrap64 (x7 + 1))))) else (none)) else (none))
end
def impl_AreLines.f (k : Nat) (l0 : List (S104)) : Option (Bool) := impl_AreLines.l0 k l0 l0 (l0.length : Int) 0
set_option maxHeartbeats 8000000 in
set_option maxRecDepth 100000 in
theorem impl_AreLines.calls (k : Nat) (A0 : Option Addr) (c0 : Nat) (l0 : List (S104)) (r : Bool) (w : World) (hr0 : Kd.C k104 w A0 l0.length l0) (hc0 : l0.length ≤ c0) (h : impl_AreLines.f k l0 = some r) :
  Calls Try.prog 99 #[.slice A0 l0.length c0] w fun e w' => e = .returned (.bool r) ∧ Below w.heap.size w w' := by
 have hu104 := Try.underlying104
 have HR0 := Aside0.mk hr0
 have HC0 := Aside0.mk hc0
 clear hr0 hc0
 have HB := Aside0.mk (Below.refl w.heap.size w)
 have H : (impl_AreLines.l0 k l0 l0 (l0.length : Int) 0) = some r := h
 clear h
 have H' := Aside0.mk H
 clear H
 go_enter Try.func99, Try.ntmps99
 go_wp2
 go_loopg [7] k (fun kq v7 w' => ∃ (x7_1 : Int), v7 = .int .i64 x7_1 ∧ Aside0 (impl_AreLines.l0 kq l0 l0 (l0.length : Int) x7_1 = some r) ∧ Aside0 (kq ≤ k) ∧ Aside0 (Below w.heap.size w w'))
 case atStart => exact ⟨(0), (by first | rfl | (simp; done) | (simp [*]; done)), H', ⟨Nat.le_refl _⟩, ⟨by repeat (first | (with_reducible first | exact HB.out | apply below_alloc | apply pw_below_drewN | apply below_drew1) | exact HB.out)⟩⟩
 case round =>
  clear H'
  obtain ⟨x7_1, rfl, HA, HK1, HB⟩ := hrel
  cases gk with
  | zero => exact absurd HA.out (by simp [impl_AreLines.l0])
  | succ k1 =>
   have H := HA.out
   clear HA
   simp only [impl_AreLines.l0] at H
   by_cases c2 : x7_1 < (l0.length : Int)
   ·rw [if_pos c2] at H
    have c2b0 : decide (x7_1 < (l0.length : Int)) = true := decide_eq_true c2
    clear c2
    by_cases c3 : 0 ≤ x7_1
    ·rw [if_pos c3] at H
     have c3b0 : decide (0 ≤ x7_1) = true := decide_eq_true c3
     clear c3
     by_cases c4 : x7_1 < (l0.length : Int)
     ·rw [if_pos c4] at H
      have c4b0 : decide (x7_1 < (l0.length : Int)) = true := decide_eq_true c4
      clear c4
      have HC5 := Aside0.mk H
      clear H
      have p1420 : 0 ≤ (x7_1 : Int) := of_decide_eq_true (by first | (with_reducible assumption) | assumption)
      have q1420 : x7_1 < (l0.length : Int) := of_decide_eq_true (by first | (with_reducible assumption) | assumption)
      obtain ⟨ad1420, e1420, hx1420_0, hx1420_1, hx1420_2⟩ := at_T104 HR0.out x7_1 p1420 q1420
      cases e1420
      replace hx1420_0 := (HB.out.cell (World.block_lt_of_cell? w _ hx1420_0)).trans hx1420_0
      replace hx1420_1 := (HB.out.cell (World.block_lt_of_cell? w _ hx1420_1)).trans hx1420_1
      replace hx1420_2 := (HB.out.cell (World.block_lt_of_cell? w _ hx1420_2)).trans hx1420_2
      replace p1420 := eq_true p1420
      replace q1420 := eq_true q1420
      go_upto_region 4 with (first | ((with_reducible refine gate_dst (N := 4) rfl ?_); (try (refine gate_guard (by rfl) ?_; dsimp only)); refine box_event ?hg (N := 4) ?hd (cs := #[.int .i64 0, .int .i64 0, .int .i64 0]) (t := 104) ?hr ?_; (case hd => rfl); (case hg => rfl); (case hr => first | (go_simp; done) | (go_simp; rfl)); intro gb1421 hg w6 hbox hb; have n0_ := Aside0.mk (below_step (by repeat (first | (with_reducible first | exact HB.out | apply below_alloc | apply pw_below_drewN | apply below_drew1) | exact HB.out)) hb); have n1_ := Aside0.mk (hbox); have n2_ := Aside0.mk ((by rw [hg]; exact (below_size (by repeat (first | (with_reducible first | exact HB.out | apply below_alloc | apply pw_below_drewN | apply below_drew1) | exact HB.out))) : w.heap.size ≤ gb1421)); have n3_ := Aside0.mk ((by rw [hg]; exact (below_size (by repeat (first | (with_reducible first | exact HB.out | apply below_alloc | apply pw_below_drewN | apply below_drew1) | exact HB.out))) : w.heap.size ≤ gb1421)); clear HB; have HB := n0_; have BK1421 := n1_; have GW1421 := n2_; have GE1421 := n3_; clear n0_ n1_ n2_ n3_; clear hb hbox hg; have hcz7_0 : w6.cell? ⟨gb1421, 0, none⟩ = some (.int .i64 0) := (blk_cell BK1421.out 0).trans rfl; have hcz7_1 : w6.cell? ⟨gb1421, 1, none⟩ = some (.int .i64 0) := (blk_cell BK1421.out 1).trans rfl; have hcz7_2 : w6.cell? ⟨gb1421, 2, none⟩ = some (.int .i64 0) := (blk_cell BK1421.out 2).trans rfl; have hfz7_0 := blk_frozen BK1421.out 0; have hfz7_1 := blk_frozen BK1421.out 1; have hfz7_2 := blk_frozen BK1421.out 2))
      (try simp only [Act.put, List.setIfInBounds_toArray, List.set_cons_zero, List.set_cons_succ])
      go_cut [34] (fun v34 wc => ∃ (kq : Nat) (x34_4 : Bool), v34 = .bool x34_4 ∧ Aside0 (impl_AreLines.j1 kq l0 x7_1 l0 (l0.length : Int) x7_1 x34_4 ((rd_T104 l0 x7_1).f0) ((rd_T104 l0 x7_1).f1) ((rd_T104 l0 x7_1).f2) = some r) ∧ Aside0 (kq ≤ k1) ∧ Aside0 (wc.heap[gb1421]? = some (.cells #[.int .i64 ((rd_T104 l0 x7_1).f0), .int .i64 ((rd_T104 l0 x7_1).f1), .int .i64 ((rd_T104 l0 x7_1).f2)] 104 (0, 0))) ∧ Aside0 (Below w.heap.size w wc))
      case first =>
       have H := HC5.out
       clear HC5
       replace H := Option.bind_eq_some_iff.mp H
       obtain ⟨t1422, A80, H⟩ := H
       replace H : (if t1422 = true then (impl_AreLines.j1 k1 l0 x7_1 l0 (l0.length : Int) x7_1 true ((rd_T104 l0 x7_1).f0) ((rd_T104 l0 x7_1).f1) ((rd_T104 l0 x7_1).f2)) else ((impl_isFar.f ((rd_T104 l0 x7_1).f1) 20).bind fun t1423 => (if t1423 = true then (impl_AreLines.j1 k1 l0 x7_1 l0 (l0.length : Int) x7_1 true ((rd_T104 l0 x7_1).f0) ((rd_T104 l0 x7_1).f1) ((rd_T104 l0 x7_1).f2)) else ((impl_isFar.f ((rd_T104 l0 x7_1).f2) 20).bind fun t1424 => (if t1424 = true then (impl_AreLines.j1 k1 l0 x7_1 l0 (l0.length : Int) x7_1 true ((rd_T104 l0 x7_1).f0) ((rd_T104 l0 x7_1).f1) ((rd_T104 l0 x7_1).f2)) else (if ((rd_T104 l0 x7_1).f0) = 0 then (impl_AreLines.j1 k1 l0 x7_1 l0 (l0.length : Int) x7_1 (((rd_T104 l0 x7_1).f1) == 0) ((rd_T104 l0 x7_1).f0) ((rd_T104 l0 x7_1).f1) ((rd_T104 l0 x7_1).f2)) else (impl_AreLines.j1 k1 l0 x7_1 l0 (l0.length : Int) x7_1 false ((rd_T104 l0 x7_1).f0) ((rd_T104 l0 x7_1).f1) ((rd_T104 l0 x7_1).f2)))))))) = some r := H
       have A8 := Aside0.mk A80
       clear A80
       by_cases c9 : t1422 = true
       ·subst c9
        have H1 : (impl_AreLines.j1 k1 l0 x7_1 l0 (l0.length : Int) x7_1 true ((rd_T104 l0 x7_1).f0) ((rd_T104 l0 x7_1).f1) ((rd_T104 l0 x7_1).f2)) = some r := by rw [if_pos rfl] at H; exact H
        clear H
        have H := H1
        clear H1
        have H' := Aside0.mk H
        clear H
        have hcz10_0 : w6.cell? ⟨gb1421, 0, none⟩ = some (.int .i64 0) := (blk_cell BK1421.out 0).trans rfl
        have hcz10_1 : w6.cell? ⟨gb1421, 1, none⟩ = some (.int .i64 0) := (blk_cell BK1421.out 1).trans rfl
        have hcz10_2 : w6.cell? ⟨gb1421, 2, none⟩ = some (.int .i64 0) := (blk_cell BK1421.out 2).trans rfl
        have hfz10_0 := blk_frozen BK1421.out 0
        have hfz10_1 := blk_frozen BK1421.out 1
        have hfz10_2 := blk_frozen BK1421.out 2
        go_wp2_with (first | ((with_reducible refine gate_callee (f := 138) rfl ?_); refine goesL_ (some 14) rfl rfl Try.func138 (by kernel_rfl) rfl #[.int .i64 ((rd_T104 l0 x7_1).f0), .int .i64 20] rfl (by (try simp only [List.map_toArray, List.map_cons, List.map_nil]); first | done | rfl | (simp only [List.length_drop, List.length_take]; rfl)) ?_; (with_reducible refine (impl_isFar.calls ((rd_T104 l0 x7_1).f0) 20 true _ A8.out).mono ?_); rintro e w' ⟨rfl, ⟨nd, rfl⟩⟩; refine ⟨_, rfl, ?_⟩))
        go_meet
        case rel => exact ⟨_, (true), (by first | rfl | (simp; done) | (simp [*]; done)), H', ⟨by have := HK1.out; first | omega | exact Nat.le_refl _⟩, ⟨by (with_reducible repeat (first | refine blk_drewN ?_ _ | refine blk_drew ?_ | refine blk_alloc ?_ _)); refine blk_put (cs := #[.int .i64 ((rd_T104 l0 x7_1).f0), .int .i64 ((rd_T104 l0 x7_1).f1), .int .i64 0]) ?_ 2 _ rfl; (with_reducible repeat (first | refine blk_drewN ?_ _ | refine blk_drew ?_ | refine blk_alloc ?_ _)); refine blk_put (cs := #[.int .i64 ((rd_T104 l0 x7_1).f0), .int .i64 0, .int .i64 0]) ?_ 1 _ rfl; (with_reducible repeat (first | refine blk_drewN ?_ _ | refine blk_drew ?_ | refine blk_alloc ?_ _)); refine blk_put (cs := #[.int .i64 0, .int .i64 0, .int .i64 0]) ?_ 0 _ rfl; (with_reducible repeat (first | refine blk_drewN ?_ _ | refine blk_drew ?_ | refine blk_alloc ?_ _)); exact BK1421.out⟩, ⟨by repeat (first | (with_reducible first | exact HB.out | apply below_alloc | apply pw_below_drewN | apply below_drew1 | refine below_set ?_ GE1421.out) | exact HB.out)⟩⟩
       ·replace c9 := Bool.eq_false_iff.mpr c9
        subst c9
        have H1 : ((impl_isFar.f ((rd_T104 l0 x7_1).f1) 20).bind fun t1423 => (if t1423 = true then (impl_AreLines.j1 k1 l0 x7_1 l0 (l0.length : Int) x7_1 true ((rd_T104 l0 x7_1).f0) ((rd_T104 l0 x7_1).f1) ((rd_T104 l0 x7_1).f2)) else ((impl_isFar.f ((rd_T104 l0 x7_1).f2) 20).bind fun t1424 => (if t1424 = true then (impl_AreLines.j1 k1 l0 x7_1 l0 (l0.length : Int) x7_1 true ((rd_T104 l0 x7_1).f0) ((rd_T104 l0 x7_1).f1) ((rd_T104 l0 x7_1).f2)) else (if ((rd_T104 l0 x7_1).f0) = 0 then (impl_AreLines.j1 k1 l0 x7_1 l0 (l0.length : Int) x7_1 (((rd_T104 l0 x7_1).f1) == 0) ((rd_T104 l0 x7_1).f0) ((rd_T104 l0 x7_1).f1) ((rd_T104 l0 x7_1).f2)) else (impl_AreLines.j1 k1 l0 x7_1 l0 (l0.length : Int) x7_1 false ((rd_T104 l0 x7_1).f0) ((rd_T104 l0 x7_1).f1) ((rd_T104 l0 x7_1).f2))))))) = some r := by rw [if_neg (show ¬ (false = true) by decide)] at H; exact H
        clear H
        have H := H1
        clear H1
        replace H := Option.bind_eq_some_iff.mp H
        obtain ⟨t1423, A110, H⟩ := H
        replace H : (if t1423 = true then (impl_AreLines.j1 k1 l0 x7_1 l0 (l0.length : Int) x7_1 true ((rd_T104 l0 x7_1).f0) ((rd_T104 l0 x7_1).f1) ((rd_T104 l0 x7_1).f2)) else ((impl_isFar.f ((rd_T104 l0 x7_1).f2) 20).bind fun t1424 => (if t1424 = true then (impl_AreLines.j1 k1 l0 x7_1 l0 (l0.length : Int) x7_1 true ((rd_T104 l0 x7_1).f0) ((rd_T104 l0 x7_1).f1) ((rd_T104 l0 x7_1).f2)) else (if ((rd_T104 l0 x7_1).f0) = 0 then (impl_AreLines.j1 k1 l0 x7_1 l0 (l0.length : Int) x7_1 (((rd_T104 l0 x7_1).f1) == 0) ((rd_T104 l0 x7_1).f0) ((rd_T104 l0 x7_1).f1) ((rd_T104 l0 x7_1).f2)) else (impl_AreLines.j1 k1 l0 x7_1 l0 (l0.length : Int) x7_1 false ((rd_T104 l0 x7_1).f0) ((rd_T104 l0 x7_1).f1) ((rd_T104 l0 x7_1).f2)))))) = some r := H
        have A11 := Aside0.mk A110
        clear A110
        by_cases c12 : t1423 = true
        ·subst c12
         have H1 : (impl_AreLines.j1 k1 l0 x7_1 l0 (l0.length : Int) x7_1 true ((rd_T104 l0 x7_1).f0) ((rd_T104 l0 x7_1).f1) ((rd_T104 l0 x7_1).f2)) = some r := by rw [if_pos rfl] at H; exact H
         clear H
         have H := H1
         clear H1
         have H' := Aside0.mk H
         clear H
         have hcz13_0 : w6.cell? ⟨gb1421, 0, none⟩ = some (.int .i64 0) := (blk_cell BK1421.out 0).trans rfl
         have hcz13_1 : w6.cell? ⟨gb1421, 1, none⟩ = some (.int .i64 0) := (blk_cell BK1421.out 1).trans rfl
         have hcz13_2 : w6.cell? ⟨gb1421, 2, none⟩ = some (.int .i64 0) := (blk_cell BK1421.out 2).trans rfl
         have hfz13_0 := blk_frozen BK1421.out 0
         have hfz13_1 := blk_frozen BK1421.out 1
         have hfz13_2 := blk_frozen BK1421.out 2
         go_wp2_with (first | ((with_reducible refine gate_callee (f := 138) rfl ?_); refine goesL_ (some 14) rfl rfl Try.func138 (by kernel_rfl) rfl #[.int .i64 ((rd_T104 l0 x7_1).f0), .int .i64 20] rfl (by (try simp only [List.map_toArray, List.map_cons, List.map_nil]); first | done | rfl | (simp only [List.length_drop, List.length_take]; rfl)) ?_; (with_reducible refine (impl_isFar.calls ((rd_T104 l0 x7_1).f0) 20 false _ A8.out).mono ?_); rintro e w' ⟨rfl, ⟨nd, rfl⟩⟩; refine ⟨_, rfl, ?_⟩) | (go_at_call 138; (with_reducible refine (impl_isFar.calls ((rd_T104 l0 x7_1).f1) 20 true _ A11.out).mono ?_); rintro e w' ⟨rfl, ⟨nd, rfl⟩⟩))
         go_meet
         case rel => exact ⟨_, (true), (by first | rfl | (simp; done) | (simp [*]; done)), H', ⟨by have := HK1.out; first | omega | exact Nat.le_refl _⟩, ⟨by (with_reducible repeat (first | refine blk_drewN ?_ _ | refine blk_drew ?_ | refine blk_alloc ?_ _)); refine blk_put (cs := #[.int .i64 ((rd_T104 l0 x7_1).f0), .int .i64 ((rd_T104 l0 x7_1).f1), .int .i64 0]) ?_ 2 _ rfl; (with_reducible repeat (first | refine blk_drewN ?_ _ | refine blk_drew ?_ | refine blk_alloc ?_ _)); refine blk_put (cs := #[.int .i64 ((rd_T104 l0 x7_1).f0), .int .i64 0, .int .i64 0]) ?_ 1 _ rfl; (with_reducible repeat (first | refine blk_drewN ?_ _ | refine blk_drew ?_ | refine blk_alloc ?_ _)); refine blk_put (cs := #[.int .i64 0, .int .i64 0, .int .i64 0]) ?_ 0 _ rfl; (with_reducible repeat (first | refine blk_drewN ?_ _ | refine blk_drew ?_ | refine blk_alloc ?_ _)); exact BK1421.out⟩, ⟨by repeat (first | (with_reducible first | exact HB.out | apply below_alloc | apply pw_below_drewN | apply below_drew1 | refine below_set ?_ GE1421.out) | exact HB.out)⟩⟩
        ·replace c12 := Bool.eq_false_iff.mpr c12
         subst c12
         have H1 : ((impl_isFar.f ((rd_T104 l0 x7_1).f2) 20).bind fun t1424 => (if t1424 = true then (impl_AreLines.j1 k1 l0 x7_1 l0 (l0.length : Int) x7_1 true ((rd_T104 l0 x7_1).f0) ((rd_T104 l0 x7_1).f1) ((rd_T104 l0 x7_1).f2)) else (if ((rd_T104 l0 x7_1).f0) = 0 then (impl_AreLines.j1 k1 l0 x7_1 l0 (l0.length : Int) x7_1 (((rd_T104 l0 x7_1).f1) == 0) ((rd_T104 l0 x7_1).f0) ((rd_T104 l0 x7_1).f1) ((rd_T104 l0 x7_1).f2)) else (impl_AreLines.j1 k1 l0 x7_1 l0 (l0.length : Int) x7_1 false ((rd_T104 l0 x7_1).f0) ((rd_T104 l0 x7_1).f1) ((rd_T104 l0 x7_1).f2))))) = some r := by rw [if_neg (show ¬ (false = true) by decide)] at H; exact H
         clear H
         have H := H1
         clear H1
         replace H := Option.bind_eq_some_iff.mp H
         obtain ⟨t1424, A140, H⟩ := H
         replace H : (if t1424 = true then (impl_AreLines.j1 k1 l0 x7_1 l0 (l0.length : Int) x7_1 true ((rd_T104 l0 x7_1).f0) ((rd_T104 l0 x7_1).f1) ((rd_T104 l0 x7_1).f2)) else (if ((rd_T104 l0 x7_1).f0) = 0 then (impl_AreLines.j1 k1 l0 x7_1 l0 (l0.length : Int) x7_1 (((rd_T104 l0 x7_1).f1) == 0) ((rd_T104 l0 x7_1).f0) ((rd_T104 l0 x7_1).f1) ((rd_T104 l0 x7_1).f2)) else (impl_AreLines.j1 k1 l0 x7_1 l0 (l0.length : Int) x7_1 false ((rd_T104 l0 x7_1).f0) ((rd_T104 l0 x7_1).f1) ((rd_T104 l0 x7_1).f2)))) = some r := H
         have A14 := Aside0.mk A140
         clear A140
         by_cases c15 : t1424 = true
         ·subst c15
          have H1 : (impl_AreLines.j1 k1 l0 x7_1 l0 (l0.length : Int) x7_1 true ((rd_T104 l0 x7_1).f0) ((rd_T104 l0 x7_1).f1) ((rd_T104 l0 x7_1).f2)) = some r := by rw [if_pos rfl] at H; exact H
          clear H
          have H := H1
          clear H1
          have H' := Aside0.mk H
          clear H
          have hcz16_0 : w6.cell? ⟨gb1421, 0, none⟩ = some (.int .i64 0) := (blk_cell BK1421.out 0).trans rfl
          have hcz16_1 : w6.cell? ⟨gb1421, 1, none⟩ = some (.int .i64 0) := (blk_cell BK1421.out 1).trans rfl
          have hcz16_2 : w6.cell? ⟨gb1421, 2, none⟩ = some (.int .i64 0) := (blk_cell BK1421.out 2).trans rfl
          have hfz16_0 := blk_frozen BK1421.out 0
          have hfz16_1 := blk_frozen BK1421.out 1
          have hfz16_2 := blk_frozen BK1421.out 2
          go_wp2_with (first | ((with_reducible refine gate_callee (f := 138) rfl ?_); refine goesL_ (some 14) rfl rfl Try.func138 (by kernel_rfl) rfl #[.int .i64 ((rd_T104 l0 x7_1).f0), .int .i64 20] rfl (by (try simp only [List.map_toArray, List.map_cons, List.map_nil]); first | done | rfl | (simp only [List.length_drop, List.length_take]; rfl)) ?_; (with_reducible refine (impl_isFar.calls ((rd_T104 l0 x7_1).f0) 20 false _ A8.out).mono ?_); rintro e w' ⟨rfl, ⟨nd, rfl⟩⟩; refine ⟨_, rfl, ?_⟩) | (go_at_call 138; (with_reducible refine (impl_isFar.calls ((rd_T104 l0 x7_1).f1) 20 false _ A11.out).mono ?_); rintro e w' ⟨rfl, ⟨nd, rfl⟩⟩) | (go_at_call 138; (with_reducible refine (impl_isFar.calls ((rd_T104 l0 x7_1).f2) 20 true _ A14.out).mono ?_); rintro e w' ⟨rfl, ⟨nd, rfl⟩⟩))
          go_meet
          case rel => exact ⟨_, (true), (by first | rfl | (simp; done) | (simp [*]; done)), H', ⟨by have := HK1.out; first | omega | exact Nat.le_refl _⟩, ⟨by (with_reducible repeat (first | refine blk_drewN ?_ _ | refine blk_drew ?_ | refine blk_alloc ?_ _)); refine blk_put (cs := #[.int .i64 ((rd_T104 l0 x7_1).f0), .int .i64 ((rd_T104 l0 x7_1).f1), .int .i64 0]) ?_ 2 _ rfl; (with_reducible repeat (first | refine blk_drewN ?_ _ | refine blk_drew ?_ | refine blk_alloc ?_ _)); refine blk_put (cs := #[.int .i64 ((rd_T104 l0 x7_1).f0), .int .i64 0, .int .i64 0]) ?_ 1 _ rfl; (with_reducible repeat (first | refine blk_drewN ?_ _ | refine blk_drew ?_ | refine blk_alloc ?_ _)); refine blk_put (cs := #[.int .i64 0, .int .i64 0, .int .i64 0]) ?_ 0 _ rfl; (with_reducible repeat (first | refine blk_drewN ?_ _ | refine blk_drew ?_ | refine blk_alloc ?_ _)); exact BK1421.out⟩, ⟨by repeat (first | (with_reducible first | exact HB.out | apply below_alloc | apply pw_below_drewN | apply below_drew1 | refine below_set ?_ GE1421.out) | exact HB.out)⟩⟩
         ·replace c15 := Bool.eq_false_iff.mpr c15
          subst c15
          have H1 : (if ((rd_T104 l0 x7_1).f0) = 0 then (impl_AreLines.j1 k1 l0 x7_1 l0 (l0.length : Int) x7_1 (((rd_T104 l0 x7_1).f1) == 0) ((rd_T104 l0 x7_1).f0) ((rd_T104 l0 x7_1).f1) ((rd_T104 l0 x7_1).f2)) else (impl_AreLines.j1 k1 l0 x7_1 l0 (l0.length : Int) x7_1 false ((rd_T104 l0 x7_1).f0) ((rd_T104 l0 x7_1).f1) ((rd_T104 l0 x7_1).f2))) = some r := by rw [if_neg (show ¬ (false = true) by decide)] at H; exact H
          clear H
          have H := H1
          clear H1
          by_cases c17 : ((rd_T104 l0 x7_1).f0) = 0
          ·rw [if_pos c17] at H
           have c17b0 : (((rd_T104 l0 x7_1).f0) == 0) = true := beq_iff_eq.mpr c17
           have c17b1 : (((rd_T104 l0 x7_1).f0) != 0) = false := bne_eq_false_iff_eq.mpr c17
           clear c17
           (first | rw [c17b0] | (simp only [i64_w, i32_w]; rw [c17b0]) | skip)
           have H' := Aside0.mk H
           clear H
           have hcz18_0 : w6.cell? ⟨gb1421, 0, none⟩ = some (.int .i64 0) := (blk_cell BK1421.out 0).trans rfl
           have hcz18_1 : w6.cell? ⟨gb1421, 1, none⟩ = some (.int .i64 0) := (blk_cell BK1421.out 1).trans rfl
           have hcz18_2 : w6.cell? ⟨gb1421, 2, none⟩ = some (.int .i64 0) := (blk_cell BK1421.out 2).trans rfl
           have hfz18_0 := blk_frozen BK1421.out 0
           have hfz18_1 := blk_frozen BK1421.out 1
           have hfz18_2 := blk_frozen BK1421.out 2
           go_wp2_with (first | ((with_reducible refine gate_callee (f := 138) rfl ?_); refine goesL_ (some 14) rfl rfl Try.func138 (by kernel_rfl) rfl #[.int .i64 ((rd_T104 l0 x7_1).f0), .int .i64 20] rfl (by (try simp only [List.map_toArray, List.map_cons, List.map_nil]); first | done | rfl | (simp only [List.length_drop, List.length_take]; rfl)) ?_; (with_reducible refine (impl_isFar.calls ((rd_T104 l0 x7_1).f0) 20 false _ A8.out).mono ?_); rintro e w' ⟨rfl, ⟨nd, rfl⟩⟩; refine ⟨_, rfl, ?_⟩) | (go_at_call 138; (with_reducible refine (impl_isFar.calls ((rd_T104 l0 x7_1).f1) 20 false _ A11.out).mono ?_); rintro e w' ⟨rfl, ⟨nd, rfl⟩⟩) | (go_at_call 138; (with_reducible refine (impl_isFar.calls ((rd_T104 l0 x7_1).f2) 20 false _ A14.out).mono ?_); rintro e w' ⟨rfl, ⟨nd, rfl⟩⟩))
           go_meet
           case rel => exact ⟨_, ((((rd_T104 l0 x7_1).f1) == 0)), (by first | rfl | (simp; done) | (simp [*]; done)), H', ⟨by have := HK1.out; first | omega | exact Nat.le_refl _⟩, ⟨by (with_reducible repeat (first | refine blk_drewN ?_ _ | refine blk_drew ?_ | refine blk_alloc ?_ _)); refine blk_put (cs := #[.int .i64 ((rd_T104 l0 x7_1).f0), .int .i64 ((rd_T104 l0 x7_1).f1), .int .i64 0]) ?_ 2 _ rfl; (with_reducible repeat (first | refine blk_drewN ?_ _ | refine blk_drew ?_ | refine blk_alloc ?_ _)); refine blk_put (cs := #[.int .i64 ((rd_T104 l0 x7_1).f0), .int .i64 0, .int .i64 0]) ?_ 1 _ rfl; (with_reducible repeat (first | refine blk_drewN ?_ _ | refine blk_drew ?_ | refine blk_alloc ?_ _)); refine blk_put (cs := #[.int .i64 0, .int .i64 0, .int .i64 0]) ?_ 0 _ rfl; (with_reducible repeat (first | refine blk_drewN ?_ _ | refine blk_drew ?_ | refine blk_alloc ?_ _)); exact BK1421.out⟩, ⟨by repeat (first | (with_reducible first | exact HB.out | apply below_alloc | apply pw_below_drewN | apply below_drew1 | refine below_set ?_ GE1421.out) | exact HB.out)⟩⟩
          ·rw [if_neg c17] at H
           have c17b0 : (((rd_T104 l0 x7_1).f0) == 0) = false := beq_eq_false_iff_ne.mpr c17
           have c17b1 : (((rd_T104 l0 x7_1).f0) != 0) = true := bne_iff_ne.mpr c17
           (first | rw [c17b0] | (simp only [i64_w, i32_w]; rw [c17b0]) | skip)
           have H' := Aside0.mk H
           clear H
           have hcz19_0 : w6.cell? ⟨gb1421, 0, none⟩ = some (.int .i64 0) := (blk_cell BK1421.out 0).trans rfl
           have hcz19_1 : w6.cell? ⟨gb1421, 1, none⟩ = some (.int .i64 0) := (blk_cell BK1421.out 1).trans rfl
           have hcz19_2 : w6.cell? ⟨gb1421, 2, none⟩ = some (.int .i64 0) := (blk_cell BK1421.out 2).trans rfl
           have hfz19_0 := blk_frozen BK1421.out 0
           have hfz19_1 := blk_frozen BK1421.out 1
           have hfz19_2 := blk_frozen BK1421.out 2
           go_wp2_with (first | ((with_reducible refine gate_callee (f := 138) rfl ?_); refine goesL_ (some 14) rfl rfl Try.func138 (by kernel_rfl) rfl #[.int .i64 ((rd_T104 l0 x7_1).f0), .int .i64 20] rfl (by (try simp only [List.map_toArray, List.map_cons, List.map_nil]); first | done | rfl | (simp only [List.length_drop, List.length_take]; rfl)) ?_; (with_reducible refine (impl_isFar.calls ((rd_T104 l0 x7_1).f0) 20 false _ A8.out).mono ?_); rintro e w' ⟨rfl, ⟨nd, rfl⟩⟩; refine ⟨_, rfl, ?_⟩) | (go_at_call 138; (with_reducible refine (impl_isFar.calls ((rd_T104 l0 x7_1).f1) 20 false _ A11.out).mono ?_); rintro e w' ⟨rfl, ⟨nd, rfl⟩⟩) | (go_at_call 138; (with_reducible refine (impl_isFar.calls ((rd_T104 l0 x7_1).f2) 20 false _ A14.out).mono ?_); rintro e w' ⟨rfl, ⟨nd, rfl⟩⟩))
           go_meet
           case rel => exact ⟨_, (false), (by first | rfl | (simp; done) | (simp [*]; done)), H', ⟨by have := HK1.out; first | omega | exact Nat.le_refl _⟩, ⟨by (with_reducible repeat (first | refine blk_drewN ?_ _ | refine blk_drew ?_ | refine blk_alloc ?_ _)); refine blk_put (cs := #[.int .i64 ((rd_T104 l0 x7_1).f0), .int .i64 ((rd_T104 l0 x7_1).f1), .int .i64 0]) ?_ 2 _ rfl; (with_reducible repeat (first | refine blk_drewN ?_ _ | refine blk_drew ?_ | refine blk_alloc ?_ _)); refine blk_put (cs := #[.int .i64 ((rd_T104 l0 x7_1).f0), .int .i64 0, .int .i64 0]) ?_ 1 _ rfl; (with_reducible repeat (first | refine blk_drewN ?_ _ | refine blk_drew ?_ | refine blk_alloc ?_ _)); refine blk_put (cs := #[.int .i64 0, .int .i64 0, .int .i64 0]) ?_ 0 _ rfl; (with_reducible repeat (first | refine blk_drewN ?_ _ | refine blk_drew ?_ | refine blk_alloc ?_ _)); exact BK1421.out⟩, ⟨by repeat (first | (with_reducible first | exact HB.out | apply below_alloc | apply pw_below_drewN | apply below_drew1 | refine below_set ?_ GE1421.out) | exact HB.out)⟩⟩
      case rest =>
       clear HC5
       try clear c1
       try clear p1
       try clear q1
       try clear hx1
       try clear c2
       try clear c2b0
       try clear p2
       try clear c3
       try clear c3b0
       try clear c4
       try clear c4b0
       try clear c9
       try clear c12
       try clear c13
       try clear p14
       try clear q14
       try clear hx14
       try clear c15
       try clear c17
       try clear c17b0
       try clear c17b1
       try clear hcz10_0
       try clear hcz10_1
       try clear hcz10_2
       try clear hcz13_0
       try clear hcz13_1
       try clear hcz13_2
       try clear hcz16_0
       try clear hcz16_1
       try clear hcz16_2
       try clear hcz18_0
       try clear hcz18_1
       try clear hcz18_2
       try clear hcz19_0
       try clear hcz19_1
       try clear hcz19_2
       try clear hcz7_0
       try clear hcz7_1
       try clear hcz7_2
       try clear hfz10_0
       try clear hfz10_1
       try clear hfz10_2
       try clear hfz13_0
       try clear hfz13_1
       try clear hfz13_2
       try clear hfz16_0
       try clear hfz16_1
       try clear hfz16_2
       try clear hfz18_0
       try clear hfz18_1
       try clear hfz18_2
       try clear hfz19_0
       try clear hfz19_1
       try clear hfz19_2
       try clear hfz7_0
       try clear hfz7_1
       try clear hfz7_2
       try clear hx1420_0
       try clear hx1420_1
       try clear hx1420_2
       try clear p1420
       try clear q1420
       obtain ⟨kq, x34_4, rfl, HA, HJ4, BK1421, HB⟩ := hcut
       cases kq with
       | zero => exact absurd HA.out (by simp [impl_AreLines.j1])
       | succ kj4 =>
        have H := HA.out
        clear HA
        simp only [impl_AreLines.j1] at H
        by_cases c20 : x34_4 = true
        ·subst c20
         have H1 : (some false) = some r := by rw [if_pos rfl] at H; exact H
         clear H
         have H := H1
         clear H1
         obtain rfl := Option.some.inj H
         go_wp2
         go_ret
         exact ⟨by first | rfl | (simp [errW_none, errW_some] <;> rfl) | (simp [*, errW_none, errW_some] <;> rfl), by repeat (first | (with_reducible first | exact HB.out | apply below_alloc | apply pw_below_drewN | apply below_drew1 | refine below_set ?_ GE1421.out) | exact HB.out)⟩
        ·replace c20 := Bool.eq_false_iff.mpr c20
         subst c20
         have H1 : (if 0 ≤ x7_1 then (if x7_1 ≤ (l0.length : Int) then ((slices_ContainsFunc_Simpl_Line_impl_Line_impl_AreLines_1.f kj4 (l0.take (x7_1 : Int).toNat) ((rd_T104 l0 x7_1).f0) ((rd_T104 l0 x7_1).f1) ((rd_T104 l0 x7_1).f2)).bind fun t1429 => (if t1429 = true then (some false) else (impl_AreLines.l0 kj4 l0 l0 (l0.length : Int) (wrap64 (x7_1 + 1))))) else (none)) else (none)) = some r := by rw [if_neg (show ¬ (false = true) by decide)] at H; exact H
         clear H
         have H := H1
         clear H1
         by_cases c21 : 0 ≤ x7_1
         ·rw [if_pos c21] at H
          have c21b0 := eq_true c21
          have c21b1 : decide (0 ≤ x7_1) = true := decide_eq_true c21
          clear c21
          by_cases c22 : x7_1 ≤ (l0.length : Int)
          ·rw [if_pos c22] at H
           have c22b0 := eq_true c22
           have c22b1 : decide (x7_1 ≤ (l0.length : Int)) = true := decide_eq_true c22
           clear c22
           obtain ⟨y1425, hy1425⟩ : ∃ y_ : List (S104), y_ = (l0.take (x7_1 : Int).toNat) := ⟨_, rfl⟩
           replace H : ((slices_ContainsFunc_Simpl_Line_impl_Line_impl_AreLines_1.f kj4 y1425 ((rd_T104 l0 x7_1).f0) ((rd_T104 l0 x7_1).f1) ((rd_T104 l0 x7_1).f2)).bind fun t1429 => (if t1429 = true then (some false) else (impl_AreLines.l0 kj4 l0 l0 (l0.length : Int) (wrap64 (x7_1 + 1))))) = some r := by first | (rw [hy1425]; with_reducible exact H) | (have H2_ := (Option.bind_some _ _).symm.trans H; rw [hy1425]; with_reducible exact H2_) | (have H2_ := (Option.bind_some _ _).symm.trans H; with_reducible exact H2_) | with_reducible exact H | (rw [hy1425]; exact H) | exact H
           have Ny1425 := Aside0.mk hy1425
           clear hy1425
           replace H := Option.bind_eq_some_iff.mp H
           obtain ⟨t1429, A230, H⟩ := H
           replace H : (if t1429 = true then (some false) else (impl_AreLines.l0 kj4 l0 l0 (l0.length : Int) (wrap64 (x7_1 + 1)))) = some r := H
           have A23 := Aside0.mk A230
           clear A230
           by_cases c24 : t1429 = true
           ·subst c24
            have H1 : (some false) = some r := by rw [if_pos rfl] at H; exact H
            clear H
            have H := H1
            clear H1
            obtain rfl := Option.some.inj H
            have q25 : (x7_1 : Int) ≤ ((l0.length : Int) : Int) := of_decide_eq_true (by first | (with_reducible assumption) | assumption)
            obtain ⟨i025, hi025, _, hsz25, _⟩ := info_parts info104
            have hroom25 : l0.length ≤ c0 := HC0.out
            have hC25 : Kd.C k104 _ (some ad1420) l0.length l0 := HR0.out
            have hcut25 := cut_to (P := Try.prog) 54 104 .i64 Try.underlying54 hi025 (some ad1420) l0.length c0 x7_1 (of_decide_eq_true (by first | (with_reducible assumption) | assumption)) q25 hroom25
            have hr25 := Kd.C_take (m := (x7_1 : Int).toNat) hC25 (by omega)
            have hy25 : y1425.length = (x7_1 : Int).toNat := (by rw [Ny1425.out, List.length_take]; omega)
            rw [← Ny1425.out] at hr25
            rw [← hy25] at hcut25
            have HR1428 := Aside0.mk hr25
            have HC1428 := Aside0.mk (show y1425.length ≤ c0 from by omega)
            clear hr25 hC25 hroom25 hi025 hsz25
            have KY25 := Aside0.mk hy25
            clear hy25
            replace q25 := eq_true q25
            go_wp2_with (first | ((with_reducible refine gate_callee (f := 101) rfl ?_); refine goesL_ (some 39) rfl rfl Try.func101 (by kernel_rfl) rfl #[.slice (some ad1420) y1425.length c0, .func (.func 139) #[] #[.pointer (some ⟨gb1421, 0, none⟩)]] rfl (by (try simp only [List.map_toArray, List.map_cons, List.map_nil]); first | done | rfl | (simp only [List.length_drop, List.length_take]; rfl)) ?_; (with_reducible refine (slices_ContainsFunc_Simpl_Line_impl_Line_impl_AreLines_1.calls kj4 _ _ y1425 gb1421 ((rd_T104 l0 x7_1).f0) ((rd_T104 l0 x7_1).f1) ((rd_T104 l0 x7_1).f2) true _ ?side1 ?side2 ?side3 A23.out).mono ?_); (case side1 => repeat (first | exact (Kd.C_below HR1428.out HB.out) | (with_reducible refine Kd.C_alloc ?_ _) | (with_reducible refine Kd.C_drewN ?_ _) | (with_reducible refine Kd.C_drew ?_))); (case side2 => exact HC1428.out); (case side3 => exact (by (with_reducible repeat (first | refine blk_drewN ?_ _ | refine blk_drew ?_ | refine blk_alloc ?_ _)); exact BK1421.out)); rintro e w26 ⟨rfl, hb⟩; refine ⟨_, rfl, ?_⟩; have n0_ := Aside0.mk (blk_below (g := gb1421) (o := .cells #[.int .i64 ((rd_T104 l0 x7_1).f0), .int .i64 ((rd_T104 l0 x7_1).f1), .int .i64 ((rd_T104 l0 x7_1).f2)] 104 (0, 0)) (by (with_reducible repeat (first | refine blk_drewN ?_ _ | refine blk_drew ?_ | refine blk_alloc ?_ _)); exact BK1421.out) hb); have n1_ := Aside0.mk (below_step (by repeat (first | (with_reducible first | exact HB.out | apply below_alloc | apply pw_below_drewN | apply below_drew1 | refine below_set ?_ GE1421.out) | exact HB.out)) hb); clear BK1421; clear HB; have BK1421 := n0_; have HB := n1_; clear n0_ n1_; (try clear hb); (try clear hb2); (try clear hk); (try clear hi)))
            go_ret
            exact ⟨by first | rfl | (simp [errW_none, errW_some] <;> rfl) | (simp [*, errW_none, errW_some] <;> rfl), by repeat (first | (with_reducible first | exact HB.out | apply below_alloc | apply pw_below_drewN | apply below_drew1 | refine below_set ?_ GE1421.out) | exact HB.out)⟩
           ·replace c24 := Bool.eq_false_iff.mpr c24
            subst c24
            have H1 : (impl_AreLines.l0 kj4 l0 l0 (l0.length : Int) (wrap64 (x7_1 + 1))) = some r := by rw [if_neg (show ¬ (false = true) by decide)] at H; exact H
            clear H
            have H := H1
            clear H1
            have H' := Aside0.mk H
            clear H
            have q27 : (x7_1 : Int) ≤ ((l0.length : Int) : Int) := of_decide_eq_true (by first | (with_reducible assumption) | assumption)
            obtain ⟨i027, hi027, _, hsz27, _⟩ := info_parts info104
            have hroom27 : l0.length ≤ c0 := HC0.out
            have hC27 : Kd.C k104 _ (some ad1420) l0.length l0 := HR0.out
            have hcut27 := cut_to (P := Try.prog) 54 104 .i64 Try.underlying54 hi027 (some ad1420) l0.length c0 x7_1 (of_decide_eq_true (by first | (with_reducible assumption) | assumption)) q27 hroom27
            have hr27 := Kd.C_take (m := (x7_1 : Int).toNat) hC27 (by omega)
            have hy27 : y1425.length = (x7_1 : Int).toNat := (by rw [Ny1425.out, List.length_take]; omega)
            rw [← Ny1425.out] at hr27
            rw [← hy27] at hcut27
            have HR1428 := Aside0.mk hr27
            have HC1428 := Aside0.mk (show y1425.length ≤ c0 from by omega)
            clear hr27 hC27 hroom27 hi027 hsz27
            have KY27 := Aside0.mk hy27
            clear hy27
            replace q27 := eq_true q27
            go_wp2_with (first | ((with_reducible refine gate_callee (f := 101) rfl ?_); refine goesL_ (some 39) rfl rfl Try.func101 (by kernel_rfl) rfl #[.slice (some ad1420) y1425.length c0, .func (.func 139) #[] #[.pointer (some ⟨gb1421, 0, none⟩)]] rfl (by (try simp only [List.map_toArray, List.map_cons, List.map_nil]); first | done | rfl | (simp only [List.length_drop, List.length_take]; rfl)) ?_; (with_reducible refine (slices_ContainsFunc_Simpl_Line_impl_Line_impl_AreLines_1.calls kj4 _ _ y1425 gb1421 ((rd_T104 l0 x7_1).f0) ((rd_T104 l0 x7_1).f1) ((rd_T104 l0 x7_1).f2) false _ ?side1 ?side2 ?side3 A23.out).mono ?_); (case side1 => repeat (first | exact (Kd.C_below HR1428.out HB.out) | (with_reducible refine Kd.C_alloc ?_ _) | (with_reducible refine Kd.C_drewN ?_ _) | (with_reducible refine Kd.C_drew ?_))); (case side2 => exact HC1428.out); (case side3 => exact (by (with_reducible repeat (first | refine blk_drewN ?_ _ | refine blk_drew ?_ | refine blk_alloc ?_ _)); exact BK1421.out)); rintro e w28 ⟨rfl, hb⟩; refine ⟨_, rfl, ?_⟩; have n0_ := Aside0.mk (blk_below (g := gb1421) (o := .cells #[.int .i64 ((rd_T104 l0 x7_1).f0), .int .i64 ((rd_T104 l0 x7_1).f1), .int .i64 ((rd_T104 l0 x7_1).f2)] 104 (0, 0)) (by (with_reducible repeat (first | refine blk_drewN ?_ _ | refine blk_drew ?_ | refine blk_alloc ?_ _)); exact BK1421.out) hb); have n1_ := Aside0.mk (below_step (by repeat (first | (with_reducible first | exact HB.out | apply below_alloc | apply pw_below_drewN | apply below_drew1 | refine below_set ?_ GE1421.out) | exact HB.out)) hb); clear BK1421; clear HB; have BK1421 := n0_; have HB := n1_; clear n0_ n1_; (try clear hb); (try clear hb2); (try clear hk); (try clear hi)))
            go_roundg kj4
            case measure => have := HK1.out; have := HJ4.out; omega
            case rel => exact ⟨(wrap64 (x7_1 + 1)), (by first | rfl | (simp; done) | (simp [*]; done)), H', ⟨by have := HK1.out; have := HJ4.out; omega⟩, ⟨by repeat (first | (with_reducible first | exact HB.out | apply below_alloc | apply pw_below_drewN | apply below_drew1 | refine below_set ?_ GE1421.out) | exact HB.out)⟩⟩
          ·rw [if_neg c22] at H
           exact absurd H (by simp)
         ·rw [if_neg c21] at H
          exact absurd H (by simp)
     ·rw [if_neg c4] at H
      exact absurd H (by simp)
    ·rw [if_neg c3] at H
     exact absurd H (by simp)
   ·rw [if_neg c2] at H
    have c2b0 : decide (x7_1 < (l0.length : Int)) = false := decide_eq_false c2
    clear c2
    by_cases c29 : (l0.length : Int) ≥ 1
    ·rw [if_pos c29] at H
     have c29b0 : decide (1 ≤ (l0.length : Int)) = true := decide_eq_true c29
     have c29b1 : decide (1 ≤ l0.length) = true := decide_eq_true (by omega)
     clear c29
     obtain rfl := Option.some.inj H
     go_wp2
     go_ret
     exact ⟨by first | rfl | (simp [errW_none, errW_some] <;> rfl) | (simp [*, errW_none, errW_some] <;> rfl), by repeat (first | (with_reducible first | exact HB.out | apply below_alloc | apply pw_below_drewN | apply below_drew1) | exact HB.out)⟩
    ·rw [if_neg c29] at H
     have c29b0 : decide (1 ≤ (l0.length : Int)) = false := decide_eq_false c29
     have c29b1 : decide (1 ≤ l0.length) = false := decide_eq_false (by omega)
     clear c29
     obtain rfl := Option.some.inj H
     go_wp2
     go_ret
     exact ⟨by first | rfl | (simp [errW_none, errW_some] <;> rfl) | (simp [*, errW_none, errW_some] <;> rfl), by repeat (first | (with_reducible first | exact HB.out | apply below_alloc | apply pw_below_drewN | apply below_drew1) | exact HB.out)⟩
def impl_areParallel.f (a0_0 : Int) (a0_1 : Int) (a0_2 : Int) (a1_0 : Int) (a1_1 : Int) (a1_2 : Int) : Option (Bool) := some ((wrap64 (a0_0 * a1_1)) == (wrap64 (a0_1 * a1_0)))
set_option maxHeartbeats 8000000 in
set_option maxRecDepth 100000 in
theorem impl_areParallel.calls (a0_0 : Int) (a0_1 : Int) (a0_2 : Int) (a1_0 : Int) (a1_1 : Int) (a1_2 : Int) (r : Bool) (w : World) (h : impl_areParallel.f a0_0 a0_1 a0_2 a1_0 a1_1 a1_2 = some r) :
  Calls Try.prog 100 #[.agg #[.int .i64 a0_0, .int .i64 a0_1, .int .i64 a0_2], .agg #[.int .i64 a1_0, .int .i64 a1_1, .int .i64 a1_2]] w fun e w' => e = .returned (.bool r) ∧ Below w.heap.size w w' := by
 have hu104 := Try.underlying104
 have HB := Aside0.mk (Below.refl w.heap.size w)
 have H : (some ((wrap64 (a0_0 * a1_1)) == (wrap64 (a0_1 * a1_0)))) = some r := h
 clear h
 obtain rfl := Option.some.inj H
 go_enter Try.func100, Try.ntmps100
 go_wp2_with (first | ((with_reducible refine gate_dst (N := 2) rfl ?_); refine box_event ?hg (N := 2) ?hd (cs := #[.int .i64 a0_0, .int .i64 a0_1, .int .i64 a0_2]) (t := 104) ?hr ?_; (case hd => rfl); (case hg => rfl); (case hr => first | (go_simp; done) | (go_simp; rfl)); intro gb1430 hg w3 hbox hb; have n0_ := Aside0.mk (below_step (by repeat (first | (with_reducible first | exact HB.out | apply below_alloc | apply pw_below_drewN | apply below_drew1) | exact HB.out)) hb); have n1_ := Aside0.mk (hbox); have n2_ := Aside0.mk ((by rw [hg]; exact (below_size (by repeat (first | (with_reducible first | exact HB.out | apply below_alloc | apply pw_below_drewN | apply below_drew1) | exact HB.out))) : w.heap.size ≤ gb1430)); have n3_ := Aside0.mk ((by rw [hg]; exact (below_size (by repeat (first | (with_reducible first | exact HB.out | apply below_alloc | apply pw_below_drewN | apply below_drew1) | exact HB.out))) : w.heap.size ≤ gb1430)); clear HB; have HB := n0_; have BK1430 := n1_; have GW1430 := n2_; have GE1430 := n3_; clear n0_ n1_ n2_ n3_; clear hb hbox hg) | ((with_reducible refine gate_dst (N := 3) rfl ?_); refine box_event ?hg (N := 3) ?hd (cs := #[.int .i64 a1_0, .int .i64 a1_1, .int .i64 a1_2]) (t := 104) ?hr ?_; (case hd => rfl); (case hg => rfl); (case hr => first | (go_simp; done) | (go_simp; rfl)); intro gb1431 hg w4 hbox hb; have n0_ := Aside0.mk (blk_below (g := gb1430) (o := .cells #[.int .i64 a0_0, .int .i64 a0_1, .int .i64 a0_2] 104 (0, 0)) (by (with_reducible repeat (first | refine blk_drewN ?_ _ | refine blk_drew ?_ | refine blk_alloc ?_ _)); exact BK1430.out) hb); have n1_ := Aside0.mk (below_step (by repeat (first | (with_reducible first | exact HB.out | apply below_alloc | apply pw_below_drewN | apply below_drew1 | refine below_set ?_ GE1430.out) | exact HB.out)) hb); have n2_ := Aside0.mk (hbox); have n3_ := Aside0.mk ((by rw [hg]; exact (below_size (by repeat (first | (with_reducible first | exact HB.out | apply below_alloc | apply pw_below_drewN | apply below_drew1 | refine below_set ?_ GE1430.out) | exact HB.out))) : w.heap.size ≤ gb1431)); have n4_ := Aside0.mk ((by rw [hg]; exact (below_size (by repeat (first | (with_reducible first | exact HB.out | apply below_alloc | apply pw_below_drewN | apply below_drew1 | refine below_set ?_ GE1430.out) | exact HB.out))) : w.heap.size ≤ gb1431)); have n5_ := Aside0.mk ((by rw [hg]; exact Nat.ne_of_lt (blk_lt (g := gb1430) (o := .cells #[.int .i64 a0_0, .int .i64 a0_1, .int .i64 a0_2] 104 (0, 0)) (by (with_reducible repeat (first | refine blk_drewN ?_ _ | refine blk_drew ?_ | refine blk_alloc ?_ _)); exact BK1430.out)) : gb1430 ≠ gb1431)); have n6_ := Aside0.mk ((by rw [hg]; exact Nat.ne_of_gt (blk_lt (g := gb1430) (o := .cells #[.int .i64 a0_0, .int .i64 a0_1, .int .i64 a0_2] 104 (0, 0)) (by (with_reducible repeat (first | refine blk_drewN ?_ _ | refine blk_drew ?_ | refine blk_alloc ?_ _)); exact BK1430.out)) : gb1431 ≠ gb1430)); clear BK1430; clear HB; have BK1430 := n0_; have HB := n1_; have BK1431 := n2_; have GW1431 := n3_; have GE1431 := n4_; have NB1430_1431 := n5_; have NB1431_1430 := n6_; clear n0_ n1_ n2_ n3_ n4_ n5_ n6_; clear hb hbox hg; have hnb5 := NB1430_1431.out; have hnc5 := NB1431_1430.out; have hcz6_0 : w4.cell? ⟨gb1430, 0, none⟩ = some (.int .i64 a0_0) := (blk_cell BK1430.out 0).trans rfl; have hcz6_1 : w4.cell? ⟨gb1430, 1, none⟩ = some (.int .i64 a0_1) := (blk_cell BK1430.out 1).trans rfl; have hcz6_2 : w4.cell? ⟨gb1430, 2, none⟩ = some (.int .i64 a0_2) := (blk_cell BK1430.out 2).trans rfl; have hfz6_0 := blk_frozen BK1430.out 0; have hfz6_1 := blk_frozen BK1430.out 1; have hfz6_2 := blk_frozen BK1430.out 2; have hcz7_0 : w4.cell? ⟨gb1431, 0, none⟩ = some (.int .i64 a1_0) := (blk_cell BK1431.out 0).trans rfl; have hcz7_1 : w4.cell? ⟨gb1431, 1, none⟩ = some (.int .i64 a1_1) := (blk_cell BK1431.out 1).trans rfl; have hcz7_2 : w4.cell? ⟨gb1431, 2, none⟩ = some (.int .i64 a1_2) := (blk_cell BK1431.out 2).trans rfl; have hfz7_0 := blk_frozen BK1431.out 0; have hfz7_1 := blk_frozen BK1431.out 1; have hfz7_2 := blk_frozen BK1431.out 2))
 go_ret
 exact ⟨by first | rfl | (simp [errW_none, errW_some] <;> rfl) | (simp [*, errW_none, errW_some] <;> rfl), by repeat (first | (with_reducible first | exact HB.out | apply below_alloc | apply pw_below_drewN | apply below_drew1 | refine below_set ?_ GE1430.out | refine below_set ?_ GE1431.out) | exact HB.out)⟩
def impl_ParallelClasses_1.f (a0_0 : Int) (a0_1 : Int) (a0_2 : Int) (s1_0 : Int) (s1_1 : Int) (s1_2 : Int) : Option (Bool) := (impl_areParallel.f s1_0 s1_1 s1_2 a0_0 a0_1 a0_2).bind fun t1553 => (some t1553)
set_option maxHeartbeats 8000000 in
set_option maxRecDepth 100000 in
theorem impl_ParallelClasses_1.calls (a0_0 : Int) (a0_1 : Int) (a0_2 : Int) (gb1 : Nat) (s1_0 : Int) (s1_1 : Int) (s1_2 : Int) (r : Bool) (w : World) (hb1_ : w.heap[gb1]? = some (.cells #[.int .i64 s1_0, .int .i64 s1_1, .int .i64 s1_2] 104 (0, 0))) (h : impl_ParallelClasses_1.f a0_0 a0_1 a0_2 s1_0 s1_1 s1_2 = some r) :
  Calls Try.prog 102 #[.agg #[.int .i64 a0_0, .int .i64 a0_1, .int .i64 a0_2], .pointer (some ⟨gb1, 0, none⟩)] w fun e w' => e = .returned (.bool r) ∧ Below w.heap.size w w' := by
 have hu104 := Try.underlying104
 have BK1 := Aside0.mk hb1_
 clear hb1_
 have HB := Aside0.mk (Below.refl w.heap.size w)
 have H : ((impl_areParallel.f s1_0 s1_1 s1_2 a0_0 a0_1 a0_2).bind fun t1553 => (some t1553)) = some r := h
 clear h
 replace H := Option.bind_eq_some_iff.mp H
 obtain ⟨t1553, A30, H⟩ := H
 replace H : (some t1553) = some r := H
 have A3 := Aside0.mk A30
 clear A30
 obtain rfl := Option.some.inj H
 go_enter Try.func102, Try.ntmps102
 go_wp2_with (first | ((with_reducible refine gate_dst (N := 2) rfl ?_); refine box_event ?hg (N := 2) ?hd (cs := #[.int .i64 a0_0, .int .i64 a0_1, .int .i64 a0_2]) (t := 104) ?hr ?_; (case hd => rfl); (case hg => rfl); (case hr => first | (go_simp; done) | (go_simp; rfl)); intro gb1552 hg w4 hbox hb; have n0_ := Aside0.mk (blk_below (g := gb1) (o := .cells #[.int .i64 s1_0, .int .i64 s1_1, .int .i64 s1_2] 104 (0, 0)) (by (with_reducible repeat (first | refine blk_drewN ?_ _ | refine blk_drew ?_ | refine blk_alloc ?_ _)); exact BK1.out) hb); have n1_ := Aside0.mk (below_step (by repeat (first | (with_reducible first | exact HB.out | apply below_alloc | apply pw_below_drewN | apply below_drew1 | refine below_set ?_ GE1.out) | exact HB.out)) hb); have n2_ := Aside0.mk (hbox); have n3_ := Aside0.mk ((by rw [hg]; exact (below_size (by repeat (first | (with_reducible first | exact HB.out | apply below_alloc | apply pw_below_drewN | apply below_drew1 | refine below_set ?_ GE1.out) | exact HB.out))) : w.heap.size ≤ gb1552)); have n4_ := Aside0.mk ((by rw [hg]; exact (below_size (by repeat (first | (with_reducible first | exact HB.out | apply below_alloc | apply pw_below_drewN | apply below_drew1 | refine below_set ?_ GE1.out) | exact HB.out))) : w.heap.size ≤ gb1552)); have n5_ := Aside0.mk ((by rw [hg]; exact Nat.ne_of_lt (blk_lt (g := gb1) (o := .cells #[.int .i64 s1_0, .int .i64 s1_1, .int .i64 s1_2] 104 (0, 0)) (by (with_reducible repeat (first | refine blk_drewN ?_ _ | refine blk_drew ?_ | refine blk_alloc ?_ _)); exact BK1.out)) : gb1 ≠ gb1552)); have n6_ := Aside0.mk ((by rw [hg]; exact Nat.ne_of_gt (blk_lt (g := gb1) (o := .cells #[.int .i64 s1_0, .int .i64 s1_1, .int .i64 s1_2] 104 (0, 0)) (by (with_reducible repeat (first | refine blk_drewN ?_ _ | refine blk_drew ?_ | refine blk_alloc ?_ _)); exact BK1.out)) : gb1552 ≠ gb1)); clear BK1; clear HB; have BK1 := n0_; have HB := n1_; have BK1552 := n2_; have GW1552 := n3_; have GE1552 := n4_; have NB1_1552 := n5_; have NB1552_1 := n6_; clear n0_ n1_ n2_ n3_ n4_ n5_ n6_; clear hb hbox hg; have hnb5 := NB1_1552.out; have hnc5 := NB1552_1.out; have hcz6_0 : w4.cell? ⟨gb1, 0, none⟩ = some (.int .i64 s1_0) := (blk_cell BK1.out 0).trans rfl; have hcz6_1 : w4.cell? ⟨gb1, 1, none⟩ = some (.int .i64 s1_1) := (blk_cell BK1.out 1).trans rfl; have hcz6_2 : w4.cell? ⟨gb1, 2, none⟩ = some (.int .i64 s1_2) := (blk_cell BK1.out 2).trans rfl; have hfz6_0 := blk_frozen BK1.out 0; have hfz6_1 := blk_frozen BK1.out 1; have hfz6_2 := blk_frozen BK1.out 2; have hcz7_0 : w4.cell? ⟨gb1552, 0, none⟩ = some (.int .i64 a0_0) := (blk_cell BK1552.out 0).trans rfl; have hcz7_1 : w4.cell? ⟨gb1552, 1, none⟩ = some (.int .i64 a0_1) := (blk_cell BK1552.out 1).trans rfl; have hcz7_2 : w4.cell? ⟨gb1552, 2, none⟩ = some (.int .i64 a0_2) := (blk_cell BK1552.out 2).trans rfl; have hfz7_0 := blk_frozen BK1552.out 0; have hfz7_1 := blk_frozen BK1552.out 1; have hfz7_2 := blk_frozen BK1552.out 2) | ((with_reducible refine gate_callee (f := 100) rfl ?_); refine goesL_ (some 6) rfl rfl Try.func100 (by kernel_rfl) rfl #[.agg #[.int .i64 s1_0, .int .i64 s1_1, .int .i64 s1_2], .agg #[.int .i64 a0_0, .int .i64 a0_1, .int .i64 a0_2]] rfl (by (try simp only [List.map_toArray, List.map_cons, List.map_nil]); first | done | rfl | (simp only [List.length_drop, List.length_take]; rfl)) ?_; (with_reducible refine (impl_areParallel.calls s1_0 s1_1 s1_2 a0_0 a0_1 a0_2 t1553 _ A3.out).mono ?_); rintro e w8 ⟨rfl, hb⟩; refine ⟨_, rfl, ?_⟩; have n0_ := Aside0.mk (blk_below (g := gb1) (o := .cells #[.int .i64 s1_0, .int .i64 s1_1, .int .i64 s1_2] 104 (0, 0)) (by (with_reducible repeat (first | refine blk_drewN ?_ _ | refine blk_drew ?_ | refine blk_alloc ?_ _)); exact BK1.out) hb); have n1_ := Aside0.mk (blk_below (g := gb1552) (o := .cells #[.int .i64 a0_0, .int .i64 a0_1, .int .i64 a0_2] 104 (0, 0)) (by (with_reducible repeat (first | refine blk_drewN ?_ _ | refine blk_drew ?_ | refine blk_alloc ?_ _)); exact BK1552.out) hb); have n2_ := Aside0.mk (below_step (by repeat (first | (with_reducible first | exact HB.out | apply below_alloc | apply pw_below_drewN | apply below_drew1 | refine below_set ?_ GE1.out | refine below_set ?_ GE1552.out) | exact HB.out)) hb); clear BK1; clear BK1552; clear HB; have BK1 := n0_; have BK1552 := n1_; have HB := n2_; clear n0_ n1_ n2_; (try clear hb); (try clear hb2); (try clear hk); (try clear hi)))
 go_ret
 exact ⟨by first | rfl | (simp [errW_none, errW_some] <;> rfl) | (simp [*, errW_none, errW_some] <;> rfl), by repeat (first | (with_reducible first | exact HB.out | apply below_alloc | apply pw_below_drewN | apply below_drew1 | refine below_set ?_ GE1.out | refine below_set ?_ GE1552.out) | exact HB.out)⟩
end Go.Proofs.Yteblnjoljbdjjaa.P
