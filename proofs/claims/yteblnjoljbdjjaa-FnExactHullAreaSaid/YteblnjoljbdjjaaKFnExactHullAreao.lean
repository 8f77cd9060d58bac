/- What the law FnExactHullArea reaches, part 15: functions as plain Lean functions with the proofs that their calls come to them, and plain lemmas over these. Put together by a program (wip/pack.py). -/
import Derived.Test.YteblnjoljbdjjaaKFnExactHullAreac
import Derived.Test.YteblnjoljbdjjaaKFnExactHullAreaj
import Derived.Test.YteblnjoljbdjjaaKFnExactHullArean
import Derived.Test.YteblnjoljbdjjaaKFnExactHullAream
import Derived.Test.YteblnjoljbdjjaaKFnExactHullAreal
import Derived.Test.YteblnjoljbdjjaaKFnExactHullAreak
namespace Go.Proofs.Yteblnjoljbdjjaa.P
open Go.RowKit Go.Proofs.YteblnjoljbdjjaaW.PrintWords Go.Proofs.YteblnjoljbdjjaaW.PrintLast Go.Proofs.YteblnjoljbdjjaaW.PrintMore
attribute [local go_sem] ptrOf_slice
attribute [local go_sem] min2_str max2_int min2_int max_two min_two max_three min_three max_four min_four
set_option linter.unusedVariables false
set_option linter.unusedSimpArgs false
def impl_chi_inHull.l0 : Nat → List Int → Int → Int → List (S122) → Int → Int → Option (Bool)
 | 0, _, _, _, _, _, _ => none
 | k + 1, x0, x1, x2, x14, x15, x16 => if x16 < x15 then (if 0 ≤ x16 then (if x16 < (x14.length : Int) then (if 0 ≤ ((rd_T122 x14 x16).f0) then (if 0 ≤ ((rd_T122 x14 x16).f1) then (if 0 ≤ ((rd_T122 x14 x16).f2) then (if (Go.bits .and .i64 x1 (Go.bits .or .i64 (Go.bits .or .i64 (shl .i64 1 ((rd_T122 x14 x16).f0)) (shl .i64 1 ((rd_T122 x14 x16).f1))) (shl .i64 1 ((rd_T122 x14 x16).f2)))) = (Go.bits .or .i64 (Go.bits .or .i64 (shl .i64 1 ((rd_T122 x14 x16).f0)) (shl .i64 1 ((rd_T122 x14 x16).f1))) (shl .i64 1 ((rd_T122 x14 x16).f2))) then ((impl_chi_isInside.f k x0 x2 ((rd_T122 x14 x16).f0) ((rd_T122 x14 x16).f1) ((rd_T122 x14 x16).f2)).bind fun t1156 => (if t1156 = true then (some true) else (impl_chi_inHull.l0 k x0 x1 x2 x14 x15 (wrap64 (x16 + 1))))) else (impl_chi_inHull.l0 k x0 x1 x2 x14 x15 (wrap64 (x16 + 1)))) else (none)) else (none)) else (none)) else (none)) else (none)) else (some false)
def impl_chi_inHull.f (k : Nat) (l0 : List Int) (a1 : Int) (a2 : Int) : Option (Bool) := if 344 ≤ (l0.length : Int) then ((impl_triplesOf.f k (chiN l0)).bind fun t1151 => (impl_chi_inHull.l0 k l0 a1 a2 t1151 (t1151.length : Int) 0)) else (none)
set_option maxHeartbeats 8000000 in
set_option maxRecDepth 100000 in
theorem impl_chi_inHull.calls (k : Nat) (A0 : Option Addr) (c0 : Nat) (l0 : List Int) (a1 : Int) (a2 : Int) (r : Bool) (w : World) (hr0 : Kd.C (Kd.int .i64) w A0 l0.length l0) (hc0 : l0.length ≤ c0) (h : impl_chi_inHull.f k l0 a1 a2 = some r) :
  Calls Try.prog 202 #[.pointer A0, .int .i64 a1, .int .i64 a2] w fun e w' => e = .returned (.bool r) ∧ Below w.heap.size w w' := by
 have hu122 := Try.underlying122
 have HR0 := am_ hr0
 have HC0 := am_ hc0
 clear hr0 hc0
 have HB := am_ (Below.refl w.heap.size w)
 have H : (if 344 ≤ (l0.length : Int) then ((impl_triplesOf.f k (chiN l0)).bind fun t1151 => (impl_chi_inHull.l0 k l0 a1 a2 t1151 (t1151.length : Int) 0)) else (none)) = some r := h
 clear h
 by_cases c4 : 344 ≤ (l0.length : Int)
 ·rw [if_pos c4] at H
  have c4b0 := eq_true c4
  have c4b1 : decide (344 ≤ (l0.length : Int)) = true := decide_eq_true c4
  clear c4
  replace H := Option.bind_eq_some_iff.mp H
  obtain ⟨t1151, A50, H⟩ := H
  replace H : (impl_chi_inHull.l0 k l0 a1 a2 t1151 (t1151.length : Int) 0) = some r := H
  have A5 := am_ A50
  clear A50
  have H' := am_ H
  clear H
  have q1150 : 344 ≤ (l0.length : Int) := of_decide_eq_true (by first | (with_reducible assumption) | assumption)
  obtain ⟨ad1150, e1150, hx1150_0⟩ := chi_n HR0.out q1150
  cases e1150
  go_enter Try.func202, Try.ntmps202
  go_wp2_with (first | (go_at_call 114; (with_reducible refine (impl_triplesOf.calls k (chiN l0) t1151 _ A5.out).mono ?_); rintro e w6 ⟨v1152, rfl, ho0, hb⟩; have n0_ := am_ (Kd.R_lower ho0 (below_size (bx0 HB.out))); have n1_ := am_ (below_step (bx0 HB.out) hb); clear HB; have HO1153 := n0_; have HB := n1_; clear n0_ n1_; (try clear hb); (try clear hb2); (try clear hk); (try clear hi); (try clear ho0); obtain ⟨Ao7, co7, eo7⟩ := Kd.R_slice HO1153.out; subst eo7))
  repeat (go_quiet (first | (go_at_call 114; (with_reducible refine (impl_triplesOf.calls k (chiN l0) t1151 _ A5.out).mono ?_); rintro e w6 ⟨v1152, rfl, ho0, hb⟩; have n0_ := am_ (Kd.R_lower ho0 (below_size (bx0 HB.out))); have n1_ := am_ (below_step (bx0 HB.out) hb); clear HB; have HO1153 := n0_; have HB := n1_; clear n0_ n1_; (try clear hb); (try clear hb2); (try clear hk); (try clear hi); (try clear ho0); obtain ⟨Ao7, co7, eo7⟩ := Kd.R_slice HO1153.out; subst eo7)); try go_wp2_with (first | (go_at_call 114; (with_reducible refine (impl_triplesOf.calls k (chiN l0) t1151 _ A5.out).mono ?_); rintro e w6 ⟨v1152, rfl, ho0, hb⟩; have n0_ := am_ (Kd.R_lower ho0 (below_size (bx0 HB.out))); have n1_ := am_ (below_step (bx0 HB.out) hb); clear HB; have HO1153 := n0_; have HB := n1_; clear n0_ n1_; (try clear hb); (try clear hb2); (try clear hk); (try clear hi); (try clear ho0); obtain ⟨Ao7, co7, eo7⟩ := Kd.R_slice HO1153.out; subst eo7)))
  go_loopg [16] k (fun kq v16 w' => ∃ (x16_1 : Int), v16 = .int .i64 x16_1 ∧ Aside0 (impl_chi_inHull.l0 kq l0 a1 a2 t1151 (t1151.length : Int) x16_1 = some r) ∧ Aside0 (kq ≤ k) ∧ Aside0 (Kd.R k122 122 w' w.heap.size (fun _ => True) (.slice Ao7 t1151.length co7) t1151) ∧ Aside0 (Below w.heap.size w w'))
  case atStart => exact ⟨(0), (by first | rfl | (simp; done) | (simp [*]; done)), H', ⟨Nat.le_refl _⟩, ⟨rx_ HO1153.out⟩, ⟨bx0 HB.out⟩⟩
  case round =>
   clear H'
   try clear q1
   try clear hx1
   try clear c2
   try clear p2
   try clear c4
   try clear c4b0
   try clear c4b1
   try clear hx1150_0
   try clear q1150
   obtain ⟨x16_1, rfl, HA, HK1, HO_14, HB⟩ := hrel
   cases gk with
   | zero => exact absurd HA.out (by simp [impl_chi_inHull.l0])
   | succ k1 =>
    have H := HA.out
    clear HA
    simp only [impl_chi_inHull.l0] at H
    by_cases c8 : x16_1 < (t1151.length : Int)
    ·rw [if_pos c8] at H
     have c8b0 : decide (x16_1 < (t1151.length : Int)) = true := decide_eq_true c8
     clear c8
     by_cases c9 : 0 ≤ x16_1
     ·rw [if_pos c9] at H
      have c9b0 : decide (0 ≤ x16_1) = true := decide_eq_true c9
      clear c9
      by_cases c10 : x16_1 < (t1151.length : Int)
      ·rw [if_pos c10] at H
       have c10b0 : decide (x16_1 < (t1151.length : Int)) = true := decide_eq_true c10
       clear c10
       by_cases c11 : 0 ≤ ((rd_T122 t1151 x16_1).f0)
       ·rw [if_pos c11] at H
        have c11b0 := eq_true c11
        have c11b1 : decide (0 ≤ ((rd_T122 t1151 x16_1).f0)) = true := decide_eq_true c11
        clear c11
        obtain ⟨ji12, hji12⟩ : ∃ j_ : Int, (shl .i64 1 ((rd_T122 t1151 x16_1).f0)) = j_ := ⟨_, rfl⟩
        replace H : (if 0 ≤ ((rd_T122 t1151 x16_1).f1) then (if 0 ≤ ((rd_T122 t1151 x16_1).f2) then (if (Go.bits .and .i64 a1 (Go.bits .or .i64 (Go.bits .or .i64 (ji12) (shl .i64 1 ((rd_T122 t1151 x16_1).f1))) (shl .i64 1 ((rd_T122 t1151 x16_1).f2)))) = (Go.bits .or .i64 (Go.bits .or .i64 (ji12) (shl .i64 1 ((rd_T122 t1151 x16_1).f1))) (shl .i64 1 ((rd_T122 t1151 x16_1).f2))) then ((impl_chi_isInside.f k1 l0 a2 ((rd_T122 t1151 x16_1).f0) ((rd_T122 t1151 x16_1).f1) ((rd_T122 t1151 x16_1).f2)).bind fun t1156 => (if t1156 = true then (some true) else (impl_chi_inHull.l0 k1 l0 a1 a2 t1151 (t1151.length : Int) (wrap64 (x16_1 + 1))))) else (impl_chi_inHull.l0 k1 l0 a1 a2 t1151 (t1151.length : Int) (wrap64 (x16_1 + 1)))) else (none)) else (none)) = some r := by first | (rw [hji12] at H; exact H) | (simp only [hji12] at H ⊢; exact H)
        have hji12_ : (IntKind.i64.wrap (1 * 2 ^ min ((rd_T122 t1151 x16_1).f0).toNat 64)) = ji12 := hji12
        have hji12z : ((rd_T122 t1151 x16_1).f0) ≤ 64 → (IntKind.i64.wrap (1 * 2 ^ ((rd_T122 t1151 x16_1).f0).toNat)) = ji12 := shl_small hji12
        have hji12u : (IntKind.i64.wrap (2 ^ min ((rd_T122 t1151 x16_1).f0).toNat 64)) = ji12 := by have h_ := hji12_; rw [Int.one_mul] at h_; exact h_
        have hji12v : ((rd_T122 t1151 x16_1).f0) ≤ 64 → (IntKind.i64.wrap (2 ^ ((rd_T122 t1151 x16_1).f0).toNat)) = ji12 := fun hle_ => by have h_ := hji12z hle_; rw [Int.one_mul] at h_; exact h_
        have hji12y : (wrap64 (1 * 2 ^ min ((rd_T122 t1151 x16_1).f0).toNat 64)) = ji12 := (i64_w _).symm.trans hji12_
        have hji12x : ((rd_T122 t1151 x16_1).f0) ≤ 64 → (wrap64 (1 * 2 ^ ((rd_T122 t1151 x16_1).f0).toNat)) = ji12 := fun h_ => (i64_w _).symm.trans (hji12z h_)
        by_cases c13 : 0 ≤ ((rd_T122 t1151 x16_1).f1)
        ·rw [if_pos c13] at H
         have c13b0 := eq_true c13
         have c13b1 : decide (0 ≤ ((rd_T122 t1151 x16_1).f1)) = true := decide_eq_true c13
         clear c13
         obtain ⟨ji14, hji14⟩ : ∃ j_ : Int, (shl .i64 1 ((rd_T122 t1151 x16_1).f1)) = j_ := ⟨_, rfl⟩
         replace H : (if 0 ≤ ((rd_T122 t1151 x16_1).f2) then (if (Go.bits .and .i64 a1 (Go.bits .or .i64 (Go.bits .or .i64 (ji12) (ji14)) (shl .i64 1 ((rd_T122 t1151 x16_1).f2)))) = (Go.bits .or .i64 (Go.bits .or .i64 (ji12) (ji14)) (shl .i64 1 ((rd_T122 t1151 x16_1).f2))) then ((impl_chi_isInside.f k1 l0 a2 ((rd_T122 t1151 x16_1).f0) ((rd_T122 t1151 x16_1).f1) ((rd_T122 t1151 x16_1).f2)).bind fun t1156 => (if t1156 = true then (some true) else (impl_chi_inHull.l0 k1 l0 a1 a2 t1151 (t1151.length : Int) (wrap64 (x16_1 + 1))))) else (impl_chi_inHull.l0 k1 l0 a1 a2 t1151 (t1151.length : Int) (wrap64 (x16_1 + 1)))) else (none)) = some r := by first | (rw [hji14] at H; exact H) | (simp only [hji14] at H ⊢; exact H)
         have hji14_ : (IntKind.i64.wrap (1 * 2 ^ min ((rd_T122 t1151 x16_1).f1).toNat 64)) = ji14 := hji14
         have hji14z : ((rd_T122 t1151 x16_1).f1) ≤ 64 → (IntKind.i64.wrap (1 * 2 ^ ((rd_T122 t1151 x16_1).f1).toNat)) = ji14 := shl_small hji14
         have hji14u : (IntKind.i64.wrap (2 ^ min ((rd_T122 t1151 x16_1).f1).toNat 64)) = ji14 := by have h_ := hji14_; rw [Int.one_mul] at h_; exact h_
         have hji14v : ((rd_T122 t1151 x16_1).f1) ≤ 64 → (IntKind.i64.wrap (2 ^ ((rd_T122 t1151 x16_1).f1).toNat)) = ji14 := fun hle_ => by have h_ := hji14z hle_; rw [Int.one_mul] at h_; exact h_
         have hji14y : (wrap64 (1 * 2 ^ min ((rd_T122 t1151 x16_1).f1).toNat 64)) = ji14 := (i64_w _).symm.trans hji14_
         have hji14x : ((rd_T122 t1151 x16_1).f1) ≤ 64 → (wrap64 (1 * 2 ^ ((rd_T122 t1151 x16_1).f1).toNat)) = ji14 := fun h_ => (i64_w _).symm.trans (hji14z h_)
         by_cases c15 : 0 ≤ ((rd_T122 t1151 x16_1).f2)
         ·rw [if_pos c15] at H
          have c15b0 := eq_true c15
          have c15b1 : decide (0 ≤ ((rd_T122 t1151 x16_1).f2)) = true := decide_eq_true c15
          clear c15
          obtain ⟨ji16, hji16⟩ : ∃ j_ : Int, (shl .i64 1 ((rd_T122 t1151 x16_1).f2)) = j_ := ⟨_, rfl⟩
          replace H : (if (Go.bits .and .i64 a1 (Go.bits .or .i64 (Go.bits .or .i64 (ji12) (ji14)) (ji16))) = (Go.bits .or .i64 (Go.bits .or .i64 (ji12) (ji14)) (ji16)) then ((impl_chi_isInside.f k1 l0 a2 ((rd_T122 t1151 x16_1).f0) ((rd_T122 t1151 x16_1).f1) ((rd_T122 t1151 x16_1).f2)).bind fun t1156 => (if t1156 = true then (some true) else (impl_chi_inHull.l0 k1 l0 a1 a2 t1151 (t1151.length : Int) (wrap64 (x16_1 + 1))))) else (impl_chi_inHull.l0 k1 l0 a1 a2 t1151 (t1151.length : Int) (wrap64 (x16_1 + 1)))) = some r := by first | (rw [hji16] at H; exact H) | (simp only [hji16] at H ⊢; exact H)
          have hji16_ : (IntKind.i64.wrap (1 * 2 ^ min ((rd_T122 t1151 x16_1).f2).toNat 64)) = ji16 := hji16
          have hji16z : ((rd_T122 t1151 x16_1).f2) ≤ 64 → (IntKind.i64.wrap (1 * 2 ^ ((rd_T122 t1151 x16_1).f2).toNat)) = ji16 := shl_small hji16
          have hji16u : (IntKind.i64.wrap (2 ^ min ((rd_T122 t1151 x16_1).f2).toNat 64)) = ji16 := by have h_ := hji16_; rw [Int.one_mul] at h_; exact h_
          have hji16v : ((rd_T122 t1151 x16_1).f2) ≤ 64 → (IntKind.i64.wrap (2 ^ ((rd_T122 t1151 x16_1).f2).toNat)) = ji16 := fun hle_ => by have h_ := hji16z hle_; rw [Int.one_mul] at h_; exact h_
          have hji16y : (wrap64 (1 * 2 ^ min ((rd_T122 t1151 x16_1).f2).toNat 64)) = ji16 := (i64_w _).symm.trans hji16_
          have hji16x : ((rd_T122 t1151 x16_1).f2) ≤ 64 → (wrap64 (1 * 2 ^ ((rd_T122 t1151 x16_1).f2).toNat)) = ji16 := fun h_ => (i64_w _).symm.trans (hji16z h_)
          by_cases c17 : (Go.bits .and .i64 a1 (Go.bits .or .i64 (Go.bits .or .i64 (ji12) (ji14)) (ji16))) = (Go.bits .or .i64 (Go.bits .or .i64 (ji12) (ji14)) (ji16))
          ·rw [if_pos c17] at H
           have c17b0 : ((Go.bits .and .i64 a1 (Go.bits .or .i64 (Go.bits .or .i64 (ji12) (ji14)) (ji16))) == (Go.bits .or .i64 (Go.bits .or .i64 (ji12) (ji14)) (ji16))) = true := beq_iff_eq.mpr c17
           have c17b1 : ((Go.bits .and .i64 a1 (Go.bits .or .i64 (Go.bits .or .i64 (ji12) (ji14)) (ji16))) != (Go.bits .or .i64 (Go.bits .or .i64 (ji12) (ji14)) (ji16))) = false := bne_eq_false_iff_eq.mpr c17
           clear c17
           replace H := Option.bind_eq_some_iff.mp H
           obtain ⟨t1156, A180, H⟩ := H
           replace H : (if t1156 = true then (some true) else (impl_chi_inHull.l0 k1 l0 a1 a2 t1151 (t1151.length : Int) (wrap64 (x16_1 + 1)))) = some r := H
           have A18 := am_ A180
           clear A180
           by_cases c19 : t1156 = true
           ·subst c19
            have H1 : (some true) = some r := by rw [if_pos rfl] at H; exact H
            clear H
            have H := H1
            clear H1
            obtain rfl := Option.some.inj H
            have p1154 : 0 ≤ (x16_1 : Int) := of_decide_eq_true (by first | (with_reducible assumption) | assumption)
            have q1154 : x16_1 < (t1151.length : Int) := of_decide_eq_true (by first | (with_reducible assumption) | assumption)
            obtain ⟨ad1154, e1154, hx1154_0, hx1154_1, hx1154_2⟩ := at_T122 (Kd.R_reads' HO_14.out).2.2 x16_1 p1154 q1154
            cases e1154
            replace p1154 := eq_true p1154
            replace q1154 := eq_true q1154
            go_wp2_with (first | ((with_reducible refine gate_dst (N := 8) rfl ?_); refine box_event ?hg (N := 8) ?hd (cs := #[.int .i64 0, .int .i64 0, .int .i64 0]) (t := 122) ?hr ?_; (case hd => rfl); (case hg => rfl); (case hr => first | (go_simp; done) | (go_simp; rfl)); intro gb1155 hg w20 hbox hb; have n0_ := am_ (Kd.R_below (Kd.R_elderB (rx_ HO_14.out) gb1155 (Nat.le_of_eq hg.symm)) hb); have n1_ := am_ (below_step (bx0 HB.out) hb); have n2_ := am_ (hbox); have n3_ := am_ ((by rw [hg]; exact (below_size (bx0 HB.out)) : w.heap.size ≤ gb1155)); have n4_ := am_ ((by rw [hg]; exact (below_size (bx0 HB.out)) : w.heap.size ≤ gb1155)); clear HO_14; clear HB; have HO_14 := n0_; have HB := n1_; have BK1155 := n2_; have GW1155 := n3_; have GE1155 := n4_; clear n0_ n1_ n2_ n3_ n4_; clear hb hbox hg; have hcz21_0 : w20.cell? ⟨gb1155, 0, none⟩ = some (.int .i64 0) := (blk_cell BK1155.out 0).trans rfl; have hcz21_1 : w20.cell? ⟨gb1155, 1, none⟩ = some (.int .i64 0) := (blk_cell BK1155.out 1).trans rfl; have hcz21_2 : w20.cell? ⟨gb1155, 2, none⟩ = some (.int .i64 0) := (blk_cell BK1155.out 2).trans rfl; have hfz21_0 := blk_frozen BK1155.out 0; have hfz21_1 := blk_frozen BK1155.out 1; have hfz21_2 := blk_frozen BK1155.out 2) | (go_at_call 214; (refine (impl_chi_isInside.calls k1 _ c0 l0 a2 ((rd_T122 t1151 x16_1).f0) ((rd_T122 t1151 x16_1).f1) ((rd_T122 t1151 x16_1).f2) true _ ?side1 ?side2 A18.out).mono ?_); (case side1 => exact Kd.C_below HR0.out (bx1 HB.out GE1155.out)); (case side2 => exact HC0.out); rintro e w22 ⟨rfl, hb⟩; have n0_ := am_ (Kd.R_below (by (with_reducible repeat (first | apply Kd.R_alloc | apply Kd.R_drewN | apply Kd.R_drew)); exact (Kd.R_mono (Kd.R_far (p := ⟨gb1155, 2, none⟩) (Kd.R_far (p := ⟨gb1155, 1, none⟩) (Kd.R_far (p := ⟨gb1155, 0, none⟩) (Kd.R_mono HO_14.out (fun k_ hk => (⟨hk, hk.2⟩ : _ ∧ k_ ≠ gb1155))) (fun _ hk => hk.2) (.int .i64 ((rd_T122 t1151 x16_1).f0))) (fun _ hk => hk.2) (.int .i64 ((rd_T122 t1151 x16_1).f1))) (fun _ hk => hk.2) (.int .i64 ((rd_T122 t1151 x16_1).f2))) (fun _ h_ => h_.1))) hb); have n1_ := am_ (blk_below (g := gb1155) (o := .cells #[.int .i64 ((rd_T122 t1151 x16_1).f0), .int .i64 ((rd_T122 t1151 x16_1).f1), .int .i64 ((rd_T122 t1151 x16_1).f2)] 122 (0, 0)) (by (with_reducible repeat (first | refine blk_drewN ?_ _ | refine blk_drew ?_ | refine blk_alloc ?_ _)); refine blk_put (cs := #[.int .i64 ((rd_T122 t1151 x16_1).f0), .int .i64 ((rd_T122 t1151 x16_1).f1), .int .i64 0]) ?_ 2 _ rfl; (with_reducible repeat (first | refine blk_drewN ?_ _ | refine blk_drew ?_ | refine blk_alloc ?_ _)); refine blk_put (cs := #[.int .i64 ((rd_T122 t1151 x16_1).f0), .int .i64 0, .int .i64 0]) ?_ 1 _ rfl; (with_reducible repeat (first | refine blk_drewN ?_ _ | refine blk_drew ?_ | refine blk_alloc ?_ _)); refine blk_put (cs := #[.int .i64 0, .int .i64 0, .int .i64 0]) ?_ 0 _ rfl; (with_reducible repeat (first | refine blk_drewN ?_ _ | refine blk_drew ?_ | refine blk_alloc ?_ _)); exact BK1155.out) hb); have n2_ := am_ (below_step (bx1 HB.out GE1155.out) hb); clear HO_14; clear BK1155; clear HB; have HO_14 := n0_; have BK1155 := n1_; have HB := n2_; clear n0_ n1_ n2_; (try clear hb); (try clear hb2); (try clear hk); (try clear hi)))
            repeat (go_quiet (first | ((with_reducible refine gate_dst (N := 8) rfl ?_); refine box_event ?hg (N := 8) ?hd (cs := #[.int .i64 0, .int .i64 0, .int .i64 0]) (t := 122) ?hr ?_; (case hd => rfl); (case hg => rfl); (case hr => first | (go_simp; done) | (go_simp; rfl)); intro gb1155 hg w20 hbox hb; have n0_ := am_ (Kd.R_below (Kd.R_elderB (rx_ HO_14.out) gb1155 (Nat.le_of_eq hg.symm)) hb); have n1_ := am_ (below_step (bx0 HB.out) hb); have n2_ := am_ (hbox); have n3_ := am_ ((by rw [hg]; exact (below_size (bx0 HB.out)) : w.heap.size ≤ gb1155)); have n4_ := am_ ((by rw [hg]; exact (below_size (bx0 HB.out)) : w.heap.size ≤ gb1155)); clear HO_14; clear HB; have HO_14 := n0_; have HB := n1_; have BK1155 := n2_; have GW1155 := n3_; have GE1155 := n4_; clear n0_ n1_ n2_ n3_ n4_; clear hb hbox hg; have hcz21_0 : w20.cell? ⟨gb1155, 0, none⟩ = some (.int .i64 0) := (blk_cell BK1155.out 0).trans rfl; have hcz21_1 : w20.cell? ⟨gb1155, 1, none⟩ = some (.int .i64 0) := (blk_cell BK1155.out 1).trans rfl; have hcz21_2 : w20.cell? ⟨gb1155, 2, none⟩ = some (.int .i64 0) := (blk_cell BK1155.out 2).trans rfl; have hfz21_0 := blk_frozen BK1155.out 0; have hfz21_1 := blk_frozen BK1155.out 1; have hfz21_2 := blk_frozen BK1155.out 2) | (go_at_call 214; (refine (impl_chi_isInside.calls k1 _ c0 l0 a2 ((rd_T122 t1151 x16_1).f0) ((rd_T122 t1151 x16_1).f1) ((rd_T122 t1151 x16_1).f2) true _ ?side1 ?side2 A18.out).mono ?_); (case side1 => exact Kd.C_below HR0.out (bx1 HB.out GE1155.out)); (case side2 => exact HC0.out); rintro e w22 ⟨rfl, hb⟩; have n0_ := am_ (Kd.R_below (by (with_reducible repeat (first | apply Kd.R_alloc | apply Kd.R_drewN | apply Kd.R_drew)); exact (Kd.R_mono (Kd.R_far (p := ⟨gb1155, 2, none⟩) (Kd.R_far (p := ⟨gb1155, 1, none⟩) (Kd.R_far (p := ⟨gb1155, 0, none⟩) (Kd.R_mono HO_14.out (fun k_ hk => (⟨hk, hk.2⟩ : _ ∧ k_ ≠ gb1155))) (fun _ hk => hk.2) (.int .i64 ((rd_T122 t1151 x16_1).f0))) (fun _ hk => hk.2) (.int .i64 ((rd_T122 t1151 x16_1).f1))) (fun _ hk => hk.2) (.int .i64 ((rd_T122 t1151 x16_1).f2))) (fun _ h_ => h_.1))) hb); have n1_ := am_ (blk_below (g := gb1155) (o := .cells #[.int .i64 ((rd_T122 t1151 x16_1).f0), .int .i64 ((rd_T122 t1151 x16_1).f1), .int .i64 ((rd_T122 t1151 x16_1).f2)] 122 (0, 0)) (by (with_reducible repeat (first | refine blk_drewN ?_ _ | refine blk_drew ?_ | refine blk_alloc ?_ _)); refine blk_put (cs := #[.int .i64 ((rd_T122 t1151 x16_1).f0), .int .i64 ((rd_T122 t1151 x16_1).f1), .int .i64 0]) ?_ 2 _ rfl; (with_reducible repeat (first | refine blk_drewN ?_ _ | refine blk_drew ?_ | refine blk_alloc ?_ _)); refine blk_put (cs := #[.int .i64 ((rd_T122 t1151 x16_1).f0), .int .i64 0, .int .i64 0]) ?_ 1 _ rfl; (with_reducible repeat (first | refine blk_drewN ?_ _ | refine blk_drew ?_ | refine blk_alloc ?_ _)); refine blk_put (cs := #[.int .i64 0, .int .i64 0, .int .i64 0]) ?_ 0 _ rfl; (with_reducible repeat (first | refine blk_drewN ?_ _ | refine blk_drew ?_ | refine blk_alloc ?_ _)); exact BK1155.out) hb); have n2_ := am_ (below_step (bx1 HB.out GE1155.out) hb); clear HO_14; clear BK1155; clear HB; have HO_14 := n0_; have BK1155 := n1_; have HB := n2_; clear n0_ n1_ n2_; (try clear hb); (try clear hb2); (try clear hk); (try clear hi))); try go_wp2_with (first | ((with_reducible refine gate_dst (N := 8) rfl ?_); refine box_event ?hg (N := 8) ?hd (cs := #[.int .i64 0, .int .i64 0, .int .i64 0]) (t := 122) ?hr ?_; (case hd => rfl); (case hg => rfl); (case hr => first | (go_simp; done) | (go_simp; rfl)); intro gb1155 hg w20 hbox hb; have n0_ := am_ (Kd.R_below (Kd.R_elderB (rx_ HO_14.out) gb1155 (Nat.le_of_eq hg.symm)) hb); have n1_ := am_ (below_step (bx0 HB.out) hb); have n2_ := am_ (hbox); have n3_ := am_ ((by rw [hg]; exact (below_size (bx0 HB.out)) : w.heap.size ≤ gb1155)); have n4_ := am_ ((by rw [hg]; exact (below_size (bx0 HB.out)) : w.heap.size ≤ gb1155)); clear HO_14; clear HB; have HO_14 := n0_; have HB := n1_; have BK1155 := n2_; have GW1155 := n3_; have GE1155 := n4_; clear n0_ n1_ n2_ n3_ n4_; clear hb hbox hg; have hcz21_0 : w20.cell? ⟨gb1155, 0, none⟩ = some (.int .i64 0) := (blk_cell BK1155.out 0).trans rfl; have hcz21_1 : w20.cell? ⟨gb1155, 1, none⟩ = some (.int .i64 0) := (blk_cell BK1155.out 1).trans rfl; have hcz21_2 : w20.cell? ⟨gb1155, 2, none⟩ = some (.int .i64 0) := (blk_cell BK1155.out 2).trans rfl; have hfz21_0 := blk_frozen BK1155.out 0; have hfz21_1 := blk_frozen BK1155.out 1; have hfz21_2 := blk_frozen BK1155.out 2) | (go_at_call 214; (refine (impl_chi_isInside.calls k1 _ c0 l0 a2 ((rd_T122 t1151 x16_1).f0) ((rd_T122 t1151 x16_1).f1) ((rd_T122 t1151 x16_1).f2) true _ ?side1 ?side2 A18.out).mono ?_); (case side1 => exact Kd.C_below HR0.out (bx1 HB.out GE1155.out)); (case side2 => exact HC0.out); rintro e w22 ⟨rfl, hb⟩; have n0_ := am_ (Kd.R_below (by (with_reducible repeat (first | apply Kd.R_alloc | apply Kd.R_drewN | apply Kd.R_drew)); exact (Kd.R_mono (Kd.R_far (p := ⟨gb1155, 2, none⟩) (Kd.R_far (p := ⟨gb1155, 1, none⟩) (Kd.R_far (p := ⟨gb1155, 0, none⟩) (Kd.R_mono HO_14.out (fun k_ hk => (⟨hk, hk.2⟩ : _ ∧ k_ ≠ gb1155))) (fun _ hk => hk.2) (.int .i64 ((rd_T122 t1151 x16_1).f0))) (fun _ hk => hk.2) (.int .i64 ((rd_T122 t1151 x16_1).f1))) (fun _ hk => hk.2) (.int .i64 ((rd_T122 t1151 x16_1).f2))) (fun _ h_ => h_.1))) hb); have n1_ := am_ (blk_below (g := gb1155) (o := .cells #[.int .i64 ((rd_T122 t1151 x16_1).f0), .int .i64 ((rd_T122 t1151 x16_1).f1), .int .i64 ((rd_T122 t1151 x16_1).f2)] 122 (0, 0)) (by (with_reducible repeat (first | refine blk_drewN ?_ _ | refine blk_drew ?_ | refine blk_alloc ?_ _)); refine blk_put (cs := #[.int .i64 ((rd_T122 t1151 x16_1).f0), .int .i64 ((rd_T122 t1151 x16_1).f1), .int .i64 0]) ?_ 2 _ rfl; (with_reducible repeat (first | refine blk_drewN ?_ _ | refine blk_drew ?_ | refine blk_alloc ?_ _)); refine blk_put (cs := #[.int .i64 ((rd_T122 t1151 x16_1).f0), .int .i64 0, .int .i64 0]) ?_ 1 _ rfl; (with_reducible repeat (first | refine blk_drewN ?_ _ | refine blk_drew ?_ | refine blk_alloc ?_ _)); refine blk_put (cs := #[.int .i64 0, .int .i64 0, .int .i64 0]) ?_ 0 _ rfl; (with_reducible repeat (first | refine blk_drewN ?_ _ | refine blk_drew ?_ | refine blk_alloc ?_ _)); exact BK1155.out) hb); have n2_ := am_ (below_step (bx1 HB.out GE1155.out) hb); clear HO_14; clear BK1155; clear HB; have HO_14 := n0_; have BK1155 := n1_; have HB := n2_; clear n0_ n1_ n2_; (try clear hb); (try clear hb2); (try clear hk); (try clear hi))))
            go_ret
            exact ⟨by first | rfl | (simp [errW_none, errW_some] <;> rfl) | (simp only [← hji12, ← hji14, ← hji16]; first | rfl | (simp [errW_none, errW_some] <;> rfl)) | (simp [*, errW_none, errW_some] <;> rfl), bx1 HB.out GE1155.out⟩
           ·replace c19 := Bool.eq_false_iff.mpr c19
            subst c19
            have H1 : (impl_chi_inHull.l0 k1 l0 a1 a2 t1151 (t1151.length : Int) (wrap64 (x16_1 + 1))) = some r := by rw [if_neg (show ¬ (false = true) by decide)] at H; exact H
            clear H
            have H := H1
            clear H1
            have H' := am_ H
            clear H
            have p1154 : 0 ≤ (x16_1 : Int) := of_decide_eq_true (by first | (with_reducible assumption) | assumption)
            have q1154 : x16_1 < (t1151.length : Int) := of_decide_eq_true (by first | (with_reducible assumption) | assumption)
            obtain ⟨ad1154, e1154, hx1154_0, hx1154_1, hx1154_2⟩ := at_T122 (Kd.R_reads' HO_14.out).2.2 x16_1 p1154 q1154
            cases e1154
            replace p1154 := eq_true p1154
            replace q1154 := eq_true q1154
            go_wp2_with (first | ((with_reducible refine gate_dst (N := 8) rfl ?_); refine box_event ?hg (N := 8) ?hd (cs := #[.int .i64 0, .int .i64 0, .int .i64 0]) (t := 122) ?hr ?_; (case hd => rfl); (case hg => rfl); (case hr => first | (go_simp; done) | (go_simp; rfl)); intro gb1155 hg w23 hbox hb; have n0_ := am_ (Kd.R_below (Kd.R_elderB (rx_ HO_14.out) gb1155 (Nat.le_of_eq hg.symm)) hb); have n1_ := am_ (below_step (bx0 HB.out) hb); have n2_ := am_ (hbox); have n3_ := am_ ((by rw [hg]; exact (below_size (bx0 HB.out)) : w.heap.size ≤ gb1155)); have n4_ := am_ ((by rw [hg]; exact (below_size (bx0 HB.out)) : w.heap.size ≤ gb1155)); clear HO_14; clear HB; have HO_14 := n0_; have HB := n1_; have BK1155 := n2_; have GW1155 := n3_; have GE1155 := n4_; clear n0_ n1_ n2_ n3_ n4_; clear hb hbox hg; have hcz24_0 : w23.cell? ⟨gb1155, 0, none⟩ = some (.int .i64 0) := (blk_cell BK1155.out 0).trans rfl; have hcz24_1 : w23.cell? ⟨gb1155, 1, none⟩ = some (.int .i64 0) := (blk_cell BK1155.out 1).trans rfl; have hcz24_2 : w23.cell? ⟨gb1155, 2, none⟩ = some (.int .i64 0) := (blk_cell BK1155.out 2).trans rfl; have hfz24_0 := blk_frozen BK1155.out 0; have hfz24_1 := blk_frozen BK1155.out 1; have hfz24_2 := blk_frozen BK1155.out 2) | (go_at_call 214; (refine (impl_chi_isInside.calls k1 _ c0 l0 a2 ((rd_T122 t1151 x16_1).f0) ((rd_T122 t1151 x16_1).f1) ((rd_T122 t1151 x16_1).f2) false _ ?side1 ?side2 A18.out).mono ?_); (case side1 => exact Kd.C_below HR0.out (bx1 HB.out GE1155.out)); (case side2 => exact HC0.out); rintro e w25 ⟨rfl, hb⟩; have n0_ := am_ (Kd.R_below (by (with_reducible repeat (first | apply Kd.R_alloc | apply Kd.R_drewN | apply Kd.R_drew)); exact (Kd.R_mono (Kd.R_far (p := ⟨gb1155, 2, none⟩) (Kd.R_far (p := ⟨gb1155, 1, none⟩) (Kd.R_far (p := ⟨gb1155, 0, none⟩) (Kd.R_mono HO_14.out (fun k_ hk => (⟨hk, hk.2⟩ : _ ∧ k_ ≠ gb1155))) (fun _ hk => hk.2) (.int .i64 ((rd_T122 t1151 x16_1).f0))) (fun _ hk => hk.2) (.int .i64 ((rd_T122 t1151 x16_1).f1))) (fun _ hk => hk.2) (.int .i64 ((rd_T122 t1151 x16_1).f2))) (fun _ h_ => h_.1))) hb); have n1_ := am_ (blk_below (g := gb1155) (o := .cells #[.int .i64 ((rd_T122 t1151 x16_1).f0), .int .i64 ((rd_T122 t1151 x16_1).f1), .int .i64 ((rd_T122 t1151 x16_1).f2)] 122 (0, 0)) (by (with_reducible repeat (first | refine blk_drewN ?_ _ | refine blk_drew ?_ | refine blk_alloc ?_ _)); refine blk_put (cs := #[.int .i64 ((rd_T122 t1151 x16_1).f0), .int .i64 ((rd_T122 t1151 x16_1).f1), .int .i64 0]) ?_ 2 _ rfl; (with_reducible repeat (first | refine blk_drewN ?_ _ | refine blk_drew ?_ | refine blk_alloc ?_ _)); refine blk_put (cs := #[.int .i64 ((rd_T122 t1151 x16_1).f0), .int .i64 0, .int .i64 0]) ?_ 1 _ rfl; (with_reducible repeat (first | refine blk_drewN ?_ _ | refine blk_drew ?_ | refine blk_alloc ?_ _)); refine blk_put (cs := #[.int .i64 0, .int .i64 0, .int .i64 0]) ?_ 0 _ rfl; (with_reducible repeat (first | refine blk_drewN ?_ _ | refine blk_drew ?_ | refine blk_alloc ?_ _)); exact BK1155.out) hb); have n2_ := am_ (below_step (bx1 HB.out GE1155.out) hb); clear HO_14; clear BK1155; clear HB; have HO_14 := n0_; have BK1155 := n1_; have HB := n2_; clear n0_ n1_ n2_; (try clear hb); (try clear hb2); (try clear hk); (try clear hi)))
            repeat (go_quiet (first | ((with_reducible refine gate_dst (N := 8) rfl ?_); refine box_event ?hg (N := 8) ?hd (cs := #[.int .i64 0, .int .i64 0, .int .i64 0]) (t := 122) ?hr ?_; (case hd => rfl); (case hg => rfl); (case hr => first | (go_simp; done) | (go_simp; rfl)); intro gb1155 hg w23 hbox hb; have n0_ := am_ (Kd.R_below (Kd.R_elderB (rx_ HO_14.out) gb1155 (Nat.le_of_eq hg.symm)) hb); have n1_ := am_ (below_step (bx0 HB.out) hb); have n2_ := am_ (hbox); have n3_ := am_ ((by rw [hg]; exact (below_size (bx0 HB.out)) : w.heap.size ≤ gb1155)); have n4_ := am_ ((by rw [hg]; exact (below_size (bx0 HB.out)) : w.heap.size ≤ gb1155)); clear HO_14; clear HB; have HO_14 := n0_; have HB := n1_; have BK1155 := n2_; have GW1155 := n3_; have GE1155 := n4_; clear n0_ n1_ n2_ n3_ n4_; clear hb hbox hg; have hcz24_0 : w23.cell? ⟨gb1155, 0, none⟩ = some (.int .i64 0) := (blk_cell BK1155.out 0).trans rfl; have hcz24_1 : w23.cell? ⟨gb1155, 1, none⟩ = some (.int .i64 0) := (blk_cell BK1155.out 1).trans rfl; have hcz24_2 : w23.cell? ⟨gb1155, 2, none⟩ = some (.int .i64 0) := (blk_cell BK1155.out 2).trans rfl; have hfz24_0 := blk_frozen BK1155.out 0; have hfz24_1 := blk_frozen BK1155.out 1; have hfz24_2 := blk_frozen BK1155.out 2) | (go_at_call 214; (refine (impl_chi_isInside.calls k1 _ c0 l0 a2 ((rd_T122 t1151 x16_1).f0) ((rd_T122 t1151 x16_1).f1) ((rd_T122 t1151 x16_1).f2) false _ ?side1 ?side2 A18.out).mono ?_); (case side1 => exact Kd.C_below HR0.out (bx1 HB.out GE1155.out)); (case side2 => exact HC0.out); rintro e w25 ⟨rfl, hb⟩; have n0_ := am_ (Kd.R_below (by (with_reducible repeat (first | apply Kd.R_alloc | apply Kd.R_drewN | apply Kd.R_drew)); exact (Kd.R_mono (Kd.R_far (p := ⟨gb1155, 2, none⟩) (Kd.R_far (p := ⟨gb1155, 1, none⟩) (Kd.R_far (p := ⟨gb1155, 0, none⟩) (Kd.R_mono HO_14.out (fun k_ hk => (⟨hk, hk.2⟩ : _ ∧ k_ ≠ gb1155))) (fun _ hk => hk.2) (.int .i64 ((rd_T122 t1151 x16_1).f0))) (fun _ hk => hk.2) (.int .i64 ((rd_T122 t1151 x16_1).f1))) (fun _ hk => hk.2) (.int .i64 ((rd_T122 t1151 x16_1).f2))) (fun _ h_ => h_.1))) hb); have n1_ := am_ (blk_below (g := gb1155) (o := .cells #[.int .i64 ((rd_T122 t1151 x16_1).f0), .int .i64 ((rd_T122 t1151 x16_1).f1), .int .i64 ((rd_T122 t1151 x16_1).f2)] 122 (0, 0)) (by (with_reducible repeat (first | refine blk_drewN ?_ _ | refine blk_drew ?_ | refine blk_alloc ?_ _)); refine blk_put (cs := #[.int .i64 ((rd_T122 t1151 x16_1).f0), .int .i64 ((rd_T122 t1151 x16_1).f1), .int .i64 0]) ?_ 2 _ rfl; (with_reducible repeat (first | refine blk_drewN ?_ _ | refine blk_drew ?_ | refine blk_alloc ?_ _)); refine blk_put (cs := #[.int .i64 ((rd_T122 t1151 x16_1).f0), .int .i64 0, .int .i64 0]) ?_ 1 _ rfl; (with_reducible repeat (first | refine blk_drewN ?_ _ | refine blk_drew ?_ | refine blk_alloc ?_ _)); refine blk_put (cs := #[.int .i64 0, .int .i64 0, .int .i64 0]) ?_ 0 _ rfl; (with_reducible repeat (first | refine blk_drewN ?_ _ | refine blk_drew ?_ | refine blk_alloc ?_ _)); exact BK1155.out) hb); have n2_ := am_ (below_step (bx1 HB.out GE1155.out) hb); clear HO_14; clear BK1155; clear HB; have HO_14 := n0_; have BK1155 := n1_; have HB := n2_; clear n0_ n1_ n2_; (try clear hb); (try clear hb2); (try clear hk); (try clear hi))); try go_wp2_with (first | ((with_reducible refine gate_dst (N := 8) rfl ?_); refine box_event ?hg (N := 8) ?hd (cs := #[.int .i64 0, .int .i64 0, .int .i64 0]) (t := 122) ?hr ?_; (case hd => rfl); (case hg => rfl); (case hr => first | (go_simp; done) | (go_simp; rfl)); intro gb1155 hg w23 hbox hb; have n0_ := am_ (Kd.R_below (Kd.R_elderB (rx_ HO_14.out) gb1155 (Nat.le_of_eq hg.symm)) hb); have n1_ := am_ (below_step (bx0 HB.out) hb); have n2_ := am_ (hbox); have n3_ := am_ ((by rw [hg]; exact (below_size (bx0 HB.out)) : w.heap.size ≤ gb1155)); have n4_ := am_ ((by rw [hg]; exact (below_size (bx0 HB.out)) : w.heap.size ≤ gb1155)); clear HO_14; clear HB; have HO_14 := n0_; have HB := n1_; have BK1155 := n2_; have GW1155 := n3_; have GE1155 := n4_; clear n0_ n1_ n2_ n3_ n4_; clear hb hbox hg; have hcz24_0 : w23.cell? ⟨gb1155, 0, none⟩ = some (.int .i64 0) := (blk_cell BK1155.out 0).trans rfl; have hcz24_1 : w23.cell? ⟨gb1155, 1, none⟩ = some (.int .i64 0) := (blk_cell BK1155.out 1).trans rfl; have hcz24_2 : w23.cell? ⟨gb1155, 2, none⟩ = some (.int .i64 0) := (blk_cell BK1155.out 2).trans rfl; have hfz24_0 := blk_frozen BK1155.out 0; have hfz24_1 := blk_frozen BK1155.out 1; have hfz24_2 := blk_frozen BK1155.out 2) | (go_at_call 214; (refine (impl_chi_isInside.calls k1 _ c0 l0 a2 ((rd_T122 t1151 x16_1).f0) ((rd_T122 t1151 x16_1).f1) ((rd_T122 t1151 x16_1).f2) false _ ?side1 ?side2 A18.out).mono ?_); (case side1 => exact Kd.C_below HR0.out (bx1 HB.out GE1155.out)); (case side2 => exact HC0.out); rintro e w25 ⟨rfl, hb⟩; have n0_ := am_ (Kd.R_below (by (with_reducible repeat (first | apply Kd.R_alloc | apply Kd.R_drewN | apply Kd.R_drew)); exact (Kd.R_mono (Kd.R_far (p := ⟨gb1155, 2, none⟩) (Kd.R_far (p := ⟨gb1155, 1, none⟩) (Kd.R_far (p := ⟨gb1155, 0, none⟩) (Kd.R_mono HO_14.out (fun k_ hk => (⟨hk, hk.2⟩ : _ ∧ k_ ≠ gb1155))) (fun _ hk => hk.2) (.int .i64 ((rd_T122 t1151 x16_1).f0))) (fun _ hk => hk.2) (.int .i64 ((rd_T122 t1151 x16_1).f1))) (fun _ hk => hk.2) (.int .i64 ((rd_T122 t1151 x16_1).f2))) (fun _ h_ => h_.1))) hb); have n1_ := am_ (blk_below (g := gb1155) (o := .cells #[.int .i64 ((rd_T122 t1151 x16_1).f0), .int .i64 ((rd_T122 t1151 x16_1).f1), .int .i64 ((rd_T122 t1151 x16_1).f2)] 122 (0, 0)) (by (with_reducible repeat (first | refine blk_drewN ?_ _ | refine blk_drew ?_ | refine blk_alloc ?_ _)); refine blk_put (cs := #[.int .i64 ((rd_T122 t1151 x16_1).f0), .int .i64 ((rd_T122 t1151 x16_1).f1), .int .i64 0]) ?_ 2 _ rfl; (with_reducible repeat (first | refine blk_drewN ?_ _ | refine blk_drew ?_ | refine blk_alloc ?_ _)); refine blk_put (cs := #[.int .i64 ((rd_T122 t1151 x16_1).f0), .int .i64 0, .int .i64 0]) ?_ 1 _ rfl; (with_reducible repeat (first | refine blk_drewN ?_ _ | refine blk_drew ?_ | refine blk_alloc ?_ _)); refine blk_put (cs := #[.int .i64 0, .int .i64 0, .int .i64 0]) ?_ 0 _ rfl; (with_reducible repeat (first | refine blk_drewN ?_ _ | refine blk_drew ?_ | refine blk_alloc ?_ _)); exact BK1155.out) hb); have n2_ := am_ (below_step (bx1 HB.out GE1155.out) hb); clear HO_14; clear BK1155; clear HB; have HO_14 := n0_; have BK1155 := n1_; have HB := n2_; clear n0_ n1_ n2_; (try clear hb); (try clear hb2); (try clear hk); (try clear hi))))
            go_roundg k1
            case measure => have := HK1.out; omega
            case rel => exact ⟨(wrap64 (x16_1 + 1)), (by first | rfl | (simp; done) | (simp [*]; done)), H', ⟨by have := HK1.out; omega⟩, ⟨by (with_reducible repeat (first | apply Kd.R_alloc | apply Kd.R_drewN | apply Kd.R_drew)); exact Kd.R_mono HO_14.out (fun _ hk => trivial)⟩, ⟨bx1 HB.out GE1155.out⟩⟩
          ·rw [if_neg c17] at H
           have c17b0 : ((Go.bits .and .i64 a1 (Go.bits .or .i64 (Go.bits .or .i64 (ji12) (ji14)) (ji16))) == (Go.bits .or .i64 (Go.bits .or .i64 (ji12) (ji14)) (ji16))) = false := beq_eq_false_iff_ne.mpr c17
           have c17b1 : ((Go.bits .and .i64 a1 (Go.bits .or .i64 (Go.bits .or .i64 (ji12) (ji14)) (ji16))) != (Go.bits .or .i64 (Go.bits .or .i64 (ji12) (ji14)) (ji16))) = true := bne_iff_ne.mpr c17
           have H' := am_ H
           clear H
           have p1154 : 0 ≤ (x16_1 : Int) := of_decide_eq_true (by first | (with_reducible assumption) | assumption)
           have q1154 : x16_1 < (t1151.length : Int) := of_decide_eq_true (by first | (with_reducible assumption) | assumption)
           obtain ⟨ad1154, e1154, hx1154_0, hx1154_1, hx1154_2⟩ := at_T122 (Kd.R_reads' HO_14.out).2.2 x16_1 p1154 q1154
           cases e1154
           replace p1154 := eq_true p1154
           replace q1154 := eq_true q1154
           go_wp2_with (first | ((with_reducible refine gate_dst (N := 8) rfl ?_); refine box_event ?hg (N := 8) ?hd (cs := #[.int .i64 0, .int .i64 0, .int .i64 0]) (t := 122) ?hr ?_; (case hd => rfl); (case hg => rfl); (case hr => first | (go_simp; done) | (go_simp; rfl)); intro gb1155 hg w26 hbox hb; have n0_ := am_ (Kd.R_below (Kd.R_elderB (rx_ HO_14.out) gb1155 (Nat.le_of_eq hg.symm)) hb); have n1_ := am_ (below_step (bx0 HB.out) hb); have n2_ := am_ (hbox); have n3_ := am_ ((by rw [hg]; exact (below_size (bx0 HB.out)) : w.heap.size ≤ gb1155)); have n4_ := am_ ((by rw [hg]; exact (below_size (bx0 HB.out)) : w.heap.size ≤ gb1155)); clear HO_14; clear HB; have HO_14 := n0_; have HB := n1_; have BK1155 := n2_; have GW1155 := n3_; have GE1155 := n4_; clear n0_ n1_ n2_ n3_ n4_; clear hb hbox hg; have hcz27_0 : w26.cell? ⟨gb1155, 0, none⟩ = some (.int .i64 0) := (blk_cell BK1155.out 0).trans rfl; have hcz27_1 : w26.cell? ⟨gb1155, 1, none⟩ = some (.int .i64 0) := (blk_cell BK1155.out 1).trans rfl; have hcz27_2 : w26.cell? ⟨gb1155, 2, none⟩ = some (.int .i64 0) := (blk_cell BK1155.out 2).trans rfl; have hfz27_0 := blk_frozen BK1155.out 0; have hfz27_1 := blk_frozen BK1155.out 1; have hfz27_2 := blk_frozen BK1155.out 2))
           repeat (go_quiet (first | ((with_reducible refine gate_dst (N := 8) rfl ?_); refine box_event ?hg (N := 8) ?hd (cs := #[.int .i64 0, .int .i64 0, .int .i64 0]) (t := 122) ?hr ?_; (case hd => rfl); (case hg => rfl); (case hr => first | (go_simp; done) | (go_simp; rfl)); intro gb1155 hg w26 hbox hb; have n0_ := am_ (Kd.R_below (Kd.R_elderB (rx_ HO_14.out) gb1155 (Nat.le_of_eq hg.symm)) hb); have n1_ := am_ (below_step (bx0 HB.out) hb); have n2_ := am_ (hbox); have n3_ := am_ ((by rw [hg]; exact (below_size (bx0 HB.out)) : w.heap.size ≤ gb1155)); have n4_ := am_ ((by rw [hg]; exact (below_size (bx0 HB.out)) : w.heap.size ≤ gb1155)); clear HO_14; clear HB; have HO_14 := n0_; have HB := n1_; have BK1155 := n2_; have GW1155 := n3_; have GE1155 := n4_; clear n0_ n1_ n2_ n3_ n4_; clear hb hbox hg; have hcz27_0 : w26.cell? ⟨gb1155, 0, none⟩ = some (.int .i64 0) := (blk_cell BK1155.out 0).trans rfl; have hcz27_1 : w26.cell? ⟨gb1155, 1, none⟩ = some (.int .i64 0) := (blk_cell BK1155.out 1).trans rfl; have hcz27_2 : w26.cell? ⟨gb1155, 2, none⟩ = some (.int .i64 0) := (blk_cell BK1155.out 2).trans rfl; have hfz27_0 := blk_frozen BK1155.out 0; have hfz27_1 := blk_frozen BK1155.out 1; have hfz27_2 := blk_frozen BK1155.out 2)); try go_wp2_with (first | ((with_reducible refine gate_dst (N := 8) rfl ?_); refine box_event ?hg (N := 8) ?hd (cs := #[.int .i64 0, .int .i64 0, .int .i64 0]) (t := 122) ?hr ?_; (case hd => rfl); (case hg => rfl); (case hr => first | (go_simp; done) | (go_simp; rfl)); intro gb1155 hg w26 hbox hb; have n0_ := am_ (Kd.R_below (Kd.R_elderB (rx_ HO_14.out) gb1155 (Nat.le_of_eq hg.symm)) hb); have n1_ := am_ (below_step (bx0 HB.out) hb); have n2_ := am_ (hbox); have n3_ := am_ ((by rw [hg]; exact (below_size (bx0 HB.out)) : w.heap.size ≤ gb1155)); have n4_ := am_ ((by rw [hg]; exact (below_size (bx0 HB.out)) : w.heap.size ≤ gb1155)); clear HO_14; clear HB; have HO_14 := n0_; have HB := n1_; have BK1155 := n2_; have GW1155 := n3_; have GE1155 := n4_; clear n0_ n1_ n2_ n3_ n4_; clear hb hbox hg; have hcz27_0 : w26.cell? ⟨gb1155, 0, none⟩ = some (.int .i64 0) := (blk_cell BK1155.out 0).trans rfl; have hcz27_1 : w26.cell? ⟨gb1155, 1, none⟩ = some (.int .i64 0) := (blk_cell BK1155.out 1).trans rfl; have hcz27_2 : w26.cell? ⟨gb1155, 2, none⟩ = some (.int .i64 0) := (blk_cell BK1155.out 2).trans rfl; have hfz27_0 := blk_frozen BK1155.out 0; have hfz27_1 := blk_frozen BK1155.out 1; have hfz27_2 := blk_frozen BK1155.out 2)))
           go_roundg k1
           case measure => have := HK1.out; omega
           case rel => exact ⟨(wrap64 (x16_1 + 1)), (by first | rfl | (simp; done) | (simp [*]; done)), H', ⟨by have := HK1.out; omega⟩, ⟨by (with_reducible repeat (first | apply Kd.R_alloc | apply Kd.R_drewN | apply Kd.R_drew)); exact Kd.R_mono (Kd.R_far (p := ⟨gb1155, 2, none⟩) (Kd.R_far (p := ⟨gb1155, 1, none⟩) (Kd.R_far (p := ⟨gb1155, 0, none⟩) (Kd.R_mono HO_14.out (fun k_ hk => (⟨hk, hk.2⟩ : _ ∧ k_ ≠ gb1155))) (fun _ hk => hk.2) (.int .i64 ((rd_T122 t1151 x16_1).f0))) (fun _ hk => hk.2) (.int .i64 ((rd_T122 t1151 x16_1).f1))) (fun _ hk => hk.2) (.int .i64 ((rd_T122 t1151 x16_1).f2))) (fun _ hk => trivial)⟩, ⟨bx1 HB.out GE1155.out⟩⟩
         ·rw [if_neg c15] at H
          exact absurd H (by simp)
        ·rw [if_neg c13] at H
         exact absurd H (by simp)
       ·rw [if_neg c11] at H
        exact absurd H (by simp)
      ·rw [if_neg c10] at H
       exact absurd H (by simp)
     ·rw [if_neg c9] at H
      exact absurd H (by simp)
    ·rw [if_neg c8] at H
     have c8b0 : decide (x16_1 < (t1151.length : Int)) = false := decide_eq_false c8
     clear c8
     obtain rfl := Option.some.inj H
     go_wp2
     repeat (go_quiet (fail); try go_wp2)
     go_ret
     exact ⟨by first | rfl | (simp [errW_none, errW_some] <;> rfl) | (simp [*, errW_none, errW_some] <;> rfl), bx0 HB.out⟩
 ·rw [if_neg c4] at H
  exact absurd H (by simp)
def impl_chi_extremeIn.l0 : Nat → List Int → Int → Int → Int → Option (Int)
 | 0, _, _, _, _ => none
 | k + 1, x0, x1, x5, x6 => if 344 ≤ (x0.length : Int) then (if x6 < (chiN x0) then (if 0 ≤ x6 then (if (Go.bits .and .i64 (shr .i64 x1 x6) 1) = 1 then ((impl_chi_inHull.f k x0 (Go.bits .andNot .i64 x1 (shl .i64 1 x6)) x6).bind fun t1158 => (if t1158 = true then (impl_chi_extremeIn.l0 k x0 x1 x5 (wrap64 (x6 + 1))) else (impl_chi_extremeIn.l0 k x0 x1 (Go.bits .or .i64 x5 (shl .i64 1 x6)) (wrap64 (x6 + 1))))) else (impl_chi_extremeIn.l0 k x0 x1 x5 (wrap64 (x6 + 1)))) else (none)) else (some x5)) else (none)
def impl_chi_extremeIn.f (k : Nat) (l0 : List Int) (a1 : Int) : Option (Int) := impl_chi_extremeIn.l0 k l0 a1 0 0
set_option maxHeartbeats 8000000 in
set_option maxRecDepth 100000 in
theorem impl_chi_extremeIn.calls (k : Nat) (A0 : Option Addr) (c0 : Nat) (l0 : List Int) (a1 : Int) (r : Int) (w : World) (hr0 : Kd.C (Kd.int .i64) w A0 l0.length l0) (hc0 : l0.length ≤ c0) (h : impl_chi_extremeIn.f k l0 a1 = some r) :
  Calls Try.prog 168 #[.pointer A0, .int .i64 a1] w fun e w' => e = .returned (.int .i64 r) ∧ Below w.heap.size w w' := by
 have HR0 := am_ hr0
 have HC0 := am_ hc0
 clear hr0 hc0
 have HB := am_ (Below.refl w.heap.size w)
 have H : (impl_chi_extremeIn.l0 k l0 a1 0 0) = some r := h
 clear h
 have H' := am_ H
 clear H
 go_enter Try.func168, Try.ntmps168
 go_wp2
 go_loopg [5, 6] k (fun kq v5 v6 w' => ∃ (x5_1 : Int) (x6_1 : Int), v5 = .int .i64 x5_1 ∧ v6 = .int .i64 x6_1 ∧ Aside0 (impl_chi_extremeIn.l0 kq l0 a1 x5_1 x6_1 = some r) ∧ Aside0 (kq ≤ k) ∧ Aside0 (Below w.heap.size w w'))
 case atStart => exact ⟨(0), (0), (by first | rfl | (simp; done) | (simp [*]; done)), (by first | rfl | (simp; done) | (simp [*]; done)), H', ⟨Nat.le_refl _⟩, ⟨bx0 HB.out⟩⟩
 case round =>
  clear H'
  try clear c1
  try clear p2
  obtain ⟨x5_1, x6_1, rfl, rfl, HA, HK1, HB⟩ := hrel
  cases gk with
  | zero => exact absurd HA.out (by simp [impl_chi_extremeIn.l0])
  | succ k1 =>
   have H := HA.out
   clear HA
   simp only [impl_chi_extremeIn.l0] at H
   by_cases c3 : 344 ≤ (l0.length : Int)
   ·rw [if_pos c3] at H
    have c3b0 := eq_true c3
    have c3b1 : decide (344 ≤ (l0.length : Int)) = true := decide_eq_true c3
    clear c3
    by_cases c4 : x6_1 < (chiN l0)
    ·rw [if_pos c4] at H
     have c4b0 : decide (x6_1 < (chiN l0)) = true := decide_eq_true c4
     clear c4
     by_cases c5 : 0 ≤ x6_1
     ·rw [if_pos c5] at H
      have c5b0 := eq_true c5
      have c5b1 : decide (0 ≤ x6_1) = true := decide_eq_true c5
      clear c5
      obtain ⟨ji6, hji6⟩ : ∃ j_ : Int, (shr .i64 a1 x6_1) = j_ := ⟨_, rfl⟩
      replace H : (if (Go.bits .and .i64 (ji6) 1) = 1 then ((impl_chi_inHull.f k1 l0 (Go.bits .andNot .i64 a1 (shl .i64 1 x6_1)) x6_1).bind fun t1158 => (if t1158 = true then (impl_chi_extremeIn.l0 k1 l0 a1 x5_1 (wrap64 (x6_1 + 1))) else (impl_chi_extremeIn.l0 k1 l0 a1 (Go.bits .or .i64 x5_1 (shl .i64 1 x6_1)) (wrap64 (x6_1 + 1))))) else (impl_chi_extremeIn.l0 k1 l0 a1 x5_1 (wrap64 (x6_1 + 1)))) = some r := by first | (rw [hji6] at H; exact H) | (simp only [hji6] at H ⊢; exact H)
      have hji6_ : (a1 / 2 ^ min x6_1.toNat 64) = ji6 := hji6
      have hji6z : x6_1 ≤ 64 → (a1 / 2 ^ x6_1.toNat) = ji6 := shr_small hji6
      by_cases c7 : (Go.bits .and .i64 (ji6) 1) = 1
      ·rw [if_pos c7] at H
       have c7b0 : ((Go.bits .and .i64 (ji6) 1) == 1) = true := beq_iff_eq.mpr c7
       have c7b1 : ((Go.bits .and .i64 (ji6) 1) != 1) = false := bne_eq_false_iff_eq.mpr c7
       clear c7
       have c8b0 := eq_true (of_decide_eq_true (by first | (with_reducible assumption) | assumption) : 0 ≤ x6_1)
       obtain ⟨ji9, hji9⟩ : ∃ j_ : Int, (shl .i64 1 x6_1) = j_ := ⟨_, rfl⟩
       replace H : ((impl_chi_inHull.f k1 l0 (Go.bits .andNot .i64 a1 (ji9)) x6_1).bind fun t1158 => (if t1158 = true then (impl_chi_extremeIn.l0 k1 l0 a1 x5_1 (wrap64 (x6_1 + 1))) else (impl_chi_extremeIn.l0 k1 l0 a1 (Go.bits .or .i64 x5_1 (ji9)) (wrap64 (x6_1 + 1))))) = some r := by first | (rw [hji9] at H; exact H) | (simp only [hji9] at H ⊢; exact H)
       have hji9_ : (IntKind.i64.wrap (1 * 2 ^ min x6_1.toNat 64)) = ji9 := hji9
       have hji9z : x6_1 ≤ 64 → (IntKind.i64.wrap (1 * 2 ^ x6_1.toNat)) = ji9 := shl_small hji9
       have hji9u : (IntKind.i64.wrap (2 ^ min x6_1.toNat 64)) = ji9 := by have h_ := hji9_; rw [Int.one_mul] at h_; exact h_
       have hji9v : x6_1 ≤ 64 → (IntKind.i64.wrap (2 ^ x6_1.toNat)) = ji9 := fun hle_ => by have h_ := hji9z hle_; rw [Int.one_mul] at h_; exact h_
       have hji9y : (wrap64 (1 * 2 ^ min x6_1.toNat 64)) = ji9 := (i64_w _).symm.trans hji9_
       have hji9x : x6_1 ≤ 64 → (wrap64 (1 * 2 ^ x6_1.toNat)) = ji9 := fun h_ => (i64_w _).symm.trans (hji9z h_)
       replace H := Option.bind_eq_some_iff.mp H
       obtain ⟨t1158, A100, H⟩ := H
       replace H : (if t1158 = true then (impl_chi_extremeIn.l0 k1 l0 a1 x5_1 (wrap64 (x6_1 + 1))) else (impl_chi_extremeIn.l0 k1 l0 a1 (Go.bits .or .i64 x5_1 (ji9)) (wrap64 (x6_1 + 1)))) = some r := H
       have A10 := am_ A100
       clear A100
       by_cases c11 : t1158 = true
       ·subst c11
        have H1 : (impl_chi_extremeIn.l0 k1 l0 a1 x5_1 (wrap64 (x6_1 + 1))) = some r := by rw [if_pos rfl] at H; exact H
        clear H
        have H := H1
        clear H1
        have H' := am_ H
        clear H
        have q1157 : 344 ≤ (l0.length : Int) := of_decide_eq_true (by first | (with_reducible assumption) | assumption)
        obtain ⟨ad1157, e1157, hx1157_0⟩ := chi_n HR0.out q1157
        cases e1157
        replace hx1157_0 := (HB.out.cell (World.block_lt_of_cell? w _ hx1157_0)).trans hx1157_0
        go_wp2_with (first | (go_at_call 202; (refine (impl_chi_inHull.calls k1 _ c0 l0 (Go.bits .andNot .i64 a1 (ji9)) x6_1 true _ ?side1 ?side2 A10.out).mono ?_); (case side1 => repeat (first | exact (Kd.C_below HR0.out HB.out) | (with_reducible refine Kd.C_alloc ?_ _) | (with_reducible refine Kd.C_drewN ?_ _) | (with_reducible refine Kd.C_drew ?_))); (case side2 => exact HC0.out); rintro e w12 ⟨rfl, hb⟩; have n0_ := am_ (below_step (bx0 HB.out) hb); clear HB; have HB := n0_; clear n0_; (try clear hb); (try clear hb2); (try clear hk); (try clear hi)))
        go_roundg k1
        case measure => have := HK1.out; omega
        case rel => exact ⟨(x5_1), (wrap64 (x6_1 + 1)), (by first | rfl | (simp; done) | (simp [*]; done)), (by first | rfl | (simp; done) | (simp [*]; done)), H', ⟨by have := HK1.out; omega⟩, ⟨bx0 HB.out⟩⟩
       ·replace c11 := Bool.eq_false_iff.mpr c11
        subst c11
        have H1 : (impl_chi_extremeIn.l0 k1 l0 a1 (Go.bits .or .i64 x5_1 (ji9)) (wrap64 (x6_1 + 1))) = some r := by rw [if_neg (show ¬ (false = true) by decide)] at H; exact H
        clear H
        have H := H1
        clear H1
        have c13b0 := eq_true (of_decide_eq_true (by first | (with_reducible assumption) | assumption) : 0 ≤ x6_1)
        have H' := am_ H
        clear H
        have q1157 : 344 ≤ (l0.length : Int) := of_decide_eq_true (by first | (with_reducible assumption) | assumption)
        obtain ⟨ad1157, e1157, hx1157_0⟩ := chi_n HR0.out q1157
        cases e1157
        replace hx1157_0 := (HB.out.cell (World.block_lt_of_cell? w _ hx1157_0)).trans hx1157_0
        go_wp2_with (first | (go_at_call 202; (refine (impl_chi_inHull.calls k1 _ c0 l0 (Go.bits .andNot .i64 a1 (ji9)) x6_1 false _ ?side1 ?side2 A10.out).mono ?_); (case side1 => repeat (first | exact (Kd.C_below HR0.out HB.out) | (with_reducible refine Kd.C_alloc ?_ _) | (with_reducible refine Kd.C_drewN ?_ _) | (with_reducible refine Kd.C_drew ?_))); (case side2 => exact HC0.out); rintro e w14 ⟨rfl, hb⟩; have n0_ := am_ (below_step (bx0 HB.out) hb); clear HB; have HB := n0_; clear n0_; (try clear hb); (try clear hb2); (try clear hk); (try clear hi)))
        go_roundg k1
        case measure => have := HK1.out; omega
        case rel => exact ⟨(Go.bits .or .i64 x5_1 (ji9)), (wrap64 (x6_1 + 1)), (by first | rfl | (simp; done) | (simp only [← hji9] <;> (first | rfl | simp)) | (simp [*]; done)), (by first | rfl | (simp; done) | (simp [*]; done)), H', ⟨by have := HK1.out; omega⟩, ⟨bx0 HB.out⟩⟩
      ·rw [if_neg c7] at H
       have c7b0 : ((Go.bits .and .i64 (ji6) 1) == 1) = false := beq_eq_false_iff_ne.mpr c7
       have c7b1 : ((Go.bits .and .i64 (ji6) 1) != 1) = true := bne_iff_ne.mpr c7
       have H' := am_ H
       clear H
       have q1157 : 344 ≤ (l0.length : Int) := of_decide_eq_true (by first | (with_reducible assumption) | assumption)
       obtain ⟨ad1157, e1157, hx1157_0⟩ := chi_n HR0.out q1157
       cases e1157
       replace hx1157_0 := (HB.out.cell (World.block_lt_of_cell? w _ hx1157_0)).trans hx1157_0
       go_wp2
       go_roundg k1
       case measure => have := HK1.out; omega
       case rel => exact ⟨(x5_1), (wrap64 (x6_1 + 1)), (by first | rfl | (simp; done) | (simp [*]; done)), (by first | rfl | (simp; done) | (simp [*]; done)), H', ⟨by have := HK1.out; omega⟩, ⟨bx0 HB.out⟩⟩
     ·rw [if_neg c5] at H
      exact absurd H (by simp)
    ·rw [if_neg c4] at H
     have c4b0 : decide (x6_1 < (chiN l0)) = false := decide_eq_false c4
     clear c4
     obtain rfl := Option.some.inj H
     have q1157 : 344 ≤ (l0.length : Int) := of_decide_eq_true (by first | (with_reducible assumption) | assumption)
     obtain ⟨ad1157, e1157, hx1157_0⟩ := chi_n HR0.out q1157
     cases e1157
     replace hx1157_0 := (HB.out.cell (World.block_lt_of_cell? w _ hx1157_0)).trans hx1157_0
     go_wp2
     go_ret
     exact ⟨by first | rfl | (simp [errW_none, errW_some] <;> rfl) | (simp [*, errW_none, errW_some] <;> rfl), bx0 HB.out⟩
   ·rw [if_neg c3] at H
    exact absurd H (by simp)
def impl_fullSet.f (a0 : Int) : Option (Int) := if 0 ≤ a0 then (some (wrap64 ((shl .i64 1 a0) - 1))) else (none)
set_option maxHeartbeats 8000000 in
set_option maxRecDepth 100000 in
theorem impl_fullSet.calls (a0 : Int) (r : Int) (w : World) (h : impl_fullSet.f a0 = some r) :
  Calls Try.prog 169 #[.int .i64 a0] w fun e w' => e = .returned (.int .i64 r) ∧ Drawn0 w w' := by
 have H : (if 0 ≤ a0 then (some (wrap64 ((shl .i64 1 a0) - 1))) else (none)) = some r := h
 clear h
 by_cases c2 : 0 ≤ a0
 ·rw [if_pos c2] at H
  have c2b0 := eq_true c2
  have c2b1 : decide (0 ≤ a0) = true := decide_eq_true c2
  clear c2
  obtain ⟨ji3, hji3⟩ : ∃ j_ : Int, (shl .i64 1 a0) = j_ := ⟨_, rfl⟩
  replace H : (some (wrap64 ((ji3) - 1))) = some r := by first | (rw [hji3] at H; exact H) | (simp only [hji3] at H ⊢; exact H)
  have hji3_ : (IntKind.i64.wrap (1 * 2 ^ min a0.toNat 64)) = ji3 := hji3
  have hji3z : a0 ≤ 64 → (IntKind.i64.wrap (1 * 2 ^ a0.toNat)) = ji3 := shl_small hji3
  have hji3u : (IntKind.i64.wrap (2 ^ min a0.toNat 64)) = ji3 := by have h_ := hji3_; rw [Int.one_mul] at h_; exact h_
  have hji3v : a0 ≤ 64 → (IntKind.i64.wrap (2 ^ a0.toNat)) = ji3 := fun hle_ => by have h_ := hji3z hle_; rw [Int.one_mul] at h_; exact h_
  have hji3y : (wrap64 (1 * 2 ^ min a0.toNat 64)) = ji3 := (i64_w _).symm.trans hji3_
  have hji3x : a0 ≤ 64 → (wrap64 (1 * 2 ^ a0.toNat)) = ji3 := fun h_ => (i64_w _).symm.trans (hji3z h_)
  obtain rfl := Option.some.inj H
  go_enter Try.func169, Try.ntmps169
  go_wp2
  go_ret
  exact ⟨by first | rfl | (simp; done) | (simp only [← hji3] <;> (first | rfl | simp)) | (simp [*]; done), by repeat (first | exact Drawn0.refl _ | apply Drawn0.step)⟩
 ·rw [if_neg c2] at H
  exact absurd H (by simp)
mutual
def impl_chi_hull.l0 : Nat → List Int → List Int → List Int → Option (List Int)
 | 0, _, _, _ => none
 | k + 1, x0, x3, x4 => if (x4.length : Int) < (x3.length : Int) then (if 0 ≤ (wrap64 ((x4.length : Int) - 1)) then (if (wrap64 ((x4.length : Int) - 1)) < (x4.length : Int) then (impl_chi_hull.l1 k x0 x3 x4 (rd x4 (wrap64 ((x4.length : Int) - 1))) x3 (x3.length : Int) 0) else (none)) else (none)) else (some x4)
def impl_chi_hull.l1 : Nat → List Int → List Int → List Int → Int → List Int → Int → Int → Option (List Int)
 | 0, _, _, _, _, _, _, _ => none
 | k + 1, x0, x3, x4, x5, x31, x32, x33 => if x33 < x32 then (if 0 ≤ x33 then (if x33 < (x31.length : Int) then (if (rd x31 x33) = x5 then (impl_chi_hull.l1 k x0 x3 x4 x5 x31 x32 (wrap64 (x33 + 1))) else ((impl_chi_left.f k x0 (rd x31 x33) x5).bind fun t1171 => (if t1171 = 0 then (if x4.length < 17592186044416 then (impl_chi_hull.l0 k x0 x3 (x4 ++ [rd x31 x33])) else (none)) else (impl_chi_hull.l1 k x0 x3 x4 x5 x31 x32 (wrap64 (x33 + 1)))))) else (none)) else (none)) else (impl_chi_hull.l0 k x0 x3 x4)
end
def impl_chi_hull.f (k : Nat) (l0 : List Int) : Option (List Int) := if 344 ≤ (l0.length : Int) then ((impl_fullSet.f (chiN l0)).bind fun t1160 => ((impl_chi_extremeIn.f k l0 t1160).bind fun t1161 => ((impl_elementsOf.f k t1161).bind fun t1162 => (if 0 < (t1162.length : Int) then (impl_chi_hull.l0 k l0 t1162 (([rd t1162 0] : List Int))) else (none))))) else (none)
set_option maxHeartbeats 8000000 in
set_option maxRecDepth 100000 in
theorem impl_chi_hull.calls (k : Nat) (A0 : Option Addr) (c0 : Nat) (l0 : List Int) (r : List Int) (w : World) (hr0 : Kd.C (Kd.int .i64) w A0 l0.length l0) (hc0 : l0.length ≤ c0) (h : impl_chi_hull.f k l0 = some r) :
  Calls Try.prog 132 #[.pointer A0] w fun e w' => ∃ v0_ : Value, e = .returned (v0_) ∧ Kd.R (Kd.int .i64) 3 w' w.heap.size (fun _ => True) v0_ r ∧ Below w.heap.size w w' := by
 have HR0 := am_ hr0
 have HC0 := am_ hc0
 clear hr0 hc0
 have HB := am_ (Below.refl w.heap.size w)
 have H : (if 344 ≤ (l0.length : Int) then ((impl_fullSet.f (chiN l0)).bind fun t1160 => ((impl_chi_extremeIn.f k l0 t1160).bind fun t1161 => ((impl_elementsOf.f k t1161).bind fun t1162 => (if 0 < (t1162.length : Int) then (impl_chi_hull.l0 k l0 t1162 (([rd t1162 0] : List Int))) else (none))))) else (none)) = some r := h
 clear h
 by_cases c2 : 344 ≤ (l0.length : Int)
 ·rw [if_pos c2] at H
  have c2b0 := eq_true c2
  have c2b1 : decide (344 ≤ (l0.length : Int)) = true := decide_eq_true c2
  clear c2
  replace H := Option.bind_eq_some_iff.mp H
  obtain ⟨t1160, A30, H⟩ := H
  replace H : ((impl_chi_extremeIn.f k l0 t1160).bind fun t1161 => ((impl_elementsOf.f k t1161).bind fun t1162 => (if 0 < (t1162.length : Int) then (impl_chi_hull.l0 k l0 t1162 (([rd t1162 0] : List Int))) else (none)))) = some r := H
  have A3 := am_ A30
  clear A30
  replace H := Option.bind_eq_some_iff.mp H
  obtain ⟨t1161, A40, H⟩ := H
  replace H : ((impl_elementsOf.f k t1161).bind fun t1162 => (if 0 < (t1162.length : Int) then (impl_chi_hull.l0 k l0 t1162 (([rd t1162 0] : List Int))) else (none))) = some r := H
  have A4 := am_ A40
  clear A40
  replace H := Option.bind_eq_some_iff.mp H
  obtain ⟨t1162, A50, H⟩ := H
  replace H : (if 0 < (t1162.length : Int) then (impl_chi_hull.l0 k l0 t1162 (([rd t1162 0] : List Int))) else (none)) = some r := H
  have A5 := am_ A50
  clear A50
  by_cases c6 : 0 < (t1162.length : Int)
  ·rw [if_pos c6] at H
   have c6b0 : decide (0 < (t1162.length : Int)) = true := decide_eq_true c6
   have c6b1 : decide (0 < t1162.length) = true := decide_eq_true (by omega)
   clear c6
   obtain ⟨y1166, hy1166⟩ : ∃ y_ : List Int, y_ = (([rd t1162 0] : List Int)) := ⟨_, rfl⟩
   replace H : (impl_chi_hull.l0 k l0 t1162 y1166) = some r := by first | (rw [hy1166]; with_reducible exact H) | (have H2_ := (Option.bind_some _ _).symm.trans H; rw [hy1166]; with_reducible exact H2_) | (have H2_ := (Option.bind_some _ _).symm.trans H; with_reducible exact H2_) | with_reducible exact H | (rw [hy1166]; exact H) | exact H
   have Ny1166 := am_ hy1166
   clear hy1166
   have H' := am_ H
   clear H
   have q1159 : 344 ≤ (l0.length : Int) := of_decide_eq_true (by first | (with_reducible assumption) | assumption)
   obtain ⟨ad1159, e1159, hx1159_0⟩ := chi_n HR0.out q1159
   cases e1159
   go_enter Try.func132, Try.ntmps132
   go_wp2_with (first | ((with_reducible refine gate_callee (f := 169) rfl ?_); refine goesL_ (some 13) rfl rfl Try.func169 (by kernel_rfl) rfl #[.int .i64 (chiN l0)] rfl (by (try simp only [List.map_toArray, List.map_cons, List.map_nil]); first | done | rfl | (simp only [List.length_drop, List.length_take]; rfl)) ?_; (with_reducible refine (impl_fullSet.calls (chiN l0) t1160 _ A3.out).mono ?_); rintro e w' ⟨rfl, ⟨nd, rfl⟩⟩; refine ⟨_, rfl, ?_⟩) | ((with_reducible refine gate_callee (f := 168) rfl ?_); refine goesL_ (some 14) rfl rfl Try.func168 (by kernel_rfl) rfl #[.pointer (some ad1159), .int .i64 t1160] rfl (by (try simp only [List.map_toArray, List.map_cons, List.map_nil]); first | done | rfl | (simp only [List.length_drop, List.length_take]; rfl)) ?_; (refine (impl_chi_extremeIn.calls k _ c0 l0 t1160 t1161 _ ?side1 ?side2 A4.out).mono ?_); (case side1 => repeat (first | exact HR0.out | (with_reducible refine Kd.C_alloc ?_ _) | (with_reducible refine Kd.C_drewN ?_ _) | (with_reducible refine Kd.C_drew ?_))); (case side2 => exact HC0.out); rintro e w7 ⟨rfl, hb⟩; refine ⟨_, rfl, ?_⟩; have n0_ := am_ (below_step (bx0 HB.out) hb); clear HB; have HB := n0_; clear n0_; (try clear hb); (try clear hb2); (try clear hk); (try clear hi)) | ((with_reducible refine gate_callee (f := 167) rfl ?_); refine goesL_ (some 15) rfl rfl Try.func167 (by kernel_rfl) rfl #[.int .i64 t1161] rfl (by (try simp only [List.map_toArray, List.map_cons, List.map_nil]); first | done | rfl | (simp only [List.length_drop, List.length_take]; rfl)) ?_; (with_reducible refine (impl_elementsOf.calls k t1161 t1162 _ A5.out).mono ?_); rintro e w8 ⟨v1163, rfl, ho0, hb⟩; refine ⟨_, rfl, ?_⟩; have n0_ := am_ (Kd.R_lower ho0 (below_size (bx0 HB.out))); have n1_ := am_ (below_step (bx0 HB.out) hb); clear HB; have HO1164 := n0_; have HB := n1_; clear n0_ n1_; (try clear hb); (try clear hb2); (try clear hk); (try clear hi); (try clear ho0); obtain ⟨Ao9, co9, eo9⟩ := Kd.R_slice HO1164.out; subst eo9; have p1165 : 0 ≤ (0 : Int) := (by omega); have q1165 : 0 < (t1162.length : Int) := of_decide_eq_true (by first | (with_reducible assumption) | assumption); obtain ⟨ad1165, e1165, hx1165_0⟩ := Kd.at_int (Kd.R_reads' HO1164.out).2.2 0 p1165 q1165; cases e1165; have qi1165 : (0 < t1162.length) = True := eq_true (by omega); (try rw [show ((0 : Int)).toNat = 0 from rfl] at hx1165_0); (try rw [Addr.add_zero'] at hx1165_0); replace p1165 := eq_true p1165; replace q1165 := eq_true q1165) | ((with_reducible refine gate_dst (N := 19) rfl ?_); refine Kd.R_lit (Kd.int .i64) _ 3 ?hg (N := 19) ?hd (xs := ([rd t1162 0] : List Int)) (inner := [.int .i64 (rd t1162 0)]) (ok := fun _ => True) (okp := fun _ => True) ?hr ?hp (fun _ hk => hk) trivial (Below.refl _ _) (Nat.le_refl _) (by simp) ?_; (case hd => rfl); (case hg => rfl); (case hr => first | (go_simp; done) | (go_simp; rfl)); (case hp => exact (Reps.one (show Kd.M (Kd.int .i64) _ _ _ (rd t1162 0) [.int .i64 (rd t1162 0)] from rfl) (Reps.none _ _))); intro v1167 w10 ho11 hb hg_ hnew_; clear hg_ hnew_; (first | rw [← Ny1166.out] at ho11 | (simp only [Int.reduceToNat] at ho11; rw [← Ny1166.out] at ho11)); have n0_ := am_ (Kd.R_elder' (rx_ HO1164.out) (Kd.R_base ho11) hb); have n1_ := am_ (Kd.R_lower (Kd.R_new' ho11 (Kd.R_lt (rx_ HO1164.out))) (below_size (bx0 HB.out))); have n2_ := am_ (below_step (bx0 HB.out) hb); clear HO1164; clear HB; have HO1164 := n0_; have HO1168 := n1_; have HB := n2_; clear n0_ n1_ n2_; clear hb ho11))
   go_loopg [4] k (fun kq v4 w' => ∃ (x4_1 : List Int), Aside0 (impl_chi_hull.l0 kq l0 t1162 x4_1 = some r) ∧ Aside0 (kq ≤ k) ∧ Aside0 (Kd.R (Kd.int .i64) 3 w' w.heap.size (fun k_ => some k_ ≠ (v4 : Value).ownBlock) (.slice (some ad1165) t1162.length co9) t1162) ∧ Aside0 (Kd.R (Kd.int .i64) 3 w' w.heap.size (fun k_ => some k_ ≠ ((.slice (some ad1165) t1162.length co9) : Value).ownBlock) v4 x4_1) ∧ Aside0 (Below w.heap.size w w'))
   case atStart => exact ⟨(y1166), H', ⟨Nat.le_refl _⟩, ⟨by (with_reducible repeat (first | apply Kd.R_alloc | apply Kd.R_drewN | apply Kd.R_drew)); exact Kd.R_mono HO1164.out (fun _ hk => hk.2)⟩, ⟨by (with_reducible repeat (first | apply Kd.R_alloc | apply Kd.R_drewN | apply Kd.R_drew)); exact Kd.R_mono HO1168.out (fun _ hk => hk.2)⟩, ⟨bx0 HB.out⟩⟩
   case round =>
    clear H'
    try clear c1
    try clear p1
    try clear q1
    try clear hx1
    try clear qi1
    try clear c2
    try clear c2b0
    try clear c2b1
    try clear p2
    try clear c6
    try clear c6b0
    try clear c6b1
    try clear p11
    try clear q11
    try clear hx11
    try clear qi11
    try clear hx1159_0
    try clear hx1165_0
    try clear p1165
    try clear q1159
    try clear q1165
    obtain ⟨x4_1, HA, HK1, HO_3, HO_4, HB⟩ := hrel
    cases gk with
    | zero => exact absurd HA.out (by simp [impl_chi_hull.l0])
    | succ k1 =>
     have H := HA.out
     clear HA
     simp only [impl_chi_hull.l0] at H
     by_cases c12 : (x4_1.length : Int) < (t1162.length : Int)
     ·rw [if_pos c12] at H
      have c12b0 : decide ((x4_1.length : Int) < (t1162.length : Int)) = true := decide_eq_true c12
      have c12b1 : decide (x4_1.length < t1162.length) = true := decide_eq_true (Int.ofNat_lt.mp c12)
      clear c12
      obtain ⟨ji13, hji13⟩ : ∃ j_ : Int, (wrap64 ((x4_1.length : Int) - 1)) = j_ := ⟨_, rfl⟩
      replace H : (if 0 ≤ (ji13) then (if (ji13) < (x4_1.length : Int) then (impl_chi_hull.l1 k1 l0 t1162 x4_1 (rd x4_1 (ji13)) t1162 (t1162.length : Int) 0) else (none)) else (none)) = some r := by first | (rw [hji13] at H; exact H) | (simp only [hji13] at H ⊢; exact H)
      have hji13w : (IntKind.i64.wrap ((x4_1.length : Int) - 1)) = ji13 := (i64_w _).trans hji13
      by_cases c14 : 0 ≤ (ji13)
      ·rw [if_pos c14] at H
       have c14b0 : decide (0 ≤ (ji13)) = true := decide_eq_true c14
       clear c14
       by_cases c15 : (ji13) < (x4_1.length : Int)
       ·rw [if_pos c15] at H
        have c15b0 : decide ((ji13) < (x4_1.length : Int)) = true := decide_eq_true c15
        clear c15
        have H' := am_ H
        clear H
        obtain ⟨Ao16, co16, eo16⟩ := Kd.R_slice HO_4.out
        subst eo16
        have p1169 : 0 ≤ ((ji13) : Int) := of_decide_eq_true (by first | (with_reducible assumption) | assumption)
        have q1169 : (ji13) < (x4_1.length : Int) := of_decide_eq_true (by first | (with_reducible assumption) | assumption)
        obtain ⟨ad1169, e1169, hx1169_0⟩ := Kd.at_int (Kd.R_reads' HO_4.out).2.2 (ji13) p1169 q1169
        cases e1169
        replace p1169 := eq_true p1169
        replace q1169 := eq_true q1169
        go_wp2
        go_loopg [4, 33] k1 (fun kq v4 v33 w' => ∃ (x4_2 : List Int) (x33_2 : Int), v33 = .int .i64 x33_2 ∧ Aside0 (impl_chi_hull.l1 kq l0 t1162 x4_2 (rd x4_1 (ji13)) t1162 (t1162.length : Int) x33_2 = some r) ∧ Aside0 (kq ≤ k1) ∧ Aside0 (Kd.R (Kd.int .i64) 3 w' w.heap.size (fun k_ => some k_ ≠ (v4 : Value).ownBlock) (.slice (some ad1165) t1162.length co9) t1162) ∧ Aside0 (Kd.R (Kd.int .i64) 3 w' w.heap.size (fun k_ => some k_ ≠ ((.slice (some ad1165) t1162.length co9) : Value).ownBlock ∧ some k_ ≠ ((.slice (some ad1165) t1162.length co9) : Value).ownBlock) v4 x4_2) ∧ Aside0 (Kd.R (Kd.int .i64) 3 w' w.heap.size (fun k_ => some k_ ≠ (v4 : Value).ownBlock) (.slice (some ad1165) t1162.length co9) t1162) ∧ Aside0 (Below w.heap.size w w'))
        case atStart => exact ⟨(x4_1), (0), (by first | rfl | (simp; done) | (simp [*]; done)), H', ⟨Nat.le_refl _⟩, ⟨rx_ HO_3.out⟩, ⟨by (with_reducible repeat (first | apply Kd.R_alloc | apply Kd.R_drewN | apply Kd.R_drew)); exact Kd.R_mono HO_4.out (fun _ hk => ⟨hk, hk⟩)⟩, ⟨rx_ HO_3.out⟩, ⟨bx0 HB.out⟩⟩
        case round =>
         clear H'
         try clear c1
         try clear p1
         try clear q1
         try clear hx1
         try clear qi1
         try clear c2
         try clear c2b0
         try clear c2b1
         try clear p2
         try clear c6
         try clear c6b0
         try clear c6b1
         try clear p6
         try clear p11
         try clear q11
         try clear hx11
         try clear qi11
         try clear c12
         try clear c12b0
         try clear c12b1
         try clear c13
         try clear c14
         try clear c14b0
         try clear c15
         try clear c15b0
         try clear c16
         try clear hx1159_0
         try clear hx1165_0
         try clear hx1169_0
         try clear p1
         try clear p11
         try clear p1165
         try clear p1169
         try clear p2
         try clear q1
         try clear q11
         try clear q1159
         try clear q1165
         try clear q1169
         obtain ⟨x4_2, x33_2, rfl, HA, HK2, HO_3, HO_4, HO_31, HB⟩ := hrel
         cases gk with
         | zero => exact absurd HA.out (by simp [impl_chi_hull.l1])
         | succ k2 =>
          have H := HA.out
          clear HA
          simp only [impl_chi_hull.l1] at H
          by_cases c17 : x33_2 < (t1162.length : Int)
          ·rw [if_pos c17] at H
           have c17b0 : decide (x33_2 < (t1162.length : Int)) = true := decide_eq_true c17
           clear c17
           by_cases c18 : 0 ≤ x33_2
           ·rw [if_pos c18] at H
            have c18b0 : decide (0 ≤ x33_2) = true := decide_eq_true c18
            clear c18
            by_cases c19 : x33_2 < (t1162.length : Int)
            ·rw [if_pos c19] at H
             have c19b0 : decide (x33_2 < (t1162.length : Int)) = true := decide_eq_true c19
             clear c19
             by_cases c20 : (rd t1162 x33_2) = (rd x4_1 (ji13))
             ·rw [if_pos c20] at H
              have c20b0 : ((rd t1162 x33_2) == (rd x4_1 (ji13))) = true := beq_iff_eq.mpr c20
              have c20b1 : ((rd t1162 x33_2) != (rd x4_1 (ji13))) = false := bne_eq_false_iff_eq.mpr c20
              clear c20
              have H' := am_ H
              clear H
              have p1170 : 0 ≤ (x33_2 : Int) := of_decide_eq_true (by first | (with_reducible assumption) | assumption)
              have q1170 : x33_2 < (t1162.length : Int) := of_decide_eq_true (by first | (with_reducible assumption) | assumption)
              obtain ⟨ad1170, e1170, hx1170_0⟩ := Kd.at_int (Kd.R_reads' HO_31.out).2.2 x33_2 p1170 q1170
              obtain rfl : ad1165 = ad1170 := (by injection e1170)
              replace p1170 := eq_true p1170
              replace q1170 := eq_true q1170
              go_wp2
              go_roundg k2
              case measure => have := HK1.out; have := HK2.out; omega
              case rel => exact ⟨(x4_2), (wrap64 (x33_2 + 1)), (by first | rfl | (simp; done) | (simp [*]; done)), H', ⟨by have := HK1.out; have := HK2.out; omega⟩, ⟨rx_ HO_3.out⟩, ⟨rx_ HO_4.out⟩, ⟨rx_ HO_31.out⟩, ⟨bx0 HB.out⟩⟩
             ·rw [if_neg c20] at H
              have c20b0 : ((rd t1162 x33_2) == (rd x4_1 (ji13))) = false := beq_eq_false_iff_ne.mpr c20
              have c20b1 : ((rd t1162 x33_2) != (rd x4_1 (ji13))) = true := bne_iff_ne.mpr c20
              replace H := Option.bind_eq_some_iff.mp H
              obtain ⟨t1171, A210, H⟩ := H
              replace H : (if t1171 = 0 then (if x4_2.length < 17592186044416 then (impl_chi_hull.l0 k2 l0 t1162 (x4_2 ++ [rd t1162 x33_2])) else (none)) else (impl_chi_hull.l1 k2 l0 t1162 x4_2 (rd x4_1 (ji13)) t1162 (t1162.length : Int) (wrap64 (x33_2 + 1)))) = some r := H
              have A21 := am_ A210
              clear A210
              by_cases c22 : t1171 = 0
              ·rw [if_pos c22] at H
               have c22b0 : (t1171 == 0) = true := beq_iff_eq.mpr c22
               have c22b1 : (t1171 != 0) = false := bne_eq_false_iff_eq.mpr c22
               clear c22
               by_cases c23 : x4_2.length < 17592186044416
               ·rw [if_pos c23] at H
                have LMc23 := am_ c23
                clear c23
                obtain ⟨y1172, hy1172⟩ : ∃ y_ : List Int, y_ = (x4_2 ++ [rd t1162 x33_2]) := ⟨_, rfl⟩
                replace H : (impl_chi_hull.l0 k2 l0 t1162 y1172) = some r := by first | (rw [hy1172]; with_reducible exact H) | (have H2_ := (Option.bind_some _ _).symm.trans H; rw [hy1172]; with_reducible exact H2_) | (have H2_ := (Option.bind_some _ _).symm.trans H; with_reducible exact H2_) | with_reducible exact H | (rw [hy1172]; exact H) | exact H
                have Ny1172 := am_ hy1172
                clear hy1172
                have H' := am_ H
                clear H
                have p1170 : 0 ≤ (x33_2 : Int) := of_decide_eq_true (by first | (with_reducible assumption) | assumption)
                have q1170 : x33_2 < (t1162.length : Int) := of_decide_eq_true (by first | (with_reducible assumption) | assumption)
                obtain ⟨ad1170, e1170, hx1170_0⟩ := Kd.at_int (Kd.R_reads' HO_31.out).2.2 x33_2 p1170 q1170
                obtain rfl : ad1165 = ad1170 := (by injection e1170)
                replace p1170 := eq_true p1170
                replace q1170 := eq_true q1170
                go_wp2_with (first | (go_at_call 120; (refine (impl_chi_left.calls k2 _ c0 l0 (rd t1162 x33_2) (rd x4_1 (ji13)) t1171 _ ?side1 ?side2 A21.out).mono ?_); (case side1 => repeat (first | exact (Kd.C_below HR0.out HB.out) | (with_reducible refine Kd.C_alloc ?_ _) | (with_reducible refine Kd.C_drewN ?_ _) | (with_reducible refine Kd.C_drew ?_))); (case side2 => exact HC0.out); rintro e w' ⟨rfl, ⟨nd, rfl⟩⟩) | ((with_reducible refine gate_builtin (b := .append) (xs := #[.tmp 47, .tmp 49]) rfl ?_); at_builtin; refine Kd.R_append (Kd.int .i64) (w0 := w) w.heap.size rfl (.tmp 47) (.tmp 49) 35 3 (.int .i64 0) 8 rfl Try.underlying35 info3 rfl (by decide) (by omega) u4 x4_2 (rd t1162 x33_2) [.int .i64 (rd t1162 x33_2)] (fun k_ => some k_ ≠ (.slice (some ad1165) t1162.length co9 : Value).ownBlock ∧ some k_ ≠ (.slice (some ad1165) t1162.length co9 : Value).ownBlock) (fun _ => False) rfl rfl ?aP (fun _ hk => hk.elim) ?aF ?aO ?aB ?aS ?aL ?_; (case aP => exact rfl); (case aB => exact (bx0 HB.out)); (case aF => exact (fun k_ hk => ⟨Kd.fresh' (Kd.R_lt (rx_ HO_3.out)) k_ hk, Kd.fresh' (Kd.R_lt (rx_ HO_31.out)) k_ hk⟩)); (case aO => exact (rx_ HO_4.out)); (case aS => exact (below_size (bx0 HB.out))); (case aL => have := LMc23.out; omega); intro v1173 w24 ho hb hg hat; rw [← Ny1172.out] at ho; have n0_ := am_ (Kd.R_after (ok := (fun _ => True)) (by (with_reducible repeat (first | apply Kd.R_alloc | apply Kd.R_drewN | apply Kd.R_drew)); exact Kd.R_mono HO_3.out (fun _ hk => ⟨trivial, hk⟩)) hg hat); have n1_ := am_ (Kd.R_after (ok := (fun _ => True)) (by (with_reducible repeat (first | apply Kd.R_alloc | apply Kd.R_drewN | apply Kd.R_drew)); exact Kd.R_mono HO_31.out (fun _ hk => ⟨trivial, hk⟩)) hg hat); have n2_ := am_ (hb); have n3_ := am_ (ho); clear HO_3; clear HO_31; clear HB; clear HO_4; have HO_3 := n0_; have HO_31 := n1_; have HB := n2_; have HO1174 := n3_; clear n0_ n1_ n2_ n3_; clear ho hb hg hat))
                go_roundg k2
                case measure => have := HK1.out; have := HK2.out; omega
                case rel => exact ⟨(y1172), H', ⟨by have := HK1.out; have := HK2.out; omega⟩, ⟨by (with_reducible repeat (first | apply Kd.R_alloc | apply Kd.R_drewN | apply Kd.R_drew)); exact Kd.R_mono HO_3.out (fun _ hk => hk.2)⟩, ⟨by (with_reducible repeat (first | apply Kd.R_alloc | apply Kd.R_drewN | apply Kd.R_drew)); exact Kd.R_mono HO1174.out (fun _ hk => hk.1)⟩, ⟨bx0 HB.out⟩⟩
               ·rw [if_neg c23] at H
                exact absurd H (by simp)
              ·rw [if_neg c22] at H
               have c22b0 : (t1171 == 0) = false := beq_eq_false_iff_ne.mpr c22
               have c22b1 : (t1171 != 0) = true := bne_iff_ne.mpr c22
               have H' := am_ H
               clear H
               have p1170 : 0 ≤ (x33_2 : Int) := of_decide_eq_true (by first | (with_reducible assumption) | assumption)
               have q1170 : x33_2 < (t1162.length : Int) := of_decide_eq_true (by first | (with_reducible assumption) | assumption)
               obtain ⟨ad1170, e1170, hx1170_0⟩ := Kd.at_int (Kd.R_reads' HO_31.out).2.2 x33_2 p1170 q1170
               obtain rfl : ad1165 = ad1170 := (by injection e1170)
               replace p1170 := eq_true p1170
               replace q1170 := eq_true q1170
               go_wp2_with (first | (go_at_call 120; (refine (impl_chi_left.calls k2 _ c0 l0 (rd t1162 x33_2) (rd x4_1 (ji13)) t1171 _ ?side1 ?side2 A21.out).mono ?_); (case side1 => repeat (first | exact (Kd.C_below HR0.out HB.out) | (with_reducible refine Kd.C_alloc ?_ _) | (with_reducible refine Kd.C_drewN ?_ _) | (with_reducible refine Kd.C_drew ?_))); (case side2 => exact HC0.out); rintro e w' ⟨rfl, ⟨nd, rfl⟩⟩))
               go_roundg k2
               case measure => have := HK1.out; have := HK2.out; omega
               case rel => exact ⟨(x4_2), (wrap64 (x33_2 + 1)), (by first | rfl | (simp; done) | (simp [*]; done)), H', ⟨by have := HK1.out; have := HK2.out; omega⟩, ⟨rx_ HO_3.out⟩, ⟨rx_ HO_4.out⟩, ⟨rx_ HO_31.out⟩, ⟨bx0 HB.out⟩⟩
            ·rw [if_neg c19] at H
             exact absurd H (by simp)
           ·rw [if_neg c18] at H
            exact absurd H (by simp)
          ·rw [if_neg c17] at H
           have c17b0 : decide (x33_2 < (t1162.length : Int)) = false := decide_eq_false c17
           clear c17
           have H' := am_ H
           clear H
           go_wp2
           go_roundg k2
           case measure => have := HK1.out; have := HK2.out; omega
           case rel => exact ⟨(x4_2), H', ⟨by have := HK1.out; have := HK2.out; omega⟩, ⟨rx_ HO_3.out⟩, ⟨by (with_reducible repeat (first | apply Kd.R_alloc | apply Kd.R_drewN | apply Kd.R_drew)); exact Kd.R_mono HO_4.out (fun _ hk => hk.1)⟩, ⟨bx0 HB.out⟩⟩
       ·rw [if_neg c15] at H
        exact absurd H (by simp)
      ·rw [if_neg c14] at H
       exact absurd H (by simp)
     ·rw [if_neg c12] at H
      have c12b0 : decide ((x4_1.length : Int) < (t1162.length : Int)) = false := decide_eq_false c12
      have c12b1 : decide (x4_1.length < t1162.length) = false := decide_eq_false (fun h => c12 (Int.ofNat_lt.mpr h))
      clear c12
      obtain rfl := Option.some.inj H
      obtain ⟨Ao25, co25, eo25⟩ := Kd.R_slice HO_4.out
      subst eo25
      go_wp2
      go_ret
      exact ⟨_, by first | rfl | (simp [errW_none, errW_some] <;> rfl) | (simp [*, errW_none, errW_some] <;> rfl), by (with_reducible repeat (first | apply Kd.R_alloc | apply Kd.R_drewN | apply Kd.R_drew)); exact Kd.R_mono HO_4.out (fun _ hk => trivial), bx0 HB.out⟩
  ·rw [if_neg c6] at H
   exact absurd H (by simp)
 ·rw [if_neg c2] at H
  exact absurd H (by simp)
def impl_hullPoints.l0 : Nat → List (S72) → List (S72) → List Int → Int → Int → Option ((List (S72)))
 | 0, _, _, _, _, _ => none
 | k + 1, x0, x5, x15, x16, x17 => if x17 < x16 then (if 0 ≤ x17 then (if x17 < (x15.length : Int) then (if 0 ≤ (rd x15 x17) then (if (rd x15 x17) < (x0.length : Int) then (if x5.length < 8796093022208 then (impl_hullPoints.l0 k x0 (x5 ++ [(⟨(rd_T72 x0 (rd x15 x17)).f0, (rd_T72 x0 (rd x15 x17)).f1⟩ : S72)]) x15 x16 (wrap64 (x17 + 1))) else (none)) else (none)) else (none)) else (none)) else (none)) else (some x5)
def impl_hullPoints.f (k : Nat) (l0 : List (S72)) : Option ((List (S72))) := (impl_SignsOf.f k l0).bind fun bt1175 => ((impl_tableOf.f k bt1175.1 bt1175.2.1).bind fun t1179 => ((impl_chi_hull.f k t1179).bind fun t1182 => (impl_hullPoints.l0 k l0 ([] : List (S72)) t1182 (t1182.length : Int) 0)))
set_option maxHeartbeats 8000000 in
set_option maxRecDepth 100000 in
theorem impl_hullPoints.calls (k : Nat) (A0 : Option Addr) (c0 : Nat) (l0 : List (S72)) (r : List (S72)) (w : World) (hr0 : Kd.C k72 w A0 l0.length l0) (hc0 : l0.length ≤ c0) (h : impl_hullPoints.f k l0 = some r) :
  Calls Try.prog 89 #[.slice A0 l0.length c0] w fun e w' => ∃ v0_ : Value, e = .returned (v0_) ∧ Kd.R k72 72 w' w.heap.size (fun _ => True) v0_ r ∧ Below w.heap.size w w' := by
 have hu25 := Try.underlying25
 have hu72 := Try.underlying72
 have HR0 := am_ hr0
 have HC0 := am_ hc0
 clear hr0 hc0
 have HB := am_ (Below.refl w.heap.size w)
 have H : ((impl_SignsOf.f k l0).bind fun bt1175 => ((impl_tableOf.f k bt1175.1 bt1175.2.1).bind fun t1179 => ((impl_chi_hull.f k t1179).bind fun t1182 => (impl_hullPoints.l0 k l0 ([] : List (S72)) t1182 (t1182.length : Int) 0)))) = some r := h
 clear h
 replace H := Option.bind_eq_some_iff.mp H
 obtain ⟨⟨t1175, t1176, t1177⟩, A20, H⟩ := H
 replace H : ((impl_tableOf.f k t1175 t1176).bind fun t1179 => ((impl_chi_hull.f k t1179).bind fun t1182 => (impl_hullPoints.l0 k l0 ([] : List (S72)) t1182 (t1182.length : Int) 0))) = some r := H
 have A2 := am_ A20
 clear A20
 replace H := Option.bind_eq_some_iff.mp H
 obtain ⟨t1179, A30, H⟩ := H
 replace H : ((impl_chi_hull.f k t1179).bind fun t1182 => (impl_hullPoints.l0 k l0 ([] : List (S72)) t1182 (t1182.length : Int) 0)) = some r := H
 have A3 := am_ A30
 clear A30
 replace H := Option.bind_eq_some_iff.mp H
 obtain ⟨t1182, A40, H⟩ := H
 replace H : (impl_hullPoints.l0 k l0 ([] : List (S72)) t1182 (t1182.length : Int) 0) = some r := H
 have A4 := am_ A40
 clear A40
 have H' := am_ H
 clear H
 go_enter Try.func89, Try.ntmps89
 go_wp2_with (first | ((with_reducible refine gate_callee (f := 131) rfl ?_); refine goesL_ (some 10) rfl rfl Try.func131 (by kernel_rfl) rfl #[.slice A0 l0.length c0] rfl (by (try simp only [List.map_toArray, List.map_cons, List.map_nil]); first | done | rfl | (simp only [List.length_drop, List.length_take]; rfl)) ?_; (with_reducible refine (impl_SignsOf.calls k _ _ l0 t1175 t1176 t1177 _ ?side1 ?side2 A2.out).mono ?_); (case side1 => repeat (first | exact HR0.out | (with_reducible refine Kd.C_alloc ?_ _) | (with_reducible refine Kd.C_drewN ?_ _) | (with_reducible refine Kd.C_drew ?_))); (case side2 => exact HC0.out); rintro e w5 ⟨rfl, hb⟩; refine ⟨_, rfl, ?_⟩; have n0_ := am_ (below_step (bx0 HB.out) hb); clear HB; have HB := n0_; clear n0_; (try clear hb); (try clear hb2); (try clear hk); (try clear hi)) | ((with_reducible refine gate_dst (N := 3) rfl ?_); refine box_event ?hg (N := 3) ?hd (cs := #[.int .i64 0, .string (⟨#[]⟩ : ByteArray)]) (t := 25) ?hr ?_; (case hd => rfl); (case hg => rfl); (case hr => first | (go_simp; done) | (go_simp; rfl)); intro gb1178 hg w6 hbox hb; have n0_ := am_ (below_step (bx0 HB.out) hb); have n1_ := am_ (hbox); have n2_ := am_ ((by rw [hg]; exact (below_size (bx0 HB.out)) : w.heap.size ≤ gb1178)); have n3_ := am_ ((by rw [hg]; exact (below_size (bx0 HB.out)) : w.heap.size ≤ gb1178)); clear HB; have HB := n0_; have BK1178 := n1_; have GW1178 := n2_; have GE1178 := n3_; clear n0_ n1_ n2_ n3_; clear hb hbox hg; have hcz7_0 : w6.cell? ⟨gb1178, 0, none⟩ = some (.int .i64 0) := (blk_cell BK1178.out 0).trans rfl; have hcz7_1 : w6.cell? ⟨gb1178, 1, none⟩ = some (.string (⟨#[]⟩ : ByteArray)) := (blk_cell BK1178.out 1).trans rfl; have hfz7_0 := blk_frozen BK1178.out 0; have hfz7_1 := blk_frozen BK1178.out 1) | ((with_reducible refine gate_callee (f := 93) rfl ?_); refine goesL_ (some 14) rfl rfl Try.func93 (by kernel_rfl) rfl #[.agg #[.int .i64 t1175, .string t1176]] rfl (by (try simp only [List.map_toArray, List.map_cons, List.map_nil]); first | done | rfl | (simp only [List.length_drop, List.length_take]; rfl)) ?_; (with_reducible refine (impl_tableOf.calls k t1175 t1176 t1179 _ A3.out).mono ?_); rintro e w8 ⟨v1180, rfl, ho0, hb⟩; refine ⟨_, rfl, ?_⟩; have n0_ := am_ (Kd.R_lower ho0 (below_size (bx1 HB.out GE1178.out))); have n1_ := am_ (blk_below (g := gb1178) (o := .cells #[.int .i64 t1175, .string t1176] 25 (0, 0)) (by (with_reducible repeat (first | refine blk_drewN ?_ _ | refine blk_drew ?_ | refine blk_alloc ?_ _)); refine blk_put (cs := #[.int .i64 t1175, .string (⟨#[]⟩ : ByteArray)]) ?_ 1 _ rfl; (with_reducible repeat (first | refine blk_drewN ?_ _ | refine blk_drew ?_ | refine blk_alloc ?_ _)); refine blk_put (cs := #[.int .i64 0, .string (⟨#[]⟩ : ByteArray)]) ?_ 0 _ rfl; (with_reducible repeat (first | refine blk_drewN ?_ _ | refine blk_drew ?_ | refine blk_alloc ?_ _)); exact BK1178.out) hb); have n2_ := am_ (below_step (bx1 HB.out GE1178.out) hb); clear BK1178; clear HB; have HO1181 := n0_; have BK1178 := n1_; have HB := n2_; clear n0_ n1_ n2_; (try clear hb); (try clear hb2); (try clear hk); (try clear hi); (try clear ho0); obtain ⟨Ao9, co9, eo9⟩ := Kd.R_slice HO1181.out; subst eo9) | ((with_reducible refine gate_callee (f := 132) rfl ?_); refine goesL_ (some 15) rfl rfl Try.func132 (by kernel_rfl) rfl #[.pointer Ao9] rfl (by (try simp only [List.map_toArray, List.map_cons, List.map_nil]); first | done | rfl | (simp only [List.length_drop, List.length_take]; rfl)) ?_; (refine (impl_chi_hull.calls k _ co9 t1179 t1182 _ ?side1 ?side2 A4.out).mono ?_); (case side1 => repeat (first | exact (Kd.R_reads' HO1181.out).2.2 | (with_reducible refine Kd.C_alloc ?_ _) | (with_reducible refine Kd.C_drewN ?_ _) | (with_reducible refine Kd.C_drew ?_))); (case side2 => exact (Kd.R_reads' HO1181.out).2.1); rintro e w10 ⟨v1183, rfl, ho0, hb⟩; refine ⟨_, rfl, ?_⟩; have n0_ := am_ (Kd.R_below (rx_ HO1181.out) hb); have n1_ := am_ (Kd.R_lower ho0 (below_size (bx1 HB.out GE1178.out))); have n2_ := am_ (blk_below (g := gb1178) (o := .cells #[.int .i64 t1175, .string t1176] 25 (0, 0)) (kx_ BK1178.out) hb); have n3_ := am_ (below_step (bx1 HB.out GE1178.out) hb); clear HO1181; clear BK1178; clear HB; have HO1181 := n0_; have HO1184 := n1_; have BK1178 := n2_; have HB := n3_; clear n0_ n1_ n2_ n3_; (try clear hb); (try clear hb2); (try clear hk); (try clear hi); (try clear ho0); obtain ⟨Ao11, co11, eo11⟩ := Kd.R_slice HO1184.out; subst eo11))
 go_loopg [5, 17] k (fun kq v5 v17 w' => ∃ (x5_1 : List (S72)) (x17_1 : Int), v17 = .int .i64 x17_1 ∧ Aside0 (impl_hullPoints.l0 kq l0 x5_1 t1182 (t1182.length : Int) x17_1 = some r) ∧ Aside0 (kq ≤ k) ∧ Aside0 (Kd.R k72 72 w' w.heap.size (fun _ => True) v5 x5_1) ∧ Aside0 (Kd.R (Kd.int .i64) 3 w' w.heap.size (fun _ => True) (.slice Ao11 t1182.length co11) t1182) ∧ Aside0 (w'.heap[gb1178]? = some (.cells #[.int .i64 t1175, .string t1176] 25 (0, 0))) ∧ Aside0 (Below w.heap.size w w'))
 case atStart => exact ⟨(([] : List (S72))), (0), (by first | rfl | (simp; done) | (simp [*]; done)), H', ⟨Nat.le_refl _⟩, ⟨by first | exact Kd.R_nil _ _ _ _ _ | exact Kd.N_nil _ _ _ _ _ | exact Kd.V_nil _ _ _ _ _ | exact Kd.Q_nil _ _ _ _ _ | exact Kd.S_nil _ _ _ _ _⟩, ⟨rx_ HO1184.out⟩, ⟨kx_ BK1178.out⟩, ⟨bx1 HB.out GE1178.out⟩⟩
 case round =>
  clear H'
  try clear c1
  try clear p2
  try clear c8
  try clear c9
  try clear hcz7_0
  try clear hcz7_1
  try clear hfz7_0
  try clear hfz7_1
  obtain ⟨x5_1, x17_1, rfl, HA, HK1, HO_5, HO_15, BK1178, HB⟩ := hrel
  cases gk with
  | zero => exact absurd HA.out (by simp [impl_hullPoints.l0])
  | succ k1 =>
   have H := HA.out
   clear HA
   simp only [impl_hullPoints.l0] at H
   by_cases c12 : x17_1 < (t1182.length : Int)
   ·rw [if_pos c12] at H
    have c12b0 : decide (x17_1 < (t1182.length : Int)) = true := decide_eq_true c12
    clear c12
    by_cases c13 : 0 ≤ x17_1
    ·rw [if_pos c13] at H
     have c13b0 : decide (0 ≤ x17_1) = true := decide_eq_true c13
     clear c13
     by_cases c14 : x17_1 < (t1182.length : Int)
     ·rw [if_pos c14] at H
      have c14b0 : decide (x17_1 < (t1182.length : Int)) = true := decide_eq_true c14
      clear c14
      by_cases c15 : 0 ≤ (rd t1182 x17_1)
      ·rw [if_pos c15] at H
       have c15b0 : decide (0 ≤ (rd t1182 x17_1)) = true := decide_eq_true c15
       clear c15
       by_cases c16 : (rd t1182 x17_1) < (l0.length : Int)
       ·rw [if_pos c16] at H
        have c16b0 : decide ((rd t1182 x17_1) < (l0.length : Int)) = true := decide_eq_true c16
        clear c16
        by_cases c17 : x5_1.length < 8796093022208
        ·rw [if_pos c17] at H
         have LMc17 := am_ c17
         clear c17
         obtain ⟨y1187, hy1187⟩ : ∃ y_ : List (S72), y_ = (x5_1 ++ [(⟨(rd_T72 l0 (rd t1182 x17_1)).f0, (rd_T72 l0 (rd t1182 x17_1)).f1⟩ : S72)]) := ⟨_, rfl⟩
         replace H : (impl_hullPoints.l0 k1 l0 y1187 t1182 (t1182.length : Int) (wrap64 (x17_1 + 1))) = some r := by first | (rw [hy1187]; with_reducible exact H) | (have H2_ := (Option.bind_some _ _).symm.trans H; rw [hy1187]; with_reducible exact H2_) | (have H2_ := (Option.bind_some _ _).symm.trans H; with_reducible exact H2_) | with_reducible exact H | (rw [hy1187]; exact H) | exact H
         have Ny1187 := am_ hy1187
         clear hy1187
         have H' := am_ H
         clear H
         have p1185 : 0 ≤ (x17_1 : Int) := of_decide_eq_true (by first | (with_reducible assumption) | assumption)
         have q1185 : x17_1 < (t1182.length : Int) := of_decide_eq_true (by first | (with_reducible assumption) | assumption)
         obtain ⟨ad1185, e1185, hx1185_0⟩ := Kd.at_int (Kd.R_reads' HO_15.out).2.2 x17_1 p1185 q1185
         cases e1185
         replace p1185 := eq_true p1185
         replace q1185 := eq_true q1185
         have p1186 : 0 ≤ ((rd t1182 x17_1) : Int) := of_decide_eq_true (by first | (with_reducible assumption) | assumption)
         have q1186 : (rd t1182 x17_1) < (l0.length : Int) := of_decide_eq_true (by first | (with_reducible assumption) | assumption)
         obtain ⟨ad1186, e1186, hx1186_0, hx1186_1⟩ := at_T72 HR0.out (rd t1182 x17_1) p1186 q1186
         cases e1186
         replace hx1186_0 := (HB.out.cell (World.block_lt_of_cell? w _ hx1186_0)).trans hx1186_0
         replace hx1186_1 := (HB.out.cell (World.block_lt_of_cell? w _ hx1186_1)).trans hx1186_1
         replace p1186 := eq_true p1186
         replace q1186 := eq_true q1186
         go_wp2_with (first | ((with_reducible refine gate_builtin (b := .append) (xs := #[.tmp 21, .tmp 26]) rfl ?_); at_builtin; refine Kd.R_append k72 (w0 := w) w.heap.size rfl (.tmp 21) (.tmp 26) 37 72 (.agg #[(.int .i64 0), (.int .i64 0)]) 16 rfl Try.underlying37 info72 rfl (by decide) (by omega) u5 x5_1 (⟨(rd_T72 l0 (rd t1182 x17_1)).f0, (rd_T72 l0 (rd t1182 x17_1)).f1⟩ : S72) [.int .i64 ((rd_T72 l0 (rd t1182 x17_1)).f0), .int .i64 ((rd_T72 l0 (rd t1182 x17_1)).f1)] (fun _ => True) (fun _ => False) rfl rfl ?aP (fun _ hk => hk.elim) ?aF ?aO ?aB ?aS ?aL ?_; (case aP => exact k72_mkM _ _ _ (⟨(rd_T72 l0 (rd t1182 x17_1)).f0, (rd_T72 l0 (rd t1182 x17_1)).f1⟩ : S72)); (case aB => exact (bx1 HB.out GE1178.out)); (case aF => exact (fun _ _ => trivial)); (case aO => exact (rx_ HO_5.out)); (case aS => exact (below_size (bx1 HB.out GE1178.out))); (case aL => have := LMc17.out; omega); intro v1188 w18 ho hb hg hat; rw [← Ny1187.out] at ho; have n0_ := am_ (Kd.R_over' (rx_ HO_15.out) (Kd.R_typed (rx_ HO_5.out)) (by decide) hg); have n1_ := am_ (blk_grown (g := gb1178) (o := .cells #[.int .i64 t1175, .string t1176] 25 (0, 0)) (kx_ BK1178.out) hg (Kd.R_ne HO_5.out BK1178.out (by decide))); have n2_ := am_ (hb); have n3_ := am_ (ho); clear HO_15; clear BK1178; clear HB; clear HO_5; have HO_15 := n0_; have BK1178 := n1_; have HB := n2_; have HO1189 := n3_; clear n0_ n1_ n2_ n3_; clear ho hb hg hat))
         go_roundg k1
         case measure => have := HK1.out; omega
         case rel => exact ⟨(y1187), (wrap64 (x17_1 + 1)), (by first | rfl | (simp; done) | (simp [*]; done)), H', ⟨by have := HK1.out; omega⟩, ⟨rx_ HO1189.out⟩, ⟨rx_ HO_15.out⟩, ⟨kx_ BK1178.out⟩, ⟨bx1 HB.out GE1178.out⟩⟩
        ·rw [if_neg c17] at H
         exact absurd H (by simp)
       ·rw [if_neg c16] at H
        exact absurd H (by simp)
      ·rw [if_neg c15] at H
       exact absurd H (by simp)
     ·rw [if_neg c14] at H
      exact absurd H (by simp)
    ·rw [if_neg c13] at H
     exact absurd H (by simp)
   ·rw [if_neg c12] at H
    have c12b0 : decide (x17_1 < (t1182.length : Int)) = false := decide_eq_false c12
    clear c12
    obtain rfl := Option.some.inj H
    go_wp2
    go_ret
    exact ⟨_, by first | rfl | (simp [errW_none, errW_some] <;> rfl) | (simp [*, errW_none, errW_some] <;> rfl), rx_ HO_5.out, bx1 HB.out GE1178.out⟩
def impl_HullArea.l0 : Nat → List (S72) → Int → List (S72) → Int → Int → Option (Int)
 | 0, _, _, _, _, _ => none
 | k + 1, x3, x4, x13, x14, x15 => if x15 < x14 then (if 0 ≤ x15 then (if x15 < (x13.length : Int) then (if (x3.length : Int) = 0 then (none) else (if 0 ≤ (Int.tmod (wrap64 (x15 + 1)) (x3.length : Int)) then (if (Int.tmod (wrap64 (x15 + 1)) (x3.length : Int)) < (x3.length : Int) then (impl_HullArea.l0 k x3 (wrap64 ((wrap64 (x4 + (wrap64 (((rd_T72 x13 x15).f0) * ((rd_T72 x3 (Int.tmod (wrap64 (x15 + 1)) (x3.length : Int))).f1))))) - (wrap64 (((rd_T72 x13 x15).f1) * ((rd_T72 x3 (Int.tmod (wrap64 (x15 + 1)) (x3.length : Int))).f0))))) x13 x14 (wrap64 (x15 + 1))) else (none)) else (none))) else (none)) else (none)) else (some x4)
def impl_HullArea.f (k : Nat) (l0 : List (S72)) : Option (Int) := (impl_ArePoints.f k l0).bind fun t1190 => (if t1190 = true then ((impl_hullPoints.f k l0).bind fun t1191 => (impl_HullArea.l0 k t1191 0 t1191 (t1191.length : Int) 0)) else (some (-1)))
set_option maxHeartbeats 8000000 in
set_option maxRecDepth 100000 in
theorem impl_HullArea.calls (k : Nat) (A0 : Option Addr) (c0 : Nat) (l0 : List (S72)) (r : Int) (w : World) (hr0 : Kd.C k72 w A0 l0.length l0) (hc0 : l0.length ≤ c0) (h : impl_HullArea.f k l0 = some r) :
  Calls Try.prog 42 #[.slice A0 l0.length c0] w fun e w' => e = .returned (.int .i64 r) ∧ Below w.heap.size w w' := by
 have hu72 := Try.underlying72
 have HR0 := am_ hr0
 have HC0 := am_ hc0
 clear hr0 hc0
 have HB := am_ (Below.refl w.heap.size w)
 have H : ((impl_ArePoints.f k l0).bind fun t1190 => (if t1190 = true then ((impl_hullPoints.f k l0).bind fun t1191 => (impl_HullArea.l0 k t1191 0 t1191 (t1191.length : Int) 0)) else (some (-1)))) = some r := h
 clear h
 replace H := Option.bind_eq_some_iff.mp H
 obtain ⟨t1190, A20, H⟩ := H
 replace H : (if t1190 = true then ((impl_hullPoints.f k l0).bind fun t1191 => (impl_HullArea.l0 k t1191 0 t1191 (t1191.length : Int) 0)) else (some (-1))) = some r := H
 have A2 := am_ A20
 clear A20
 by_cases c3 : t1190 = true
 ·subst c3
  have H1 : ((impl_hullPoints.f k l0).bind fun t1191 => (impl_HullArea.l0 k t1191 0 t1191 (t1191.length : Int) 0)) = some r := by rw [if_pos rfl] at H; exact H
  clear H
  have H := H1
  clear H1
  replace H := Option.bind_eq_some_iff.mp H
  obtain ⟨t1191, A40, H⟩ := H
  replace H : (impl_HullArea.l0 k t1191 0 t1191 (t1191.length : Int) 0) = some r := H
  have A4 := am_ A40
  clear A40
  have H' := am_ H
  clear H
  go_enter Try.func42, Try.ntmps42
  go_wp2_with (first | ((with_reducible refine gate_callee (f := 68) rfl ?_); refine goesL_ (some 9) rfl rfl Try.func68 (by kernel_rfl) rfl #[.slice A0 l0.length c0] rfl (by (try simp only [List.map_toArray, List.map_cons, List.map_nil]); first | done | rfl | (simp only [List.length_drop, List.length_take]; rfl)) ?_; (with_reducible refine (impl_ArePoints.calls k _ _ l0 true _ ?side1 ?side2 A2.out).mono ?_); (case side1 => repeat (first | exact HR0.out | (with_reducible refine Kd.C_alloc ?_ _) | (with_reducible refine Kd.C_drewN ?_ _) | (with_reducible refine Kd.C_drew ?_))); (case side2 => exact HC0.out); rintro e w5 ⟨rfl, hb⟩; refine ⟨_, rfl, ?_⟩; have n0_ := am_ (below_step (bx0 HB.out) hb); clear HB; have HB := n0_; clear n0_; (try clear hb); (try clear hb2); (try clear hk); (try clear hi)) | ((with_reducible refine gate_callee (f := 89) rfl ?_); refine goesL_ (some 12) rfl rfl Try.func89 (by kernel_rfl) rfl #[.slice A0 l0.length c0] rfl (by (try simp only [List.map_toArray, List.map_cons, List.map_nil]); first | done | rfl | (simp only [List.length_drop, List.length_take]; rfl)) ?_; (with_reducible refine (impl_hullPoints.calls k _ _ l0 t1191 _ ?side1 ?side2 A4.out).mono ?_); (case side1 => repeat (first | exact (Kd.C_below HR0.out HB.out) | (with_reducible refine Kd.C_alloc ?_ _) | (with_reducible refine Kd.C_drewN ?_ _) | (with_reducible refine Kd.C_drew ?_))); (case side2 => exact HC0.out); rintro e w6 ⟨v1192, rfl, ho0, hb⟩; refine ⟨_, rfl, ?_⟩; have n0_ := am_ (Kd.R_lower ho0 (below_size (bx0 HB.out))); have n1_ := am_ (below_step (bx0 HB.out) hb); clear HB; have HO1193 := n0_; have HB := n1_; clear n0_ n1_; (try clear hb); (try clear hb2); (try clear hk); (try clear hi); (try clear ho0); obtain ⟨Ao7, co7, eo7⟩ := Kd.R_slice HO1193.out; subst eo7))
  go_loopg [4, 15] k (fun kq v4 v15 w' => ∃ (x4_1 : Int) (x15_1 : Int), v4 = .int .i64 x4_1 ∧ v15 = .int .i64 x15_1 ∧ Aside0 (impl_HullArea.l0 kq t1191 x4_1 t1191 (t1191.length : Int) x15_1 = some r) ∧ Aside0 (kq ≤ k) ∧ Aside0 (Kd.R k72 72 w' w.heap.size (fun _ => True) (.slice Ao7 t1191.length co7) t1191) ∧ Aside0 (Kd.R k72 72 w' w.heap.size (fun _ => True) (.slice Ao7 t1191.length co7) t1191) ∧ Aside0 (Below w.heap.size w w'))
  case atStart => exact ⟨(0), (0), (by first | rfl | (simp; done) | (simp [*]; done)), (by first | rfl | (simp; done) | (simp [*]; done)), H', ⟨Nat.le_refl _⟩, ⟨rx_ HO1193.out⟩, ⟨rx_ HO1193.out⟩, ⟨bx0 HB.out⟩⟩
  case round =>
   clear H'
   try clear p2
   try clear c3
   try clear c4
   try clear c6
   obtain ⟨x4_1, x15_1, rfl, rfl, HA, HK1, HO_3, HO_13, HB⟩ := hrel
   cases gk with
   | zero => exact absurd HA.out (by simp [impl_HullArea.l0])
   | succ k1 =>
    have H := HA.out
    clear HA
    simp only [impl_HullArea.l0] at H
    by_cases c8 : x15_1 < (t1191.length : Int)
    ·rw [if_pos c8] at H
     have c8b0 : decide (x15_1 < (t1191.length : Int)) = true := decide_eq_true c8
     clear c8
     by_cases c9 : 0 ≤ x15_1
     ·rw [if_pos c9] at H
      have c9b0 : decide (0 ≤ x15_1) = true := decide_eq_true c9
      clear c9
      by_cases c10 : x15_1 < (t1191.length : Int)
      ·rw [if_pos c10] at H
       have c10b0 : decide (x15_1 < (t1191.length : Int)) = true := decide_eq_true c10
       clear c10
       by_cases c11 : (t1191.length : Int) = 0
       ·rw [if_pos c11] at H
        exact absurd H (by simp)
       ·rw [if_neg c11] at H
        have c11b0 : ((t1191.length : Int) == 0) = false := beq_eq_false_iff_ne.mpr c11
        have c11b1 : ((t1191.length : Int) != 0) = true := bne_iff_ne.mpr c11
        have c11b2 : ¬ (t1191 = []) := fun h_ => c11 (by rw [h_]; rfl)
        obtain ⟨ji12, hji12⟩ : ∃ j_ : Int, (Int.tmod (wrap64 (x15_1 + 1)) (t1191.length : Int)) = j_ := ⟨_, rfl⟩
        replace H : (if 0 ≤ (ji12) then (if (ji12) < (t1191.length : Int) then (impl_HullArea.l0 k1 t1191 (wrap64 ((wrap64 (x4_1 + (wrap64 (((rd_T72 t1191 x15_1).f0) * ((rd_T72 t1191 (ji12)).f1))))) - (wrap64 (((rd_T72 t1191 x15_1).f1) * ((rd_T72 t1191 (ji12)).f0))))) t1191 (t1191.length : Int) (wrap64 (x15_1 + 1))) else (none)) else (none)) = some r := by first | (rw [hji12] at H; exact H) | (simp only [hji12] at H ⊢; exact H)
        by_cases c13 : 0 ≤ (ji12)
        ·rw [if_pos c13] at H
         have c13b0 : decide (0 ≤ (ji12)) = true := decide_eq_true c13
         clear c13
         by_cases c14 : (ji12) < (t1191.length : Int)
         ·rw [if_pos c14] at H
          have c14b0 : decide ((ji12) < (t1191.length : Int)) = true := decide_eq_true c14
          clear c14
          have H' := am_ H
          clear H
          have p1194 : 0 ≤ (x15_1 : Int) := of_decide_eq_true (by first | (with_reducible assumption) | assumption)
          have q1194 : x15_1 < (t1191.length : Int) := of_decide_eq_true (by first | (with_reducible assumption) | assumption)
          obtain ⟨ad1194, e1194, hx1194_0, hx1194_1⟩ := at_T72 (Kd.R_reads' HO_13.out).2.2 x15_1 p1194 q1194
          cases e1194
          replace p1194 := eq_true p1194
          replace q1194 := eq_true q1194
          go_wp2_with (first | ((with_reducible refine gate_dst (N := 6) rfl ?_); refine box_event ?hg (N := 6) ?hd (cs := #[.int .i64 0, .int .i64 0]) (t := 72) ?hr ?_; (case hd => rfl); (case hg => rfl); (case hr => first | (go_simp; done) | (go_simp; rfl)); intro gb1195 hg w15 hbox hb; have n0_ := am_ (Kd.R_below (Kd.R_elderB (rx_ HO_3.out) gb1195 (Nat.le_of_eq hg.symm)) hb); have n1_ := am_ (Kd.R_below (Kd.R_elderB (rx_ HO_13.out) gb1195 (Nat.le_of_eq hg.symm)) hb); have n2_ := am_ (below_step (bx0 HB.out) hb); have n3_ := am_ (hbox); have n4_ := am_ ((by rw [hg]; exact (below_size (bx0 HB.out)) : w.heap.size ≤ gb1195)); have n5_ := am_ ((by rw [hg]; exact (below_size (bx0 HB.out)) : w.heap.size ≤ gb1195)); clear HO_3; clear HO_13; clear HB; have HO_3 := n0_; have HO_13 := n1_; have HB := n2_; have BK1195 := n3_; have GW1195 := n4_; have GE1195 := n5_; clear n0_ n1_ n2_ n3_ n4_ n5_; clear hb hbox hg; have hcz16_0 : w15.cell? ⟨gb1195, 0, none⟩ = some (.int .i64 0) := (blk_cell BK1195.out 0).trans rfl; have hcz16_1 : w15.cell? ⟨gb1195, 1, none⟩ = some (.int .i64 0) := (blk_cell BK1195.out 1).trans rfl; have hfz16_0 := blk_frozen BK1195.out 0; have hfz16_1 := blk_frozen BK1195.out 1; have p1196 : 0 ≤ ((ji12) : Int) := of_decide_eq_true (by first | (with_reducible assumption) | assumption); have q1196 : (ji12) < (t1191.length : Int) := of_decide_eq_true (by first | (with_reducible assumption) | assumption); obtain ⟨ad1196, e1196, hx1196_0, hx1196_1⟩ := at_T72 (Kd.R_reads' HO_3.out).2.2 (ji12) p1196 q1196; obtain rfl : ad1194 = ad1196 := (by injection e1196); have hn1196_0 : ad1194.block ≠ gb1195 := (by first | exact Kd.own_blk (Kd.R_ne HO_3.out BK1195.out (by decide)) | exact (HO_3.out.1 _ rfl).2); have hn1196_1 : ad1194.block ≠ gb1195 := (by first | exact Kd.own_blk (Kd.R_ne HO_3.out BK1195.out (by decide)) | exact (HO_3.out.1 _ rfl).2); replace hx1196_0 := (cell_far (p := ⟨gb1195, 0, none⟩) (by first | (rw [add_block]; exact hn1196_0) | (show (Addr.add _ _).block ≠ _; rw [add_block]; exact hn1196_0) | exact hn1196_0) (.int .i64 ((rd_T72 t1191 x15_1).f0))).trans hx1196_0; replace hx1196_1 := (cell_far (p := ⟨gb1195, 0, none⟩) (by first | (rw [add_block]; exact hn1196_0) | (show (Addr.add _ _).block ≠ _; rw [add_block]; exact hn1196_0) | exact hn1196_0) (.int .i64 ((rd_T72 t1191 x15_1).f0))).trans hx1196_1; replace hx1196_0 := (cell_far (p := ⟨gb1195, 1, none⟩) (by first | (rw [add_block]; exact hn1196_1) | (show (Addr.add _ _).block ≠ _; rw [add_block]; exact hn1196_1) | exact hn1196_1) (.int .i64 ((rd_T72 t1191 x15_1).f1))).trans hx1196_0; replace hx1196_1 := (cell_far (p := ⟨gb1195, 1, none⟩) (by first | (rw [add_block]; exact hn1196_1) | (show (Addr.add _ _).block ≠ _; rw [add_block]; exact hn1196_1) | exact hn1196_1) (.int .i64 ((rd_T72 t1191 x15_1).f1))).trans hx1196_1; clear hn1196_0; clear hn1196_1; replace p1196 := eq_true p1196; replace q1196 := eq_true q1196) | ((with_reducible refine gate_dst (N := 7) rfl ?_); refine box_event ?hg (N := 7) ?hd (cs := #[.int .i64 0, .int .i64 0]) (t := 72) ?hr ?_; (case hd => rfl); (case hg => rfl); (case hr => first | (go_simp; done) | (go_simp; rfl)); intro gb1197 hg w17 hbox hb; have n0_ := am_ (Kd.R_below (Kd.R_elderB (by (with_reducible repeat (first | apply Kd.R_alloc | apply Kd.R_drewN | apply Kd.R_drew)); exact (Kd.R_mono (Kd.R_far (p := ⟨gb1195, 1, none⟩) (Kd.R_far (p := ⟨gb1195, 0, none⟩) (Kd.R_mono HO_3.out (fun k_ hk => (⟨hk, hk.2⟩ : _ ∧ k_ ≠ gb1195))) (fun _ hk => hk.2) (.int .i64 ((rd_T72 t1191 x15_1).f0))) (fun _ hk => hk.2) (.int .i64 ((rd_T72 t1191 x15_1).f1))) (fun _ h_ => h_.1))) gb1197 (Nat.le_of_eq hg.symm)) hb); have n1_ := am_ (Kd.R_below (Kd.R_elderB (by (with_reducible repeat (first | apply Kd.R_alloc | apply Kd.R_drewN | apply Kd.R_drew)); exact (Kd.R_mono (Kd.R_far (p := ⟨gb1195, 1, none⟩) (Kd.R_far (p := ⟨gb1195, 0, none⟩) (Kd.R_mono HO_13.out (fun k_ hk => (⟨hk, hk.2⟩ : _ ∧ k_ ≠ gb1195))) (fun _ hk => hk.2) (.int .i64 ((rd_T72 t1191 x15_1).f0))) (fun _ hk => hk.2) (.int .i64 ((rd_T72 t1191 x15_1).f1))) (fun _ h_ => h_.1))) gb1197 (Nat.le_of_eq hg.symm)) hb); have n2_ := am_ (blk_below (g := gb1195) (o := .cells #[.int .i64 ((rd_T72 t1191 x15_1).f0), .int .i64 ((rd_T72 t1191 x15_1).f1)] 72 (0, 0)) (by (with_reducible repeat (first | refine blk_drewN ?_ _ | refine blk_drew ?_ | refine blk_alloc ?_ _)); refine blk_put (cs := #[.int .i64 ((rd_T72 t1191 x15_1).f0), .int .i64 0]) ?_ 1 _ rfl; (with_reducible repeat (first | refine blk_drewN ?_ _ | refine blk_drew ?_ | refine blk_alloc ?_ _)); refine blk_put (cs := #[.int .i64 0, .int .i64 0]) ?_ 0 _ rfl; (with_reducible repeat (first | refine blk_drewN ?_ _ | refine blk_drew ?_ | refine blk_alloc ?_ _)); exact BK1195.out) hb); have n3_ := am_ (below_step (bx1 HB.out GE1195.out) hb); have n4_ := am_ (hbox); have n5_ := am_ ((by rw [hg]; exact (below_size (bx1 HB.out GE1195.out)) : w.heap.size ≤ gb1197)); have n6_ := am_ ((by rw [hg]; exact (below_size (bx1 HB.out GE1195.out)) : w.heap.size ≤ gb1197)); have n7_ := am_ ((by rw [hg]; exact Nat.ne_of_lt (blk_lt (g := gb1195) (o := .cells #[.int .i64 ((rd_T72 t1191 x15_1).f0), .int .i64 ((rd_T72 t1191 x15_1).f1)] 72 (0, 0)) (by (with_reducible repeat (first | refine blk_drewN ?_ _ | refine blk_drew ?_ | refine blk_alloc ?_ _)); refine blk_put (cs := #[.int .i64 ((rd_T72 t1191 x15_1).f0), .int .i64 0]) ?_ 1 _ rfl; (with_reducible repeat (first | refine blk_drewN ?_ _ | refine blk_drew ?_ | refine blk_alloc ?_ _)); refine blk_put (cs := #[.int .i64 0, .int .i64 0]) ?_ 0 _ rfl; (with_reducible repeat (first | refine blk_drewN ?_ _ | refine blk_drew ?_ | refine blk_alloc ?_ _)); exact BK1195.out)) : gb1195 ≠ gb1197)); have n8_ := am_ ((by rw [hg]; exact Nat.ne_of_gt (blk_lt (g := gb1195) (o := .cells #[.int .i64 ((rd_T72 t1191 x15_1).f0), .int .i64 ((rd_T72 t1191 x15_1).f1)] 72 (0, 0)) (by (with_reducible repeat (first | refine blk_drewN ?_ _ | refine blk_drew ?_ | refine blk_alloc ?_ _)); refine blk_put (cs := #[.int .i64 ((rd_T72 t1191 x15_1).f0), .int .i64 0]) ?_ 1 _ rfl; (with_reducible repeat (first | refine blk_drewN ?_ _ | refine blk_drew ?_ | refine blk_alloc ?_ _)); refine blk_put (cs := #[.int .i64 0, .int .i64 0]) ?_ 0 _ rfl; (with_reducible repeat (first | refine blk_drewN ?_ _ | refine blk_drew ?_ | refine blk_alloc ?_ _)); exact BK1195.out)) : gb1197 ≠ gb1195)); clear HO_3; clear HO_13; clear BK1195; clear HB; have HO_3 := n0_; have HO_13 := n1_; have BK1195 := n2_; have HB := n3_; have BK1197 := n4_; have GW1197 := n5_; have GE1197 := n6_; have NB1195_1197 := n7_; have NB1197_1195 := n8_; clear n0_ n1_ n2_ n3_ n4_ n5_ n6_ n7_ n8_; clear hb hbox hg; have hnb18 := NB1197_1195.out; have hnc18 := NB1195_1197.out; have hcz19_0 : w17.cell? ⟨gb1197, 0, none⟩ = some (.int .i64 0) := (blk_cell BK1197.out 0).trans rfl; have hcz19_1 : w17.cell? ⟨gb1197, 1, none⟩ = some (.int .i64 0) := (blk_cell BK1197.out 1).trans rfl; have hfz19_0 := blk_frozen BK1197.out 0; have hfz19_1 := blk_frozen BK1197.out 1; have hcz20_0 : w17.cell? ⟨gb1195, 0, none⟩ = some (.int .i64 ((rd_T72 t1191 x15_1).f0)) := (blk_cell BK1195.out 0).trans rfl; have hcz20_1 : w17.cell? ⟨gb1195, 1, none⟩ = some (.int .i64 ((rd_T72 t1191 x15_1).f1)) := (blk_cell BK1195.out 1).trans rfl; have hfz20_0 := blk_frozen BK1195.out 0; have hfz20_1 := blk_frozen BK1195.out 1))
          go_roundg k1
          case measure => have := HK1.out; omega
          case rel => exact ⟨(wrap64 ((wrap64 (x4_1 + (wrap64 (((rd_T72 t1191 x15_1).f0) * ((rd_T72 t1191 (ji12)).f1))))) - (wrap64 (((rd_T72 t1191 x15_1).f1) * ((rd_T72 t1191 (ji12)).f0))))), (wrap64 (x15_1 + 1)), (by first | rfl | (simp; done) | (simp only [← hji12] <;> (first | rfl | simp)) | (simp [*]; done)), (by first | rfl | (simp; done) | (simp [*]; done)), H', ⟨by have := HK1.out; omega⟩, ⟨by (with_reducible repeat (first | apply Kd.R_alloc | apply Kd.R_drewN | apply Kd.R_drew)); exact Kd.R_mono (Kd.R_far (p := ⟨gb1197, 1, none⟩) (Kd.R_far (p := ⟨gb1197, 0, none⟩) (Kd.R_mono HO_3.out (fun k_ hk => (⟨hk, hk.2⟩ : _ ∧ k_ ≠ gb1197))) (fun _ hk => hk.2) (.int .i64 ((rd_T72 t1191 (ji12)).f0))) (fun _ hk => hk.2) (.int .i64 ((rd_T72 t1191 (ji12)).f1))) (fun _ hk => trivial)⟩, ⟨by (with_reducible repeat (first | apply Kd.R_alloc | apply Kd.R_drewN | apply Kd.R_drew)); exact Kd.R_mono (Kd.R_far (p := ⟨gb1197, 1, none⟩) (Kd.R_far (p := ⟨gb1197, 0, none⟩) (Kd.R_mono HO_13.out (fun k_ hk => (⟨hk, hk.2⟩ : _ ∧ k_ ≠ gb1197))) (fun _ hk => hk.2) (.int .i64 ((rd_T72 t1191 (ji12)).f0))) (fun _ hk => hk.2) (.int .i64 ((rd_T72 t1191 (ji12)).f1))) (fun _ hk => trivial)⟩, ⟨bx2 HB.out GE1195.out GE1197.out⟩⟩
         ·rw [if_neg c14] at H
          exact absurd H (by simp)
        ·rw [if_neg c13] at H
         exact absurd H (by simp)
      ·rw [if_neg c10] at H
       exact absurd H (by simp)
     ·rw [if_neg c9] at H
      exact absurd H (by simp)
    ·rw [if_neg c8] at H
     have c8b0 : decide (x15_1 < (t1191.length : Int)) = false := decide_eq_false c8
     clear c8
     obtain rfl := Option.some.inj H
     go_wp2
     go_ret
     exact ⟨by first | rfl | (simp [errW_none, errW_some] <;> rfl) | (simp [*, errW_none, errW_some] <;> rfl), bx0 HB.out⟩
 ·replace c3 := Bool.eq_false_iff.mpr c3
  subst c3
  have H1 : (some (-1)) = some r := by rw [if_neg (show ¬ (false = true) by decide)] at H; exact H
  clear H
  have H := H1
  clear H1
  obtain rfl := Option.some.inj H
  go_enter Try.func42, Try.ntmps42
  go_wp2_with (first | ((with_reducible refine gate_callee (f := 68) rfl ?_); refine goesL_ (some 9) rfl rfl Try.func68 (by kernel_rfl) rfl #[.slice A0 l0.length c0] rfl (by (try simp only [List.map_toArray, List.map_cons, List.map_nil]); first | done | rfl | (simp only [List.length_drop, List.length_take]; rfl)) ?_; (with_reducible refine (impl_ArePoints.calls k _ _ l0 false _ ?side1 ?side2 A2.out).mono ?_); (case side1 => repeat (first | exact HR0.out | (with_reducible refine Kd.C_alloc ?_ _) | (with_reducible refine Kd.C_drewN ?_ _) | (with_reducible refine Kd.C_drew ?_))); (case side2 => exact HC0.out); rintro e w21 ⟨rfl, hb⟩; refine ⟨_, rfl, ?_⟩; have n0_ := am_ (below_step (bx0 HB.out) hb); clear HB; have HB := n0_; clear n0_; (try clear hb); (try clear hb2); (try clear hk); (try clear hi)))
  go_ret
  exact ⟨by first | rfl | (simp [errW_none, errW_some] <;> rfl) | (simp [*, errW_none, errW_some] <;> rfl), bx0 HB.out⟩
end Go.Proofs.Yteblnjoljbdjjaa.P
