/- What the law FnExactHullArea reaches, part 13: functions as plain Lean functions with the proofs that their calls come to them, and plain lemmas over these. Put together by a program (wip/pack.py). -/
import Derived.Test.YteblnjoljbdjjaaKFnExactHullAreac
import Derived.Test.YteblnjoljbdjjaaKFnExactHullAreaj
import Derived.Test.YteblnjoljbdjjaaKFnExactHullAreal
import Derived.Test.YteblnjoljbdjjaaKFnExactHullAreak
import Derived.Lib.ConvBytes
namespace Go.Proofs.Yteblnjoljbdjjaa.P
open Go.RowKit Go.Proofs.YteblnjoljbdjjaaW.PrintWords Go.Proofs.YteblnjoljbdjjaaW.PrintLast Go.Proofs.YteblnjoljbdjjaaW.PrintMore
attribute [local go_sem] ptrOf_slice
attribute [local go_sem] min2_str max2_int min2_int max_two min_two max_three min_three max_four min_four
set_option linter.unusedVariables false
set_option linter.unusedSimpArgs false
def impl_SignsOf.l0 : Nat → List (S72) → List Int → List (S122) → Int → Int → Option (Int × ByteArray × Bool)
 | 0, _, _, _, _, _ => none
 | k + 1, x0, x4, x19, x20, x21 => if x21 < x20 then (if 0 ≤ x21 then (if x21 < (x19.length : Int) then (if 0 ≤ ((rd_T122 x19 x21).f0) then (if ((rd_T122 x19 x21).f0) < (x0.length : Int) then (if 0 ≤ ((rd_T122 x19 x21).f1) then (if ((rd_T122 x19 x21).f1) < (x0.length : Int) then (if 0 ≤ ((rd_T122 x19 x21).f2) then (if ((rd_T122 x19 x21).f2) < (x0.length : Int) then ((impl_TurnOf.f k ((rd_T72 x0 ((rd_T122 x19 x21).f0)).f0) ((rd_T72 x0 ((rd_T122 x19 x21).f0)).f1) ((rd_T72 x0 ((rd_T122 x19 x21).f1)).f0) ((rd_T72 x0 ((rd_T122 x19 x21).f1)).f1) ((rd_T72 x0 ((rd_T122 x19 x21).f2)).f0) ((rd_T72 x0 ((rd_T122 x19 x21).f2)).f1)).bind fun t1133 => ((impl_chi_set.f x4 ((rd_T122 x19 x21).f0) ((rd_T122 x19 x21).f1) ((rd_T122 x19 x21).f2) t1133).bind fun t1134 => (impl_SignsOf.l0 k x0 t1134 x19 x20 (wrap64 (x21 + 1))))) else (none)) else (none)) else (none)) else (none)) else (none)) else (none)) else (none)) else (none)) else ((impl_chi_signs.f k x4).bind fun bt1135 => (some (bt1135.1, bt1135.2, true)))
def impl_SignsOf.f (k : Nat) (l0 : List (S72)) : Option (Int × ByteArray × Bool) := (impl_ArePoints.f k l0).bind fun t1120 => (if t1120 = true then ((some (chiNew (l0.length : Int) : List Int)).bind fun y1121 => (if 344 ≤ (y1121.length : Int) then ((impl_triplesOf.f k (chiN y1121)).bind fun t1125 => (impl_SignsOf.l0 k l0 y1121 t1125 (t1125.length : Int) 0)) else (none))) else (some (0, (⟨#[]⟩ : ByteArray), false)))
def impl_SignsOf.T7 : Bool × List (List Nat × List Nat) := (true, [([], []), ([], []), ([1], [1]), ([], []), ([3], [3]), ([], []), ([5], [5]), ([], []), ([], []), ([8], [8]), ([7, 9], [7, 9]), ([10], [10]), ([], []), ([], []), ([13], [13]), ([12, 14], [12, 14]), ([15], [15]), ([], []), ([], []), ([18], [18]), ([17, 19], [17, 19]), ([20], [20]), ([11, 16, 21], [11, 16, 21]), ([0, 2, 4, 6, 22, 22], [0, 2, 4, 6, 22])])
def impl_SignsOf.B7 : List Nat := [0, 0, 2, 0, 8, 0, 32, 0, 0, 256, 896, 1920, 0, 0, 8192, 28672, 61440, 0, 0, 262144, 917504, 1966080, 4194176, 8388607]
theorem impl_SignsOf.tab7 : rtab .any (opsOf Try.f131 7) = impl_SignsOf.T7 := by kernel_rfl
theorem impl_SignsOf.bits7 : waitsOk impl_SignsOf.T7.2 impl_SignsOf.B7 = true := by kernel_rfl
set_option maxHeartbeats 8000000 in
set_option maxRecDepth 100000 in
theorem impl_SignsOf.calls (k : Nat) (A0 : Option Addr) (c0 : Nat) (l0 : List (S72)) (r1 : Int) (r2 : ByteArray) (r3 : Bool) (w : World) (hr0 : Kd.C k72 w A0 l0.length l0) (hc0 : l0.length ≤ c0) (h : impl_SignsOf.f k l0 = some (r1, r2, r3)) :
  Calls Try.prog 131 #[.slice A0 l0.length c0] w fun e w' => e = .returned (.tuple #[.agg #[.int .i64 r1, .string r2], .bool r3]) ∧ Below w.heap.size w w' := by
 have hu25 := Try.underlying25
 have hu122 := Try.underlying122
 have hu72 := Try.underlying72
 have HR0 := am_ hr0
 have HC0 := am_ hc0
 clear hr0 hc0
 have HB := am_ (Below.refl w.heap.size w)
 have H : ((impl_ArePoints.f k l0).bind fun t1120 => (if t1120 = true then ((some (chiNew (l0.length : Int) : List Int)).bind fun y1121 => (if 344 ≤ (y1121.length : Int) then ((impl_triplesOf.f k (chiN y1121)).bind fun t1125 => (impl_SignsOf.l0 k l0 y1121 t1125 (t1125.length : Int) 0)) else (none))) else (some (0, (⟨#[]⟩ : ByteArray), false)))) = some (r1, r2, r3) := h
 clear h
 replace H := Option.bind_eq_some_iff.mp H
 obtain ⟨t1120, A20, H⟩ := H
 replace H : (if t1120 = true then ((some (chiNew (l0.length : Int) : List Int)).bind fun y1121 => (if 344 ≤ (y1121.length : Int) then ((impl_triplesOf.f k (chiN y1121)).bind fun t1125 => (impl_SignsOf.l0 k l0 y1121 t1125 (t1125.length : Int) 0)) else (none))) else (some (0, (⟨#[]⟩ : ByteArray), false))) = some (r1, r2, r3) := H
 have A2 := am_ A20
 clear A20
 by_cases c3 : t1120 = true
 ·subst c3
  have H1 : ((some (chiNew (l0.length : Int) : List Int)).bind fun y1121 => (if 344 ≤ (y1121.length : Int) then ((impl_triplesOf.f k (chiN y1121)).bind fun t1125 => (impl_SignsOf.l0 k l0 y1121 t1125 (t1125.length : Int) 0)) else (none))) = some (r1, r2, r3) := by rw [if_pos rfl] at H; exact H
  clear H
  have H := H1
  clear H1
  obtain ⟨y1121, hy1121⟩ : ∃ y_ : List Int, y_ = (chiNew (l0.length : Int)) := ⟨_, rfl⟩
  replace H : (if 344 ≤ (y1121.length : Int) then ((impl_triplesOf.f k (chiN y1121)).bind fun t1125 => (impl_SignsOf.l0 k l0 y1121 t1125 (t1125.length : Int) 0)) else (none)) = some (r1, r2, r3) := by first | (rw [hy1121]; with_reducible exact H) | (have H2_ := (Option.bind_some _ _).symm.trans H; rw [hy1121]; with_reducible exact H2_) | (have H2_ := (Option.bind_some _ _).symm.trans H; with_reducible exact H2_) | with_reducible exact H | (rw [hy1121]; exact H) | exact H
  have Ny1121 := am_ hy1121
  clear hy1121
  by_cases c4 : 344 ≤ (y1121.length : Int)
  ·rw [if_pos c4] at H
   have c4b0 := eq_true c4
   have c4b1 : decide (344 ≤ (y1121.length : Int)) = true := decide_eq_true c4
   clear c4
   replace H := Option.bind_eq_some_iff.mp H
   obtain ⟨t1125, A50, H⟩ := H
   replace H : (impl_SignsOf.l0 k l0 y1121 t1125 (t1125.length : Int) 0) = some (r1, r2, r3) := H
   have A5 := am_ A50
   clear A50
   have H' := am_ H
   clear H
   go_enter Try.func131, Try.ntmps131
   go_wp2_with (first | ((with_reducible refine gate_dst (N := 2) rfl ?_); refine box_event ?hg (N := 2) ?hd (cs := #[.int .i64 0, .string (⟨#[]⟩ : ByteArray)]) (t := 25) ?hr ?_; (case hd => rfl); (case hg => rfl); (case hr => first | (go_simp; done) | (go_simp; rfl)); intro gb1119 hg w6 hbox hb; have n0_ := am_ (below_step (bx0 HB.out) hb); have n1_ := am_ (hbox); have n2_ := am_ ((by rw [hg]; exact (below_size (bx0 HB.out)) : w.heap.size ≤ gb1119)); have n3_ := am_ ((by rw [hg]; exact (below_size (bx0 HB.out)) : w.heap.size ≤ gb1119)); clear HB; have HB := n0_; have BK1119 := n1_; have GW1119 := n2_; have GE1119 := n3_; clear n0_ n1_ n2_ n3_; clear hb hbox hg) | ((with_reducible refine gate_callee (f := 68) rfl ?_); refine goesL_ (some 8) rfl rfl Try.func68 (by kernel_rfl) rfl #[.slice A0 l0.length c0] rfl (by (try simp only [List.map_toArray, List.map_cons, List.map_nil]); first | done | rfl | (simp only [List.length_drop, List.length_take]; rfl)) ?_; (with_reducible refine (impl_ArePoints.calls k _ _ l0 true _ ?side1 ?side2 A2.out).mono ?_); (case side1 => repeat (first | exact (Kd.C_below HR0.out HB.out) | (with_reducible refine Kd.C_alloc ?_ _) | (with_reducible refine Kd.C_drewN ?_ _) | (with_reducible refine Kd.C_drew ?_))); (case side2 => exact HC0.out); rintro e w7 ⟨rfl, hb⟩; refine ⟨_, rfl, ?_⟩; have n0_ := am_ (blk_below (g := gb1119) (o := .cells #[.int .i64 0, .string (⟨#[]⟩ : ByteArray)] 25 (0, 0)) (kx_ BK1119.out) hb); have n1_ := am_ (below_step (bx1 HB.out GE1119.out) hb); clear BK1119; clear HB; have BK1119 := n0_; have HB := n1_; clear n0_ n1_; (try clear hb); (try clear hb2); (try clear hk); (try clear hi)) | ((with_reducible refine gate_dst (N := 13) rfl ?_); refine chi_build (N := 13) ?hg ?hd (n := (l0.length : Int)) ?hr ?_; (case hd => rfl); (case hg => rfl); (case hr => first | (go_simp; done) | (go_simp; rfl))) | ((with_reducible refine gate_dst (N := 14) rfl ?_); refine chi_make _ 93 ?hg (N := 14) ?hd (n := (l0.length : Int)) (ok := fun _ => True) ?hr trivial (Below.refl _ _) (Nat.le_refl _) ?_; (case hd => rfl); (case hg => rfl); (case hr => first | (go_simp; done) | (go_simp; rfl)); intro v1122 w8 ho9 hb hg_ hnew_; clear hg_ hnew_; (first | rw [← Ny1121.out] at ho9 | (simp only [Int.reduceToNat] at ho9; rw [← Ny1121.out] at ho9)); have n0_ := am_ (Kd.R_lower ho9 (below_size (bx1 HB.out GE1119.out))); have n1_ := am_ (blk_below (g := gb1119) (o := .cells #[.int .i64 0, .string (⟨#[]⟩ : ByteArray)] 25 (0, 0)) (kx_ BK1119.out) hb); have n2_ := am_ (below_step (bx1 HB.out GE1119.out) hb); clear BK1119; clear HB; have HO1123 := n0_; have BK1119 := n1_; have HB := n2_; clear n0_ n1_ n2_; clear hb ho9; obtain ⟨Ao10, co10, eo10⟩ := Kd.R_slice HO1123.out; subst eo10; have q1124 : 344 ≤ (y1121.length : Int) := of_decide_eq_true (by first | (with_reducible assumption) | assumption); obtain ⟨ad1124, e1124, hx1124_0⟩ := chi_n (Kd.R_reads' HO1123.out).2.2 q1124; cases e1124) | ((with_reducible refine gate_callee (f := 114) rfl ?_); refine goesL_ (some 19) rfl rfl Try.func114 (by kernel_rfl) rfl #[.int .i64 (chiN y1121)] rfl (by (try simp only [List.map_toArray, List.map_cons, List.map_nil]); first | done | rfl | (simp only [List.length_drop, List.length_take]; rfl)) ?_; (with_reducible refine (impl_triplesOf.calls k (chiN y1121) t1125 _ A5.out).mono ?_); rintro e w11 ⟨v1126, rfl, ho0, hb⟩; refine ⟨_, rfl, ?_⟩; have n0_ := am_ (Kd.R_below (rx_ HO1123.out) hb); have n1_ := am_ (Kd.R_lower ho0 (below_size (bx1 HB.out GE1119.out))); have n2_ := am_ (blk_below (g := gb1119) (o := .cells #[.int .i64 0, .string (⟨#[]⟩ : ByteArray)] 25 (0, 0)) (kx_ BK1119.out) hb); have n3_ := am_ (below_step (bx1 HB.out GE1119.out) hb); clear HO1123; clear BK1119; clear HB; have HO1123 := n0_; have HO1127 := n1_; have BK1119 := n2_; have HB := n3_; clear n0_ n1_ n2_ n3_; (try clear hb); (try clear hb2); (try clear hk); (try clear hi); (try clear ho0); obtain ⟨Ao12, co12, eo12⟩ := Kd.R_slice HO1127.out; subst eo12))
   go_loopg [21] k (fun kq v21 w' => ∃ (x4_1 : List Int) (x21_1 : Int), v21 = .int .i64 x21_1 ∧ Aside0 (impl_SignsOf.l0 kq l0 x4_1 t1125 (t1125.length : Int) x21_1 = some (r1, r2, r3)) ∧ Aside0 (kq ≤ k) ∧ Aside0 (Kd.R (Kd.int .i64) 93 w' w.heap.size (fun _ => True) (.slice (some ad1124) y1121.length co10) x4_1) ∧ Aside0 (Kd.R k122 122 w' w.heap.size (fun _ => True) (.slice Ao12 t1125.length co12) t1125) ∧ Aside0 (w'.heap[gb1119]? = some (.cells #[.int .i64 0, .string (⟨#[]⟩ : ByteArray)] 25 (0, 0))) ∧ Aside0 (Below w.heap.size w w'))
   case atStart => exact ⟨(y1121), (0), (by first | rfl | (simp; done) | (simp [*]; done)), H', ⟨Nat.le_refl _⟩, ⟨rx_ HO1123.out⟩, ⟨rx_ HO1127.out⟩, ⟨kx_ BK1119.out⟩, ⟨bx1 HB.out GE1119.out⟩⟩
   case round =>
    clear H'
    try clear c1
    try clear q1
    try clear hx1
    try clear p2
    try clear c3
    try clear c4
    try clear c4b0
    try clear c4b1
    try clear c6
    try clear c11
    try clear q11
    try clear hx11
    try clear hx1124_0
    try clear q1124
    obtain ⟨x4_1, x21_1, rfl, HA, HK1, HO_4, HO_19, BK1119, HB⟩ := hrel
    have hl4_1 := (Kd.R_reads' HO_4.out).1
    rw [hl4_1] at HO_4
    (try simp only [hl4_1])
    (try simp only [hl4_1] at BK1119)
    (try simp only [hl4_1] at HO_19)
    cases gk with
    | zero => exact absurd HA.out (by simp [impl_SignsOf.l0])
    | succ k1 =>
     have H := HA.out
     clear HA
     simp only [impl_SignsOf.l0] at H
     by_cases c13 : x21_1 < (t1125.length : Int)
     ·rw [if_pos c13] at H
      have c13b0 : decide (x21_1 < (t1125.length : Int)) = true := decide_eq_true c13
      (try (have c13b0_ := c13b0; simp only [hl4_1] at c13b0_))
      clear c13
      by_cases c14 : 0 ≤ x21_1
      ·rw [if_pos c14] at H
       have c14b0 : decide (0 ≤ x21_1) = true := decide_eq_true c14
       clear c14
       by_cases c15 : x21_1 < (t1125.length : Int)
       ·rw [if_pos c15] at H
        have c15b0 : decide (x21_1 < (t1125.length : Int)) = true := decide_eq_true c15
        (try (have c15b0_ := c15b0; simp only [hl4_1] at c15b0_))
        clear c15
        by_cases c16 : 0 ≤ ((rd_T122 t1125 x21_1).f0)
        ·rw [if_pos c16] at H
         have c16b0 : decide (0 ≤ ((rd_T122 t1125 x21_1).f0)) = true := decide_eq_true c16
         clear c16
         by_cases c17 : ((rd_T122 t1125 x21_1).f0) < (l0.length : Int)
         ·rw [if_pos c17] at H
          have c17b0 : decide (((rd_T122 t1125 x21_1).f0) < (l0.length : Int)) = true := decide_eq_true c17
          (try (have c17b0_ := c17b0; simp only [hl4_1] at c17b0_))
          clear c17
          by_cases c18 : 0 ≤ ((rd_T122 t1125 x21_1).f1)
          ·rw [if_pos c18] at H
           have c18b0 : decide (0 ≤ ((rd_T122 t1125 x21_1).f1)) = true := decide_eq_true c18
           clear c18
           by_cases c19 : ((rd_T122 t1125 x21_1).f1) < (l0.length : Int)
           ·rw [if_pos c19] at H
            have c19b0 : decide (((rd_T122 t1125 x21_1).f1) < (l0.length : Int)) = true := decide_eq_true c19
            (try (have c19b0_ := c19b0; simp only [hl4_1] at c19b0_))
            clear c19
            by_cases c20 : 0 ≤ ((rd_T122 t1125 x21_1).f2)
            ·rw [if_pos c20] at H
             have c20b0 : decide (0 ≤ ((rd_T122 t1125 x21_1).f2)) = true := decide_eq_true c20
             clear c20
             by_cases c21 : ((rd_T122 t1125 x21_1).f2) < (l0.length : Int)
             ·rw [if_pos c21] at H
              have c21b0 : decide (((rd_T122 t1125 x21_1).f2) < (l0.length : Int)) = true := decide_eq_true c21
              (try (have c21b0_ := c21b0; simp only [hl4_1] at c21b0_))
              clear c21
              replace H := Option.bind_eq_some_iff.mp H
              obtain ⟨t1133, A220, H⟩ := H
              replace H : ((impl_chi_set.f x4_1 ((rd_T122 t1125 x21_1).f0) ((rd_T122 t1125 x21_1).f1) ((rd_T122 t1125 x21_1).f2) t1133).bind fun t1134 => (impl_SignsOf.l0 k1 l0 t1134 t1125 (t1125.length : Int) (wrap64 (x21_1 + 1)))) = some (r1, r2, r3) := H
              have A22 := am_ A220
              clear A220
              replace H := Option.bind_eq_some_iff.mp H
              obtain ⟨t1134, A230, H⟩ := H
              replace H : (impl_SignsOf.l0 k1 l0 t1134 t1125 (t1125.length : Int) (wrap64 (x21_1 + 1))) = some (r1, r2, r3) := H
              have A23 := am_ A230
              clear A230
              have H' := am_ H
              clear H
              have p1128 : 0 ≤ (x21_1 : Int) := of_decide_eq_true (by first | (with_reducible assumption) | assumption)
              have q1128 : x21_1 < (t1125.length : Int) := of_decide_eq_true (by first | (with_reducible assumption) | assumption)
              obtain ⟨ad1128, e1128, hx1128_0, hx1128_1, hx1128_2⟩ := at_T122 (Kd.R_reads' HO_19.out).2.2 x21_1 p1128 q1128
              cases e1128
              replace p1128 := eq_true p1128
              replace q1128 := eq_true q1128
              try go_wp2_with (first | ((with_reducible refine gate_dst (N := 6) rfl ?_); refine box_event ?hg (N := 6) ?hd (cs := #[.int .i64 0, .int .i64 0, .int .i64 0]) (t := 122) ?hr ?_; (case hd => rfl); (case hg => rfl); (case hr => first | (go_simp; done) | (go_simp; rfl)); intro gb1129 hg w24 hbox hb; have n0_ := am_ (Kd.R_below (rx_ HO_4.out) hb); have n1_ := am_ (Kd.R_below (Kd.R_elderB (rx_ HO_19.out) gb1129 (Nat.le_of_eq hg.symm)) hb); have n2_ := am_ (blk_below (g := gb1119) (o := .cells #[.int .i64 0, .string (⟨#[]⟩ : ByteArray)] 25 (0, 0)) (kx_ BK1119.out) hb); have n3_ := am_ (below_step (bx1 HB.out GE1119.out) hb); have n4_ := am_ (hbox); have n5_ := am_ ((by rw [hg]; exact (below_size (bx1 HB.out GE1119.out)) : w.heap.size ≤ gb1129)); have n6_ := am_ ((by rw [hg]; exact (below_size (bx1 HB.out GE1119.out)) : w.heap.size ≤ gb1129)); have n7_ := am_ ((by rw [hg]; exact Nat.ne_of_lt (blk_lt (g := gb1119) (o := .cells #[.int .i64 0, .string (⟨#[]⟩ : ByteArray)] 25 (0, 0)) (kx_ BK1119.out)) : gb1119 ≠ gb1129)); have n8_ := am_ ((by rw [hg]; exact Nat.ne_of_gt (blk_lt (g := gb1119) (o := .cells #[.int .i64 0, .string (⟨#[]⟩ : ByteArray)] 25 (0, 0)) (kx_ BK1119.out)) : gb1129 ≠ gb1119)); clear HO_4; clear HO_19; clear BK1119; clear HB; have HO_4 := n0_; have HO_19 := n1_; have BK1119 := n2_; have HB := n3_; have BK1129 := n4_; have GW1129 := n5_; have GE1129 := n6_; have NB1119_1129 := n7_; have NB1129_1119 := n8_; clear n0_ n1_ n2_ n3_ n4_ n5_ n6_ n7_ n8_; clear hb hbox hg; have hnb25 := NB1129_1119.out; have hnc25 := NB1119_1129.out; have hcz26_0 : w24.cell? ⟨gb1129, 0, none⟩ = some (.int .i64 0) := (blk_cell BK1129.out 0).trans rfl; have hcz26_1 : w24.cell? ⟨gb1129, 1, none⟩ = some (.int .i64 0) := (blk_cell BK1129.out 1).trans rfl; have hcz26_2 : w24.cell? ⟨gb1129, 2, none⟩ = some (.int .i64 0) := (blk_cell BK1129.out 2).trans rfl; have hfz26_0 := blk_frozen BK1129.out 0; have hfz26_1 := blk_frozen BK1129.out 1; have hfz26_2 := blk_frozen BK1129.out 2))
              have n0_ : Aside0 (Kd.R (Kd.int .i64) 93 (((w24.setCell ⟨gb1129, 0, none⟩ (.int .i64 ((rd_T122 t1125 x21_1).f0))).setCell ⟨gb1129, 1, none⟩ (.int .i64 ((rd_T122 t1125 x21_1).f1))).setCell ⟨gb1129, 2, none⟩ (.int .i64 ((rd_T122 t1125 x21_1).f2))) w.heap.size (fun _ => True) (.slice (some ad1124) x4_1.length co10) x4_1) := ⟨by (with_reducible repeat (first | apply Kd.R_alloc | apply Kd.R_drewN | apply Kd.R_drew)); exact Kd.R_mono (Kd.R_far (p := ⟨gb1129, 2, none⟩) (Kd.R_far (p := ⟨gb1129, 1, none⟩) (Kd.R_far (p := ⟨gb1129, 0, none⟩) (Kd.R_types HO_4.out BK1129.out (by decide)) (fun _ hk => hk.2) (.int .i64 ((rd_T122 t1125 x21_1).f0))) (fun _ hk => hk.2) (.int .i64 ((rd_T122 t1125 x21_1).f1))) (fun _ hk => hk.2) (.int .i64 ((rd_T122 t1125 x21_1).f2))) (fun _ hk => trivial)⟩
              have n1_ : Aside0 (Kd.R k122 122 (((w24.setCell ⟨gb1129, 0, none⟩ (.int .i64 ((rd_T122 t1125 x21_1).f0))).setCell ⟨gb1129, 1, none⟩ (.int .i64 ((rd_T122 t1125 x21_1).f1))).setCell ⟨gb1129, 2, none⟩ (.int .i64 ((rd_T122 t1125 x21_1).f2))) w.heap.size (fun k_ => k_ ≠ gb1129) (.slice (some ad1128) t1125.length co12) t1125) := ⟨by (with_reducible repeat (first | apply Kd.R_alloc | apply Kd.R_drewN | apply Kd.R_drew)); exact Kd.R_mono (Kd.R_far (p := ⟨gb1129, 2, none⟩) (Kd.R_far (p := ⟨gb1129, 1, none⟩) (Kd.R_far (p := ⟨gb1129, 0, none⟩) (Kd.R_mono HO_19.out (fun k_ hk => (⟨hk, hk.2⟩ : _ ∧ k_ ≠ gb1129))) (fun _ hk => hk.2) (.int .i64 ((rd_T122 t1125 x21_1).f0))) (fun _ hk => hk.2) (.int .i64 ((rd_T122 t1125 x21_1).f1))) (fun _ hk => hk.2) (.int .i64 ((rd_T122 t1125 x21_1).f2))) (fun _ hk => hk.1.2)⟩
              have n2_ : Aside0 ((((w24.setCell ⟨gb1129, 0, none⟩ (.int .i64 ((rd_T122 t1125 x21_1).f0))).setCell ⟨gb1129, 1, none⟩ (.int .i64 ((rd_T122 t1125 x21_1).f1))).setCell ⟨gb1129, 2, none⟩ (.int .i64 ((rd_T122 t1125 x21_1).f2))).heap[gb1119]? = some (.cells #[.int .i64 0, .string (⟨#[]⟩ : ByteArray)] 25 (0, 0))) := ⟨by (with_reducible repeat (first | refine blk_drewN ?_ _ | refine blk_drew ?_ | refine blk_alloc ?_ _)); refine blk_far ?_ NB1119_1129.out _; (with_reducible repeat (first | refine blk_drewN ?_ _ | refine blk_drew ?_ | refine blk_alloc ?_ _)); refine blk_far ?_ NB1119_1129.out _; (with_reducible repeat (first | refine blk_drewN ?_ _ | refine blk_drew ?_ | refine blk_alloc ?_ _)); refine blk_far ?_ NB1119_1129.out _; (with_reducible repeat (first | refine blk_drewN ?_ _ | refine blk_drew ?_ | refine blk_alloc ?_ _)); exact BK1119.out⟩
              have n3_ : Aside0 ((((w24.setCell ⟨gb1129, 0, none⟩ (.int .i64 ((rd_T122 t1125 x21_1).f0))).setCell ⟨gb1129, 1, none⟩ (.int .i64 ((rd_T122 t1125 x21_1).f1))).setCell ⟨gb1129, 2, none⟩ (.int .i64 ((rd_T122 t1125 x21_1).f2))).heap[gb1129]? = some (.cells #[.int .i64 ((rd_T122 t1125 x21_1).f0), .int .i64 ((rd_T122 t1125 x21_1).f1), .int .i64 ((rd_T122 t1125 x21_1).f2)] 122 (0, 0))) := ⟨by (with_reducible repeat (first | refine blk_drewN ?_ _ | refine blk_drew ?_ | refine blk_alloc ?_ _)); refine blk_put (cs := #[.int .i64 ((rd_T122 t1125 x21_1).f0), .int .i64 ((rd_T122 t1125 x21_1).f1), .int .i64 0]) ?_ 2 _ rfl; (with_reducible repeat (first | refine blk_drewN ?_ _ | refine blk_drew ?_ | refine blk_alloc ?_ _)); refine blk_put (cs := #[.int .i64 ((rd_T122 t1125 x21_1).f0), .int .i64 0, .int .i64 0]) ?_ 1 _ rfl; (with_reducible repeat (first | refine blk_drewN ?_ _ | refine blk_drew ?_ | refine blk_alloc ?_ _)); refine blk_put (cs := #[.int .i64 0, .int .i64 0, .int .i64 0]) ?_ 0 _ rfl; (with_reducible repeat (first | refine blk_drewN ?_ _ | refine blk_drew ?_ | refine blk_alloc ?_ _)); exact BK1129.out⟩
              have n4_ : Aside0 (Below w.heap.size w (((w24.setCell ⟨gb1129, 0, none⟩ (.int .i64 ((rd_T122 t1125 x21_1).f0))).setCell ⟨gb1129, 1, none⟩ (.int .i64 ((rd_T122 t1125 x21_1).f1))).setCell ⟨gb1129, 2, none⟩ (.int .i64 ((rd_T122 t1125 x21_1).f2)))) := ⟨bx2 HB.out GE1119.out GE1129.out⟩
              (try clear HO_4)
              (try clear HO_19)
              (try clear BK1119)
              (try clear BK1129)
              (try clear HB)
              generalize (((w24.setCell ⟨gb1129, 0, none⟩ (.int .i64 ((rd_T122 t1125 x21_1).f0))).setCell ⟨gb1129, 1, none⟩ (.int .i64 ((rd_T122 t1125 x21_1).f1))).setCell ⟨gb1129, 2, none⟩ (.int .i64 ((rd_T122 t1125 x21_1).f2))) = w27 at n0_ n1_ n2_ n3_ n4_ ⊢
              have HO_4 := n0_
              have HO_19 := n1_
              have BK1119 := n2_
              have BK1129 := n3_
              have HB := n4_
              clear n0_ n1_ n2_ n3_ n4_
              have n0_ := am_ (Kd.R_drew HO_4.out)
              have n1_ := am_ (Kd.R_drew HO_19.out)
              have n2_ := am_ (blk_drew BK1119.out)
              have n3_ := am_ (blk_drew BK1129.out)
              have n4_ := am_ (below_drew1 HB.out)
              clear HO_4
              clear HO_19
              clear BK1119
              clear BK1129
              clear HB
              have HO_4 := n0_
              have HO_19 := n1_
              have BK1119 := n2_
              have BK1129 := n3_
              have HB := n4_
              clear n0_ n1_ n2_ n3_ n4_
              have p1130 : 0 ≤ (((rd_T122 t1125 x21_1).f0) : Int) := of_decide_eq_true (by first | (with_reducible assumption) | assumption)
              have q1130 : ((rd_T122 t1125 x21_1).f0) < (l0.length : Int) := of_decide_eq_true (by first | (with_reducible assumption) | assumption)
              obtain ⟨ad1130, e1130, hx1130_0, hx1130_1⟩ := at_T72 HR0.out ((rd_T122 t1125 x21_1).f0) p1130 q1130
              have hw1130_1 := hx1130_1
              have hw1130_0 := hx1130_0
              cases e1130
              replace hx1130_0 := (HB.out.cell (World.block_lt_of_cell? w _ hx1130_0)).trans hx1130_0
              replace hx1130_1 := (HB.out.cell (World.block_lt_of_cell? w _ hx1130_1)).trans hx1130_1
              replace p1130 := eq_true p1130
              replace q1130 := eq_true q1130
              have p1131 : 0 ≤ (((rd_T122 t1125 x21_1).f1) : Int) := of_decide_eq_true (by first | (with_reducible assumption) | assumption)
              have q1131 : ((rd_T122 t1125 x21_1).f1) < (l0.length : Int) := of_decide_eq_true (by first | (with_reducible assumption) | assumption)
              obtain ⟨ad1131, e1131, hx1131_0, hx1131_1⟩ := at_T72 HR0.out ((rd_T122 t1125 x21_1).f1) p1131 q1131
              have hw1131_1 := hx1131_1
              have hw1131_0 := hx1131_0
              obtain rfl : ad1130 = ad1131 := (by injection e1131)
              replace hx1131_0 := (HB.out.cell (World.block_lt_of_cell? w _ hx1131_0)).trans hx1131_0
              replace hx1131_1 := (HB.out.cell (World.block_lt_of_cell? w _ hx1131_1)).trans hx1131_1
              replace p1131 := eq_true p1131
              replace q1131 := eq_true q1131
              have p1132 : 0 ≤ (((rd_T122 t1125 x21_1).f2) : Int) := of_decide_eq_true (by first | (with_reducible assumption) | assumption)
              have q1132 : ((rd_T122 t1125 x21_1).f2) < (l0.length : Int) := of_decide_eq_true (by first | (with_reducible assumption) | assumption)
              obtain ⟨ad1132, e1132, hx1132_0, hx1132_1⟩ := at_T72 HR0.out ((rd_T122 t1125 x21_1).f2) p1132 q1132
              have hw1132_1 := hx1132_1
              have hw1132_0 := hx1132_0
              obtain rfl : ad1130 = ad1132 := (by injection e1132)
              replace hx1132_0 := (HB.out.cell (World.block_lt_of_cell? w _ hx1132_0)).trans hx1132_0
              replace hx1132_1 := (HB.out.cell (World.block_lt_of_cell? w _ hx1132_1)).trans hx1132_1
              replace p1132 := eq_true p1132
              replace q1132 := eq_true q1132
              refine start_ (n := 24) (S := fun w' => w'.cell? ⟨gb1129, 0, none⟩ = some (.int .i64 ((rd_T122 t1125 x21_1).f0)) ∧ w'.cell? ⟨gb1129, 1, none⟩ = some (.int .i64 ((rd_T122 t1125 x21_1).f1)) ∧ w'.cell? ⟨gb1129, 2, none⟩ = some (.int .i64 ((rd_T122 t1125 x21_1).f2)) ∧ w'.cell? (ad1130.add ((((rd_T122 t1125 x21_1).f0)).toNat * 2)) = some (.int .i64 ((rd_T72 l0 ((rd_T122 t1125 x21_1).f0)).f0)) ∧ w'.cell? ⟨(ad1130.add ((((rd_T122 t1125 x21_1).f0)).toNat * 2)).block, (ad1130.add ((((rd_T122 t1125 x21_1).f0)).toNat * 2)).off + 1, none⟩ = some (.int .i64 ((rd_T72 l0 ((rd_T122 t1125 x21_1).f0)).f1)) ∧ w'.cell? (ad1130.add ((((rd_T122 t1125 x21_1).f1)).toNat * 2)) = some (.int .i64 ((rd_T72 l0 ((rd_T122 t1125 x21_1).f1)).f0)) ∧ w'.cell? ⟨(ad1130.add ((((rd_T122 t1125 x21_1).f1)).toNat * 2)).block, (ad1130.add ((((rd_T122 t1125 x21_1).f1)).toNat * 2)).off + 1, none⟩ = some (.int .i64 ((rd_T72 l0 ((rd_T122 t1125 x21_1).f1)).f1)) ∧ w'.cell? (ad1130.add ((((rd_T122 t1125 x21_1).f2)).toNat * 2)) = some (.int .i64 ((rd_T72 l0 ((rd_T122 t1125 x21_1).f2)).f0)) ∧ w'.cell? ⟨(ad1130.add ((((rd_T122 t1125 x21_1).f2)).toNat * 2)).block, (ad1130.add ((((rd_T122 t1125 x21_1).f2)).toNat * 2)).off + 1, none⟩ = some (.int .i64 ((rd_T72 l0 ((rd_T122 t1125 x21_1).f2)).f1))) (ds := []) #[false, false, false, false, false, false, false, false, false, false, false, false, false, false, false, false, false, false, false, false, false, false, false, false] (by kernel_rfl) rfl rfl ⟨(blk_cell BK1129.out 0).trans rfl, (blk_cell BK1129.out 1).trans rfl, (blk_cell BK1129.out 2).trans rfl, ((HB.out.cell (World.block_lt_of_cell? w _ hw1130_0)).trans hw1130_0), ((HB.out.cell (World.block_lt_of_cell? w _ hw1130_1)).trans hw1130_1), ((HB.out.cell (World.block_lt_of_cell? w _ hw1131_0)).trans hw1131_0), ((HB.out.cell (World.block_lt_of_cell? w _ hw1131_1)).trans hw1131_1), ((HB.out.cell (World.block_lt_of_cell? w _ hw1132_0)).trans hw1132_0), ((HB.out.cell (World.block_lt_of_cell? w _ hw1132_1)).trans hw1132_1)⟩ (fun hHeld => ?_); refine with_tabW impl_SignsOf.tab7 impl_SignsOf.bits7 (fun HT_ HW_ => ?_)
              generalize w27.drew = w28 at HO_4 HO_19 BK1119 BK1129 HB hx1130_0 hx1130_1 hx1131_0 hx1131_1 hx1132_0 hx1132_1 hHeld ⊢
              refine pure_ (i := 0) (N := some 25) (v := ?_) (a' := ?_) #[true, false, false, false, false, false, false, false, false, false, false, false, false, false, false, false, false, false, false, false, false, false, false, false] rfl rfl (any_of HT_.out (by kernel_rfl)) (fun _ _ _ h => h) (Or.inl ⟨by rfl, ?_⟩) ?_ ?_
              rotate_left
              ·intro w'
               go_simp
               with_reducible rfl
              rotate_left
              ·simp only [Act.put, sA_, sZ_, sS_, i64_w, i32_w]
               rfl
              refine pure_ (i := 1) (N := some 26) (v := ?_) (a' := ?_) #[true, true, false, false, false, false, false, false, false, false, false, false, false, false, false, false, false, false, false, false, false, false, false, false] rfl rfl (any_of HT_.out (by kernel_rfl)) (fun _ _ _ h => h) (Or.inl ⟨by rfl, ?_⟩) ?_ ?_
              rotate_left
              ·intro w'
               go_simp
               with_reducible rfl
              rotate_left
              ·simp only [Act.put, sA_, sZ_, sS_, i64_w, i32_w]
               rfl
              refine pure_ (i := 3) (N := some 28) (v := ?_) (a' := ?_) #[true, true, false, true, false, false, false, false, false, false, false, false, false, false, false, false, false, false, false, false, false, false, false, false] rfl rfl (any_of HT_.out (by kernel_rfl)) (fun _ _ _ h => h) (Or.inl ⟨by rfl, ?_⟩) ?_ ?_
              rotate_left
              ·intro w'
               go_simp
               with_reducible rfl
              rotate_left
              ·simp only [Act.put, sA_, sZ_, sS_, i64_w, i32_w]
               rfl
              refine pure_ (i := 5) (N := some 30) (v := ?_) (a' := ?_) #[true, true, false, true, false, true, false, false, false, false, false, false, false, false, false, false, false, false, false, false, false, false, false, false] rfl rfl (any_of HT_.out (by kernel_rfl)) (fun _ _ _ h => h) (Or.inl ⟨by rfl, ?_⟩) ?_ ?_
              rotate_left
              ·intro w'
               go_simp
               with_reducible rfl
              rotate_left
              ·simp only [Act.put, sA_, sZ_, sS_, i64_w, i32_w]
               rfl
              refine pure_ (i := 7) (N := some 32) (v := ?_) (a' := ?_) #[true, true, false, true, false, true, false, true, false, false, false, false, false, false, false, false, false, false, false, false, false, false, false, false] rfl rfl (any_of HT_.out (by kernel_rfl)) (fun _ _ _ h => h) (Or.inl ⟨by rfl, ?_⟩) ?_ ?_
              rotate_left
              ·intro w'
               go_simp
               with_reducible rfl
              rotate_left
              ·simp only [Act.put, sA_, sZ_, sS_, i64_w, i32_w]
               rfl
              refine pure_ (i := 8) (N := some 33) (v := ?_) (a' := ?_) #[true, true, false, true, false, true, false, true, true, false, false, false, false, false, false, false, false, false, false, false, false, false, false, false] rfl rfl (any_of HT_.out (by kernel_rfl)) (fun _ _ _ h => h) (Or.inl ⟨by rfl, ?_⟩) ?_ ?_
              rotate_left
              ·intro w'
               go_simp
               with_reducible rfl
              rotate_left
              ·simp only [Act.put, sA_, sZ_, sS_, i64_w, i32_w]
               rfl
              refine pure_ (i := 12) (N := some 37) (v := ?_) (a' := ?_) #[true, true, false, true, false, true, false, true, true, false, false, false, true, false, false, false, false, false, false, false, false, false, false, false] rfl rfl (any_of HT_.out (by kernel_rfl)) (fun _ _ _ h => h) (Or.inl ⟨by rfl, ?_⟩) ?_ ?_
              rotate_left
              ·intro w'
               go_simp
               with_reducible rfl
              rotate_left
              ·simp only [Act.put, sA_, sZ_, sS_, i64_w, i32_w]
               rfl
              refine pure_ (i := 13) (N := some 38) (v := ?_) (a' := ?_) #[true, true, false, true, false, true, false, true, true, false, false, false, true, true, false, false, false, false, false, false, false, false, false, false] rfl rfl (any_of HT_.out (by kernel_rfl)) (fun _ _ _ h => h) (Or.inl ⟨by rfl, ?_⟩) ?_ ?_
              rotate_left
              ·intro w'
               go_simp
               with_reducible rfl
              rotate_left
              ·simp only [Act.put, sA_, sZ_, sS_, i64_w, i32_w]
               rfl
              refine pure_ (i := 17) (N := some 42) (v := ?_) (a' := ?_) #[true, true, false, true, false, true, false, true, true, false, false, false, true, true, false, false, false, true, false, false, false, false, false, false] rfl rfl (any_of HT_.out (by kernel_rfl)) (fun _ _ _ h => h) (Or.inl ⟨by rfl, ?_⟩) ?_ ?_
              rotate_left
              ·intro w'
               go_simp
               with_reducible rfl
              rotate_left
              ·simp only [Act.put, sA_, sZ_, sS_, i64_w, i32_w]
               rfl
              refine pure_ (i := 18) (N := some 43) (v := ?_) (a' := ?_) #[true, true, false, true, false, true, false, true, true, false, false, false, true, true, false, false, false, true, true, false, false, false, false, false] rfl rfl (any_of HT_.out (by kernel_rfl)) (fun _ _ _ h => h) (Or.inl ⟨by rfl, ?_⟩) ?_ ?_
              rotate_left
              ·intro w'
               go_simp
               with_reducible rfl
              rotate_left
              ·simp only [Act.put, sA_, sZ_, sS_, i64_w, i32_w]
               rfl
              refine take_ (i := 2) (N := some 27) (v := ?_) (a' := ?_) #[true, true, true, true, false, true, false, true, true, false, false, false, true, true, false, false, false, true, true, false, false, false, false, false] rfl rfl (take_ofW HT_.out HW_.out (by kernel_rfl)) (fun _ _ _ h => h) (Or.inl ⟨by rfl, ?_⟩) hHeld ?_ ?_
              rotate_left
              ·rintro w' ⟨s0, s1, s2, s3, s4, s5, s6, s7, s8⟩
               go_simp
               with_reducible rfl
              rotate_left
              ·simp only [Act.put, sA_, sZ_, sS_, i64_w, i32_w]
               rfl
              refine take_ (i := 4) (N := some 29) (v := ?_) (a' := ?_) #[true, true, true, true, true, true, false, true, true, false, false, false, true, true, false, false, false, true, true, false, false, false, false, false] rfl rfl (take_ofW HT_.out HW_.out (by kernel_rfl)) (fun _ _ _ h => h) (Or.inl ⟨by rfl, ?_⟩) hHeld ?_ ?_
              rotate_left
              ·rintro w' ⟨s0, s1, s2, s3, s4, s5, s6, s7, s8⟩
               go_simp
               with_reducible rfl
              rotate_left
              ·simp only [Act.put, sA_, sZ_, sS_, i64_w, i32_w]
               rfl
              refine take_ (i := 6) (N := some 31) (v := ?_) (a' := ?_) #[true, true, true, true, true, true, true, true, true, false, false, false, true, true, false, false, false, true, true, false, false, false, false, false] rfl rfl (take_ofW HT_.out HW_.out (by kernel_rfl)) (fun _ _ _ h => h) (Or.inl ⟨by rfl, ?_⟩) hHeld ?_ ?_
              rotate_left
              ·rintro w' ⟨s0, s1, s2, s3, s4, s5, s6, s7, s8⟩
               go_simp
               with_reducible rfl
              rotate_left
              ·simp only [Act.put, sA_, sZ_, sS_, i64_w, i32_w]
               rfl
              refine take_ (i := 9) (N := some 34) (v := ?_) (a' := ?_) #[true, true, true, true, true, true, true, true, true, true, false, false, true, true, false, false, false, true, true, false, false, false, false, false] rfl rfl (take_ofW HT_.out HW_.out (by kernel_rfl)) (fun _ _ _ h => h) (Or.inl ⟨by rfl, ?_⟩) hHeld ?_ ?_
              rotate_left
              ·rintro w' ⟨s0, s1, s2, s3, s4, s5, s6, s7, s8⟩
               go_simp
               with_reducible rfl
              rotate_left
              ·simp only [Act.put, sA_, sZ_, sS_, i64_w, i32_w]
               rfl
              refine pure_ (i := 10) (N := some 35) (v := ?_) (a' := ?_) #[true, true, true, true, true, true, true, true, true, true, true, false, true, true, false, false, false, true, true, false, false, false, false, false] rfl rfl (any_of HT_.out (by kernel_rfl)) (fun _ _ _ h => h) (Or.inl ⟨by rfl, ?_⟩) ?_ ?_
              rotate_left
              ·intro w'
               go_simp
               with_reducible rfl
              rotate_left
              ·simp only [Act.put, sA_, sZ_, sS_, i64_w, i32_w]
               rfl
              refine take_ (i := 11) (N := some 36) (v := ?_) (a' := ?_) #[true, true, true, true, true, true, true, true, true, true, true, true, true, true, false, false, false, true, true, false, false, false, false, false] rfl rfl (take_ofW HT_.out HW_.out (by kernel_rfl)) (fun _ _ _ h => h) (Or.inl ⟨by rfl, ?_⟩) hHeld ?_ ?_
              rotate_left
              ·rintro w' ⟨s0, s1, s2, s3, s4, s5, s6, s7, s8⟩
               go_simp
               with_reducible rfl
              rotate_left
              ·simp only [Act.put, sA_, sZ_, sS_, i64_w, i32_w]
               rfl
              refine take_ (i := 14) (N := some 39) (v := ?_) (a' := ?_) #[true, true, true, true, true, true, true, true, true, true, true, true, true, true, true, false, false, true, true, false, false, false, false, false] rfl rfl (take_ofW HT_.out HW_.out (by kernel_rfl)) (fun _ _ _ h => h) (Or.inl ⟨by rfl, ?_⟩) hHeld ?_ ?_
              rotate_left
              ·rintro w' ⟨s0, s1, s2, s3, s4, s5, s6, s7, s8⟩
               go_simp
               with_reducible rfl
              rotate_left
              ·simp only [Act.put, sA_, sZ_, sS_, i64_w, i32_w]
               rfl
              refine pure_ (i := 15) (N := some 40) (v := ?_) (a' := ?_) #[true, true, true, true, true, true, true, true, true, true, true, true, true, true, true, true, false, true, true, false, false, false, false, false] rfl rfl (any_of HT_.out (by kernel_rfl)) (fun _ _ _ h => h) (Or.inl ⟨by rfl, ?_⟩) ?_ ?_
              rotate_left
              ·intro w'
               go_simp
               with_reducible rfl
              rotate_left
              ·simp only [Act.put, sA_, sZ_, sS_, i64_w, i32_w]
               rfl
              refine take_ (i := 16) (N := some 41) (v := ?_) (a' := ?_) #[true, true, true, true, true, true, true, true, true, true, true, true, true, true, true, true, true, true, true, false, false, false, false, false] rfl rfl (take_ofW HT_.out HW_.out (by kernel_rfl)) (fun _ _ _ h => h) (Or.inl ⟨by rfl, ?_⟩) hHeld ?_ ?_
              rotate_left
              ·rintro w' ⟨s0, s1, s2, s3, s4, s5, s6, s7, s8⟩
               go_simp
               with_reducible rfl
              rotate_left
              ·simp only [Act.put, sA_, sZ_, sS_, i64_w, i32_w]
               rfl
              refine take_ (i := 19) (N := some 44) (v := ?_) (a' := ?_) #[true, true, true, true, true, true, true, true, true, true, true, true, true, true, true, true, true, true, true, true, false, false, false, false] rfl rfl (take_ofW HT_.out HW_.out (by kernel_rfl)) (fun _ _ _ h => h) (Or.inl ⟨by rfl, ?_⟩) hHeld ?_ ?_
              rotate_left
              ·rintro w' ⟨s0, s1, s2, s3, s4, s5, s6, s7, s8⟩
               go_simp
               with_reducible rfl
              rotate_left
              ·simp only [Act.put, sA_, sZ_, sS_, i64_w, i32_w]
               rfl
              refine pure_ (i := 20) (N := some 45) (v := ?_) (a' := ?_) #[true, true, true, true, true, true, true, true, true, true, true, true, true, true, true, true, true, true, true, true, true, false, false, false] rfl rfl (any_of HT_.out (by kernel_rfl)) (fun _ _ _ h => h) (Or.inl ⟨by rfl, ?_⟩) ?_ ?_
              rotate_left
              ·intro w'
               go_simp
               with_reducible rfl
              rotate_left
              ·simp only [Act.put, sA_, sZ_, sS_, i64_w, i32_w]
               rfl
              refine take_ (i := 21) (N := some 46) (v := ?_) (a' := ?_) #[true, true, true, true, true, true, true, true, true, true, true, true, true, true, true, true, true, true, true, true, true, true, false, false] rfl rfl (take_ofW HT_.out HW_.out (by kernel_rfl)) (fun _ _ _ h => h) (Or.inl ⟨by rfl, ?_⟩) hHeld ?_ ?_
              rotate_left
              ·rintro w' ⟨s0, s1, s2, s3, s4, s5, s6, s7, s8⟩
               go_simp
               with_reducible rfl
              rotate_left
              ·simp only [Act.put, sA_, sZ_, sS_, i64_w, i32_w]
               rfl
              refine one_ (i := 22) (N := some 47) #[true, true, true, true, true, true, true, true, true, true, true, true, true, true, true, true, true, true, true, true, true, true, true, false] rfl rfl (one_of HT_.out (by kernel_rfl)) (by decide) (fun K hK => ?_)
              refine goes_ Try.func115 (by kernel_rfl) rfl #[.agg #[.int .i64 ((rd_T72 l0 ((rd_T122 t1125 x21_1).f0)).f0), .int .i64 ((rd_T72 l0 ((rd_T122 t1125 x21_1).f0)).f1)], .agg #[.int .i64 ((rd_T72 l0 ((rd_T122 t1125 x21_1).f1)).f0), .int .i64 ((rd_T72 l0 ((rd_T122 t1125 x21_1).f1)).f1)], .agg #[.int .i64 ((rd_T72 l0 ((rd_T122 t1125 x21_1).f2)).f0), .int .i64 ((rd_T72 l0 ((rd_T122 t1125 x21_1).f2)).f1)]] (by rfl) rfl rfl (by (try simp only [List.map_toArray, List.map_cons, List.map_nil]); first | done | rfl | (simp only [List.length_drop, List.length_take]; rfl)) ?_
              with_reducible refine (impl_TurnOf.calls k1 ((rd_T72 l0 ((rd_T122 t1125 x21_1).f0)).f0) ((rd_T72 l0 ((rd_T122 t1125 x21_1).f0)).f1) ((rd_T72 l0 ((rd_T122 t1125 x21_1).f1)).f0) ((rd_T72 l0 ((rd_T122 t1125 x21_1).f1)).f1) ((rd_T72 l0 ((rd_T122 t1125 x21_1).f2)).f0) ((rd_T72 l0 ((rd_T122 t1125 x21_1).f2)).f1) t1133 _ A22.out).mono ?_
              rintro e w29 ⟨rfl, hb⟩
              refine ⟨_, rfl, ?_⟩
              have n0_ := am_ (Kd.R_below (rx_ HO_4.out) hb)
              have n1_ := am_ (Kd.R_below (rx_ HO_19.out) hb)
              have n2_ := am_ (blk_below (g := gb1119) (o := .cells #[.int .i64 0, .string (⟨#[]⟩ : ByteArray)] 25 (0, 0)) (kx_ BK1119.out) hb)
              have n3_ := am_ (blk_below (g := gb1129) (o := .cells #[.int .i64 ((rd_T122 t1125 x21_1).f0), .int .i64 ((rd_T122 t1125 x21_1).f1), .int .i64 ((rd_T122 t1125 x21_1).f2)] 122 (0, 0)) (kx_ BK1129.out) hb)
              have n4_ := am_ (below_step (bx2 HB.out GE1119.out GE1129.out) hb)
              clear HO_4
              clear HO_19
              clear BK1119
              clear BK1129
              clear HB
              have HO_4 := n0_
              have HO_19 := n1_
              have BK1119 := n2_
              have BK1129 := n3_
              have HB := n4_
              clear n0_ n1_ n2_ n3_ n4_
              (try clear hb)
              (try clear hb2)
              (try clear hk)
              (try clear hi)
              refine hK.out _ _ ⟨(blk_cell BK1129.out 0).trans rfl, (blk_cell BK1129.out 1).trans rfl, (blk_cell BK1129.out 2).trans rfl, ((HB.out.cell (World.block_lt_of_cell? w _ hw1130_0)).trans hw1130_0), ((HB.out.cell (World.block_lt_of_cell? w _ hw1130_1)).trans hw1130_1), ((HB.out.cell (World.block_lt_of_cell? w _ hw1131_0)).trans hw1131_0), ((HB.out.cell (World.block_lt_of_cell? w _ hw1131_1)).trans hw1131_1), ((HB.out.cell (World.block_lt_of_cell? w _ hw1132_0)).trans hw1132_0), ((HB.out.cell (World.block_lt_of_cell? w _ hw1132_1)).trans hw1132_1)⟩ (fun hHeld => ?_)
              clear hK K
              refine norm_ (a' := ?_) ?_ ?_
              rotate_left
              ·show Act.put _ (some 47) _ = _
               simp only [Act.put, sA_, sZ_, sS_, i64_w, i32_w]
               rfl
              refine one_ (i := 23) (N := some 48) #[true, true, true, true, true, true, true, true, true, true, true, true, true, true, true, true, true, true, true, true, true, true, true, true] rfl rfl (one_of HT_.out (by kernel_rfl)) (by decide) (fun K hK => ?_)
              refine goes_ Try.func134 (by kernel_rfl) rfl #[.pointer (some ad1124), .int .i64 ((rd_T122 t1125 x21_1).f0), .int .i64 ((rd_T122 t1125 x21_1).f1), .int .i64 ((rd_T122 t1125 x21_1).f2), .int .i64 t1133] (by rfl) rfl rfl (by (try simp only [List.map_toArray, List.map_cons, List.map_nil]); first | done | rfl | (simp only [List.length_drop, List.length_take]; rfl)) ?_
              refine (impl_chi_set.calls (fun k_ => some k_ = (.slice (some ad1124) x4_1.length co10 : Value).ownBlock) (.slice (some ad1124) x4_1.length co10) x4_1 ((rd_T122 t1125 x21_1).f0) ((rd_T122 t1125 x21_1).f1) ((rd_T122 t1125 x21_1).f2) t1133 t1134 w _ ?side1 ?side2 A23.out).mono ?_
              (case side1 => repeat (first | (with_reducible first | exact HB.out | apply below_alloc | apply pw_below_drewN | apply below_drew1 | refine below_set ?_ GE1119.out | refine below_set ?_ GE1129.out) | exact HB.out))
              (case side2 => exact Kd.R_tight rfl HO_4.out)
              rintro e w30 ⟨rfl, hy0, hb, hkp⟩
              refine ⟨_, rfl, ?_⟩
              have n0_ := am_ (Kd.R_reok rfl hy0 (fun k_ e_ => HO_4.out.1 k_ e_))
              have n1_ := am_ (Kd.R_mono (ok' := fun k_ => k_ ≠ gb1129) (Kd.R_keptB ((Kd.R_apart' HO_19.out (Kd.R_typed HO_4.out) (by decide))) hkp (fun k_ hk_ hs_ => (hk_.2) hs_)) (fun k_ hk_ => hk_.1.1))
              have n2_ := am_ (blk_kept (kx_ BK1119.out) hkp (fun hs_ => (fun e_ => (Kd.R_ne HO_4.out BK1119.out (by decide)) e_) hs_))
              have n3_ := am_ (blk_kept (kx_ BK1129.out) hkp (fun hs_ => (fun e_ => (Kd.R_ne HO_4.out BK1129.out (by decide)) e_) hs_))
              have n4_ := am_ (hb)
              clear HO_4
              clear HO_19
              clear BK1119
              clear BK1129
              clear HB
              have HO_4 := n0_
              have HO_19 := n1_
              have BK1119 := n2_
              have BK1129 := n3_
              have HB := n4_
              clear n0_ n1_ n2_ n3_ n4_
              (try clear hb)
              (try clear hkp)
              (try clear hy0)
              refine hK.out _ _ ⟨(blk_cell BK1129.out 0).trans rfl, (blk_cell BK1129.out 1).trans rfl, (blk_cell BK1129.out 2).trans rfl, ((HB.out.cell (World.block_lt_of_cell? w _ hw1130_0)).trans hw1130_0), ((HB.out.cell (World.block_lt_of_cell? w _ hw1130_1)).trans hw1130_1), ((HB.out.cell (World.block_lt_of_cell? w _ hw1131_0)).trans hw1131_0), ((HB.out.cell (World.block_lt_of_cell? w _ hw1131_1)).trans hw1131_1), ((HB.out.cell (World.block_lt_of_cell? w _ hw1132_0)).trans hw1132_0), ((HB.out.cell (World.block_lt_of_cell? w _ hw1132_1)).trans hw1132_1)⟩ (fun hHeld => ?_)
              clear hK K
              refine norm_ (a' := ?_) ?_ ?_
              rotate_left
              ·show Act.put _ (some 48) _ = _
               simp only [Act.put, sA_, sZ_, sS_, i64_w, i32_w]
               rfl
              refine done_ (done_of HT_.out (by kernel_rfl)) ?_
              try go_wp2
              (try simp only [← hl4_1])
              go_roundg k1
              case measure => have := HK1.out; omega
              case rel => exact ⟨(t1134), (wrap64 (x21_1 + 1)), (by first | rfl | (simp; done) | (simp [*]; done)), H', ⟨by have := HK1.out; omega⟩, ⟨by (try simp only [hl4_1]); (with_reducible repeat (first | apply Kd.R_alloc | apply Kd.R_drewN | apply Kd.R_drew)); exact HO_4.out⟩, ⟨by (try simp only [hl4_1]); (with_reducible repeat (first | apply Kd.R_alloc | apply Kd.R_drewN | apply Kd.R_drew)); exact Kd.R_mono HO_19.out (fun _ hk => trivial)⟩, ⟨by (try simp only [hl4_1]); (with_reducible repeat (first | refine blk_drewN ?_ _ | refine blk_drew ?_ | refine blk_alloc ?_ _)); exact BK1119.out⟩, ⟨bx2 HB.out GE1119.out GE1129.out⟩⟩
             ·rw [if_neg c21] at H
              exact absurd H (by simp)
            ·rw [if_neg c20] at H
             exact absurd H (by simp)
           ·rw [if_neg c19] at H
            exact absurd H (by simp)
          ·rw [if_neg c18] at H
           exact absurd H (by simp)
         ·rw [if_neg c17] at H
          exact absurd H (by simp)
        ·rw [if_neg c16] at H
         exact absurd H (by simp)
       ·rw [if_neg c15] at H
        exact absurd H (by simp)
      ·rw [if_neg c14] at H
       exact absurd H (by simp)
     ·rw [if_neg c13] at H
      have c13b0 : decide (x21_1 < (t1125.length : Int)) = false := decide_eq_false c13
      (try (have c13b0_ := c13b0; simp only [hl4_1] at c13b0_))
      clear c13
      replace H := Option.bind_eq_some_iff.mp H
      obtain ⟨⟨t1135, t1136⟩, A310, H⟩ := H
      replace H : (some (t1135, t1136, true)) = some (r1, r2, r3) := H
      have A31 := am_ A310
      clear A310
      simp only [Option.some.injEq, Prod.mk.injEq] at H
      obtain ⟨rfl, rfl, rfl⟩ := H
      go_wp2_with (first | ((with_reducible refine gate_callee (f := 145) rfl ?_); refine goesL_ (some 51) rfl rfl Try.func145 (by kernel_rfl) rfl #[.pointer (some ad1124)] rfl (by (try simp only [List.map_toArray, List.map_cons, List.map_nil]); first | done | rfl | (simp only [List.length_drop, List.length_take]; rfl)) ?_; (refine (impl_chi_signs.calls k1 _ co10 x4_1 t1135 t1136 _ ?side1 ?side2 A31.out).mono ?_); (case side1 => repeat (first | exact (Kd.R_reads' HO_4.out).2.2 | (with_reducible refine Kd.C_alloc ?_ _) | (with_reducible refine Kd.C_drewN ?_ _) | (with_reducible refine Kd.C_drew ?_))); (case side2 => exact (Kd.R_reads' HO_4.out).2.1); rintro e w32 ⟨rfl, hb⟩; refine ⟨_, rfl, ?_⟩; have n0_ := am_ (Kd.R_below (rx_ HO_4.out) hb); have n1_ := am_ (Kd.R_below (rx_ HO_19.out) hb); have n2_ := am_ (blk_below (g := gb1119) (o := .cells #[.int .i64 0, .string (⟨#[]⟩ : ByteArray)] 25 (0, 0)) (kx_ BK1119.out) hb); have n3_ := am_ (below_step (bx1 HB.out GE1119.out) hb); clear HO_4; clear HO_19; clear BK1119; clear HB; have HO_4 := n0_; have HO_19 := n1_; have BK1119 := n2_; have HB := n3_; clear n0_ n1_ n2_ n3_; (try clear hb); (try clear hb2); (try clear hk); (try clear hi); have hcz33_0 : w32.cell? ⟨gb1119, 0, none⟩ = some (.int .i64 0) := (blk_cell BK1119.out 0).trans rfl; have hcz33_1 : w32.cell? ⟨gb1119, 1, none⟩ = some (.string (⟨#[]⟩ : ByteArray)) := (blk_cell BK1119.out 1).trans rfl; have hfz33_0 := blk_frozen BK1119.out 0; have hfz33_1 := blk_frozen BK1119.out 1))
      refine bodyPost_ret (results_ct rfl _ _ gb1119 25 #[.int .i64 t1135, .string t1136] (0, 0) _ rfl (by (with_reducible repeat (first | refine blk_drewN ?_ _ | refine blk_drew ?_ | refine blk_alloc ?_ _)); refine blk_put (cs := #[.int .i64 t1135, .string (⟨#[]⟩ : ByteArray)]) ?_ 1 _ rfl; (with_reducible repeat (first | refine blk_drewN ?_ _ | refine blk_drew ?_ | refine blk_alloc ?_ _)); refine blk_put (cs := #[.int .i64 0, .string (⟨#[]⟩ : ByteArray)]) ?_ 0 _ rfl; (with_reducible repeat (first | refine blk_drewN ?_ _ | refine blk_drew ?_ | refine blk_alloc ?_ _)); exact BK1119.out) Try.underlying25 rfl (by kernel_rfl)) rfl ?_
      exact ⟨by first | rfl | (simp [errW_none, errW_some] <;> rfl) | (simp [*, errW_none, errW_some] <;> rfl), bx1 HB.out GE1119.out⟩
  ·rw [if_neg c4] at H
   exact absurd H (by simp)
 ·replace c3 := Bool.eq_false_iff.mpr c3
  subst c3
  have H1 : (some (0, (⟨#[]⟩ : ByteArray), false)) = some (r1, r2, r3) := by rw [if_neg (show ¬ (false = true) by decide)] at H; exact H
  clear H
  have H := H1
  clear H1
  simp only [Option.some.injEq, Prod.mk.injEq] at H
  obtain ⟨rfl, rfl, rfl⟩ := H
  go_enter Try.func131, Try.ntmps131
  go_wp2_with (first | ((with_reducible refine gate_dst (N := 2) rfl ?_); refine box_event ?hg (N := 2) ?hd (cs := #[.int .i64 0, .string (⟨#[]⟩ : ByteArray)]) (t := 25) ?hr ?_; (case hd => rfl); (case hg => rfl); (case hr => first | (go_simp; done) | (go_simp; rfl)); intro gb1119 hg w34 hbox hb; have n0_ := am_ (below_step (bx0 HB.out) hb); have n1_ := am_ (hbox); have n2_ := am_ ((by rw [hg]; exact (below_size (bx0 HB.out)) : w.heap.size ≤ gb1119)); have n3_ := am_ ((by rw [hg]; exact (below_size (bx0 HB.out)) : w.heap.size ≤ gb1119)); clear HB; have HB := n0_; have BK1119 := n1_; have GW1119 := n2_; have GE1119 := n3_; clear n0_ n1_ n2_ n3_; clear hb hbox hg) | ((with_reducible refine gate_callee (f := 68) rfl ?_); refine goesL_ (some 8) rfl rfl Try.func68 (by kernel_rfl) rfl #[.slice A0 l0.length c0] rfl (by (try simp only [List.map_toArray, List.map_cons, List.map_nil]); first | done | rfl | (simp only [List.length_drop, List.length_take]; rfl)) ?_; (with_reducible refine (impl_ArePoints.calls k _ _ l0 false _ ?side1 ?side2 A2.out).mono ?_); (case side1 => repeat (first | exact (Kd.C_below HR0.out HB.out) | (with_reducible refine Kd.C_alloc ?_ _) | (with_reducible refine Kd.C_drewN ?_ _) | (with_reducible refine Kd.C_drew ?_))); (case side2 => exact HC0.out); rintro e w35 ⟨rfl, hb⟩; refine ⟨_, rfl, ?_⟩; have n0_ := am_ (blk_below (g := gb1119) (o := .cells #[.int .i64 0, .string (⟨#[]⟩ : ByteArray)] 25 (0, 0)) (kx_ BK1119.out) hb); have n1_ := am_ (below_step (bx1 HB.out GE1119.out) hb); clear BK1119; clear HB; have BK1119 := n0_; have HB := n1_; clear n0_ n1_; (try clear hb); (try clear hb2); (try clear hk); (try clear hi); have hcz36_0 : w35.cell? ⟨gb1119, 0, none⟩ = some (.int .i64 0) := (blk_cell BK1119.out 0).trans rfl; have hcz36_1 : w35.cell? ⟨gb1119, 1, none⟩ = some (.string (⟨#[]⟩ : ByteArray)) := (blk_cell BK1119.out 1).trans rfl; have hfz36_0 := blk_frozen BK1119.out 0; have hfz36_1 := blk_frozen BK1119.out 1))
  refine bodyPost_ret (results_ct rfl _ _ gb1119 25 #[.int .i64 0, .string (⟨#[]⟩ : ByteArray)] (0, 0) _ rfl (by (with_reducible repeat (first | refine blk_drewN ?_ _ | refine blk_drew ?_ | refine blk_alloc ?_ _)); refine blk_put (cs := #[.int .i64 0, .string (⟨#[]⟩ : ByteArray)]) ?_ 1 _ rfl; (with_reducible repeat (first | refine blk_drewN ?_ _ | refine blk_drew ?_ | refine blk_alloc ?_ _)); refine blk_put (cs := #[.int .i64 0, .string (⟨#[]⟩ : ByteArray)]) ?_ 0 _ rfl; (with_reducible repeat (first | refine blk_drewN ?_ _ | refine blk_drew ?_ | refine blk_alloc ?_ _)); exact BK1119.out) Try.underlying25 rfl (by kernel_rfl)) rfl ?_
  exact ⟨by first | rfl | (simp [errW_none, errW_some] <;> rfl) | (simp [*, errW_none, errW_some] <;> rfl), bx1 HB.out GE1119.out⟩
def impl_chi_left.l0 : Nat → List Int → Int → Int → Int → Int → Option (Int)
 | 0, _, _, _, _, _ => none
 | k + 1, x0, x1, x2, x7, x8 => if 344 ≤ (x0.length : Int) then (if x8 < (chiN x0) then (if 0 ≤ x1 then (if x1 < 7 then (if 0 ≤ x2 then (if x2 < 7 then (if 0 ≤ x8 then (if x8 < 7 then (if (chiA x0 x1 x2 x8) = 1 then (impl_chi_left.l0 k x0 x1 x2 (wrap64 (x7 + 1)) (wrap64 (x8 + 1))) else (impl_chi_left.l0 k x0 x1 x2 x7 (wrap64 (x8 + 1)))) else (none)) else (none)) else (none)) else (none)) else (none)) else (none)) else (some x7)) else (none)
def impl_chi_left.f (k : Nat) (l0 : List Int) (a1 : Int) (a2 : Int) : Option (Int) := impl_chi_left.l0 k l0 a1 a2 0 0
set_option maxHeartbeats 8000000 in
set_option maxRecDepth 100000 in
theorem impl_chi_left.calls (k : Nat) (A0 : Option Addr) (c0 : Nat) (l0 : List Int) (a1 : Int) (a2 : Int) (r : Int) (w : World) (hr0 : Kd.C (Kd.int .i64) w A0 l0.length l0) (hc0 : l0.length ≤ c0) (h : impl_chi_left.f k l0 a1 a2 = some r) :
  Calls Try.prog 120 #[.pointer A0, .int .i64 a1, .int .i64 a2] w fun e w' => e = .returned (.int .i64 r) ∧ Drawn0 w w' := by
 have HR0 := am_ hr0
 have HC0 := am_ hc0
 clear hr0 hc0
 have H : (impl_chi_left.l0 k l0 a1 a2 0 0) = some r := h
 clear h
 have H' := am_ H
 clear H
 go_enter Try.func120, Try.ntmps120
 go_wp2
 go_loopg [7, 8] k (fun kq v7 v8 w' => ∃ (x7_1 : Int) (x8_1 : Int), v7 = .int .i64 x7_1 ∧ v8 = .int .i64 x8_1 ∧ Aside0 (impl_chi_left.l0 kq l0 a1 a2 x7_1 x8_1 = some r) ∧ Aside0 (kq ≤ k) ∧ Drawn0 w w')
 case atStart => exact ⟨(0), (0), (by first | rfl | (simp; done) | (simp [*]; done)), (by first | rfl | (simp; done) | (simp [*]; done)), H', ⟨Nat.le_refl _⟩, by repeat (first | exact Drawn0.refl _ | apply Drawn0.step)⟩
 case round =>
  clear H'
  try clear c1
  try clear p2
  obtain ⟨x7_1, x8_1, rfl, rfl, HA, HK1, ⟨m1, rfl⟩⟩ := hrel
  cases gk with
  | zero => exact absurd HA.out (by simp [impl_chi_left.l0])
  | succ k1 =>
   have H := HA.out
   clear HA
   simp only [impl_chi_left.l0] at H
   by_cases c4 : 344 ≤ (l0.length : Int)
   ·rw [if_pos c4] at H
    have c4b0 := eq_true c4
    have c4b1 : decide (344 ≤ (l0.length : Int)) = true := decide_eq_true c4
    clear c4
    by_cases c5 : x8_1 < (chiN l0)
    ·rw [if_pos c5] at H
     have c5b0 : decide (x8_1 < (chiN l0)) = true := decide_eq_true c5
     clear c5
     by_cases c6 : 0 ≤ a1
     ·rw [if_pos c6] at H
      have c6b0 : decide (0 ≤ a1) = true := decide_eq_true c6
      clear c6
      by_cases c7 : a1 < 7
      ·rw [if_pos c7] at H
       have c7b0 : decide (a1 < 7) = true := decide_eq_true c7
       clear c7
       by_cases c8 : 0 ≤ a2
       ·rw [if_pos c8] at H
        have c8b0 : decide (0 ≤ a2) = true := decide_eq_true c8
        clear c8
        by_cases c9 : a2 < 7
        ·rw [if_pos c9] at H
         have c9b0 : decide (a2 < 7) = true := decide_eq_true c9
         clear c9
         by_cases c10 : 0 ≤ x8_1
         ·rw [if_pos c10] at H
          have c10b0 : decide (0 ≤ x8_1) = true := decide_eq_true c10
          clear c10
          by_cases c11 : x8_1 < 7
          ·rw [if_pos c11] at H
           have c11b0 : decide (x8_1 < 7) = true := decide_eq_true c11
           clear c11
           by_cases c12 : (chiA l0 a1 a2 x8_1) = 1
           ·rw [if_pos c12] at H
            have c12b0 : ((chiA l0 a1 a2 x8_1) == 1) = true := beq_iff_eq.mpr c12
            have c12b1 : ((chiA l0 a1 a2 x8_1) != 1) = false := bne_eq_false_iff_eq.mpr c12
            clear c12
            have H' := am_ H
            clear H
            have q803 : 344 ≤ (l0.length : Int) := of_decide_eq_true (by first | (with_reducible assumption) | assumption)
            obtain ⟨ad803, e803, hx803_0⟩ := chi_n HR0.out q803
            cases e803
            have q804 : 344 ≤ (l0.length : Int) := of_decide_eq_true (by first | (with_reducible assumption) | assumption)
            have p804_0a : 0 ≤ (a1 : Int) := of_decide_eq_true (by first | (with_reducible assumption) | assumption)
            have p804_0b : (a1 : Int) < 7 := of_decide_eq_true (by first | (with_reducible assumption) | assumption)
            have p804_1a : 0 ≤ (a2 : Int) := of_decide_eq_true (by first | (with_reducible assumption) | assumption)
            have p804_1b : (a2 : Int) < 7 := of_decide_eq_true (by first | (with_reducible assumption) | assumption)
            have p804_2a : 0 ≤ (x8_1 : Int) := of_decide_eq_true (by first | (with_reducible assumption) | assumption)
            have p804_2b : (x8_1 : Int) < 7 := of_decide_eq_true (by first | (with_reducible assumption) | assumption)
            obtain ⟨ad804, e804, hx804_0⟩ := chi_at HR0.out q804 p804_0a p804_0b p804_1a p804_1b p804_2a p804_2b
            obtain rfl : ad803 = ad804 := (by injection e804)
            replace p804_0a := eq_true p804_0a
            replace p804_0b := eq_true p804_0b
            replace p804_1a := eq_true p804_1a
            replace p804_1b := eq_true p804_1b
            replace p804_2a := eq_true p804_2a
            replace p804_2b := eq_true p804_2b
            go_wp2
            go_roundg k1
            case measure => have := HK1.out; omega
            case rel => exact ⟨(wrap64 (x7_1 + 1)), (wrap64 (x8_1 + 1)), (by first | rfl | (simp; done) | (simp [*]; done)), (by first | rfl | (simp; done) | (simp [*]; done)), H', ⟨by have := HK1.out; omega⟩, by repeat (first | exact Drawn0.refl _ | apply Drawn0.step)⟩
           ·rw [if_neg c12] at H
            have c12b0 : ((chiA l0 a1 a2 x8_1) == 1) = false := beq_eq_false_iff_ne.mpr c12
            have c12b1 : ((chiA l0 a1 a2 x8_1) != 1) = true := bne_iff_ne.mpr c12
            have H' := am_ H
            clear H
            have q803 : 344 ≤ (l0.length : Int) := of_decide_eq_true (by first | (with_reducible assumption) | assumption)
            obtain ⟨ad803, e803, hx803_0⟩ := chi_n HR0.out q803
            cases e803
            have q804 : 344 ≤ (l0.length : Int) := of_decide_eq_true (by first | (with_reducible assumption) | assumption)
            have p804_0a : 0 ≤ (a1 : Int) := of_decide_eq_true (by first | (with_reducible assumption) | assumption)
            have p804_0b : (a1 : Int) < 7 := of_decide_eq_true (by first | (with_reducible assumption) | assumption)
            have p804_1a : 0 ≤ (a2 : Int) := of_decide_eq_true (by first | (with_reducible assumption) | assumption)
            have p804_1b : (a2 : Int) < 7 := of_decide_eq_true (by first | (with_reducible assumption) | assumption)
            have p804_2a : 0 ≤ (x8_1 : Int) := of_decide_eq_true (by first | (with_reducible assumption) | assumption)
            have p804_2b : (x8_1 : Int) < 7 := of_decide_eq_true (by first | (with_reducible assumption) | assumption)
            obtain ⟨ad804, e804, hx804_0⟩ := chi_at HR0.out q804 p804_0a p804_0b p804_1a p804_1b p804_2a p804_2b
            obtain rfl : ad803 = ad804 := (by injection e804)
            replace p804_0a := eq_true p804_0a
            replace p804_0b := eq_true p804_0b
            replace p804_1a := eq_true p804_1a
            replace p804_1b := eq_true p804_1b
            replace p804_2a := eq_true p804_2a
            replace p804_2b := eq_true p804_2b
            go_wp2
            go_roundg k1
            case measure => have := HK1.out; omega
            case rel => exact ⟨(x7_1), (wrap64 (x8_1 + 1)), (by first | rfl | (simp; done) | (simp [*]; done)), (by first | rfl | (simp; done) | (simp [*]; done)), H', ⟨by have := HK1.out; omega⟩, by repeat (first | exact Drawn0.refl _ | apply Drawn0.step)⟩
          ·rw [if_neg c11] at H
           exact absurd H (by simp)
         ·rw [if_neg c10] at H
          exact absurd H (by simp)
        ·rw [if_neg c9] at H
         exact absurd H (by simp)
       ·rw [if_neg c8] at H
        exact absurd H (by simp)
      ·rw [if_neg c7] at H
       exact absurd H (by simp)
     ·rw [if_neg c6] at H
      exact absurd H (by simp)
    ·rw [if_neg c5] at H
     have c5b0 : decide (x8_1 < (chiN l0)) = false := decide_eq_false c5
     clear c5
     obtain rfl := Option.some.inj H
     have q803 : 344 ≤ (l0.length : Int) := of_decide_eq_true (by first | (with_reducible assumption) | assumption)
     obtain ⟨ad803, e803, hx803_0⟩ := chi_n HR0.out q803
     cases e803
     go_wp2
     go_ret
     exact ⟨by first | rfl | (simp; done) | (simp [*]; done), by repeat (first | exact Drawn0.refl _ | apply Drawn0.step)⟩
   ·rw [if_neg c4] at H
    exact absurd H (by simp)
def impl_elementsOf.l0 : Nat → Int → List Int → Int → Option (List Int)
 | 0, _, _, _ => none
 | k + 1, x0, x3, x4 => if x4 < 63 then (if 0 ≤ x4 then (if (Go.bits .and .i64 (shr .i64 x0 x4) 1) = 1 then (if x3.length < 17592186044416 then (impl_elementsOf.l0 k x0 (x3 ++ [x4]) (wrap64 (x4 + 1))) else (none)) else (impl_elementsOf.l0 k x0 x3 (wrap64 (x4 + 1)))) else (none)) else (some x3)
def impl_elementsOf.f (k : Nat) (a0 : Int) : Option (List Int) := impl_elementsOf.l0 k a0 ([] : List Int) 0
theorem impl_elementsOf.mono_l : ∀ k, (∀ y0 y1 y2, LeO (impl_elementsOf.l0 k y0 y1 y2) (impl_elementsOf.l0 (k + 1) y0 y1 y2))
 | 0 => fun _ _ _ r h => by simp [impl_elementsOf.l0] at h
 | k + 1 => by
  have ih0 := impl_elementsOf.mono_l k
  ·intro y0 y1 y2
   unfold impl_elementsOf.l0
   repeat' first
   | (with_reducible exact ih0 _ _ _)
   | (with_reducible exact LeO.refl _)
   | (with_reducible exact LeO.none _)
   | (with_reducible refine LeO.ite ?_ ?_)
   | (with_reducible refine LeO.bind ?_ (fun _ => ?_))
   | exact ih0 _ _ _
   | exact LeO.none _
   | refine LeO.ite ?_ ?_
   | refine LeO.bind ?_ (fun _ => ?_)
theorem impl_elementsOf.mono : ∀ a0 k, LeO (impl_elementsOf.f k a0) (impl_elementsOf.f (k + 1) a0) := by
 intro a0 k
 have ih0 := impl_elementsOf.mono_l k
 unfold impl_elementsOf.f
 repeat' first
   | (with_reducible exact ih0 _ _ _)
   | (with_reducible exact LeO.refl _)
   | (with_reducible exact LeO.none _)
   | (with_reducible refine LeO.ite ?_ ?_)
   | (with_reducible refine LeO.bind ?_ (fun _ => ?_))
   | exact ih0 _ _ _
   | exact LeO.none _
   | refine LeO.ite ?_ ?_
   | refine LeO.bind ?_ (fun _ => ?_)
set_option maxHeartbeats 8000000 in
set_option maxRecDepth 100000 in
theorem impl_elementsOf.calls (k : Nat) (a0 : Int) (r : List Int) (w : World) (h : impl_elementsOf.f k a0 = some r) :
  Calls Try.prog 167 #[.int .i64 a0] w fun e w' => ∃ v0_ : Value, e = .returned (v0_) ∧ Kd.R (Kd.int .i64) 3 w' w.heap.size (fun _ => True) v0_ r ∧ Below w.heap.size w w' := by
 have HB := am_ (Below.refl w.heap.size w)
 have H : (impl_elementsOf.l0 k a0 ([] : List Int) 0) = some r := h
 clear h
 have H' := am_ H
 clear H
 go_enter Try.func167, Try.ntmps167
 go_wp2
 go_loopg [3, 4] k (fun kq v3 v4 w' => ∃ (x3_1 : List Int) (x4_1 : Int), v4 = .int .i64 x4_1 ∧ Aside0 (impl_elementsOf.l0 kq a0 x3_1 x4_1 = some r) ∧ Aside0 (kq ≤ k) ∧ Aside0 (Kd.R (Kd.int .i64) 3 w' w.heap.size (fun _ => True) v3 x3_1) ∧ Aside0 (Below w.heap.size w w'))
 case atStart => exact ⟨(([] : List Int)), (0), (by first | rfl | (simp; done) | (simp [*]; done)), H', ⟨Nat.le_refl _⟩, ⟨by first | exact Kd.R_nil _ _ _ _ _ | exact Kd.N_nil _ _ _ _ _ | exact Kd.V_nil _ _ _ _ _ | exact Kd.Q_nil _ _ _ _ _ | exact Kd.S_nil _ _ _ _ _⟩, ⟨bx0 HB.out⟩⟩
 case round =>
  clear H'
  try clear c1
  obtain ⟨x3_1, x4_1, rfl, HA, HK1, HO_3, HB⟩ := hrel
  cases gk with
  | zero => exact absurd HA.out (by simp [impl_elementsOf.l0])
  | succ k1 =>
   have H := HA.out
   clear HA
   simp only [impl_elementsOf.l0] at H
   by_cases c2 : x4_1 < 63
   ·rw [if_pos c2] at H
    have c2b0 : decide (x4_1 < 63) = true := decide_eq_true c2
    clear c2
    by_cases c3 : 0 ≤ x4_1
    ·rw [if_pos c3] at H
     have c3b0 := eq_true c3
     have c3b1 : decide (0 ≤ x4_1) = true := decide_eq_true c3
     clear c3
     obtain ⟨ji4, hji4⟩ : ∃ j_ : Int, (shr .i64 a0 x4_1) = j_ := ⟨_, rfl⟩
     replace H : (if (Go.bits .and .i64 (ji4) 1) = 1 then (if x3_1.length < 17592186044416 then (impl_elementsOf.l0 k1 a0 (x3_1 ++ [x4_1]) (wrap64 (x4_1 + 1))) else (none)) else (impl_elementsOf.l0 k1 a0 x3_1 (wrap64 (x4_1 + 1)))) = some r := by first | (rw [hji4] at H; exact H) | (simp only [hji4] at H ⊢; exact H)
     have hji4_ : (a0 / 2 ^ min x4_1.toNat 64) = ji4 := hji4
     have hji4z : x4_1 ≤ 64 → (a0 / 2 ^ x4_1.toNat) = ji4 := shr_small hji4
     by_cases c5 : (Go.bits .and .i64 (ji4) 1) = 1
     ·rw [if_pos c5] at H
      have c5b0 : ((Go.bits .and .i64 (ji4) 1) == 1) = true := beq_iff_eq.mpr c5
      have c5b1 : ((Go.bits .and .i64 (ji4) 1) != 1) = false := bne_eq_false_iff_eq.mpr c5
      clear c5
      by_cases c6 : x3_1.length < 17592186044416
      ·rw [if_pos c6] at H
       have LMc6 := am_ c6
       clear c6
       obtain ⟨y1137, hy1137⟩ : ∃ y_ : List Int, y_ = (x3_1 ++ [x4_1]) := ⟨_, rfl⟩
       replace H : (impl_elementsOf.l0 k1 a0 y1137 (wrap64 (x4_1 + 1))) = some r := by first | (rw [hy1137]; with_reducible exact H) | (have H2_ := (Option.bind_some _ _).symm.trans H; rw [hy1137]; with_reducible exact H2_) | (have H2_ := (Option.bind_some _ _).symm.trans H; with_reducible exact H2_) | with_reducible exact H | (rw [hy1137]; exact H) | exact H
       have Ny1137 := am_ hy1137
       clear hy1137
       have H' := am_ H
       clear H
       go_wp2_with (first | ((with_reducible refine gate_builtin (b := .append) (xs := #[.tmp 14, .tmp 16]) rfl ?_); at_builtin; refine Kd.R_append (Kd.int .i64) (w0 := w) w.heap.size rfl (.tmp 14) (.tmp 16) 35 3 (.int .i64 0) 8 rfl Try.underlying35 info3 rfl (by decide) (by omega) u3 x3_1 x4_1 [.int .i64 x4_1] (fun _ => True) (fun _ => False) rfl rfl ?aP (fun _ hk => hk.elim) ?aF ?aO ?aB ?aS ?aL ?_; (case aP => exact rfl); (case aB => exact (bx0 HB.out)); (case aF => exact (fun _ _ => trivial)); (case aO => exact (rx_ HO_3.out)); (case aS => exact (below_size (bx0 HB.out))); (case aL => have := LMc6.out; omega); intro v1138 w7 ho hb hg hat; rw [← Ny1137.out] at ho; have n0_ := am_ (hb); have n1_ := am_ (ho); clear HB; clear HO_3; have HB := n0_; have HO1139 := n1_; clear n0_ n1_; clear ho hb hg hat))
       go_roundg k1
       case measure => have := HK1.out; omega
       case rel => exact ⟨(y1137), (wrap64 (x4_1 + 1)), (by first | rfl | (simp; done) | (simp [*]; done)), H', ⟨by have := HK1.out; omega⟩, ⟨rx_ HO1139.out⟩, ⟨bx0 HB.out⟩⟩
      ·rw [if_neg c6] at H
       exact absurd H (by simp)
     ·rw [if_neg c5] at H
      have c5b0 : ((Go.bits .and .i64 (ji4) 1) == 1) = false := beq_eq_false_iff_ne.mpr c5
      have c5b1 : ((Go.bits .and .i64 (ji4) 1) != 1) = true := bne_iff_ne.mpr c5
      have H' := am_ H
      clear H
      go_wp2
      go_roundg k1
      case measure => have := HK1.out; omega
      case rel => exact ⟨(x3_1), (wrap64 (x4_1 + 1)), (by first | rfl | (simp; done) | (simp [*]; done)), H', ⟨by have := HK1.out; omega⟩, ⟨rx_ HO_3.out⟩, ⟨bx0 HB.out⟩⟩
    ·rw [if_neg c3] at H
     exact absurd H (by simp)
   ·rw [if_neg c2] at H
    have c2b0 : decide (x4_1 < 63) = false := decide_eq_false c2
    clear c2
    obtain rfl := Option.some.inj H
    go_wp2
    go_ret
    exact ⟨_, by first | rfl | (simp [errW_none, errW_some] <;> rfl) | (simp [*, errW_none, errW_some] <;> rfl), rx_ HO_3.out, bx0 HB.out⟩
end Go.Proofs.Yteblnjoljbdjjaa.P
namespace Go.Proofs.Yteblnjoljbdjjaa.P
open Go.RowKit Go.Proofs.YteblnjoljbdjjaaW.PrintWords Go.Proofs.YteblnjoljbdjjaaW.PrintLast Go.Proofs.YteblnjoljbdjjaaW.PrintMore
set_option linter.unusedVariables false
set_option linter.unusedSimpArgs false
def oppI (x : Int) : Int := if x = 43 then 45 else if x = 45 then 43 else x
def oppL (s : ByteArray) : List Int := (List.range s.size).map fun j : Nat => oppI (bt s (j : Int))
def impl_opposite.f (a0 : ByteArray) : Option ByteArray := if a0.size ≤ 9223372036854775807 then some (strOfNums (oppL a0)) else none
def oppR (s : ByteArray) (i j : Nat) : Int := if j < i then oppI (bt s (j : Int)) else bt s (j : Int)
theorem OPB (w : World) (e : TypeId) (s : ByteArray) : Below w.heap.size w (Lib.bytesWorld w e s) :=
  ⟨rfl, rfl, rfl, by rw [Lib.bytesWorld_size]; omega, fun k hk => Lib.bytesWorld_at_old w e s k hk⟩
theorem OPW (i : Nat) (h : i < 9223372036854775807) : wrap64 ((i : Int) + 1) = ((i + 1 : Nat) : Int) := by
  unfold wrap64
  omega
theorem opp_bt (s : ByteArray) (j : Nat) (hj : j < s.size) : (some (Value.int .u8 (s.data.toList.getD j 0).toNat)) = some (.int .u8 (bt s (j : Int))) := by
  unfold bt
  rw [dif_pos (by simpa using hj)]
  have h : j < s.data.toList.length := hj
  rw [List.getD_eq_getElem?_getD, List.getElem?_eq_getElem h]
  rfl
theorem opp_frozen (w : World) (e : TypeId) (s : ByteArray) (j : Nat) (hj : j < s.size) : (Lib.bytesWorld w e s).frozen? ⟨w.heap.size, j, none⟩ = false := by
  have h1 : s.size ≤ (Lib.bytesCells w e s).size := by
    unfold Lib.bytesCells
    rw [Array.size_append, Array.size_map]
    exact Nat.le_add_right _ _
  unfold World.frozen?
  simp only [Lib.bytesWorld_at_new]
  simp
  omega
set_option maxHeartbeats 2000000 in
set_option maxRecDepth 100000 in
theorem impl_opposite.calls (a0 : ByteArray) (r : ByteArray) (w : World) (h : impl_opposite.f a0 = some r) :
    Calls Try.prog 59 #[.string a0] w fun e w' => e = .returned (.string r) ∧ Below w.heap.size w w' := by
  unfold impl_opposite.f at h
  by_cases hsz : a0.size ≤ 9223372036854775807
  case neg => rw [if_neg hsz] at h; cases h
  rw [if_pos hsz] at h
  obtain rfl := Option.some.inj h
  clear h
  have hcv : ∀ W : World, (convert 9 113 (.string a0)).run Try.prog W = .ok (.slice (some ⟨W.heap.size, 0, none⟩) a0.size (grownCap W a0.size 0 5)) (Lib.bytesWorld W 5 a0) :=
    fun W => Lib.run_convert_string_bytes W _ _ _ a0 Try.underlying9 Try.underlying113 Try.underlying5
  have hbel0 : Below w.heap.size w (Lib.bytesWorld w 5 a0) := OPB w 5 a0
  have hc0 : ∀ j, j < a0.size → (Lib.bytesWorld w 5 a0).cell? ⟨w.heap.size, j, none⟩ = some (.int .u8 (bt a0 (j : Int))) := fun j hj => by
    rw [Lib.bytesWorld_cell w 5 a0 j hj, opp_bt a0 j hj]
  have hf0 : ∀ j, j < a0.size → (Lib.bytesWorld w 5 a0).frozen? ⟨w.heap.size, j, none⟩ = false := fun j hj => opp_frozen w 5 a0 j hj
  have HC := Aside0.mk hc0; have HF := Aside0.mk hf0; have HB := Aside0.mk hbel0; have HS := Aside0.mk hsz
  clear hc0 hf0 hbel0 hsz
  go_enter Try.func59, Try.ntmps59
  go_wp2
  generalize grownCap w a0.size 0 5 = cap
  generalize Lib.bytesWorld w 5 a0 = w1 at HC HF HB ⊢
  go_loopg [10] a0.size (fun gg v10 wr => ∃ i : Nat, i ≤ a0.size ∧ a0.size - i ≤ gg ∧ v10 = .int .i64 i ∧ Aside0 (Below w.heap.size w wr) ∧ Aside0 (∀ j, j < a0.size → wr.cell? ⟨w.heap.size, j, none⟩ = some (.int .u8 (oppR a0 i j))) ∧ Aside0 (∀ j, j < a0.size → wr.frozen? ⟨w.heap.size, j, none⟩ = false))
  case atStart =>
    refine ⟨0, Nat.zero_le _, by omega, rfl, HB, ⟨fun j hj => ?_⟩, HF⟩
    rw [HC.out j hj]
    rfl
  case round =>
    clear HC HF HB
    obtain ⟨i, hi, hg, rfl, HB, HC, HF⟩ := hrel
    by_cases hlt : i < a0.size
    · have hltz : (i : Int) < (a0.size : Int) := by omega
      have l1 := HC.out i hlt
      have f1 := HF.out i hlt
      rw [show oppR a0 i i = bt a0 (i : Int) by unfold oppR; rw [if_neg (Nat.lt_irrefl _)]] at l1
      have hstep : ∀ (W : World) (x : Int), x = oppI (bt a0 (i : Int)) → (∀ j, j < a0.size → W.cell? ⟨w.heap.size, j, none⟩ = some (.int .u8 (if j = i then x else oppR a0 i j))) → ∀ j, j < a0.size → W.cell? ⟨w.heap.size, j, none⟩ = some (.int .u8 (oppR a0 (i + 1) j)) := by
        intro W x hx hW j hj
        rw [hW j hj]
        unfold oppR
        by_cases e : j = i
        · subst e; rw [if_pos rfl, if_pos (Nat.lt_succ_self _), hx]
        · rw [if_neg e]
          by_cases e2 : j < i
          · rw [if_pos e2, if_pos (by omega)]
          · rw [if_neg e2, if_neg (by omega)]
      have HSTEP := Aside0.mk hstep
      clear hstep
      generalize hb : bt a0 (i : Int) = b at l1 HSTEP
      have HBB := Aside0.mk hb
      clear hb
      by_cases h43 : b = 43
      · subst h43
        go_wp2
        go_roundg (a0.size - (i + 1))
        case measure => omega
        case rel =>
          refine ⟨i + 1, by omega, by omega, by rw [OPW i (by have := HS.out; omega)], ⟨HB.out.setCell (Nat.le_refl _) _⟩, ⟨HSTEP.out _ 45 rfl (fun j hj => ?_)⟩, ⟨fun j hj => by rw [World.frozen?_setCell]; exact HF.out j hj⟩⟩
          by_cases e : j = i
          · subst e; rw [if_pos rfl, World.cell?_setCell_same (h := l1)]
          · rw [if_neg e, World.cell?_setCell_other (h := by intro h; injection h with _ h2 _; exact e h2.symm)]; exact HC.out j hj
      · by_cases h45 : b = 45
        · subst h45
          have n43 : ((45 : Int) == 43) = false := rfl
          go_wp2
          go_roundg (a0.size - (i + 1))
          case measure => omega
          case rel =>
            refine ⟨i + 1, by omega, by omega, by rw [OPW i (by have := HS.out; omega)], ⟨HB.out.setCell (Nat.le_refl _) _⟩, ⟨HSTEP.out _ 43 rfl (fun j hj => ?_)⟩, ⟨fun j hj => by rw [World.frozen?_setCell]; exact HF.out j hj⟩⟩
            by_cases e : j = i
            · subst e; rw [if_pos rfl, World.cell?_setCell_same (h := l1)]
            · rw [if_neg e, World.cell?_setCell_other (h := by intro h; injection h with _ h2 _; exact e h2.symm)]; exact HC.out j hj
        · have n43 : (b == 43) = false := beq_eq_false_iff_ne.mpr h43
          have n45 : (b == 45) = false := beq_eq_false_iff_ne.mpr h45
          go_wp2
          go_roundg (a0.size - (i + 1))
          case measure => omega
          case rel =>
            refine ⟨i + 1, by omega, by omega, by rw [OPW i (by have := HS.out; omega)], HB, ⟨HSTEP.out _ b (by unfold oppI; rw [if_neg h43, if_neg h45]) (fun j hj => ?_)⟩, HF⟩
            by_cases e : j = i
            · subst e; rw [if_pos rfl]; exact l1
            · rw [if_neg e]; exact HC.out j hj
    · have hltz : ¬ (i : Int) < (a0.size : Int) := by omega
      have : i = a0.size := by omega
      subst this
      have hcv2 : ∀ W : World, (∀ j, j < a0.size → W.cell? ⟨w.heap.size, 0 + j, none⟩ = some (.int .u8 ((oppL a0).getD j 0))) → (convert 113 9 (Value.slice (some ⟨w.heap.size, 0, none⟩) a0.size cap)).run Try.prog W = .ok (.string (strOfNums (oppL a0))) W :=
        fun W hW => run_convert_bytes_arg W 113 5 Try.underlying113 Try.underlying5 w.heap.size 0 a0.size cap (oppL a0) (by rw [oppL, List.length_map, List.length_range]) hW 9 Try.underlying9
      have hcv3 := hcv2 wr (fun j hj => by
        rw [Nat.zero_add, HC.out j hj]
        unfold oppR oppL
        rw [if_pos hj, List.getD_eq_getElem?_getD, List.getElem?_map, List.getElem?_range hj]
        rfl)
      go_wp2
      go_ret
      exact ⟨rfl, HB.out⟩
end Go.Proofs.Yteblnjoljbdjjaa.P
