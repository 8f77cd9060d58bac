/- What the law FnExactHullArea reaches, part 9: functions as plain Lean functions with the proofs that their calls come to them, and plain lemmas over these. Put together by a program (wip/pack.py). -/
import Derived.Test.YteblnjoljbdjjaaKFnExactHullAreac
import Derived.Test.YteblnjoljbdjjaaKFnExactHullAreah
import Derived.Test.YteblnjoljbdjjaaKFnExactHullAreae
namespace Go.Proofs.Yteblnjoljbdjjaa.P
open Go.RowKit Go.Proofs.YteblnjoljbdjjaaW.PrintWords Go.Proofs.YteblnjoljbdjjaaW.PrintLast Go.Proofs.YteblnjoljbdjjaaW.PrintMore
attribute [local go_sem] ptrOf_slice
attribute [local go_sem] min2_str max2_int min2_int max_two min_two max_three min_three max_four min_four
set_option linter.unusedVariables false
set_option linter.unusedSimpArgs false
mutual
def spec_l6In.l0 : Nat → Int → Int → Int → Int → ByteArray → Option (Bool)
 | 0, _, _, _, _, _ => none
 | k + 1, x1, x2, x7, x1080000, x1080001 => if x7 < x1080000 then (spec_l6In.l1 k x1 x2 x7 (wrap64 (x7 + 1)) x1080000 x1080001) else (some false)
def spec_l6In.l1 : Nat → Int → Int → Int → Int → Int → ByteArray → Option (Bool)
 | 0, _, _, _, _, _, _ => none
 | k + 1, x1, x2, x7, x8, x1080000, x1080001 => if x8 < x1080000 then (spec_l6In.l2 k x1 x2 x7 x8 (wrap64 (x8 + 1)) x1080000 x1080001) else (spec_l6In.l0 k x1 x2 (wrap64 (x7 + 1)) x1080000 x1080001)
def spec_l6In.l2 : Nat → Int → Int → Int → Int → Int → Int → ByteArray → Option (Bool)
 | 0, _, _, _, _, _, _, _ => none
 | k + 1, x1, x2, x7, x8, x9, x1080000, x1080001 => if x9 < x1080000 then (if x2 = x7 then (spec_l6In.l2 k x1 x2 x7 x8 (wrap64 (x9 + 1)) x1080000 x1080001) else (if x2 = x8 then (spec_l6In.l2 k x1 x2 x7 x8 (wrap64 (x9 + 1)) x1080000 x1080001) else (if x2 = x9 then (spec_l6In.l2 k x1 x2 x7 x8 (wrap64 (x9 + 1)) x1080000 x1080001) else ((spec_l6Has.f x1 x7).bind fun t1080 => (if t1080 = true then ((spec_l6Has.f x1 x8).bind fun t1081 => (if t1081 = true then ((spec_l6Has.f x1 x9).bind fun t1082 => (if t1082 = true then ((spec_l5Inner.f k x1080000 x1080001 (([x2, x7, x8, x9] : List Int))).bind fun t1086 => (if t1086 = x2 then (some true) else (spec_l6In.l2 k x1 x2 x7 x8 (wrap64 (x9 + 1)) x1080000 x1080001))) else (spec_l6In.l2 k x1 x2 x7 x8 (wrap64 (x9 + 1)) x1080000 x1080001))) else (spec_l6In.l2 k x1 x2 x7 x8 (wrap64 (x9 + 1)) x1080000 x1080001))) else (spec_l6In.l2 k x1 x2 x7 x8 (wrap64 (x9 + 1)) x1080000 x1080001)))))) else (spec_l6In.l1 k x1 x2 x7 (wrap64 (x8 + 1)) x1080000 x1080001)
end
def spec_l6In.f (k : Nat) (a0_0 : Int) (a0_1 : ByteArray) (a1 : Int) (a2 : Int) : Option (Bool) := spec_l6In.l0 k a1 a2 0 a0_0 a0_1
set_option maxHeartbeats 8000000 in
set_option maxRecDepth 100000 in
theorem spec_l6In.calls (k : Nat) (a0_0 : Int) (a0_1 : ByteArray) (a1 : Int) (a2 : Int) (r : Bool) (w : World) (h : spec_l6In.f k a0_0 a0_1 a1 a2 = some r) :
  Calls Try.prog 166 #[.agg #[.int .i64 a0_0, .string a0_1], .int .i64 a1, .int .i64 a2] w fun e w' => e = .returned (.bool r) ∧ Below w.heap.size w w' := by
 have hu25 := Try.underlying25
 have HB := am_ (Below.refl w.heap.size w)
 have H : (spec_l6In.l0 k a1 a2 0 a0_0 a0_1) = some r := h
 clear h
 have H' := am_ H
 clear H
 go_enter Try.func166, Try.ntmps166
 go_wp2_with (first | ((with_reducible refine gate_dst (N := 3) rfl ?_); (try (refine gate_guard (by rfl) ?_; dsimp only)); refine box_event ?hg (N := 3) ?hd (cs := #[.int .i64 a0_0, .string a0_1]) (t := 25) ?hr ?_; (case hd => rfl); (case hg => rfl); (case hr => first | (go_simp; done) | (go_simp; rfl)); intro gb1079 hg w4 hbox hb; have n0_ := am_ (below_step (bx0 HB.out) hb); have n1_ := am_ (hbox); have n2_ := am_ ((by rw [hg]; exact (below_size (bx0 HB.out)) : w.heap.size ≤ gb1079)); have n3_ := am_ ((by rw [hg]; exact (below_size (bx0 HB.out)) : w.heap.size ≤ gb1079)); clear HB; have HB := n0_; have BK1079 := n1_; have GW1079 := n2_; have GE1079 := n3_; clear n0_ n1_ n2_ n3_; clear hb hbox hg))
 go_loopg [7] k (fun kq v7 w' => ∃ (x7_1 : Int), v7 = .int .i64 x7_1 ∧ Aside0 (spec_l6In.l0 kq a1 a2 x7_1 a0_0 a0_1 = some r) ∧ Aside0 (kq ≤ k) ∧ Aside0 (w'.heap[gb1079]? = some (.cells #[.int .i64 a0_0, .string a0_1] 25 (0, 0))) ∧ Aside0 (Below w.heap.size w w'))
 case atStart => exact ⟨(0), (by first | rfl | (simp; done) | (simp [*]; done)), H', ⟨Nat.le_refl _⟩, ⟨kx_ BK1079.out⟩, ⟨bx1 HB.out GE1079.out⟩⟩
 case round =>
  clear H'
  try clear c1
  try clear p2
  obtain ⟨x7_1, rfl, HA, HK1, BK1079, HB⟩ := hrel
  cases gk with
  | zero => exact absurd HA.out (by simp [spec_l6In.l0])
  | succ k1 =>
   have H := HA.out
   clear HA
   simp only [spec_l6In.l0] at H
   by_cases c5 : x7_1 < a0_0
   ·rw [if_pos c5] at H
    have c5b0 : decide (x7_1 < a0_0) = true := decide_eq_true c5
    clear c5
    have H' := am_ H
    clear H
    have hcz6_0 : wr.cell? ⟨gb1079, 0, none⟩ = some (.int .i64 a0_0) := (blk_cell BK1079.out 0).trans rfl
    have hcz6_1 : wr.cell? ⟨gb1079, 1, none⟩ = some (.string a0_1) := (blk_cell BK1079.out 1).trans rfl
    have hfz6_0 := blk_frozen BK1079.out 0
    have hfz6_1 := blk_frozen BK1079.out 1
    go_wp2
    go_loopg [8] k1 (fun kq v8 w' => ∃ (x8_2 : Int), v8 = .int .i64 x8_2 ∧ Aside0 (spec_l6In.l1 kq a1 a2 x7_1 x8_2 a0_0 a0_1 = some r) ∧ Aside0 (kq ≤ k1) ∧ Aside0 (w'.heap[gb1079]? = some (.cells #[.int .i64 a0_0, .string a0_1] 25 (0, 0))) ∧ Aside0 (Below w.heap.size w w'))
    case atStart => exact ⟨(wrap64 (x7_1 + 1)), (by first | rfl | (simp; done) | (simp [*]; done)), H', ⟨Nat.le_refl _⟩, ⟨kx_ BK1079.out⟩, ⟨bx1 HB.out GE1079.out⟩⟩
    case round =>
     clear H'
     try clear c1
     try clear p2
     try clear c5
     try clear c5b0
     try clear p6
     try clear hcz6_0
     try clear hcz6_1
     try clear hfz6_0
     try clear hfz6_1
     try clear p2
     obtain ⟨x8_2, rfl, HA, HK2, BK1079, HB⟩ := hrel
     cases gk with
     | zero => exact absurd HA.out (by simp [spec_l6In.l1])
     | succ k2 =>
      have H := HA.out
      clear HA
      simp only [spec_l6In.l1] at H
      by_cases c7 : x8_2 < a0_0
      ·rw [if_pos c7] at H
       have c7b0 : decide (x8_2 < a0_0) = true := decide_eq_true c7
       clear c7
       have H' := am_ H
       clear H
       have hcz8_0 : wr.cell? ⟨gb1079, 0, none⟩ = some (.int .i64 a0_0) := (blk_cell BK1079.out 0).trans rfl
       have hcz8_1 : wr.cell? ⟨gb1079, 1, none⟩ = some (.string a0_1) := (blk_cell BK1079.out 1).trans rfl
       have hfz8_0 := blk_frozen BK1079.out 0
       have hfz8_1 := blk_frozen BK1079.out 1
       go_wp2
       go_loopg [9] k2 (fun kq v9 w' => ∃ (x9_3 : Int), v9 = .int .i64 x9_3 ∧ Aside0 (spec_l6In.l2 kq a1 a2 x7_1 x8_2 x9_3 a0_0 a0_1 = some r) ∧ Aside0 (kq ≤ k2) ∧ Aside0 (w'.heap[gb1079]? = some (.cells #[.int .i64 a0_0, .string a0_1] 25 (0, 0))) ∧ Aside0 (Below w.heap.size w w'))
       case atStart => exact ⟨(wrap64 (x8_2 + 1)), (by first | rfl | (simp; done) | (simp [*]; done)), H', ⟨Nat.le_refl _⟩, ⟨kx_ BK1079.out⟩, ⟨bx1 HB.out GE1079.out⟩⟩
       case round =>
        clear H'
        try clear c1
        try clear p2
        try clear c5
        try clear c5b0
        try clear p6
        try clear c7
        try clear c7b0
        try clear hcz6_0
        try clear hcz6_1
        try clear hcz8_0
        try clear hcz8_1
        try clear hfz6_0
        try clear hfz6_1
        try clear hfz8_0
        try clear hfz8_1
        try clear p2
        try clear p6
        obtain ⟨x9_3, rfl, HA, HK3, BK1079, HB⟩ := hrel
        cases gk with
        | zero => exact absurd HA.out (by simp [spec_l6In.l2])
        | succ k3 =>
         have H := HA.out
         clear HA
         simp only [spec_l6In.l2] at H
         by_cases c9 : x9_3 < a0_0
         ·rw [if_pos c9] at H
          have c9b0 : decide (x9_3 < a0_0) = true := decide_eq_true c9
          clear c9
          by_cases c10 : a2 = x7_1
          ·rw [if_pos c10] at H
           have c10b0 : (a2 == x7_1) = true := beq_iff_eq.mpr c10
           have c10b1 : (a2 != x7_1) = false := bne_eq_false_iff_eq.mpr c10
           clear c10
           have H' := am_ H
           clear H
           have hcz11_0 : wr.cell? ⟨gb1079, 0, none⟩ = some (.int .i64 a0_0) := (blk_cell BK1079.out 0).trans rfl
           have hcz11_1 : wr.cell? ⟨gb1079, 1, none⟩ = some (.string a0_1) := (blk_cell BK1079.out 1).trans rfl
           have hfz11_0 := blk_frozen BK1079.out 0
           have hfz11_1 := blk_frozen BK1079.out 1
           go_wp2
           go_roundg k3
           case measure => have := HK1.out; have := HK2.out; have := HK3.out; omega
           case rel => exact ⟨(wrap64 (x9_3 + 1)), (by first | rfl | (simp; done) | (simp [*]; done)), H', ⟨by have := HK1.out; have := HK2.out; have := HK3.out; omega⟩, ⟨kx_ BK1079.out⟩, ⟨bx1 HB.out GE1079.out⟩⟩
          ·rw [if_neg c10] at H
           have c10b0 : (a2 == x7_1) = false := beq_eq_false_iff_ne.mpr c10
           have c10b1 : (a2 != x7_1) = true := bne_iff_ne.mpr c10
           by_cases c12 : a2 = x8_2
           ·rw [if_pos c12] at H
            have c12b0 : (a2 == x8_2) = true := beq_iff_eq.mpr c12
            have c12b1 : (a2 != x8_2) = false := bne_eq_false_iff_eq.mpr c12
            clear c12
            have H' := am_ H
            clear H
            have hcz13_0 : wr.cell? ⟨gb1079, 0, none⟩ = some (.int .i64 a0_0) := (blk_cell BK1079.out 0).trans rfl
            have hcz13_1 : wr.cell? ⟨gb1079, 1, none⟩ = some (.string a0_1) := (blk_cell BK1079.out 1).trans rfl
            have hfz13_0 := blk_frozen BK1079.out 0
            have hfz13_1 := blk_frozen BK1079.out 1
            go_wp2
            go_roundg k3
            case measure => have := HK1.out; have := HK2.out; have := HK3.out; omega
            case rel => exact ⟨(wrap64 (x9_3 + 1)), (by first | rfl | (simp; done) | (simp [*]; done)), H', ⟨by have := HK1.out; have := HK2.out; have := HK3.out; omega⟩, ⟨kx_ BK1079.out⟩, ⟨bx1 HB.out GE1079.out⟩⟩
           ·rw [if_neg c12] at H
            have c12b0 : (a2 == x8_2) = false := beq_eq_false_iff_ne.mpr c12
            have c12b1 : (a2 != x8_2) = true := bne_iff_ne.mpr c12
            by_cases c14 : a2 = x9_3
            ·rw [if_pos c14] at H
             have c14b0 : (a2 == x9_3) = true := beq_iff_eq.mpr c14
             have c14b1 : (a2 != x9_3) = false := bne_eq_false_iff_eq.mpr c14
             clear c14
             have H' := am_ H
             clear H
             have hcz15_0 : wr.cell? ⟨gb1079, 0, none⟩ = some (.int .i64 a0_0) := (blk_cell BK1079.out 0).trans rfl
             have hcz15_1 : wr.cell? ⟨gb1079, 1, none⟩ = some (.string a0_1) := (blk_cell BK1079.out 1).trans rfl
             have hfz15_0 := blk_frozen BK1079.out 0
             have hfz15_1 := blk_frozen BK1079.out 1
             go_wp2
             go_roundg k3
             case measure => have := HK1.out; have := HK2.out; have := HK3.out; omega
             case rel => exact ⟨(wrap64 (x9_3 + 1)), (by first | rfl | (simp; done) | (simp [*]; done)), H', ⟨by have := HK1.out; have := HK2.out; have := HK3.out; omega⟩, ⟨kx_ BK1079.out⟩, ⟨bx1 HB.out GE1079.out⟩⟩
            ·rw [if_neg c14] at H
             have c14b0 : (a2 == x9_3) = false := beq_eq_false_iff_ne.mpr c14
             have c14b1 : (a2 != x9_3) = true := bne_iff_ne.mpr c14
             replace H := Option.bind_eq_some_iff.mp H
             obtain ⟨t1080, A160, H⟩ := H
             replace H : (if t1080 = true then ((spec_l6Has.f a1 x8_2).bind fun t1081 => (if t1081 = true then ((spec_l6Has.f a1 x9_3).bind fun t1082 => (if t1082 = true then ((spec_l5Inner.f k3 a0_0 a0_1 (([a2, x7_1, x8_2, x9_3] : List Int))).bind fun t1086 => (if t1086 = a2 then (some true) else (spec_l6In.l2 k3 a1 a2 x7_1 x8_2 (wrap64 (x9_3 + 1)) a0_0 a0_1))) else (spec_l6In.l2 k3 a1 a2 x7_1 x8_2 (wrap64 (x9_3 + 1)) a0_0 a0_1))) else (spec_l6In.l2 k3 a1 a2 x7_1 x8_2 (wrap64 (x9_3 + 1)) a0_0 a0_1))) else (spec_l6In.l2 k3 a1 a2 x7_1 x8_2 (wrap64 (x9_3 + 1)) a0_0 a0_1)) = some r := H
             have A16 := am_ A160
             clear A160
             by_cases c17 : t1080 = true
             ·subst c17
              have H1 : ((spec_l6Has.f a1 x8_2).bind fun t1081 => (if t1081 = true then ((spec_l6Has.f a1 x9_3).bind fun t1082 => (if t1082 = true then ((spec_l5Inner.f k3 a0_0 a0_1 (([a2, x7_1, x8_2, x9_3] : List Int))).bind fun t1086 => (if t1086 = a2 then (some true) else (spec_l6In.l2 k3 a1 a2 x7_1 x8_2 (wrap64 (x9_3 + 1)) a0_0 a0_1))) else (spec_l6In.l2 k3 a1 a2 x7_1 x8_2 (wrap64 (x9_3 + 1)) a0_0 a0_1))) else (spec_l6In.l2 k3 a1 a2 x7_1 x8_2 (wrap64 (x9_3 + 1)) a0_0 a0_1))) = some r := by rw [if_pos rfl] at H; exact H
              clear H
              have H := H1
              clear H1
              replace H := Option.bind_eq_some_iff.mp H
              obtain ⟨t1081, A180, H⟩ := H
              replace H : (if t1081 = true then ((spec_l6Has.f a1 x9_3).bind fun t1082 => (if t1082 = true then ((spec_l5Inner.f k3 a0_0 a0_1 (([a2, x7_1, x8_2, x9_3] : List Int))).bind fun t1086 => (if t1086 = a2 then (some true) else (spec_l6In.l2 k3 a1 a2 x7_1 x8_2 (wrap64 (x9_3 + 1)) a0_0 a0_1))) else (spec_l6In.l2 k3 a1 a2 x7_1 x8_2 (wrap64 (x9_3 + 1)) a0_0 a0_1))) else (spec_l6In.l2 k3 a1 a2 x7_1 x8_2 (wrap64 (x9_3 + 1)) a0_0 a0_1)) = some r := H
              have A18 := am_ A180
              clear A180
              by_cases c19 : t1081 = true
              ·subst c19
               have H1 : ((spec_l6Has.f a1 x9_3).bind fun t1082 => (if t1082 = true then ((spec_l5Inner.f k3 a0_0 a0_1 (([a2, x7_1, x8_2, x9_3] : List Int))).bind fun t1086 => (if t1086 = a2 then (some true) else (spec_l6In.l2 k3 a1 a2 x7_1 x8_2 (wrap64 (x9_3 + 1)) a0_0 a0_1))) else (spec_l6In.l2 k3 a1 a2 x7_1 x8_2 (wrap64 (x9_3 + 1)) a0_0 a0_1))) = some r := by rw [if_pos rfl] at H; exact H
               clear H
               have H := H1
               clear H1
               replace H := Option.bind_eq_some_iff.mp H
               obtain ⟨t1082, A200, H⟩ := H
               replace H : (if t1082 = true then ((spec_l5Inner.f k3 a0_0 a0_1 (([a2, x7_1, x8_2, x9_3] : List Int))).bind fun t1086 => (if t1086 = a2 then (some true) else (spec_l6In.l2 k3 a1 a2 x7_1 x8_2 (wrap64 (x9_3 + 1)) a0_0 a0_1))) else (spec_l6In.l2 k3 a1 a2 x7_1 x8_2 (wrap64 (x9_3 + 1)) a0_0 a0_1)) = some r := H
               have A20 := am_ A200
               clear A200
               by_cases c21 : t1082 = true
               ·subst c21
                have H1 : ((spec_l5Inner.f k3 a0_0 a0_1 (([a2, x7_1, x8_2, x9_3] : List Int))).bind fun t1086 => (if t1086 = a2 then (some true) else (spec_l6In.l2 k3 a1 a2 x7_1 x8_2 (wrap64 (x9_3 + 1)) a0_0 a0_1))) = some r := by rw [if_pos rfl] at H; exact H
                clear H
                have H := H1
                clear H1
                obtain ⟨y1083, hy1083⟩ : ∃ y_ : List Int, y_ = (([a2, x7_1, x8_2, x9_3] : List Int)) := ⟨_, rfl⟩
                replace H : ((spec_l5Inner.f k3 a0_0 a0_1 y1083).bind fun t1086 => (if t1086 = a2 then (some true) else (spec_l6In.l2 k3 a1 a2 x7_1 x8_2 (wrap64 (x9_3 + 1)) a0_0 a0_1))) = some r := by first | (rw [hy1083]; with_reducible exact H) | (have H2_ := (Option.bind_some _ _).symm.trans H; rw [hy1083]; with_reducible exact H2_) | (have H2_ := (Option.bind_some _ _).symm.trans H; with_reducible exact H2_) | with_reducible exact H | (rw [hy1083]; exact H) | exact H
                have Ny1083 := am_ hy1083
                clear hy1083
                replace H := Option.bind_eq_some_iff.mp H
                obtain ⟨t1086, A220, H⟩ := H
                replace H : (if t1086 = a2 then (some true) else (spec_l6In.l2 k3 a1 a2 x7_1 x8_2 (wrap64 (x9_3 + 1)) a0_0 a0_1)) = some r := H
                have A22 := am_ A220
                clear A220
                by_cases c23 : t1086 = a2
                ·rw [if_pos c23] at H
                 have c23b0 : (t1086 == a2) = true := beq_iff_eq.mpr c23
                 have c23b1 : (t1086 != a2) = false := bne_eq_false_iff_eq.mpr c23
                 clear c23
                 obtain rfl := Option.some.inj H
                 have hcz24_0 : wr.cell? ⟨gb1079, 0, none⟩ = some (.int .i64 a0_0) := (blk_cell BK1079.out 0).trans rfl
                 have hcz24_1 : wr.cell? ⟨gb1079, 1, none⟩ = some (.string a0_1) := (blk_cell BK1079.out 1).trans rfl
                 have hfz24_0 := blk_frozen BK1079.out 0
                 have hfz24_1 := blk_frozen BK1079.out 1
                 go_wp2_with (first | (go_at_call 129; (with_reducible refine (spec_l6Has.calls a1 x7_1 true _ A16.out).mono ?_); rintro e w' ⟨rfl, ⟨nd, rfl⟩⟩) | (go_at_call 129; (with_reducible refine (spec_l6Has.calls a1 x8_2 true _ A18.out).mono ?_); rintro e w' ⟨rfl, ⟨nd, rfl⟩⟩) | (go_at_call 129; (with_reducible refine (spec_l6Has.calls a1 x9_3 true _ A20.out).mono ?_); rintro e w' ⟨rfl, ⟨nd, rfl⟩⟩) | ((with_reducible refine gate_dst (N := 66) rfl ?_); (try (refine gate_guard (by rfl) ?_; dsimp only)); refine Kd.R_lit (Kd.int .i64) _ 3 ?hg (N := 66) ?hd (xs := ([a2, x7_1, x8_2, x9_3] : List Int)) (inner := [.int .i64 a2, .int .i64 x7_1, .int .i64 x8_2, .int .i64 x9_3]) (ok := fun _ => True) (okp := fun _ => True) ?hr ?hp (fun _ hk => hk) trivial (Below.refl _ _) (Nat.le_refl _) (by simp) ?_; (case hd => rfl); (case hg => rfl); (case hr => first | (go_simp; done) | (go_simp; rfl)); (case hp => exact (Reps.one (show Kd.M (Kd.int .i64) _ _ _ a2 [.int .i64 a2] from rfl) (Reps.one (show Kd.M (Kd.int .i64) _ _ _ x7_1 [.int .i64 x7_1] from rfl) (Reps.one (show Kd.M (Kd.int .i64) _ _ _ x8_2 [.int .i64 x8_2] from rfl) (Reps.one (show Kd.M (Kd.int .i64) _ _ _ x9_3 [.int .i64 x9_3] from rfl) (Reps.none _ _)))))); intro v1084 w25 ho26 hb hg_ hnew_; clear hg_ hnew_; (first | rw [← Ny1083.out] at ho26 | (simp only [Int.reduceToNat] at ho26; rw [← Ny1083.out] at ho26)); have n0_ := am_ (Kd.R_lower ho26 (below_size (bx1 HB.out GE1079.out))); have n1_ := am_ (blk_below (g := gb1079) (o := .cells #[.int .i64 a0_0, .string a0_1] 25 (0, 0)) (kx_ BK1079.out) hb); have n2_ := am_ (below_step (bx1 HB.out GE1079.out) hb); clear BK1079; clear HB; have HO1085 := n0_; have BK1079 := n1_; have HB := n2_; clear n0_ n1_ n2_; clear hb ho26; obtain ⟨Ao27, co27, eo27⟩ := Kd.R_slice HO1085.out; subst eo27) | (go_at_call 201; (with_reducible refine (spec_l5Inner.calls k3 a0_0 a0_1 _ _ y1083 t1086 _ ?side1 ?side2 A22.out).mono ?_); (case side1 => repeat (first | exact (Kd.R_reads' HO1085.out).2.2 | (with_reducible refine Kd.C_alloc ?_ _) | (with_reducible refine Kd.C_drewN ?_ _) | (with_reducible refine Kd.C_drew ?_))); (case side2 => exact (Kd.R_reads' HO1085.out).2.1); rintro e w28 ⟨rfl, hb⟩; have n0_ := am_ (Kd.R_below (rx_ HO1085.out) hb); have n1_ := am_ (blk_below (g := gb1079) (o := .cells #[.int .i64 a0_0, .string a0_1] 25 (0, 0)) (kx_ BK1079.out) hb); have n2_ := am_ (below_step (bx1 HB.out GE1079.out) hb); clear HO1085; clear BK1079; clear HB; have HO1085 := n0_; have BK1079 := n1_; have HB := n2_; clear n0_ n1_ n2_; (try clear hb); (try clear hb2); (try clear hk); (try clear hi)))
                 go_ret
                 exact ⟨by first | rfl | (simp [errW_none, errW_some] <;> rfl) | (simp [*, errW_none, errW_some] <;> rfl), bx1 HB.out GE1079.out⟩
                ·rw [if_neg c23] at H
                 have c23b0 : (t1086 == a2) = false := beq_eq_false_iff_ne.mpr c23
                 have c23b1 : (t1086 != a2) = true := bne_iff_ne.mpr c23
                 have H' := am_ H
                 clear H
                 have hcz29_0 : wr.cell? ⟨gb1079, 0, none⟩ = some (.int .i64 a0_0) := (blk_cell BK1079.out 0).trans rfl
                 have hcz29_1 : wr.cell? ⟨gb1079, 1, none⟩ = some (.string a0_1) := (blk_cell BK1079.out 1).trans rfl
                 have hfz29_0 := blk_frozen BK1079.out 0
                 have hfz29_1 := blk_frozen BK1079.out 1
                 go_wp2_with (first | (go_at_call 129; (with_reducible refine (spec_l6Has.calls a1 x7_1 true _ A16.out).mono ?_); rintro e w' ⟨rfl, ⟨nd, rfl⟩⟩) | (go_at_call 129; (with_reducible refine (spec_l6Has.calls a1 x8_2 true _ A18.out).mono ?_); rintro e w' ⟨rfl, ⟨nd, rfl⟩⟩) | (go_at_call 129; (with_reducible refine (spec_l6Has.calls a1 x9_3 true _ A20.out).mono ?_); rintro e w' ⟨rfl, ⟨nd, rfl⟩⟩) | ((with_reducible refine gate_dst (N := 66) rfl ?_); (try (refine gate_guard (by rfl) ?_; dsimp only)); refine Kd.R_lit (Kd.int .i64) _ 3 ?hg (N := 66) ?hd (xs := ([a2, x7_1, x8_2, x9_3] : List Int)) (inner := [.int .i64 a2, .int .i64 x7_1, .int .i64 x8_2, .int .i64 x9_3]) (ok := fun _ => True) (okp := fun _ => True) ?hr ?hp (fun _ hk => hk) trivial (Below.refl _ _) (Nat.le_refl _) (by simp) ?_; (case hd => rfl); (case hg => rfl); (case hr => first | (go_simp; done) | (go_simp; rfl)); (case hp => exact (Reps.one (show Kd.M (Kd.int .i64) _ _ _ a2 [.int .i64 a2] from rfl) (Reps.one (show Kd.M (Kd.int .i64) _ _ _ x7_1 [.int .i64 x7_1] from rfl) (Reps.one (show Kd.M (Kd.int .i64) _ _ _ x8_2 [.int .i64 x8_2] from rfl) (Reps.one (show Kd.M (Kd.int .i64) _ _ _ x9_3 [.int .i64 x9_3] from rfl) (Reps.none _ _)))))); intro v1084 w30 ho31 hb hg_ hnew_; clear hg_ hnew_; (first | rw [← Ny1083.out] at ho31 | (simp only [Int.reduceToNat] at ho31; rw [← Ny1083.out] at ho31)); have n0_ := am_ (Kd.R_lower ho31 (below_size (bx1 HB.out GE1079.out))); have n1_ := am_ (blk_below (g := gb1079) (o := .cells #[.int .i64 a0_0, .string a0_1] 25 (0, 0)) (kx_ BK1079.out) hb); have n2_ := am_ (below_step (bx1 HB.out GE1079.out) hb); clear BK1079; clear HB; have HO1085 := n0_; have BK1079 := n1_; have HB := n2_; clear n0_ n1_ n2_; clear hb ho31; obtain ⟨Ao32, co32, eo32⟩ := Kd.R_slice HO1085.out; subst eo32) | (go_at_call 201; (with_reducible refine (spec_l5Inner.calls k3 a0_0 a0_1 _ _ y1083 t1086 _ ?side1 ?side2 A22.out).mono ?_); (case side1 => repeat (first | exact (Kd.R_reads' HO1085.out).2.2 | (with_reducible refine Kd.C_alloc ?_ _) | (with_reducible refine Kd.C_drewN ?_ _) | (with_reducible refine Kd.C_drew ?_))); (case side2 => exact (Kd.R_reads' HO1085.out).2.1); rintro e w33 ⟨rfl, hb⟩; have n0_ := am_ (Kd.R_below (rx_ HO1085.out) hb); have n1_ := am_ (blk_below (g := gb1079) (o := .cells #[.int .i64 a0_0, .string a0_1] 25 (0, 0)) (kx_ BK1079.out) hb); have n2_ := am_ (below_step (bx1 HB.out GE1079.out) hb); clear HO1085; clear BK1079; clear HB; have HO1085 := n0_; have BK1079 := n1_; have HB := n2_; clear n0_ n1_ n2_; (try clear hb); (try clear hb2); (try clear hk); (try clear hi)))
                 go_roundg k3
                 case measure => have := HK1.out; have := HK2.out; have := HK3.out; omega
                 case rel => exact ⟨(wrap64 (x9_3 + 1)), (by first | rfl | (simp; done) | (simp [*]; done)), H', ⟨by have := HK1.out; have := HK2.out; have := HK3.out; omega⟩, ⟨kx_ BK1079.out⟩, ⟨bx1 HB.out GE1079.out⟩⟩
               ·replace c21 := Bool.eq_false_iff.mpr c21
                subst c21
                have H1 : (spec_l6In.l2 k3 a1 a2 x7_1 x8_2 (wrap64 (x9_3 + 1)) a0_0 a0_1) = some r := by rw [if_neg (show ¬ (false = true) by decide)] at H; exact H
                clear H
                have H := H1
                clear H1
                have H' := am_ H
                clear H
                have hcz34_0 : wr.cell? ⟨gb1079, 0, none⟩ = some (.int .i64 a0_0) := (blk_cell BK1079.out 0).trans rfl
                have hcz34_1 : wr.cell? ⟨gb1079, 1, none⟩ = some (.string a0_1) := (blk_cell BK1079.out 1).trans rfl
                have hfz34_0 := blk_frozen BK1079.out 0
                have hfz34_1 := blk_frozen BK1079.out 1
                go_wp2_with (first | (go_at_call 129; (with_reducible refine (spec_l6Has.calls a1 x7_1 true _ A16.out).mono ?_); rintro e w' ⟨rfl, ⟨nd, rfl⟩⟩) | (go_at_call 129; (with_reducible refine (spec_l6Has.calls a1 x8_2 true _ A18.out).mono ?_); rintro e w' ⟨rfl, ⟨nd, rfl⟩⟩) | (go_at_call 129; (with_reducible refine (spec_l6Has.calls a1 x9_3 false _ A20.out).mono ?_); rintro e w' ⟨rfl, ⟨nd, rfl⟩⟩))
                go_roundg k3
                case measure => have := HK1.out; have := HK2.out; have := HK3.out; omega
                case rel => exact ⟨(wrap64 (x9_3 + 1)), (by first | rfl | (simp; done) | (simp [*]; done)), H', ⟨by have := HK1.out; have := HK2.out; have := HK3.out; omega⟩, ⟨kx_ BK1079.out⟩, ⟨bx1 HB.out GE1079.out⟩⟩
              ·replace c19 := Bool.eq_false_iff.mpr c19
               subst c19
               have H1 : (spec_l6In.l2 k3 a1 a2 x7_1 x8_2 (wrap64 (x9_3 + 1)) a0_0 a0_1) = some r := by rw [if_neg (show ¬ (false = true) by decide)] at H; exact H
               clear H
               have H := H1
               clear H1
               have H' := am_ H
               clear H
               have hcz35_0 : wr.cell? ⟨gb1079, 0, none⟩ = some (.int .i64 a0_0) := (blk_cell BK1079.out 0).trans rfl
               have hcz35_1 : wr.cell? ⟨gb1079, 1, none⟩ = some (.string a0_1) := (blk_cell BK1079.out 1).trans rfl
               have hfz35_0 := blk_frozen BK1079.out 0
               have hfz35_1 := blk_frozen BK1079.out 1
               go_wp2_with (first | (go_at_call 129; (with_reducible refine (spec_l6Has.calls a1 x7_1 true _ A16.out).mono ?_); rintro e w' ⟨rfl, ⟨nd, rfl⟩⟩) | (go_at_call 129; (with_reducible refine (spec_l6Has.calls a1 x8_2 false _ A18.out).mono ?_); rintro e w' ⟨rfl, ⟨nd, rfl⟩⟩))
               go_roundg k3
               case measure => have := HK1.out; have := HK2.out; have := HK3.out; omega
               case rel => exact ⟨(wrap64 (x9_3 + 1)), (by first | rfl | (simp; done) | (simp [*]; done)), H', ⟨by have := HK1.out; have := HK2.out; have := HK3.out; omega⟩, ⟨kx_ BK1079.out⟩, ⟨bx1 HB.out GE1079.out⟩⟩
             ·replace c17 := Bool.eq_false_iff.mpr c17
              subst c17
              have H1 : (spec_l6In.l2 k3 a1 a2 x7_1 x8_2 (wrap64 (x9_3 + 1)) a0_0 a0_1) = some r := by rw [if_neg (show ¬ (false = true) by decide)] at H; exact H
              clear H
              have H := H1
              clear H1
              have H' := am_ H
              clear H
              have hcz36_0 : wr.cell? ⟨gb1079, 0, none⟩ = some (.int .i64 a0_0) := (blk_cell BK1079.out 0).trans rfl
              have hcz36_1 : wr.cell? ⟨gb1079, 1, none⟩ = some (.string a0_1) := (blk_cell BK1079.out 1).trans rfl
              have hfz36_0 := blk_frozen BK1079.out 0
              have hfz36_1 := blk_frozen BK1079.out 1
              go_wp2_with (first | (go_at_call 129; (with_reducible refine (spec_l6Has.calls a1 x7_1 false _ A16.out).mono ?_); rintro e w' ⟨rfl, ⟨nd, rfl⟩⟩))
              go_roundg k3
              case measure => have := HK1.out; have := HK2.out; have := HK3.out; omega
              case rel => exact ⟨(wrap64 (x9_3 + 1)), (by first | rfl | (simp; done) | (simp [*]; done)), H', ⟨by have := HK1.out; have := HK2.out; have := HK3.out; omega⟩, ⟨kx_ BK1079.out⟩, ⟨bx1 HB.out GE1079.out⟩⟩
         ·rw [if_neg c9] at H
          have c9b0 : decide (x9_3 < a0_0) = false := decide_eq_false c9
          clear c9
          have H' := am_ H
          clear H
          have hcz37_0 : wr.cell? ⟨gb1079, 0, none⟩ = some (.int .i64 a0_0) := (blk_cell BK1079.out 0).trans rfl
          have hcz37_1 : wr.cell? ⟨gb1079, 1, none⟩ = some (.string a0_1) := (blk_cell BK1079.out 1).trans rfl
          have hfz37_0 := blk_frozen BK1079.out 0
          have hfz37_1 := blk_frozen BK1079.out 1
          go_wp2
          go_roundg k3
          case measure => have := HK1.out; have := HK2.out; have := HK3.out; omega
          case rel => exact ⟨(wrap64 (x8_2 + 1)), (by first | rfl | (simp; done) | (simp [*]; done)), H', ⟨by have := HK1.out; have := HK2.out; have := HK3.out; omega⟩, ⟨kx_ BK1079.out⟩, ⟨bx1 HB.out GE1079.out⟩⟩
      ·rw [if_neg c7] at H
       have c7b0 : decide (x8_2 < a0_0) = false := decide_eq_false c7
       clear c7
       have H' := am_ H
       clear H
       have hcz38_0 : wr.cell? ⟨gb1079, 0, none⟩ = some (.int .i64 a0_0) := (blk_cell BK1079.out 0).trans rfl
       have hcz38_1 : wr.cell? ⟨gb1079, 1, none⟩ = some (.string a0_1) := (blk_cell BK1079.out 1).trans rfl
       have hfz38_0 := blk_frozen BK1079.out 0
       have hfz38_1 := blk_frozen BK1079.out 1
       go_wp2
       go_roundg k2
       case measure => have := HK1.out; have := HK2.out; omega
       case rel => exact ⟨(wrap64 (x7_1 + 1)), (by first | rfl | (simp; done) | (simp [*]; done)), H', ⟨by have := HK1.out; have := HK2.out; omega⟩, ⟨kx_ BK1079.out⟩, ⟨bx1 HB.out GE1079.out⟩⟩
   ·rw [if_neg c5] at H
    have c5b0 : decide (x7_1 < a0_0) = false := decide_eq_false c5
    clear c5
    obtain rfl := Option.some.inj H
    have hcz39_0 : wr.cell? ⟨gb1079, 0, none⟩ = some (.int .i64 a0_0) := (blk_cell BK1079.out 0).trans rfl
    have hcz39_1 : wr.cell? ⟨gb1079, 1, none⟩ = some (.string a0_1) := (blk_cell BK1079.out 1).trans rfl
    have hfz39_0 := blk_frozen BK1079.out 0
    have hfz39_1 := blk_frozen BK1079.out 1
    go_wp2
    go_ret
    exact ⟨by first | rfl | (simp [errW_none, errW_some] <;> rfl) | (simp [*, errW_none, errW_some] <;> rfl), bx1 HB.out GE1079.out⟩
def spec_l6Extreme.l0 : Nat → Int → Int → Int → Int → ByteArray → Option (Int)
 | 0, _, _, _, _, _ => none
 | k + 1, x1, x5, x6, x1088000, x1088001 => if x6 < x1088000 then ((spec_l6Has.f x1 x6).bind fun t1088 => (if t1088 = true then ((spec_l6In.f k x1088000 x1088001 x1 x6).bind fun t1089 => (if t1089 = true then (spec_l6Extreme.l0 k x1 x5 (wrap64 (x6 + 1)) x1088000 x1088001) else (if 0 ≤ (IntKind.u64.wrap (x6)) then (spec_l6Extreme.l0 k x1 (wrap64 (x5 + (shl .i64 1 (IntKind.u64.wrap (x6))))) (wrap64 (x6 + 1)) x1088000 x1088001) else (none)))) else (spec_l6Extreme.l0 k x1 x5 (wrap64 (x6 + 1)) x1088000 x1088001))) else (some x5)
def spec_l6Extreme.f (k : Nat) (a0_0 : Int) (a0_1 : ByteArray) (a1 : Int) : Option (Int) := spec_l6Extreme.l0 k a1 0 0 a0_0 a0_1
set_option maxHeartbeats 8000000 in
set_option maxRecDepth 100000 in
theorem spec_l6Extreme.calls (k : Nat) (a0_0 : Int) (a0_1 : ByteArray) (a1 : Int) (r : Int) (w : World) (h : spec_l6Extreme.f k a0_0 a0_1 a1 = some r) :
  Calls Try.prog 128 #[.agg #[.int .i64 a0_0, .string a0_1], .int .i64 a1] w fun e w' => e = .returned (.int .i64 r) ∧ Below w.heap.size w w' := by
 have hu25 := Try.underlying25
 have HB := am_ (Below.refl w.heap.size w)
 have H : (spec_l6Extreme.l0 k a1 0 0 a0_0 a0_1) = some r := h
 clear h
 have H' := am_ H
 clear H
 go_enter Try.func128, Try.ntmps128
 go_wp2_with (first | ((with_reducible refine gate_dst (N := 2) rfl ?_); refine box_event ?hg (N := 2) ?hd (cs := #[.int .i64 a0_0, .string a0_1]) (t := 25) ?hr ?_; (case hd => rfl); (case hg => rfl); (case hr => first | (go_simp; done) | (go_simp; rfl)); intro gb1087 hg w3 hbox hb; have n0_ := am_ (below_step (bx0 HB.out) hb); have n1_ := am_ (hbox); have n2_ := am_ ((by rw [hg]; exact (below_size (bx0 HB.out)) : w.heap.size ≤ gb1087)); have n3_ := am_ ((by rw [hg]; exact (below_size (bx0 HB.out)) : w.heap.size ≤ gb1087)); clear HB; have HB := n0_; have BK1087 := n1_; have GW1087 := n2_; have GE1087 := n3_; clear n0_ n1_ n2_ n3_; clear hb hbox hg))
 go_loopg [5, 6] k (fun kq v5 v6 w' => ∃ (x5_1 : Int) (x6_1 : Int), v5 = .int .i64 x5_1 ∧ v6 = .int .i64 x6_1 ∧ Aside0 (spec_l6Extreme.l0 kq a1 x5_1 x6_1 a0_0 a0_1 = some r) ∧ Aside0 (kq ≤ k) ∧ Aside0 (w'.heap[gb1087]? = some (.cells #[.int .i64 a0_0, .string a0_1] 25 (0, 0))) ∧ Aside0 (Below w.heap.size w w'))
 case atStart => exact ⟨(0), (0), (by first | rfl | (simp; done) | (simp [*]; done)), (by first | rfl | (simp; done) | (simp [*]; done)), H', ⟨Nat.le_refl _⟩, ⟨kx_ BK1087.out⟩, ⟨bx1 HB.out GE1087.out⟩⟩
 case round =>
  clear H'
  try clear c1
  try clear p2
  obtain ⟨x5_1, x6_1, rfl, rfl, HA, HK1, BK1087, HB⟩ := hrel
  cases gk with
  | zero => exact absurd HA.out (by simp [spec_l6Extreme.l0])
  | succ k1 =>
   have H := HA.out
   clear HA
   simp only [spec_l6Extreme.l0] at H
   by_cases c4 : x6_1 < a0_0
   ·rw [if_pos c4] at H
    have c4b0 : decide (x6_1 < a0_0) = true := decide_eq_true c4
    clear c4
    replace H := Option.bind_eq_some_iff.mp H
    obtain ⟨t1088, A50, H⟩ := H
    replace H : (if t1088 = true then ((spec_l6In.f k1 a0_0 a0_1 a1 x6_1).bind fun t1089 => (if t1089 = true then (spec_l6Extreme.l0 k1 a1 x5_1 (wrap64 (x6_1 + 1)) a0_0 a0_1) else (if 0 ≤ (IntKind.u64.wrap (x6_1)) then (spec_l6Extreme.l0 k1 a1 (wrap64 (x5_1 + (shl .i64 1 (IntKind.u64.wrap (x6_1))))) (wrap64 (x6_1 + 1)) a0_0 a0_1) else (none)))) else (spec_l6Extreme.l0 k1 a1 x5_1 (wrap64 (x6_1 + 1)) a0_0 a0_1)) = some r := H
    have A5 := am_ A50
    clear A50
    by_cases c6 : t1088 = true
    ·subst c6
     have H1 : ((spec_l6In.f k1 a0_0 a0_1 a1 x6_1).bind fun t1089 => (if t1089 = true then (spec_l6Extreme.l0 k1 a1 x5_1 (wrap64 (x6_1 + 1)) a0_0 a0_1) else (if 0 ≤ (IntKind.u64.wrap (x6_1)) then (spec_l6Extreme.l0 k1 a1 (wrap64 (x5_1 + (shl .i64 1 (IntKind.u64.wrap (x6_1))))) (wrap64 (x6_1 + 1)) a0_0 a0_1) else (none)))) = some r := by rw [if_pos rfl] at H; exact H
     clear H
     have H := H1
     clear H1
     replace H := Option.bind_eq_some_iff.mp H
     obtain ⟨t1089, A70, H⟩ := H
     replace H : (if t1089 = true then (spec_l6Extreme.l0 k1 a1 x5_1 (wrap64 (x6_1 + 1)) a0_0 a0_1) else (if 0 ≤ (IntKind.u64.wrap (x6_1)) then (spec_l6Extreme.l0 k1 a1 (wrap64 (x5_1 + (shl .i64 1 (IntKind.u64.wrap (x6_1))))) (wrap64 (x6_1 + 1)) a0_0 a0_1) else (none))) = some r := H
     have A7 := am_ A70
     clear A70
     by_cases c8 : t1089 = true
     ·subst c8
      have H1 : (spec_l6Extreme.l0 k1 a1 x5_1 (wrap64 (x6_1 + 1)) a0_0 a0_1) = some r := by rw [if_pos rfl] at H; exact H
      clear H
      have H := H1
      clear H1
      have H' := am_ H
      clear H
      have hcz9_0 : wr.cell? ⟨gb1087, 0, none⟩ = some (.int .i64 a0_0) := (blk_cell BK1087.out 0).trans rfl
      have hcz9_1 : wr.cell? ⟨gb1087, 1, none⟩ = some (.string a0_1) := (blk_cell BK1087.out 1).trans rfl
      have hfz9_0 := blk_frozen BK1087.out 0
      have hfz9_1 := blk_frozen BK1087.out 1
      go_wp2_with (first | ((with_reducible refine gate_callee (f := 129) rfl ?_); refine goesL_ (some 15) rfl rfl Try.func129 (by kernel_rfl) rfl #[.int .i64 a1, .int .i64 x6_1] rfl (by (try simp only [List.map_toArray, List.map_cons, List.map_nil]); first | done | rfl | (simp only [List.length_drop, List.length_take]; rfl)) ?_; (with_reducible refine (spec_l6Has.calls a1 x6_1 true _ A5.out).mono ?_); rintro e w' ⟨rfl, ⟨nd, rfl⟩⟩; refine ⟨_, rfl, ?_⟩) | (go_at_call 166; (with_reducible refine (spec_l6In.calls k1 a0_0 a0_1 a1 x6_1 true _ A7.out).mono ?_); rintro e w10 ⟨rfl, hb⟩; have n0_ := am_ (blk_below (g := gb1087) (o := .cells #[.int .i64 a0_0, .string a0_1] 25 (0, 0)) (kx_ BK1087.out) hb); have n1_ := am_ (below_step (bx1 HB.out GE1087.out) hb); clear BK1087; clear HB; have BK1087 := n0_; have HB := n1_; clear n0_ n1_; (try clear hb); (try clear hb2); (try clear hk); (try clear hi)))
      go_roundg k1
      case measure => have := HK1.out; omega
      case rel => exact ⟨(x5_1), (wrap64 (x6_1 + 1)), (by first | rfl | (simp; done) | (simp [*]; done)), (by first | rfl | (simp; done) | (simp [*]; done)), H', ⟨by have := HK1.out; omega⟩, ⟨kx_ BK1087.out⟩, ⟨bx1 HB.out GE1087.out⟩⟩
     ·replace c8 := Bool.eq_false_iff.mpr c8
      subst c8
      have H1 : (if 0 ≤ (IntKind.u64.wrap (x6_1)) then (spec_l6Extreme.l0 k1 a1 (wrap64 (x5_1 + (shl .i64 1 (IntKind.u64.wrap (x6_1))))) (wrap64 (x6_1 + 1)) a0_0 a0_1) else (none)) = some r := by rw [if_neg (show ¬ (false = true) by decide)] at H; exact H
      clear H
      have H := H1
      clear H1
      obtain ⟨ji11, hji11⟩ : ∃ j_ : Int, (IntKind.u64.wrap (x6_1)) = j_ := ⟨_, rfl⟩
      replace H : (if 0 ≤ (ji11) then (spec_l6Extreme.l0 k1 a1 (wrap64 (x5_1 + (shl .i64 1 (ji11)))) (wrap64 (x6_1 + 1)) a0_0 a0_1) else (none)) = some r := by first | (rw [hji11] at H; exact H) | (simp only [hji11] at H ⊢; exact H)
      (try rw [hji11] at A5)
      (try rw [hji11] at A7)
      by_cases c12 : 0 ≤ (ji11)
      ·rw [if_pos c12] at H
       have c12b0 := eq_true c12
       have c12b1 : decide (0 ≤ (ji11)) = true := decide_eq_true c12
       clear c12
       obtain ⟨ji13, hji13⟩ : ∃ j_ : Int, (shl .i64 1 (ji11)) = j_ := ⟨_, rfl⟩
       replace H : (spec_l6Extreme.l0 k1 a1 (wrap64 (x5_1 + (ji13))) (wrap64 (x6_1 + 1)) a0_0 a0_1) = some r := by first | (rw [hji13] at H; exact H) | (simp only [hji13] at H ⊢; exact H)
       (try rw [hji13] at A5)
       (try rw [hji13] at A7)
       have hji13_ : (IntKind.i64.wrap (1 * 2 ^ min (ji11).toNat 64)) = ji13 := hji13
       have hji13z : (ji11) ≤ 64 → (IntKind.i64.wrap (1 * 2 ^ (ji11).toNat)) = ji13 := shl_small hji13
       have hji13u : (IntKind.i64.wrap (2 ^ min (ji11).toNat 64)) = ji13 := by have h_ := hji13_; rw [Int.one_mul] at h_; exact h_
       have hji13v : (ji11) ≤ 64 → (IntKind.i64.wrap (2 ^ (ji11).toNat)) = ji13 := fun hle_ => by have h_ := hji13z hle_; rw [Int.one_mul] at h_; exact h_
       have hji13y : (wrap64 (1 * 2 ^ min (ji11).toNat 64)) = ji13 := (i64_w _).symm.trans hji13_
       have hji13x : (ji11) ≤ 64 → (wrap64 (1 * 2 ^ (ji11).toNat)) = ji13 := fun h_ => (i64_w _).symm.trans (hji13z h_)
       have H' := am_ H
       clear H
       have hcz14_0 : wr.cell? ⟨gb1087, 0, none⟩ = some (.int .i64 a0_0) := (blk_cell BK1087.out 0).trans rfl
       have hcz14_1 : wr.cell? ⟨gb1087, 1, none⟩ = some (.string a0_1) := (blk_cell BK1087.out 1).trans rfl
       have hfz14_0 := blk_frozen BK1087.out 0
       have hfz14_1 := blk_frozen BK1087.out 1
       go_wp2_with (first | ((with_reducible refine gate_callee (f := 129) rfl ?_); refine goesL_ (some 15) rfl rfl Try.func129 (by kernel_rfl) rfl #[.int .i64 a1, .int .i64 x6_1] rfl (by (try simp only [List.map_toArray, List.map_cons, List.map_nil]); first | done | rfl | (simp only [List.length_drop, List.length_take]; rfl)) ?_; (with_reducible refine (spec_l6Has.calls a1 x6_1 true _ A5.out).mono ?_); rintro e w' ⟨rfl, ⟨nd, rfl⟩⟩; refine ⟨_, rfl, ?_⟩) | (go_at_call 166; (with_reducible refine (spec_l6In.calls k1 a0_0 a0_1 a1 x6_1 false _ A7.out).mono ?_); rintro e w15 ⟨rfl, hb⟩; have n0_ := am_ (blk_below (g := gb1087) (o := .cells #[.int .i64 a0_0, .string a0_1] 25 (0, 0)) (kx_ BK1087.out) hb); have n1_ := am_ (below_step (bx1 HB.out GE1087.out) hb); clear BK1087; clear HB; have BK1087 := n0_; have HB := n1_; clear n0_ n1_; (try clear hb); (try clear hb2); (try clear hk); (try clear hi)))
       go_roundg k1
       case measure => have := HK1.out; omega
       case rel => exact ⟨(wrap64 (x5_1 + (ji13))), (wrap64 (x6_1 + 1)), (by first | rfl | (simp; done) | (simp only [← hji13] <;> (first | rfl | simp)) | (simp [*]; done)), (by first | rfl | (simp; done) | (simp [*]; done)), H', ⟨by have := HK1.out; omega⟩, ⟨kx_ BK1087.out⟩, ⟨bx1 HB.out GE1087.out⟩⟩
      ·rw [if_neg c12] at H
       exact absurd H (by simp)
    ·replace c6 := Bool.eq_false_iff.mpr c6
     subst c6
     have H1 : (spec_l6Extreme.l0 k1 a1 x5_1 (wrap64 (x6_1 + 1)) a0_0 a0_1) = some r := by rw [if_neg (show ¬ (false = true) by decide)] at H; exact H
     clear H
     have H := H1
     clear H1
     have H' := am_ H
     clear H
     have hcz16_0 : wr.cell? ⟨gb1087, 0, none⟩ = some (.int .i64 a0_0) := (blk_cell BK1087.out 0).trans rfl
     have hcz16_1 : wr.cell? ⟨gb1087, 1, none⟩ = some (.string a0_1) := (blk_cell BK1087.out 1).trans rfl
     have hfz16_0 := blk_frozen BK1087.out 0
     have hfz16_1 := blk_frozen BK1087.out 1
     go_wp2_with (first | ((with_reducible refine gate_callee (f := 129) rfl ?_); refine goesL_ (some 15) rfl rfl Try.func129 (by kernel_rfl) rfl #[.int .i64 a1, .int .i64 x6_1] rfl (by (try simp only [List.map_toArray, List.map_cons, List.map_nil]); first | done | rfl | (simp only [List.length_drop, List.length_take]; rfl)) ?_; (with_reducible refine (spec_l6Has.calls a1 x6_1 false _ A5.out).mono ?_); rintro e w' ⟨rfl, ⟨nd, rfl⟩⟩; refine ⟨_, rfl, ?_⟩))
     go_roundg k1
     case measure => have := HK1.out; omega
     case rel => exact ⟨(x5_1), (wrap64 (x6_1 + 1)), (by first | rfl | (simp; done) | (simp [*]; done)), (by first | rfl | (simp; done) | (simp [*]; done)), H', ⟨by have := HK1.out; omega⟩, ⟨kx_ BK1087.out⟩, ⟨bx1 HB.out GE1087.out⟩⟩
   ·rw [if_neg c4] at H
    have c4b0 : decide (x6_1 < a0_0) = false := decide_eq_false c4
    clear c4
    obtain rfl := Option.some.inj H
    have hcz17_0 : wr.cell? ⟨gb1087, 0, none⟩ = some (.int .i64 a0_0) := (blk_cell BK1087.out 0).trans rfl
    have hcz17_1 : wr.cell? ⟨gb1087, 1, none⟩ = some (.string a0_1) := (blk_cell BK1087.out 1).trans rfl
    have hfz17_0 := blk_frozen BK1087.out 0
    have hfz17_1 := blk_frozen BK1087.out 1
    go_wp2
    go_ret
    exact ⟨by first | rfl | (simp [errW_none, errW_some] <;> rfl) | (simp [*, errW_none, errW_some] <;> rfl), bx1 HB.out GE1087.out⟩
def spec_l6Left.l0 : Nat → Int → Int → Int → Int → Int → ByteArray → Option (Bool)
 | 0, _, _, _, _, _, _ => none
 | k + 1, x1, x2, x3, x9, x1091000, x1091001 => if x9 < x1091000 then (if x9 = x2 then (spec_l6Left.l0 k x1 x2 x3 (wrap64 (x9 + 1)) x1091000 x1091001) else (if x9 = x3 then (spec_l6Left.l0 k x1 x2 x3 (wrap64 (x9 + 1)) x1091000 x1091001) else ((spec_l6Has.f x1 x9).bind fun t1091 => (if t1091 = true then ((spec_l3At.f k x1091000 x1091001 x2 x3 x9).bind fun t1092 => (if t1092 < 0 then (some false) else (spec_l6Left.l0 k x1 x2 x3 (wrap64 (x9 + 1)) x1091000 x1091001))) else (spec_l6Left.l0 k x1 x2 x3 (wrap64 (x9 + 1)) x1091000 x1091001))))) else (some true)
def spec_l6Left.f (k : Nat) (a0_0 : Int) (a0_1 : ByteArray) (a1 : Int) (a2 : Int) (a3 : Int) : Option (Bool) := spec_l6Left.l0 k a1 a2 a3 0 a0_0 a0_1
set_option maxHeartbeats 8000000 in
set_option maxRecDepth 100000 in
theorem spec_l6Left.calls (k : Nat) (a0_0 : Int) (a0_1 : ByteArray) (a1 : Int) (a2 : Int) (a3 : Int) (r : Bool) (w : World) (h : spec_l6Left.f k a0_0 a0_1 a1 a2 a3 = some r) :
  Calls Try.prog 130 #[.agg #[.int .i64 a0_0, .string a0_1], .int .i64 a1, .int .i64 a2, .int .i64 a3] w fun e w' => e = .returned (.bool r) ∧ Below w.heap.size w w' := by
 have hu25 := Try.underlying25
 have HB := am_ (Below.refl w.heap.size w)
 have H : (spec_l6Left.l0 k a1 a2 a3 0 a0_0 a0_1) = some r := h
 clear h
 have H' := am_ H
 clear H
 go_enter Try.func130, Try.ntmps130
 go_wp2_with (first | ((with_reducible refine gate_dst (N := 4) rfl ?_); refine box_event ?hg (N := 4) ?hd (cs := #[.int .i64 a0_0, .string a0_1]) (t := 25) ?hr ?_; (case hd => rfl); (case hg => rfl); (case hr => first | (go_simp; done) | (go_simp; rfl)); intro gb1090 hg w5 hbox hb; have n0_ := am_ (below_step (bx0 HB.out) hb); have n1_ := am_ (hbox); have n2_ := am_ ((by rw [hg]; exact (below_size (bx0 HB.out)) : w.heap.size ≤ gb1090)); have n3_ := am_ ((by rw [hg]; exact (below_size (bx0 HB.out)) : w.heap.size ≤ gb1090)); clear HB; have HB := n0_; have BK1090 := n1_; have GW1090 := n2_; have GE1090 := n3_; clear n0_ n1_ n2_ n3_; clear hb hbox hg))
 go_loopg [9] k (fun kq v9 w' => ∃ (x9_1 : Int), v9 = .int .i64 x9_1 ∧ Aside0 (spec_l6Left.l0 kq a1 a2 a3 x9_1 a0_0 a0_1 = some r) ∧ Aside0 (kq ≤ k) ∧ Aside0 (w'.heap[gb1090]? = some (.cells #[.int .i64 a0_0, .string a0_1] 25 (0, 0))) ∧ Aside0 (Below w.heap.size w w'))
 case atStart => exact ⟨(0), (by first | rfl | (simp; done) | (simp [*]; done)), H', ⟨Nat.le_refl _⟩, ⟨kx_ BK1090.out⟩, ⟨bx1 HB.out GE1090.out⟩⟩
 case round =>
  clear H'
  try clear c1
  try clear p2
  obtain ⟨x9_1, rfl, HA, HK1, BK1090, HB⟩ := hrel
  cases gk with
  | zero => exact absurd HA.out (by simp [spec_l6Left.l0])
  | succ k1 =>
   have H := HA.out
   clear HA
   simp only [spec_l6Left.l0] at H
   by_cases c6 : x9_1 < a0_0
   ·rw [if_pos c6] at H
    have c6b0 : decide (x9_1 < a0_0) = true := decide_eq_true c6
    clear c6
    by_cases c7 : x9_1 = a2
    ·rw [if_pos c7] at H
     have c7b0 : (x9_1 == a2) = true := beq_iff_eq.mpr c7
     have c7b1 : (x9_1 != a2) = false := bne_eq_false_iff_eq.mpr c7
     clear c7
     have H' := am_ H
     clear H
     have hcz8_0 : wr.cell? ⟨gb1090, 0, none⟩ = some (.int .i64 a0_0) := (blk_cell BK1090.out 0).trans rfl
     have hcz8_1 : wr.cell? ⟨gb1090, 1, none⟩ = some (.string a0_1) := (blk_cell BK1090.out 1).trans rfl
     have hfz8_0 := blk_frozen BK1090.out 0
     have hfz8_1 := blk_frozen BK1090.out 1
     go_wp2
     go_roundg k1
     case measure => have := HK1.out; omega
     case rel => exact ⟨(wrap64 (x9_1 + 1)), (by first | rfl | (simp; done) | (simp [*]; done)), H', ⟨by have := HK1.out; omega⟩, ⟨kx_ BK1090.out⟩, ⟨bx1 HB.out GE1090.out⟩⟩
    ·rw [if_neg c7] at H
     have c7b0 : (x9_1 == a2) = false := beq_eq_false_iff_ne.mpr c7
     have c7b1 : (x9_1 != a2) = true := bne_iff_ne.mpr c7
     by_cases c9 : x9_1 = a3
     ·rw [if_pos c9] at H
      have c9b0 : (x9_1 == a3) = true := beq_iff_eq.mpr c9
      have c9b1 : (x9_1 != a3) = false := bne_eq_false_iff_eq.mpr c9
      clear c9
      have H' := am_ H
      clear H
      have hcz10_0 : wr.cell? ⟨gb1090, 0, none⟩ = some (.int .i64 a0_0) := (blk_cell BK1090.out 0).trans rfl
      have hcz10_1 : wr.cell? ⟨gb1090, 1, none⟩ = some (.string a0_1) := (blk_cell BK1090.out 1).trans rfl
      have hfz10_0 := blk_frozen BK1090.out 0
      have hfz10_1 := blk_frozen BK1090.out 1
      go_wp2
      go_roundg k1
      case measure => have := HK1.out; omega
      case rel => exact ⟨(wrap64 (x9_1 + 1)), (by first | rfl | (simp; done) | (simp [*]; done)), H', ⟨by have := HK1.out; omega⟩, ⟨kx_ BK1090.out⟩, ⟨bx1 HB.out GE1090.out⟩⟩
     ·rw [if_neg c9] at H
      have c9b0 : (x9_1 == a3) = false := beq_eq_false_iff_ne.mpr c9
      have c9b1 : (x9_1 != a3) = true := bne_iff_ne.mpr c9
      replace H := Option.bind_eq_some_iff.mp H
      obtain ⟨t1091, A110, H⟩ := H
      replace H : (if t1091 = true then ((spec_l3At.f k1 a0_0 a0_1 a2 a3 x9_1).bind fun t1092 => (if t1092 < 0 then (some false) else (spec_l6Left.l0 k1 a1 a2 a3 (wrap64 (x9_1 + 1)) a0_0 a0_1))) else (spec_l6Left.l0 k1 a1 a2 a3 (wrap64 (x9_1 + 1)) a0_0 a0_1)) = some r := H
      have A11 := am_ A110
      clear A110
      by_cases c12 : t1091 = true
      ·subst c12
       have H1 : ((spec_l3At.f k1 a0_0 a0_1 a2 a3 x9_1).bind fun t1092 => (if t1092 < 0 then (some false) else (spec_l6Left.l0 k1 a1 a2 a3 (wrap64 (x9_1 + 1)) a0_0 a0_1))) = some r := by rw [if_pos rfl] at H; exact H
       clear H
       have H := H1
       clear H1
       replace H := Option.bind_eq_some_iff.mp H
       obtain ⟨t1092, A130, H⟩ := H
       replace H : (if t1092 < 0 then (some false) else (spec_l6Left.l0 k1 a1 a2 a3 (wrap64 (x9_1 + 1)) a0_0 a0_1)) = some r := H
       have A13 := am_ A130
       clear A130
       by_cases c14 : t1092 < 0
       ·rw [if_pos c14] at H
        have c14b0 : decide (t1092 < 0) = true := decide_eq_true c14
        clear c14
        obtain rfl := Option.some.inj H
        have hcz15_0 : wr.cell? ⟨gb1090, 0, none⟩ = some (.int .i64 a0_0) := (blk_cell BK1090.out 0).trans rfl
        have hcz15_1 : wr.cell? ⟨gb1090, 1, none⟩ = some (.string a0_1) := (blk_cell BK1090.out 1).trans rfl
        have hfz15_0 := blk_frozen BK1090.out 0
        have hfz15_1 := blk_frozen BK1090.out 1
        go_wp2_with (first | (go_at_call 129; (with_reducible refine (spec_l6Has.calls a1 x9_1 true _ A11.out).mono ?_); rintro e w' ⟨rfl, ⟨nd, rfl⟩⟩) | (go_at_call 86; (with_reducible refine (spec_l3At.calls k1 a0_0 a0_1 a2 a3 x9_1 t1092 _ A13.out).mono ?_); rintro e w16 ⟨rfl, hb⟩; have n0_ := am_ (blk_below (g := gb1090) (o := .cells #[.int .i64 a0_0, .string a0_1] 25 (0, 0)) (kx_ BK1090.out) hb); have n1_ := am_ (below_step (bx1 HB.out GE1090.out) hb); clear BK1090; clear HB; have BK1090 := n0_; have HB := n1_; clear n0_ n1_; (try clear hb); (try clear hb2); (try clear hk); (try clear hi)))
        go_ret
        exact ⟨by first | rfl | (simp [errW_none, errW_some] <;> rfl) | (simp [*, errW_none, errW_some] <;> rfl), bx1 HB.out GE1090.out⟩
       ·rw [if_neg c14] at H
        have c14b0 : decide (t1092 < 0) = false := decide_eq_false c14
        clear c14
        have H' := am_ H
        clear H
        have hcz17_0 : wr.cell? ⟨gb1090, 0, none⟩ = some (.int .i64 a0_0) := (blk_cell BK1090.out 0).trans rfl
        have hcz17_1 : wr.cell? ⟨gb1090, 1, none⟩ = some (.string a0_1) := (blk_cell BK1090.out 1).trans rfl
        have hfz17_0 := blk_frozen BK1090.out 0
        have hfz17_1 := blk_frozen BK1090.out 1
        go_wp2_with (first | (go_at_call 129; (with_reducible refine (spec_l6Has.calls a1 x9_1 true _ A11.out).mono ?_); rintro e w' ⟨rfl, ⟨nd, rfl⟩⟩) | (go_at_call 86; (with_reducible refine (spec_l3At.calls k1 a0_0 a0_1 a2 a3 x9_1 t1092 _ A13.out).mono ?_); rintro e w18 ⟨rfl, hb⟩; have n0_ := am_ (blk_below (g := gb1090) (o := .cells #[.int .i64 a0_0, .string a0_1] 25 (0, 0)) (kx_ BK1090.out) hb); have n1_ := am_ (below_step (bx1 HB.out GE1090.out) hb); clear BK1090; clear HB; have BK1090 := n0_; have HB := n1_; clear n0_ n1_; (try clear hb); (try clear hb2); (try clear hk); (try clear hi)))
        go_roundg k1
        case measure => have := HK1.out; omega
        case rel => exact ⟨(wrap64 (x9_1 + 1)), (by first | rfl | (simp; done) | (simp [*]; done)), H', ⟨by have := HK1.out; omega⟩, ⟨kx_ BK1090.out⟩, ⟨bx1 HB.out GE1090.out⟩⟩
      ·replace c12 := Bool.eq_false_iff.mpr c12
       subst c12
       have H1 : (spec_l6Left.l0 k1 a1 a2 a3 (wrap64 (x9_1 + 1)) a0_0 a0_1) = some r := by rw [if_neg (show ¬ (false = true) by decide)] at H; exact H
       clear H
       have H := H1
       clear H1
       have H' := am_ H
       clear H
       have hcz19_0 : wr.cell? ⟨gb1090, 0, none⟩ = some (.int .i64 a0_0) := (blk_cell BK1090.out 0).trans rfl
       have hcz19_1 : wr.cell? ⟨gb1090, 1, none⟩ = some (.string a0_1) := (blk_cell BK1090.out 1).trans rfl
       have hfz19_0 := blk_frozen BK1090.out 0
       have hfz19_1 := blk_frozen BK1090.out 1
       go_wp2_with (first | (go_at_call 129; (with_reducible refine (spec_l6Has.calls a1 x9_1 false _ A11.out).mono ?_); rintro e w' ⟨rfl, ⟨nd, rfl⟩⟩))
       go_roundg k1
       case measure => have := HK1.out; omega
       case rel => exact ⟨(wrap64 (x9_1 + 1)), (by first | rfl | (simp; done) | (simp [*]; done)), H', ⟨by have := HK1.out; omega⟩, ⟨kx_ BK1090.out⟩, ⟨bx1 HB.out GE1090.out⟩⟩
   ·rw [if_neg c6] at H
    have c6b0 : decide (x9_1 < a0_0) = false := decide_eq_false c6
    clear c6
    obtain rfl := Option.some.inj H
    have hcz20_0 : wr.cell? ⟨gb1090, 0, none⟩ = some (.int .i64 a0_0) := (blk_cell BK1090.out 0).trans rfl
    have hcz20_1 : wr.cell? ⟨gb1090, 1, none⟩ = some (.string a0_1) := (blk_cell BK1090.out 1).trans rfl
    have hfz20_0 := blk_frozen BK1090.out 0
    have hfz20_1 := blk_frozen BK1090.out 1
    go_wp2
    go_ret
    exact ⟨by first | rfl | (simp [errW_none, errW_some] <;> rfl) | (simp [*, errW_none, errW_some] <;> rfl), bx1 HB.out GE1090.out⟩
mutual
def spec_HullOf.l0 : Nat → List Int → Int → Int → Int → Int → ByteArray → Option (List Int)
 | 0, _, _, _, _, _, _ => none
 | k + 1, x3, x4, x5, x6, x1094000, x1094001 => (spec_l6Has.f x5 x6).bind fun t1099 => (if t1099 = true then (spec_HullOf.l1 k x3 x4 x5 x6 0 x1094000 x1094001) else (spec_HullOf.l0 k x3 x4 x5 (wrap64 (x6 + 1)) x1094000 x1094001))
def spec_HullOf.l1 : Nat → List Int → Int → Int → Int → Int → Int → ByteArray → Option (List Int)
 | 0, _, _, _, _, _, _, _ => none
 | k + 1, x3, x4, x5, x6, x7, x1094000, x1094001 => if x7 < x1094000 then (if x3.length < 17592186044416 then (spec_HullOf.l2 k (x3 ++ [x6]) x4 x5 x6 x7 (-1) 0 x1094000 x1094001) else (none)) else (some x3)
def spec_HullOf.l2 : Nat → List Int → Int → Int → Int → Int → Int → Int → Int → ByteArray → Option (List Int)
 | 0, _, _, _, _, _, _, _, _, _ => none
 | k + 1, x3, x4, x5, x6, x7, x8, x9, x1094000, x1094001 => if x9 < x1094000 then (if x9 = x6 then (spec_HullOf.l2 k x3 x4 x5 x6 x7 x8 (wrap64 (x9 + 1)) x1094000 x1094001) else ((spec_l6Has.f x5 x9).bind fun t1104 => (if t1104 = true then ((spec_l6Left.f k x1094000 x1094001 x4 x6 x9).bind fun t1105 => (if t1105 = true then (spec_HullOf.l2 k x3 x4 x5 x6 x7 x9 (wrap64 (x9 + 1)) x1094000 x1094001) else (spec_HullOf.l2 k x3 x4 x5 x6 x7 x8 (wrap64 (x9 + 1)) x1094000 x1094001))) else (spec_HullOf.l2 k x3 x4 x5 x6 x7 x8 (wrap64 (x9 + 1)) x1094000 x1094001)))) else (if 0 < (x3.length : Int) then (if x8 = (rd x3 0) then (some x3) else (if x8 < 0 then (some x3) else (spec_HullOf.l1 k x3 x4 x5 x8 (wrap64 (x7 + 1)) x1094000 x1094001))) else (none))
end
def spec_HullOf.f (k : Nat) (a0_0 : Int) (a0_1 : ByteArray) : Option (List Int) := (some (([] : List Int) : List Int)).bind fun y1094 => ((spec_IsAcyclic.f k a0_0 a0_1).bind fun t1097 => (if t1097 = true then (if 0 ≤ (IntKind.u64.wrap (a0_0)) then ((spec_l6Extreme.f k a0_0 a0_1 (wrap64 ((shl .i64 1 (IntKind.u64.wrap (a0_0))) - 1))).bind fun t1098 => (spec_HullOf.l0 k y1094 (wrap64 ((shl .i64 1 (IntKind.u64.wrap (a0_0))) - 1)) t1098 0 a0_0 a0_1)) else (none)) else (some y1094)))
set_option maxHeartbeats 8000000 in
set_option maxRecDepth 100000 in
theorem spec_HullOf.calls (k : Nat) (a0_0 : Int) (a0_1 : ByteArray) (r : List Int) (w : World) (h : spec_HullOf.f k a0_0 a0_1 = some r) :
  Calls Try.prog 88 #[.agg #[.int .i64 a0_0, .string a0_1]] w fun e w' => ∃ v0_ : Value, e = .returned (v0_) ∧ Kd.R (Kd.int .i64) 3 w' w.heap.size (fun _ => True) v0_ r ∧ Below w.heap.size w w' := by
 have hu25 := Try.underlying25
 have HB := am_ (Below.refl w.heap.size w)
 have H : ((some (([] : List Int) : List Int)).bind fun y1094 => ((spec_IsAcyclic.f k a0_0 a0_1).bind fun t1097 => (if t1097 = true then (if 0 ≤ (IntKind.u64.wrap (a0_0)) then ((spec_l6Extreme.f k a0_0 a0_1 (wrap64 ((shl .i64 1 (IntKind.u64.wrap (a0_0))) - 1))).bind fun t1098 => (spec_HullOf.l0 k y1094 (wrap64 ((shl .i64 1 (IntKind.u64.wrap (a0_0))) - 1)) t1098 0 a0_0 a0_1)) else (none)) else (some y1094)))) = some r := h
 clear h
 obtain ⟨y1094, hy1094⟩ : ∃ y_ : List Int, y_ = (([] : List Int)) := ⟨_, rfl⟩
 replace H : ((spec_IsAcyclic.f k a0_0 a0_1).bind fun t1097 => (if t1097 = true then (if 0 ≤ (IntKind.u64.wrap (a0_0)) then ((spec_l6Extreme.f k a0_0 a0_1 (wrap64 ((shl .i64 1 (IntKind.u64.wrap (a0_0))) - 1))).bind fun t1098 => (spec_HullOf.l0 k y1094 (wrap64 ((shl .i64 1 (IntKind.u64.wrap (a0_0))) - 1)) t1098 0 a0_0 a0_1)) else (none)) else (some y1094))) = some r := by first | (rw [hy1094]; with_reducible exact H) | (have H2_ := (Option.bind_some _ _).symm.trans H; rw [hy1094]; with_reducible exact H2_) | (have H2_ := (Option.bind_some _ _).symm.trans H; with_reducible exact H2_) | with_reducible exact H | (rw [hy1094]; exact H) | exact H
 have Ny1094 := am_ hy1094
 clear hy1094
 replace H := Option.bind_eq_some_iff.mp H
 obtain ⟨t1097, A20, H⟩ := H
 replace H : (if t1097 = true then (if 0 ≤ (IntKind.u64.wrap (a0_0)) then ((spec_l6Extreme.f k a0_0 a0_1 (wrap64 ((shl .i64 1 (IntKind.u64.wrap (a0_0))) - 1))).bind fun t1098 => (spec_HullOf.l0 k y1094 (wrap64 ((shl .i64 1 (IntKind.u64.wrap (a0_0))) - 1)) t1098 0 a0_0 a0_1)) else (none)) else (some y1094)) = some r := H
 have A2 := am_ A20
 clear A20
 by_cases c3 : t1097 = true
 ·subst c3
  have H1 : (if 0 ≤ (IntKind.u64.wrap (a0_0)) then ((spec_l6Extreme.f k a0_0 a0_1 (wrap64 ((shl .i64 1 (IntKind.u64.wrap (a0_0))) - 1))).bind fun t1098 => (spec_HullOf.l0 k y1094 (wrap64 ((shl .i64 1 (IntKind.u64.wrap (a0_0))) - 1)) t1098 0 a0_0 a0_1)) else (none)) = some r := by rw [if_pos rfl] at H; exact H
  clear H
  have H := H1
  clear H1
  obtain ⟨ji4, hji4⟩ : ∃ j_ : Int, (IntKind.u64.wrap (a0_0)) = j_ := ⟨_, rfl⟩
  replace H : (if 0 ≤ (ji4) then ((spec_l6Extreme.f k a0_0 a0_1 (wrap64 ((shl .i64 1 (ji4)) - 1))).bind fun t1098 => (spec_HullOf.l0 k y1094 (wrap64 ((shl .i64 1 (ji4)) - 1)) t1098 0 a0_0 a0_1)) else (none)) = some r := by first | (rw [hji4] at H; exact H) | (simp only [hji4] at H ⊢; exact H)
  (try rw [hji4] at A2)
  by_cases c5 : 0 ≤ (ji4)
  ·rw [if_pos c5] at H
   have c5b0 := eq_true c5
   have c5b1 : decide (0 ≤ (ji4)) = true := decide_eq_true c5
   clear c5
   obtain ⟨ji6, hji6⟩ : ∃ j_ : Int, (shl .i64 1 (ji4)) = j_ := ⟨_, rfl⟩
   replace H : ((spec_l6Extreme.f k a0_0 a0_1 (wrap64 ((ji6) - 1))).bind fun t1098 => (spec_HullOf.l0 k y1094 (wrap64 ((ji6) - 1)) t1098 0 a0_0 a0_1)) = some r := by first | (rw [hji6] at H; exact H) | (simp only [hji6] at H ⊢; exact H)
   (try rw [hji6] at A2)
   have hji6_ : (IntKind.i64.wrap (1 * 2 ^ min (ji4).toNat 64)) = ji6 := hji6
   have hji6z : (ji4) ≤ 64 → (IntKind.i64.wrap (1 * 2 ^ (ji4).toNat)) = ji6 := shl_small hji6
   have hji6u : (IntKind.i64.wrap (2 ^ min (ji4).toNat 64)) = ji6 := by have h_ := hji6_; rw [Int.one_mul] at h_; exact h_
   have hji6v : (ji4) ≤ 64 → (IntKind.i64.wrap (2 ^ (ji4).toNat)) = ji6 := fun hle_ => by have h_ := hji6z hle_; rw [Int.one_mul] at h_; exact h_
   have hji6y : (wrap64 (1 * 2 ^ min (ji4).toNat 64)) = ji6 := (i64_w _).symm.trans hji6_
   have hji6x : (ji4) ≤ 64 → (wrap64 (1 * 2 ^ (ji4).toNat)) = ji6 := fun h_ => (i64_w _).symm.trans (hji6z h_)
   replace H := Option.bind_eq_some_iff.mp H
   obtain ⟨t1098, A70, H⟩ := H
   replace H : (spec_HullOf.l0 k y1094 (wrap64 ((ji6) - 1)) t1098 0 a0_0 a0_1) = some r := H
   have A7 := am_ A70
   clear A70
   have H' := am_ H
   clear H
   go_enter Try.func88, Try.ntmps88
   go_wp2_with (first | ((with_reducible refine gate_dst (N := 1) rfl ?_); refine box_event ?hg (N := 1) ?hd (cs := #[.int .i64 a0_0, .string a0_1]) (t := 25) ?hr ?_; (case hd => rfl); (case hg => rfl); (case hr => first | (go_simp; done) | (go_simp; rfl)); intro gb1093 hg w8 hbox hb; have n0_ := am_ (below_step (bx0 HB.out) hb); have n1_ := am_ (hbox); have n2_ := am_ ((by rw [hg]; exact (below_size (bx0 HB.out)) : w.heap.size ≤ gb1093)); have n3_ := am_ ((by rw [hg]; exact (below_size (bx0 HB.out)) : w.heap.size ≤ gb1093)); clear HB; have HB := n0_; have BK1093 := n1_; have GW1093 := n2_; have GE1093 := n3_; clear n0_ n1_ n2_ n3_; clear hb hbox hg) | ((with_reducible refine gate_dst (N := 10) rfl ?_); refine Kd.R_lit (Kd.int .i64) _ 3 ?hg (N := 10) ?hd (xs := ([] : List Int)) (inner := []) (ok := fun _ => True) (okp := fun _ => True) ?hr ?hp (fun _ hk => hk) trivial (Below.refl _ _) (Nat.le_refl _) (by simp) ?_; (case hd => rfl); (case hg => rfl); (case hr => first | (go_simp; done) | (go_simp; rfl)); (case hp => exact (Reps.none _ _)); intro v1095 w9 ho10 hb hg_ hnew_; clear hg_ hnew_; (first | rw [← Ny1094.out] at ho10 | (simp only [Int.reduceToNat] at ho10; rw [← Ny1094.out] at ho10)); have n0_ := am_ (Kd.R_lower ho10 (below_size (bx1 HB.out GE1093.out))); have n1_ := am_ (blk_below (g := gb1093) (o := .cells #[.int .i64 a0_0, .string a0_1] 25 (0, 0)) (kx_ BK1093.out) hb); have n2_ := am_ (below_step (bx1 HB.out GE1093.out) hb); clear BK1093; clear HB; have HO1096 := n0_; have BK1093 := n1_; have HB := n2_; clear n0_ n1_ n2_; clear hb ho10; have hcz11_0 : w9.cell? ⟨gb1093, 0, none⟩ = some (.int .i64 a0_0) := (blk_cell BK1093.out 0).trans rfl; have hcz11_1 : w9.cell? ⟨gb1093, 1, none⟩ = some (.string a0_1) := (blk_cell BK1093.out 1).trans rfl; have hfz11_0 := blk_frozen BK1093.out 0; have hfz11_1 := blk_frozen BK1093.out 1) | ((with_reducible refine gate_callee (f := 70) rfl ?_); refine goesL_ (some 12) rfl rfl Try.func70 (by kernel_rfl) rfl #[.agg #[.int .i64 a0_0, .string a0_1]] rfl (by (try simp only [List.map_toArray, List.map_cons, List.map_nil]); first | done | rfl | (simp only [List.length_drop, List.length_take]; rfl)) ?_; (with_reducible refine (spec_IsAcyclic.calls k a0_0 a0_1 true _ A2.out).mono ?_); rintro e w12 ⟨rfl, hb⟩; refine ⟨_, rfl, ?_⟩; have n0_ := am_ (Kd.R_below (rx_ HO1096.out) hb); have n1_ := am_ (blk_below (g := gb1093) (o := .cells #[.int .i64 a0_0, .string a0_1] 25 (0, 0)) (kx_ BK1093.out) hb); have n2_ := am_ (below_step (bx1 HB.out GE1093.out) hb); clear HO1096; clear BK1093; clear HB; have HO1096 := n0_; have BK1093 := n1_; have HB := n2_; clear n0_ n1_ n2_; (try clear hb); (try clear hb2); (try clear hk); (try clear hi); have hcz13_0 : w12.cell? ⟨gb1093, 0, none⟩ = some (.int .i64 a0_0) := (blk_cell BK1093.out 0).trans rfl; have hcz13_1 : w12.cell? ⟨gb1093, 1, none⟩ = some (.string a0_1) := (blk_cell BK1093.out 1).trans rfl; have hfz13_0 := blk_frozen BK1093.out 0; have hfz13_1 := blk_frozen BK1093.out 1) | ((with_reducible refine gate_callee (f := 128) rfl ?_); refine goesL_ (some 22) rfl rfl Try.func128 (by kernel_rfl) rfl #[.agg #[.int .i64 a0_0, .string a0_1], .int .i64 (wrap64 ((ji6) - 1))] rfl (by (try simp only [List.map_toArray, List.map_cons, List.map_nil]); first | done | (simp only [hji6]; rfl) | rfl | (simp only [List.length_drop, List.length_take]; rfl)) ?_; (with_reducible refine (spec_l6Extreme.calls k a0_0 a0_1 (wrap64 ((ji6) - 1)) t1098 _ A7.out).mono ?_); rintro e w14 ⟨rfl, hb⟩; refine ⟨_, rfl, ?_⟩; have n0_ := am_ (Kd.R_below (rx_ HO1096.out) hb); have n1_ := am_ (blk_below (g := gb1093) (o := .cells #[.int .i64 a0_0, .string a0_1] 25 (0, 0)) (kx_ BK1093.out) hb); have n2_ := am_ (below_step (bx1 HB.out GE1093.out) hb); clear HO1096; clear BK1093; clear HB; have HO1096 := n0_; have BK1093 := n1_; have HB := n2_; clear n0_ n1_ n2_; (try clear hb); (try clear hb2); (try clear hk); (try clear hi)))
   go_loopg [6] k (fun kq v6 w' => ∃ (x6_1 : Int), v6 = .int .i64 x6_1 ∧ Aside0 (spec_HullOf.l0 kq y1094 (wrap64 ((ji6) - 1)) t1098 x6_1 a0_0 a0_1 = some r) ∧ Aside0 (kq ≤ k) ∧ Aside0 (Kd.R (Kd.int .i64) 3 w' w.heap.size (fun _ => True) v1095 y1094) ∧ Aside0 (w'.heap[gb1093]? = some (.cells #[.int .i64 a0_0, .string a0_1] 25 (0, 0))) ∧ Aside0 (Below w.heap.size w w'))
   case atStart => exact ⟨(0), (by first | rfl | (simp; done) | (simp [*]; done)), H', ⟨Nat.le_refl _⟩, ⟨rx_ HO1096.out⟩, ⟨kx_ BK1093.out⟩, ⟨bx1 HB.out GE1093.out⟩⟩
   case round =>
    clear H'
    try clear c1
    try clear p2
    try clear c3
    try clear c5
    try clear c5b0
    try clear c5b1
    try clear p6
    try clear c7
    try clear c8
    try clear c12
    try clear hcz11_0
    try clear hcz11_1
    try clear hcz13_0
    try clear hcz13_1
    try clear hfz11_0
    try clear hfz11_1
    try clear hfz13_0
    try clear hfz13_1
    obtain ⟨x6_1, rfl, HA, HK1, HO_3, BK1093, HB⟩ := hrel
    cases gk with
    | zero => exact absurd HA.out (by simp [spec_HullOf.l0])
    | succ k1 =>
     have H := HA.out
     clear HA
     simp only [spec_HullOf.l0] at H
     replace H := Option.bind_eq_some_iff.mp H
     obtain ⟨t1099, A150, H⟩ := H
     replace H : (if t1099 = true then (spec_HullOf.l1 k1 y1094 (wrap64 ((ji6) - 1)) t1098 x6_1 0 a0_0 a0_1) else (spec_HullOf.l0 k1 y1094 (wrap64 ((ji6) - 1)) t1098 (wrap64 (x6_1 + 1)) a0_0 a0_1)) = some r := H
     have A15 := am_ A150
     clear A150
     by_cases c16 : t1099 = true
     ·subst c16
      have H1 : (spec_HullOf.l1 k1 y1094 (wrap64 ((ji6) - 1)) t1098 x6_1 0 a0_0 a0_1) = some r := by rw [if_pos rfl] at H; exact H
      clear H
      have H := H1
      clear H1
      have H' := am_ H
      clear H
      go_wp2_with (first | ((with_reducible refine gate_callee (f := 129) rfl ?_); refine goesL_ (some 25) rfl rfl Try.func129 (by kernel_rfl) rfl #[.int .i64 t1098, .int .i64 x6_1] rfl (by (try simp only [List.map_toArray, List.map_cons, List.map_nil]); first | done | rfl | (simp only [List.length_drop, List.length_take]; rfl)) ?_; (with_reducible refine (spec_l6Has.calls t1098 x6_1 true _ A15.out).mono ?_); rintro e w' ⟨rfl, ⟨nd, rfl⟩⟩; refine ⟨_, rfl, ?_⟩))
      go_loopg [3, 6, 7] k1 (fun kq v3 v6 v7 w' => ∃ (x3_2 : List Int) (x6_2 : Int) (x7_2 : Int), v6 = .int .i64 x6_2 ∧ v7 = .int .i64 x7_2 ∧ Aside0 (spec_HullOf.l1 kq x3_2 (wrap64 ((ji6) - 1)) t1098 x6_2 x7_2 a0_0 a0_1 = some r) ∧ Aside0 (kq ≤ k1) ∧ Aside0 (Kd.R (Kd.int .i64) 3 w' w.heap.size (fun _ => True) v3 x3_2) ∧ Aside0 (w'.heap[gb1093]? = some (.cells #[.int .i64 a0_0, .string a0_1] 25 (0, 0))) ∧ Aside0 (Below w.heap.size w w'))
      case atStart => exact ⟨(y1094), (x6_1), (0), (by first | rfl | (simp; done) | (simp [*]; done)), (by first | rfl | (simp; done) | (simp [*]; done)), H', ⟨Nat.le_refl _⟩, ⟨rx_ HO_3.out⟩, ⟨kx_ BK1093.out⟩, ⟨bx1 HB.out GE1093.out⟩⟩
      case round =>
       clear H'
       try clear c1
       try clear p2
       try clear c3
       try clear c5
       try clear c5b0
       try clear c5b1
       try clear p6
       try clear c7
       try clear c8
       try clear c12
       try clear c16
       try clear hcz11_0
       try clear hcz11_1
       try clear hcz13_0
       try clear hcz13_1
       try clear hfz11_0
       try clear hfz11_1
       try clear hfz13_0
       try clear hfz13_1
       try clear p2
       try clear p6
       obtain ⟨x3_2, x6_2, x7_2, rfl, rfl, HA, HK2, HO_3, BK1093, HB⟩ := hrel
       cases gk with
       | zero => exact absurd HA.out (by simp [spec_HullOf.l1])
       | succ k2 =>
        have H := HA.out
        clear HA
        simp only [spec_HullOf.l1] at H
        by_cases c17 : x7_2 < a0_0
        ·rw [if_pos c17] at H
         have c17b0 : decide (x7_2 < a0_0) = true := decide_eq_true c17
         clear c17
         by_cases c18 : x3_2.length < 17592186044416
         ·rw [if_pos c18] at H
          have LMc18 := am_ c18
          clear c18
          obtain ⟨y1100, hy1100⟩ : ∃ y_ : List Int, y_ = (x3_2 ++ [x6_2]) := ⟨_, rfl⟩
          replace H : (spec_HullOf.l2 k2 y1100 (wrap64 ((ji6) - 1)) t1098 x6_2 x7_2 (-1) 0 a0_0 a0_1) = some r := by first | (rw [hy1100]; with_reducible exact H) | (have H2_ := (Option.bind_some _ _).symm.trans H; rw [hy1100]; with_reducible exact H2_) | (have H2_ := (Option.bind_some _ _).symm.trans H; with_reducible exact H2_) | with_reducible exact H | (rw [hy1100]; exact H) | exact H
          have Ny1100 := am_ hy1100
          clear hy1100
          have H' := am_ H
          clear H
          have hcz19_0 : wr.cell? ⟨gb1093, 0, none⟩ = some (.int .i64 a0_0) := (blk_cell BK1093.out 0).trans rfl
          have hcz19_1 : wr.cell? ⟨gb1093, 1, none⟩ = some (.string a0_1) := (blk_cell BK1093.out 1).trans rfl
          have hfz19_0 := blk_frozen BK1093.out 0
          have hfz19_1 := blk_frozen BK1093.out 1
          go_wp2_with (first | ((with_reducible refine gate_builtin (b := .append) (xs := #[.tmp 35, .tmp 37]) rfl ?_); at_builtin; refine Kd.R_append (Kd.int .i64) (w0 := w) w.heap.size rfl (.tmp 35) (.tmp 37) 35 3 (.int .i64 0) 8 rfl Try.underlying35 info3 rfl (by decide) (by omega) u3 x3_2 x6_2 [.int .i64 x6_2] (fun _ => True) (fun _ => False) rfl rfl ?aP (fun _ hk => hk.elim) ?aF ?aO ?aB ?aS ?aL ?_; (case aP => exact rfl); (case aB => exact (bx1 HB.out GE1093.out)); (case aF => exact (fun _ _ => trivial)); (case aO => exact (rx_ HO_3.out)); (case aS => exact (below_size (bx1 HB.out GE1093.out))); (case aL => have := LMc18.out; omega); intro v1101 w20 ho hb hg hat; rw [← Ny1100.out] at ho; have n0_ := am_ (blk_grown (g := gb1093) (o := .cells #[.int .i64 a0_0, .string a0_1] 25 (0, 0)) (kx_ BK1093.out) hg (Kd.R_ne HO_3.out BK1093.out (by decide))); have n1_ := am_ (hb); have n2_ := am_ (ho); clear BK1093; clear HB; clear HO_3; have BK1093 := n0_; have HB := n1_; have HO1102 := n2_; clear n0_ n1_ n2_; clear ho hb hg hat))
          go_loopg [8, 9] k2 (fun kq v8 v9 w' => ∃ (x8_3 : Int) (x9_3 : Int), v8 = .int .i64 x8_3 ∧ v9 = .int .i64 x9_3 ∧ Aside0 (spec_HullOf.l2 kq y1100 (wrap64 ((ji6) - 1)) t1098 x6_2 x7_2 x8_3 x9_3 a0_0 a0_1 = some r) ∧ Aside0 (kq ≤ k2) ∧ Aside0 (Kd.R (Kd.int .i64) 3 w' w.heap.size (fun _ => True) v1101 y1100) ∧ Aside0 (w'.heap[gb1093]? = some (.cells #[.int .i64 a0_0, .string a0_1] 25 (0, 0))) ∧ Aside0 (Below w.heap.size w w'))
          case atStart => exact ⟨((-1)), (0), (by first | rfl | (simp; done) | (simp [*]; done)), (by first | rfl | (simp; done) | (simp [*]; done)), H', ⟨Nat.le_refl _⟩, ⟨rx_ HO1102.out⟩, ⟨kx_ BK1093.out⟩, ⟨bx1 HB.out GE1093.out⟩⟩
          case round =>
           clear H'
           try clear c1
           try clear p2
           try clear c3
           try clear c5
           try clear c5b0
           try clear c5b1
           try clear p6
           try clear c7
           try clear c8
           try clear c12
           try clear c16
           try clear c17
           try clear c17b0
           try clear c18
           try clear hcz11_0
           try clear hcz11_1
           try clear hcz13_0
           try clear hcz13_1
           try clear hcz19_0
           try clear hcz19_1
           try clear hfz11_0
           try clear hfz11_1
           try clear hfz13_0
           try clear hfz13_1
           try clear hfz19_0
           try clear hfz19_1
           try clear p2
           try clear p6
           obtain ⟨x8_3, x9_3, rfl, rfl, HA, HK3, HO_3, BK1093, HB⟩ := hrel
           cases gk with
           | zero => exact absurd HA.out (by simp [spec_HullOf.l2])
           | succ k3 =>
            have H := HA.out
            clear HA
            simp only [spec_HullOf.l2] at H
            by_cases c21 : x9_3 < a0_0
            ·rw [if_pos c21] at H
             have c21b0 : decide (x9_3 < a0_0) = true := decide_eq_true c21
             clear c21
             by_cases c22 : x9_3 = x6_2
             ·rw [if_pos c22] at H
              have c22b0 : (x9_3 == x6_2) = true := beq_iff_eq.mpr c22
              have c22b1 : (x9_3 != x6_2) = false := bne_eq_false_iff_eq.mpr c22
              clear c22
              have H' := am_ H
              clear H
              have hcz23_0 : wr.cell? ⟨gb1093, 0, none⟩ = some (.int .i64 a0_0) := (blk_cell BK1093.out 0).trans rfl
              have hcz23_1 : wr.cell? ⟨gb1093, 1, none⟩ = some (.string a0_1) := (blk_cell BK1093.out 1).trans rfl
              have hfz23_0 := blk_frozen BK1093.out 0
              have hfz23_1 := blk_frozen BK1093.out 1
              go_wp2
              go_roundg k3
              case measure => have := HK1.out; have := HK2.out; have := HK3.out; omega
              case rel => exact ⟨(x8_3), (wrap64 (x9_3 + 1)), (by first | rfl | (simp; done) | (simp [*]; done)), (by first | rfl | (simp; done) | (simp [*]; done)), H', ⟨by have := HK1.out; have := HK2.out; have := HK3.out; omega⟩, ⟨rx_ HO_3.out⟩, ⟨kx_ BK1093.out⟩, ⟨bx1 HB.out GE1093.out⟩⟩
             ·rw [if_neg c22] at H
              have c22b0 : (x9_3 == x6_2) = false := beq_eq_false_iff_ne.mpr c22
              have c22b1 : (x9_3 != x6_2) = true := bne_iff_ne.mpr c22
              replace H := Option.bind_eq_some_iff.mp H
              obtain ⟨t1104, A240, H⟩ := H
              replace H : (if t1104 = true then ((spec_l6Left.f k3 a0_0 a0_1 (wrap64 ((ji6) - 1)) x6_2 x9_3).bind fun t1105 => (if t1105 = true then (spec_HullOf.l2 k3 y1100 (wrap64 ((ji6) - 1)) t1098 x6_2 x7_2 x9_3 (wrap64 (x9_3 + 1)) a0_0 a0_1) else (spec_HullOf.l2 k3 y1100 (wrap64 ((ji6) - 1)) t1098 x6_2 x7_2 x8_3 (wrap64 (x9_3 + 1)) a0_0 a0_1))) else (spec_HullOf.l2 k3 y1100 (wrap64 ((ji6) - 1)) t1098 x6_2 x7_2 x8_3 (wrap64 (x9_3 + 1)) a0_0 a0_1)) = some r := H
              have A24 := am_ A240
              clear A240
              by_cases c25 : t1104 = true
              ·subst c25
               have H1 : ((spec_l6Left.f k3 a0_0 a0_1 (wrap64 ((ji6) - 1)) x6_2 x9_3).bind fun t1105 => (if t1105 = true then (spec_HullOf.l2 k3 y1100 (wrap64 ((ji6) - 1)) t1098 x6_2 x7_2 x9_3 (wrap64 (x9_3 + 1)) a0_0 a0_1) else (spec_HullOf.l2 k3 y1100 (wrap64 ((ji6) - 1)) t1098 x6_2 x7_2 x8_3 (wrap64 (x9_3 + 1)) a0_0 a0_1))) = some r := by rw [if_pos rfl] at H; exact H
               clear H
               have H := H1
               clear H1
               replace H := Option.bind_eq_some_iff.mp H
               obtain ⟨t1105, A260, H⟩ := H
               replace H : (if t1105 = true then (spec_HullOf.l2 k3 y1100 (wrap64 ((ji6) - 1)) t1098 x6_2 x7_2 x9_3 (wrap64 (x9_3 + 1)) a0_0 a0_1) else (spec_HullOf.l2 k3 y1100 (wrap64 ((ji6) - 1)) t1098 x6_2 x7_2 x8_3 (wrap64 (x9_3 + 1)) a0_0 a0_1)) = some r := H
               have A26 := am_ A260
               clear A260
               by_cases c27 : t1105 = true
               ·subst c27
                have H1 : (spec_HullOf.l2 k3 y1100 (wrap64 ((ji6) - 1)) t1098 x6_2 x7_2 x9_3 (wrap64 (x9_3 + 1)) a0_0 a0_1) = some r := by rw [if_pos rfl] at H; exact H
                clear H
                have H := H1
                clear H1
                have H' := am_ H
                clear H
                have hcz28_0 : wr.cell? ⟨gb1093, 0, none⟩ = some (.int .i64 a0_0) := (blk_cell BK1093.out 0).trans rfl
                have hcz28_1 : wr.cell? ⟨gb1093, 1, none⟩ = some (.string a0_1) := (blk_cell BK1093.out 1).trans rfl
                have hfz28_0 := blk_frozen BK1093.out 0
                have hfz28_1 := blk_frozen BK1093.out 1
                go_wp2_with (first | (go_at_call 129; (with_reducible refine (spec_l6Has.calls t1098 x9_3 true _ A24.out).mono ?_); rintro e w' ⟨rfl, ⟨nd, rfl⟩⟩) | (go_at_call 130; refine calls_of_args (args' := #[.agg #[.int .i64 a0_0, .string a0_1], .int .i64 (wrap64 ((ji6) - 1)), .int .i64 x6_2, .int .i64 x9_3]) (by first | (simp only [hji6]; rfl) | rfl | (simp only [List.length_drop, List.length_take]; rfl)) ?_; (with_reducible refine (spec_l6Left.calls k3 a0_0 a0_1 (wrap64 ((ji6) - 1)) x6_2 x9_3 true _ A26.out).mono ?_); rintro e w29 ⟨rfl, hb⟩; have n0_ := am_ (Kd.R_below (rx_ HO_3.out) hb); have n1_ := am_ (blk_below (g := gb1093) (o := .cells #[.int .i64 a0_0, .string a0_1] 25 (0, 0)) (kx_ BK1093.out) hb); have n2_ := am_ (below_step (bx1 HB.out GE1093.out) hb); clear HO_3; clear BK1093; clear HB; have HO_3 := n0_; have BK1093 := n1_; have HB := n2_; clear n0_ n1_ n2_; (try clear hb); (try clear hb2); (try clear hk); (try clear hi)))
                go_roundg k3
                case measure => have := HK1.out; have := HK2.out; have := HK3.out; omega
                case rel => exact ⟨(x9_3), (wrap64 (x9_3 + 1)), (by first | rfl | (simp; done) | (simp [*]; done)), (by first | rfl | (simp; done) | (simp [*]; done)), H', ⟨by have := HK1.out; have := HK2.out; have := HK3.out; omega⟩, ⟨rx_ HO_3.out⟩, ⟨kx_ BK1093.out⟩, ⟨bx1 HB.out GE1093.out⟩⟩
               ·replace c27 := Bool.eq_false_iff.mpr c27
                subst c27
                have H1 : (spec_HullOf.l2 k3 y1100 (wrap64 ((ji6) - 1)) t1098 x6_2 x7_2 x8_3 (wrap64 (x9_3 + 1)) a0_0 a0_1) = some r := by rw [if_neg (show ¬ (false = true) by decide)] at H; exact H
                clear H
                have H := H1
                clear H1
                have H' := am_ H
                clear H
                have hcz30_0 : wr.cell? ⟨gb1093, 0, none⟩ = some (.int .i64 a0_0) := (blk_cell BK1093.out 0).trans rfl
                have hcz30_1 : wr.cell? ⟨gb1093, 1, none⟩ = some (.string a0_1) := (blk_cell BK1093.out 1).trans rfl
                have hfz30_0 := blk_frozen BK1093.out 0
                have hfz30_1 := blk_frozen BK1093.out 1
                go_wp2_with (first | (go_at_call 129; (with_reducible refine (spec_l6Has.calls t1098 x9_3 true _ A24.out).mono ?_); rintro e w' ⟨rfl, ⟨nd, rfl⟩⟩) | (go_at_call 130; refine calls_of_args (args' := #[.agg #[.int .i64 a0_0, .string a0_1], .int .i64 (wrap64 ((ji6) - 1)), .int .i64 x6_2, .int .i64 x9_3]) (by first | (simp only [hji6]; rfl) | rfl | (simp only [List.length_drop, List.length_take]; rfl)) ?_; (with_reducible refine (spec_l6Left.calls k3 a0_0 a0_1 (wrap64 ((ji6) - 1)) x6_2 x9_3 false _ A26.out).mono ?_); rintro e w31 ⟨rfl, hb⟩; have n0_ := am_ (Kd.R_below (rx_ HO_3.out) hb); have n1_ := am_ (blk_below (g := gb1093) (o := .cells #[.int .i64 a0_0, .string a0_1] 25 (0, 0)) (kx_ BK1093.out) hb); have n2_ := am_ (below_step (bx1 HB.out GE1093.out) hb); clear HO_3; clear BK1093; clear HB; have HO_3 := n0_; have BK1093 := n1_; have HB := n2_; clear n0_ n1_ n2_; (try clear hb); (try clear hb2); (try clear hk); (try clear hi)))
                go_roundg k3
                case measure => have := HK1.out; have := HK2.out; have := HK3.out; omega
                case rel => exact ⟨(x8_3), (wrap64 (x9_3 + 1)), (by first | rfl | (simp; done) | (simp [*]; done)), (by first | rfl | (simp; done) | (simp [*]; done)), H', ⟨by have := HK1.out; have := HK2.out; have := HK3.out; omega⟩, ⟨rx_ HO_3.out⟩, ⟨kx_ BK1093.out⟩, ⟨bx1 HB.out GE1093.out⟩⟩
              ·replace c25 := Bool.eq_false_iff.mpr c25
               subst c25
               have H1 : (spec_HullOf.l2 k3 y1100 (wrap64 ((ji6) - 1)) t1098 x6_2 x7_2 x8_3 (wrap64 (x9_3 + 1)) a0_0 a0_1) = some r := by rw [if_neg (show ¬ (false = true) by decide)] at H; exact H
               clear H
               have H := H1
               clear H1
               have H' := am_ H
               clear H
               have hcz32_0 : wr.cell? ⟨gb1093, 0, none⟩ = some (.int .i64 a0_0) := (blk_cell BK1093.out 0).trans rfl
               have hcz32_1 : wr.cell? ⟨gb1093, 1, none⟩ = some (.string a0_1) := (blk_cell BK1093.out 1).trans rfl
               have hfz32_0 := blk_frozen BK1093.out 0
               have hfz32_1 := blk_frozen BK1093.out 1
               go_wp2_with (first | (go_at_call 129; (with_reducible refine (spec_l6Has.calls t1098 x9_3 false _ A24.out).mono ?_); rintro e w' ⟨rfl, ⟨nd, rfl⟩⟩))
               go_roundg k3
               case measure => have := HK1.out; have := HK2.out; have := HK3.out; omega
               case rel => exact ⟨(x8_3), (wrap64 (x9_3 + 1)), (by first | rfl | (simp; done) | (simp [*]; done)), (by first | rfl | (simp; done) | (simp [*]; done)), H', ⟨by have := HK1.out; have := HK2.out; have := HK3.out; omega⟩, ⟨rx_ HO_3.out⟩, ⟨kx_ BK1093.out⟩, ⟨bx1 HB.out GE1093.out⟩⟩
            ·rw [if_neg c21] at H
             have c21b0 : decide (x9_3 < a0_0) = false := decide_eq_false c21
             clear c21
             by_cases c33 : 0 < (y1100.length : Int)
             ·rw [if_pos c33] at H
              have c33b0 : decide (0 < (y1100.length : Int)) = true := decide_eq_true c33
              have c33b1 : decide (0 < y1100.length) = true := decide_eq_true (by omega)
              clear c33
              by_cases c34 : x8_3 = (rd y1100 0)
              ·rw [if_pos c34] at H
               have c34b0 : (x8_3 == (rd y1100 0)) = true := beq_iff_eq.mpr c34
               have c34b1 : (x8_3 != (rd y1100 0)) = false := bne_eq_false_iff_eq.mpr c34
               clear c34
               obtain rfl := Option.some.inj H
               have hcz35_0 : wr.cell? ⟨gb1093, 0, none⟩ = some (.int .i64 a0_0) := (blk_cell BK1093.out 0).trans rfl
               have hcz35_1 : wr.cell? ⟨gb1093, 1, none⟩ = some (.string a0_1) := (blk_cell BK1093.out 1).trans rfl
               have hfz35_0 := blk_frozen BK1093.out 0
               have hfz35_1 := blk_frozen BK1093.out 1
               obtain ⟨Ao36, co36, eo36⟩ := Kd.R_slice HO_3.out
               subst eo36
               have p1103 : 0 ≤ (0 : Int) := (by omega)
               have q1103 : 0 < (y1100.length : Int) := of_decide_eq_true (by first | (with_reducible assumption) | assumption)
               obtain ⟨ad1103, e1103, hx1103_0⟩ := Kd.at_int (Kd.R_reads' HO_3.out).2.2 0 p1103 q1103
               cases e1103
               have qi1103 : (0 < y1100.length) = True := eq_true (by omega)
               (try rw [show ((0 : Int)).toNat = 0 from rfl] at hx1103_0)
               (try rw [Addr.add_zero'] at hx1103_0)
               replace p1103 := eq_true p1103
               replace q1103 := eq_true q1103
               go_wp2
               go_ret
               exact ⟨_, by first | rfl | (simp [errW_none, errW_some] <;> rfl) | (simp only [← hji4, ← hji6]; first | rfl | (simp [errW_none, errW_some] <;> rfl)) | (simp [*, errW_none, errW_some] <;> rfl), rx_ HO_3.out, bx1 HB.out GE1093.out⟩
              ·rw [if_neg c34] at H
               have c34b0 : (x8_3 == (rd y1100 0)) = false := beq_eq_false_iff_ne.mpr c34
               have c34b1 : (x8_3 != (rd y1100 0)) = true := bne_iff_ne.mpr c34
               by_cases c37 : x8_3 < 0
               ·rw [if_pos c37] at H
                have c37b0 : decide (x8_3 < 0) = true := decide_eq_true c37
                clear c37
                obtain rfl := Option.some.inj H
                have hcz38_0 : wr.cell? ⟨gb1093, 0, none⟩ = some (.int .i64 a0_0) := (blk_cell BK1093.out 0).trans rfl
                have hcz38_1 : wr.cell? ⟨gb1093, 1, none⟩ = some (.string a0_1) := (blk_cell BK1093.out 1).trans rfl
                have hfz38_0 := blk_frozen BK1093.out 0
                have hfz38_1 := blk_frozen BK1093.out 1
                obtain ⟨Ao39, co39, eo39⟩ := Kd.R_slice HO_3.out
                subst eo39
                have p1103 : 0 ≤ (0 : Int) := (by omega)
                have q1103 : 0 < (y1100.length : Int) := of_decide_eq_true (by first | (with_reducible assumption) | assumption)
                obtain ⟨ad1103, e1103, hx1103_0⟩ := Kd.at_int (Kd.R_reads' HO_3.out).2.2 0 p1103 q1103
                cases e1103
                have qi1103 : (0 < y1100.length) = True := eq_true (by omega)
                (try rw [show ((0 : Int)).toNat = 0 from rfl] at hx1103_0)
                (try rw [Addr.add_zero'] at hx1103_0)
                replace p1103 := eq_true p1103
                replace q1103 := eq_true q1103
                go_wp2
                go_ret
                exact ⟨_, by first | rfl | (simp [errW_none, errW_some] <;> rfl) | (simp only [← hji4, ← hji6]; first | rfl | (simp [errW_none, errW_some] <;> rfl)) | (simp [*, errW_none, errW_some] <;> rfl), rx_ HO_3.out, bx1 HB.out GE1093.out⟩
               ·rw [if_neg c37] at H
                have c37b0 : decide (x8_3 < 0) = false := decide_eq_false c37
                clear c37
                have H' := am_ H
                clear H
                have hcz40_0 : wr.cell? ⟨gb1093, 0, none⟩ = some (.int .i64 a0_0) := (blk_cell BK1093.out 0).trans rfl
                have hcz40_1 : wr.cell? ⟨gb1093, 1, none⟩ = some (.string a0_1) := (blk_cell BK1093.out 1).trans rfl
                have hfz40_0 := blk_frozen BK1093.out 0
                have hfz40_1 := blk_frozen BK1093.out 1
                obtain ⟨Ao41, co41, eo41⟩ := Kd.R_slice HO_3.out
                subst eo41
                have p1103 : 0 ≤ (0 : Int) := (by omega)
                have q1103 : 0 < (y1100.length : Int) := of_decide_eq_true (by first | (with_reducible assumption) | assumption)
                obtain ⟨ad1103, e1103, hx1103_0⟩ := Kd.at_int (Kd.R_reads' HO_3.out).2.2 0 p1103 q1103
                cases e1103
                have qi1103 : (0 < y1100.length) = True := eq_true (by omega)
                (try rw [show ((0 : Int)).toNat = 0 from rfl] at hx1103_0)
                (try rw [Addr.add_zero'] at hx1103_0)
                replace p1103 := eq_true p1103
                replace q1103 := eq_true q1103
                go_wp2
                go_roundg k3
                case measure => have := HK1.out; have := HK2.out; have := HK3.out; omega
                case rel => exact ⟨(y1100), (x8_3), (wrap64 (x7_2 + 1)), (by first | rfl | (simp; done) | (simp [*]; done)), (by first | rfl | (simp; done) | (simp [*]; done)), H', ⟨by have := HK1.out; have := HK2.out; have := HK3.out; omega⟩, ⟨rx_ HO_3.out⟩, ⟨kx_ BK1093.out⟩, ⟨bx1 HB.out GE1093.out⟩⟩
             ·rw [if_neg c33] at H
              exact absurd H (by simp)
         ·rw [if_neg c18] at H
          exact absurd H (by simp)
        ·rw [if_neg c17] at H
         have c17b0 : decide (x7_2 < a0_0) = false := decide_eq_false c17
         clear c17
         obtain rfl := Option.some.inj H
         have hcz42_0 : wr.cell? ⟨gb1093, 0, none⟩ = some (.int .i64 a0_0) := (blk_cell BK1093.out 0).trans rfl
         have hcz42_1 : wr.cell? ⟨gb1093, 1, none⟩ = some (.string a0_1) := (blk_cell BK1093.out 1).trans rfl
         have hfz42_0 := blk_frozen BK1093.out 0
         have hfz42_1 := blk_frozen BK1093.out 1
         go_wp2
         go_ret
         exact ⟨_, by first | rfl | (simp [errW_none, errW_some] <;> rfl) | (simp only [← hji4, ← hji6]; first | rfl | (simp [errW_none, errW_some] <;> rfl)) | (simp [*, errW_none, errW_some] <;> rfl), rx_ HO_3.out, bx1 HB.out GE1093.out⟩
     ·replace c16 := Bool.eq_false_iff.mpr c16
      subst c16
      have H1 : (spec_HullOf.l0 k1 y1094 (wrap64 ((ji6) - 1)) t1098 (wrap64 (x6_1 + 1)) a0_0 a0_1) = some r := by rw [if_neg (show ¬ (false = true) by decide)] at H; exact H
      clear H
      have H := H1
      clear H1
      have H' := am_ H
      clear H
      go_wp2_with (first | ((with_reducible refine gate_callee (f := 129) rfl ?_); refine goesL_ (some 25) rfl rfl Try.func129 (by kernel_rfl) rfl #[.int .i64 t1098, .int .i64 x6_1] rfl (by (try simp only [List.map_toArray, List.map_cons, List.map_nil]); first | done | rfl | (simp only [List.length_drop, List.length_take]; rfl)) ?_; (with_reducible refine (spec_l6Has.calls t1098 x6_1 false _ A15.out).mono ?_); rintro e w' ⟨rfl, ⟨nd, rfl⟩⟩; refine ⟨_, rfl, ?_⟩))
      go_roundg k1
      case measure => have := HK1.out; omega
      case rel => exact ⟨(wrap64 (x6_1 + 1)), (by first | rfl | (simp; done) | (simp [*]; done)), H', ⟨by have := HK1.out; omega⟩, ⟨rx_ HO_3.out⟩, ⟨kx_ BK1093.out⟩, ⟨bx1 HB.out GE1093.out⟩⟩
  ·rw [if_neg c5] at H
   exact absurd H (by simp)
 ·replace c3 := Bool.eq_false_iff.mpr c3
  subst c3
  have H1 : (some y1094) = some r := by rw [if_neg (show ¬ (false = true) by decide)] at H; exact H
  clear H
  have H := H1
  clear H1
  obtain rfl := Option.some.inj H
  go_enter Try.func88, Try.ntmps88
  go_wp2_with (first | ((with_reducible refine gate_dst (N := 1) rfl ?_); refine box_event ?hg (N := 1) ?hd (cs := #[.int .i64 a0_0, .string a0_1]) (t := 25) ?hr ?_; (case hd => rfl); (case hg => rfl); (case hr => first | (go_simp; done) | (go_simp; rfl)); intro gb1093 hg w43 hbox hb; have n0_ := am_ (below_step (bx0 HB.out) hb); have n1_ := am_ (hbox); have n2_ := am_ ((by rw [hg]; exact (below_size (bx0 HB.out)) : w.heap.size ≤ gb1093)); have n3_ := am_ ((by rw [hg]; exact (below_size (bx0 HB.out)) : w.heap.size ≤ gb1093)); clear HB; have HB := n0_; have BK1093 := n1_; have GW1093 := n2_; have GE1093 := n3_; clear n0_ n1_ n2_ n3_; clear hb hbox hg) | ((with_reducible refine gate_dst (N := 10) rfl ?_); refine Kd.R_lit (Kd.int .i64) _ 3 ?hg (N := 10) ?hd (xs := ([] : List Int)) (inner := []) (ok := fun _ => True) (okp := fun _ => True) ?hr ?hp (fun _ hk => hk) trivial (Below.refl _ _) (Nat.le_refl _) (by simp) ?_; (case hd => rfl); (case hg => rfl); (case hr => first | (go_simp; done) | (go_simp; rfl)); (case hp => exact (Reps.none _ _)); intro v1095 w44 ho45 hb hg_ hnew_; clear hg_ hnew_; (first | rw [← Ny1094.out] at ho45 | (simp only [Int.reduceToNat] at ho45; rw [← Ny1094.out] at ho45)); have n0_ := am_ (Kd.R_lower ho45 (below_size (bx1 HB.out GE1093.out))); have n1_ := am_ (blk_below (g := gb1093) (o := .cells #[.int .i64 a0_0, .string a0_1] 25 (0, 0)) (kx_ BK1093.out) hb); have n2_ := am_ (below_step (bx1 HB.out GE1093.out) hb); clear BK1093; clear HB; have HO1096 := n0_; have BK1093 := n1_; have HB := n2_; clear n0_ n1_ n2_; clear hb ho45; have hcz46_0 : w44.cell? ⟨gb1093, 0, none⟩ = some (.int .i64 a0_0) := (blk_cell BK1093.out 0).trans rfl; have hcz46_1 : w44.cell? ⟨gb1093, 1, none⟩ = some (.string a0_1) := (blk_cell BK1093.out 1).trans rfl; have hfz46_0 := blk_frozen BK1093.out 0; have hfz46_1 := blk_frozen BK1093.out 1) | ((with_reducible refine gate_callee (f := 70) rfl ?_); refine goesL_ (some 12) rfl rfl Try.func70 (by kernel_rfl) rfl #[.agg #[.int .i64 a0_0, .string a0_1]] rfl (by (try simp only [List.map_toArray, List.map_cons, List.map_nil]); first | done | rfl | (simp only [List.length_drop, List.length_take]; rfl)) ?_; (with_reducible refine (spec_IsAcyclic.calls k a0_0 a0_1 false _ A2.out).mono ?_); rintro e w47 ⟨rfl, hb⟩; refine ⟨_, rfl, ?_⟩; have n0_ := am_ (Kd.R_below (rx_ HO1096.out) hb); have n1_ := am_ (blk_below (g := gb1093) (o := .cells #[.int .i64 a0_0, .string a0_1] 25 (0, 0)) (kx_ BK1093.out) hb); have n2_ := am_ (below_step (bx1 HB.out GE1093.out) hb); clear HO1096; clear BK1093; clear HB; have HO1096 := n0_; have BK1093 := n1_; have HB := n2_; clear n0_ n1_ n2_; (try clear hb); (try clear hb2); (try clear hk); (try clear hi)))
  go_ret
  exact ⟨_, by first | rfl | (simp [errW_none, errW_some] <;> rfl) | (simp [*, errW_none, errW_some] <;> rfl), rx_ HO1096.out, bx1 HB.out GE1093.out⟩
end Go.Proofs.Yteblnjoljbdjjaa.P
