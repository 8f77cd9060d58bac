/- What the law FnExactLeastGrid reaches, part 8: functions as plain Lean functions with the proofs that their calls come to them, and plain lemmas over these. Put together by a program (wip/pack.py). -/
import Derived.Test.YtdkpiahpmgcmdaaKFnExactLeastGridc
import Derived.Test.YtdkpiahpmgcmdaaKFnExactLeastGridg
namespace Go.Proofs.Ytdkpiahpmgcmdaa.P
open Go.RowKit Go.Proofs.YtdkpiahpmgcmdaaW.PrintWords Go.Proofs.YtdkpiahpmgcmdaaW.PrintLast Go.Proofs.YtdkpiahpmgcmdaaW.PrintMore
attribute [local go_sem] ptrOf_slice
attribute [local go_sem] min2_str max2_int min2_int max_two min_two max_three min_three max_four min_four
set_option linter.unusedVariables false
set_option linter.unusedSimpArgs false
mutual
def spec_l23Place.l0 : Nat → Int → List (S54) → Int → Int → ByteArray → Option ((List (S54)) × Bool)
 | 0, _, _, _, _, _ => none
 | k + 1, x1, x2, x8, x172000, x172001 => if x8 ≤ x1 then (spec_l23Place.l1 k x1 x2 x8 0 x172000 x172001) else (some ((([] : List (S54))), false))
def spec_l23Place.l1 : Nat → Int → List (S54) → Int → Int → Int → ByteArray → Option ((List (S54)) × Bool)
 | 0, _, _, _, _, _, _ => none
 | k + 1, x1, x2, x8, x9, x172000, x172001 => if x9 ≤ x1 then ((spec_l23Fits.f k x172000 x172001 x2 x8 x9).bind fun t176 => (if t176 = true then ((some (([] : List (S54)) : List (S54))).bind fun y177 => (if y177.length + x2.length < 8796093022208 then ((some (y177 ++ x2 : List (S54))).bind fun y180 => ((some (([(⟨x8, x9⟩ : S54)] : List (S54)) : List (S54))).bind fun y183 => (if y180.length + y183.length < 8796093022208 then ((spec_l23Place.f k x172000 x172001 x1 (y180 ++ y183)).bind fun bt189 => (if bt189.2 = true then (some (bt189.1, true)) else (spec_l23Place.l1 k x1 x2 x8 (wrap64 (x9 + 1)) x172000 x172001))) else (none)))) else (none))) else (spec_l23Place.l1 k x1 x2 x8 (wrap64 (x9 + 1)) x172000 x172001))) else (spec_l23Place.l0 k x1 x2 (wrap64 (x8 + 1)) x172000 x172001)
def spec_l23Place.f : Nat → Int → ByteArray → Int → List (S54) → Option ((List (S54)) × Bool)
 | 0, _, _, _, _ => none
 | k + 1, a0_0, a0_1, a1, l2 => if (l2.length : Int) = a0_0 then (some (l2, true)) else (spec_l23Place.l0 k a1 l2 0 a0_0 a0_1)
end
def spec_l23Place.T11 : Bool × List (List Nat × List Nat) := (true, [([], []), ([], []), ([], []), ([], []), ([2, 3], [2, 3]), ([], []), ([5], [5]), ([4, 6, 4], [4, 6]), ([0, 1, 7, 7], [0, 1, 7]), ([8], [8]), ([9], [9]), ([9], [9]), ([10, 8, 0, 1, 2, 3, 4, 5, 6, 7, 8, 9, 10], [10]), ([11, 12, 0, 1, 2, 3, 4, 5, 6, 7, 8, 9, 10, 11, 12], [11])])
def spec_l23Place.B11 : List Nat := [0, 0, 0, 0, 12, 0, 32, 124, 255, 511, 1023, 1023, 2047, 8191]
theorem spec_l23Place.tab11 : rtab .any (opsOf Try.f31 11) = spec_l23Place.T11 := by kernel_rfl
theorem spec_l23Place.bits11 : waitsOk spec_l23Place.T11.2 spec_l23Place.B11 = true := by kernel_rfl
set_option maxHeartbeats 8000000 in
set_option maxRecDepth 100000 in
theorem spec_l23Place.calls (k : Nat) : ∀ (a0_0 : Int) (a0_1 : ByteArray) (a1 : Int) (P2_ : Nat → Prop) (u9000_ : Value) (l2 : List (S54)) (r1 : List (S54)) (r2 : Bool) (w0 w : World) (hB : Below w0.heap.size w0 w) (ho2 : Kd.R k54 54 w w0.heap.size P2_ u9000_ l2) (h : spec_l23Place.f k a0_0 a0_1 a1 l2 = some (r1, r2)),
  Calls Try.prog 31 #[.agg #[.int .i64 a0_0, .string a0_1], .int .i64 a1, u9000_] w fun e w' => ∃ v0_ : Value, e = .returned (.tuple #[v0_, .bool r2]) ∧ Kd.R k54 54 w' w0.heap.size (fun k_ => (P2_ k_ ∨ w.heap.size ≤ k_)) v0_ r1 ∧ Below w0.heap.size w0 w' ∧ Kept w w' (fun k_ => P2_ k_) := by
 induction k using Nat.strongRecOn with
 | _ k ih =>
 intro a0_0 a0_1 a1 P2_ u9000_ l2 r1 r2 w0 w hB ho2 h
 cases k with
 | zero => exact absurd h (by simp [spec_l23Place.f])
 | succ k =>
 simp only [spec_l23Place.f] at h
 have hu28 := Try.underlying28
 have hu54 := Try.underlying54
 have HO2 := am_ (show Kd.R k54 54 w w0.heap.size (fun k_ => (P2_ k_ ∨ w.heap.size ≤ k_)) u9000_ l2 from Kd.R_mono ho2 (fun k_ hk => (.inl hk)))
 have HK := am_ (Kept.refl w (fun k_ => P2_ k_))
 have HW0 := am_ hB.size
 have HB := am_ hB
 clear hB
 have H : (if (l2.length : Int) = a0_0 then (some (l2, true)) else (spec_l23Place.l0 k a1 l2 0 a0_0 a0_1)) = some (r1, r2) := h
 clear h
 by_cases c4 : (l2.length : Int) = a0_0
 ·rw [if_pos c4] at H
  have c4b0 : ((l2.length : Int) == a0_0) = true := beq_iff_eq.mpr c4
  have c4b1 : ((l2.length : Int) != a0_0) = false := bne_eq_false_iff_eq.mpr c4
  clear c4
  simp only [Option.some.injEq, Prod.mk.injEq] at H
  obtain ⟨rfl, rfl⟩ := H
  go_enter Try.func31, Try.ntmps31
  go_wp2_with (first | ((with_reducible refine gate_dst (N := 3) rfl ?_); refine box_event ?hg (N := 3) ?hd (cs := #[.int .i64 a0_0, .string a0_1]) (t := 28) ?hr ?_; (case hd => rfl); (case hg => rfl); (case hr => first | (go_simp; done) | (go_simp; rfl)); intro gb171 hg w5 hbox hb; have n0_ := am_ (Kd.R_below (rx_ HO2.out) hb); have n1_ := am_ (Kept.below (S := (fun k_ => P2_ k_)) (by repeat (first | (with_reducible first | exact HK.out | apply Kept.alloc | apply Kept.drewN | apply Kept.drew) | exact HK.out)) hb); have n2_ := am_ (below_step (bx0 HB.out) hb); have n3_ := am_ (hbox); have n4_ := am_ ((by rw [hg]; exact (by first | exact HK.out.1 | exact (show Kept w _ (fun k_ => P2_ k_) from by repeat (first | (with_reducible first | exact HK.out | apply Kept.alloc | apply Kept.drewN | apply Kept.drew) | exact HK.out)).1) : w.heap.size ≤ gb171)); have n5_ := am_ ((by rw [hg]; exact (below_size (bx0 HB.out)) : w0.heap.size ≤ gb171)); clear HO2; clear HK; clear HB; have HO2 := n0_; have HK := n1_; have HB := n2_; have BK171 := n3_; have GW171 := n4_; have GE171 := n5_; clear n0_ n1_ n2_ n3_ n4_ n5_; clear hb hbox hg; obtain ⟨Ao6, co6, eo6⟩ := Kd.R_slice HO2.out; subst eo6; have hcz7_0 : w5.cell? ⟨gb171, 0, none⟩ = some (.int .i64 a0_0) := (blk_cell BK171.out 0).trans rfl; have hcz7_1 : w5.cell? ⟨gb171, 1, none⟩ = some (.string a0_1) := (blk_cell BK171.out 1).trans rfl; have hfz7_0 := blk_frozen BK171.out 0; have hfz7_1 := blk_frozen BK171.out 1))
  go_ret2
  exact ⟨_, by first | rfl | (simp [errW_none, errW_some] <;> rfl) | (simp [*, errW_none, errW_some] <;> rfl), rx_ HO2.out, bx1 HB.out GE171.out, by repeat (first | (with_reducible first | exact HK.out | apply Kept.alloc | apply Kept.drewN | apply Kept.drew | refine Kept.setCell ?_ (.inr GW171.out) _) | exact HK.out)⟩
 ·rw [if_neg c4] at H
  have c4b0 : ((l2.length : Int) == a0_0) = false := beq_eq_false_iff_ne.mpr c4
  have c4b1 : ((l2.length : Int) != a0_0) = true := bne_iff_ne.mpr c4
  have H' := am_ H
  clear H
  go_enter Try.func31, Try.ntmps31
  go_wp2_with (first | ((with_reducible refine gate_dst (N := 3) rfl ?_); refine box_event ?hg (N := 3) ?hd (cs := #[.int .i64 a0_0, .string a0_1]) (t := 28) ?hr ?_; (case hd => rfl); (case hg => rfl); (case hr => first | (go_simp; done) | (go_simp; rfl)); intro gb171 hg w8 hbox hb; have n0_ := am_ (Kd.R_below (rx_ HO2.out) hb); have n1_ := am_ (Kept.below (S := (fun k_ => P2_ k_)) (by repeat (first | (with_reducible first | exact HK.out | apply Kept.alloc | apply Kept.drewN | apply Kept.drew) | exact HK.out)) hb); have n2_ := am_ (below_step (bx0 HB.out) hb); have n3_ := am_ (hbox); have n4_ := am_ ((by rw [hg]; exact (by first | exact HK.out.1 | exact (show Kept w _ (fun k_ => P2_ k_) from by repeat (first | (with_reducible first | exact HK.out | apply Kept.alloc | apply Kept.drewN | apply Kept.drew) | exact HK.out)).1) : w.heap.size ≤ gb171)); have n5_ := am_ ((by rw [hg]; exact (below_size (bx0 HB.out)) : w0.heap.size ≤ gb171)); clear HO2; clear HK; clear HB; have HO2 := n0_; have HK := n1_; have HB := n2_; have BK171 := n3_; have GW171 := n4_; have GE171 := n5_; clear n0_ n1_ n2_ n3_ n4_ n5_; clear hb hbox hg; obtain ⟨Ao9, co9, eo9⟩ := Kd.R_slice HO2.out; subst eo9; have hcz10_0 : w8.cell? ⟨gb171, 0, none⟩ = some (.int .i64 a0_0) := (blk_cell BK171.out 0).trans rfl; have hcz10_1 : w8.cell? ⟨gb171, 1, none⟩ = some (.string a0_1) := (blk_cell BK171.out 1).trans rfl; have hfz10_0 := blk_frozen BK171.out 0; have hfz10_1 := blk_frozen BK171.out 1))
  go_loopg [8] k (fun kq v8 w' => ∃ (x8_1 : Int), v8 = .int .i64 x8_1 ∧ Aside0 (spec_l23Place.l0 kq a1 l2 x8_1 a0_0 a0_1 = some (r1, r2)) ∧ Aside0 (kq ≤ k) ∧ Aside0 (Kd.R k54 54 w' w0.heap.size (fun k_ => (P2_ k_ ∨ w.heap.size ≤ k_)) (.slice Ao9 l2.length co9) l2) ∧ Aside0 (w'.heap[gb171]? = some (.cells #[.int .i64 a0_0, .string a0_1] 28 (0, 0))) ∧ Aside0 (Kept w w' (fun k_ => P2_ k_)) ∧ Aside0 (Below w0.heap.size w0 w'))
  case atStart => exact ⟨(0), (by first | rfl | (simp; done) | (simp [*]; done)), H', ⟨Nat.le_refl _⟩, ⟨rx_ HO2.out⟩, ⟨kx_ BK171.out⟩, ⟨by repeat (first | (with_reducible first | exact HK.out | apply Kept.alloc | apply Kept.drewN | apply Kept.drew | refine Kept.setCell ?_ (.inr GW171.out) _) | exact HK.out)⟩, ⟨bx1 HB.out GE171.out⟩⟩
  case round =>
   clear H'
   try clear p2
   try clear c3
   try clear c4
   try clear c4b0
   try clear c4b1
   try clear hcz10_0
   try clear hcz10_1
   try clear hcz7_0
   try clear hcz7_1
   try clear hfz10_0
   try clear hfz10_1
   try clear hfz7_0
   try clear hfz7_1
   obtain ⟨x8_1, rfl, HA, HK1, HO_2, BK171, HK, HB⟩ := hrel
   cases gk with
   | zero => exact absurd HA.out (by simp [spec_l23Place.l0])
   | succ k1 =>
    have H := HA.out
    clear HA
    simp only [spec_l23Place.l0] at H
    by_cases c11 : x8_1 ≤ a1
    ·rw [if_pos c11] at H
     have c11b0 : decide (x8_1 ≤ a1) = true := decide_eq_true c11
     clear c11
     have H' := am_ H
     clear H
     go_wp2
     go_loopg [9] k1 (fun kq v9 w' => ∃ (x9_2 : Int), v9 = .int .i64 x9_2 ∧ Aside0 (spec_l23Place.l1 kq a1 l2 x8_1 x9_2 a0_0 a0_1 = some (r1, r2)) ∧ Aside0 (kq ≤ k1) ∧ Aside0 (Kd.R k54 54 w' w0.heap.size (fun k_ => (P2_ k_ ∨ w.heap.size ≤ k_)) (.slice Ao9 l2.length co9) l2) ∧ Aside0 (w'.heap[gb171]? = some (.cells #[.int .i64 a0_0, .string a0_1] 28 (0, 0))) ∧ Aside0 (Kept w w' (fun k_ => P2_ k_)) ∧ Aside0 (Below w0.heap.size w0 w'))
     case atStart => exact ⟨(0), (by first | rfl | (simp; done) | (simp [*]; done)), H', ⟨Nat.le_refl _⟩, ⟨rx_ HO_2.out⟩, ⟨kx_ BK171.out⟩, ⟨by repeat (first | (with_reducible first | exact HK.out | apply Kept.alloc | apply Kept.drewN | apply Kept.drew | refine Kept.setCell ?_ (.inr GW171.out) _) | exact HK.out)⟩, ⟨bx1 HB.out GE171.out⟩⟩
     case round =>
      clear H'
      try clear c1
      try clear p2
      try clear c3
      try clear c4
      try clear c4b0
      try clear c4b1
      try clear c11
      try clear c11b0
      try clear hcz10_0
      try clear hcz10_1
      try clear hcz7_0
      try clear hcz7_1
      try clear hfz10_0
      try clear hfz10_1
      try clear hfz7_0
      try clear hfz7_1
      try clear p2
      obtain ⟨x9_2, rfl, HA, HK2, HO_2, BK171, HK, HB⟩ := hrel
      cases gk with
      | zero => exact absurd HA.out (by simp [spec_l23Place.l1])
      | succ k2 =>
       have H := HA.out
       clear HA
       simp only [spec_l23Place.l1] at H
       by_cases c12 : x9_2 ≤ a1
       ·rw [if_pos c12] at H
        have c12b0 : decide (x9_2 ≤ a1) = true := decide_eq_true c12
        clear c12
        replace H := Option.bind_eq_some_iff.mp H
        obtain ⟨t176, A130, H⟩ := H
        replace H : (if t176 = true then ((some (([] : List (S54)) : List (S54))).bind fun y177 => (if y177.length + l2.length < 8796093022208 then ((some (y177 ++ l2 : List (S54))).bind fun y180 => ((some (([(⟨x8_1, x9_2⟩ : S54)] : List (S54)) : List (S54))).bind fun y183 => (if y180.length + y183.length < 8796093022208 then ((spec_l23Place.f k2 a0_0 a0_1 a1 (y180 ++ y183)).bind fun bt189 => (if bt189.2 = true then (some (bt189.1, true)) else (spec_l23Place.l1 k2 a1 l2 x8_1 (wrap64 (x9_2 + 1)) a0_0 a0_1))) else (none)))) else (none))) else (spec_l23Place.l1 k2 a1 l2 x8_1 (wrap64 (x9_2 + 1)) a0_0 a0_1)) = some (r1, r2) := H
        have A13 := am_ A130
        clear A130
        by_cases c14 : t176 = true
        ·subst c14
         have H1 : ((some (([] : List (S54)) : List (S54))).bind fun y177 => (if y177.length + l2.length < 8796093022208 then ((some (y177 ++ l2 : List (S54))).bind fun y180 => ((some (([(⟨x8_1, x9_2⟩ : S54)] : List (S54)) : List (S54))).bind fun y183 => (if y180.length + y183.length < 8796093022208 then ((spec_l23Place.f k2 a0_0 a0_1 a1 (y180 ++ y183)).bind fun bt189 => (if bt189.2 = true then (some (bt189.1, true)) else (spec_l23Place.l1 k2 a1 l2 x8_1 (wrap64 (x9_2 + 1)) a0_0 a0_1))) else (none)))) else (none))) = some (r1, r2) := by rw [if_pos rfl] at H; exact H
         clear H
         have H := H1
         clear H1
         obtain ⟨y177, hy177⟩ : ∃ y_ : List (S54), y_ = (([] : List (S54))) := ⟨_, rfl⟩
         replace H : (if y177.length + l2.length < 8796093022208 then ((some (y177 ++ l2 : List (S54))).bind fun y180 => ((some (([(⟨x8_1, x9_2⟩ : S54)] : List (S54)) : List (S54))).bind fun y183 => (if y180.length + y183.length < 8796093022208 then ((spec_l23Place.f k2 a0_0 a0_1 a1 (y180 ++ y183)).bind fun bt189 => (if bt189.2 = true then (some (bt189.1, true)) else (spec_l23Place.l1 k2 a1 l2 x8_1 (wrap64 (x9_2 + 1)) a0_0 a0_1))) else (none)))) else (none)) = some (r1, r2) := by first | (rw [hy177]; with_reducible exact H) | (have H2_ := (Option.bind_some _ _).symm.trans H; rw [hy177]; with_reducible exact H2_) | (have H2_ := (Option.bind_some _ _).symm.trans H; with_reducible exact H2_) | with_reducible exact H | (rw [hy177]; exact H) | exact H
         have Ny177 := am_ hy177
         clear hy177
         by_cases c15 : y177.length + l2.length < 8796093022208
         ·rw [if_pos c15] at H
          have LMc15 := am_ c15
          clear c15
          obtain ⟨y180, hy180⟩ : ∃ y_ : List (S54), y_ = (y177 ++ l2) := ⟨_, rfl⟩
          replace H : ((some (([(⟨x8_1, x9_2⟩ : S54)] : List (S54)) : List (S54))).bind fun y183 => (if y180.length + y183.length < 8796093022208 then ((spec_l23Place.f k2 a0_0 a0_1 a1 (y180 ++ y183)).bind fun bt189 => (if bt189.2 = true then (some (bt189.1, true)) else (spec_l23Place.l1 k2 a1 l2 x8_1 (wrap64 (x9_2 + 1)) a0_0 a0_1))) else (none))) = some (r1, r2) := by first | (rw [hy180]; with_reducible exact H) | (have H2_ := (Option.bind_some _ _).symm.trans H; rw [hy180]; with_reducible exact H2_) | (have H2_ := (Option.bind_some _ _).symm.trans H; with_reducible exact H2_) | with_reducible exact H | (rw [hy180]; exact H) | exact H
          have Ny180 := am_ hy180
          clear hy180
          obtain ⟨y183, hy183⟩ : ∃ y_ : List (S54), y_ = (([(⟨x8_1, x9_2⟩ : S54)] : List (S54))) := ⟨_, rfl⟩
          replace H : (if y180.length + y183.length < 8796093022208 then ((spec_l23Place.f k2 a0_0 a0_1 a1 (y180 ++ y183)).bind fun bt189 => (if bt189.2 = true then (some (bt189.1, true)) else (spec_l23Place.l1 k2 a1 l2 x8_1 (wrap64 (x9_2 + 1)) a0_0 a0_1))) else (none)) = some (r1, r2) := by first | (rw [hy183]; with_reducible exact H) | (have H2_ := (Option.bind_some _ _).symm.trans H; rw [hy183]; with_reducible exact H2_) | (have H2_ := (Option.bind_some _ _).symm.trans H; with_reducible exact H2_) | with_reducible exact H | (rw [hy183]; exact H) | exact H
          have Ny183 := am_ hy183
          clear hy183
          by_cases c16 : y180.length + y183.length < 8796093022208
          ·rw [if_pos c16] at H
           have LMc16 := am_ c16
           clear c16
           obtain ⟨y186, hy186⟩ : ∃ y_ : List (S54), y_ = (y180 ++ y183) := ⟨_, rfl⟩
           replace H : ((spec_l23Place.f k2 a0_0 a0_1 a1 y186).bind fun bt189 => (if bt189.2 = true then (some (bt189.1, true)) else (spec_l23Place.l1 k2 a1 l2 x8_1 (wrap64 (x9_2 + 1)) a0_0 a0_1))) = some (r1, r2) := by first | (rw [hy186]; with_reducible exact H) | (have H2_ := (Option.bind_some _ _).symm.trans H; rw [hy186]; with_reducible exact H2_) | (have H2_ := (Option.bind_some _ _).symm.trans H; with_reducible exact H2_) | with_reducible exact H | (rw [hy186]; exact H) | exact H
           have Ny186 := am_ hy186
           clear hy186
           replace H := Option.bind_eq_some_iff.mp H
           obtain ⟨⟨t189, t192⟩, A170, H⟩ := H
           replace H : (if t192 = true then (some (t189, true)) else (spec_l23Place.l1 k2 a1 l2 x8_1 (wrap64 (x9_2 + 1)) a0_0 a0_1)) = some (r1, r2) := H
           have A17 := am_ A170
           clear A170
           by_cases c18 : t192 = true
           ·subst c18
            have H1 : (some (t189, true)) = some (r1, r2) := by rw [if_pos rfl] at H; exact H
            clear H
            have H := H1
            clear H1
            simp only [Option.some.injEq, Prod.mk.injEq] at H
            obtain ⟨rfl, rfl⟩ := H
            try go_wp2_with (first | ((with_reducible refine gate_dst (N := 10) rfl ?_); refine box_event ?hg (N := 10) ?hd (cs := #[.int .i64 0, .int .i64 0]) (t := 54) ?hr ?_; (case hd => rfl); (case hg => rfl); (case hr => first | (go_simp; done) | (go_simp; rfl)); intro gb175 hg w19 hbox hb; have n0_ := am_ (Kd.R_below (Kd.R_elderB (rx_ HO_2.out) gb175 (Nat.le_of_eq hg.symm)) hb); have n1_ := am_ (blk_below (g := gb171) (o := .cells #[.int .i64 a0_0, .string a0_1] 28 (0, 0)) (kx_ BK171.out) hb); have n2_ := am_ (Kept.below (S := (fun k_ => P2_ k_)) (by repeat (first | (with_reducible first | exact HK.out | apply Kept.alloc | apply Kept.drewN | apply Kept.drew | refine Kept.setCell ?_ (.inr GW171.out) _) | exact HK.out)) hb); have n3_ := am_ (below_step (bx1 HB.out GE171.out) hb); have n4_ := am_ (hbox); have n5_ := am_ ((by rw [hg]; exact (by first | exact HK.out.1 | exact (show Kept w _ (fun k_ => P2_ k_) from by repeat (first | (with_reducible first | exact HK.out | apply Kept.alloc | apply Kept.drewN | apply Kept.drew | refine Kept.setCell ?_ (.inr GW171.out) _) | exact HK.out)).1) : w.heap.size ≤ gb175)); have n6_ := am_ ((by rw [hg]; exact (below_size (bx1 HB.out GE171.out)) : w0.heap.size ≤ gb175)); have n7_ := am_ ((by rw [hg]; exact Nat.ne_of_lt (blk_lt (g := gb171) (o := .cells #[.int .i64 a0_0, .string a0_1] 28 (0, 0)) (kx_ BK171.out)) : gb171 ≠ gb175)); have n8_ := am_ ((by rw [hg]; exact Nat.ne_of_gt (blk_lt (g := gb171) (o := .cells #[.int .i64 a0_0, .string a0_1] 28 (0, 0)) (kx_ BK171.out)) : gb175 ≠ gb171)); clear HO_2; clear BK171; clear HK; clear HB; have HO_2 := n0_; have BK171 := n1_; have HK := n2_; have HB := n3_; have BK175 := n4_; have GW175 := n5_; have GE175 := n6_; have NB171_175 := n7_; have NB175_171 := n8_; clear n0_ n1_ n2_ n3_ n4_ n5_ n6_ n7_ n8_; clear hb hbox hg; have hnb20 := NB175_171.out; have hnc20 := NB171_175.out; have hcz21_0 : w19.cell? ⟨gb175, 0, none⟩ = some (.int .i64 0) := (blk_cell BK175.out 0).trans rfl; have hcz21_1 : w19.cell? ⟨gb175, 1, none⟩ = some (.int .i64 0) := (blk_cell BK175.out 1).trans rfl; have hfz21_0 := blk_frozen BK175.out 0; have hfz21_1 := blk_frozen BK175.out 1; have hcz22_0 : w19.cell? ⟨gb171, 0, none⟩ = some (.int .i64 a0_0) := (blk_cell BK171.out 0).trans rfl; have hcz22_1 : w19.cell? ⟨gb171, 1, none⟩ = some (.string a0_1) := (blk_cell BK171.out 1).trans rfl; have hfz22_0 := blk_frozen BK171.out 0; have hfz22_1 := blk_frozen BK171.out 1) | ((with_reducible refine gate_callee (f := 51) rfl ?_); refine goesL_ (some 35) rfl rfl Try.func51 (by kernel_rfl) rfl #[.agg #[.int .i64 a0_0, .string a0_1], .slice Ao9 l2.length co9, .agg #[.int .i64 x8_1, .int .i64 x9_2]] rfl (by (try simp only [List.map_toArray, List.map_cons, List.map_nil]); first | done | rfl | (simp only [List.length_drop, List.length_take]; rfl)) ?_; (with_reducible refine (spec_l23Fits.calls k2 a0_0 a0_1 _ _ l2 x8_1 x9_2 true _ ?side1 ?side2 A13.out).mono ?_); (case side1 => refine (Kd.R_reads' (e := 54) (base := w0.heap.size) (ok := fun k_ => ((P2_ k_ ∨ w.heap.size ≤ k_) ∧ k_ ≠ gb175)) (n := l2.length) (c := co9) ?_).2.2; exact (by (with_reducible repeat (first | apply Kd.R_alloc | apply Kd.R_drewN | apply Kd.R_drew)); exact (Kd.R_mono (Kd.R_far (p := ⟨gb175, 1, none⟩) (Kd.R_far (p := ⟨gb175, 0, none⟩) (Kd.R_mono HO_2.out (fun k_ hk => (⟨hk, hk.2⟩ : _ ∧ k_ ≠ gb175))) (fun _ hk => hk.2) (.int .i64 x8_1)) (fun _ hk => hk.2) (.int .i64 x9_2)) (fun _ h_ => h_.1)))); (case side2 => exact (Kd.R_reads' HO_2.out).2.1); rintro e w23 ⟨rfl, hb⟩; refine ⟨_, rfl, ?_⟩; have n0_ := am_ (Kd.R_below (by (with_reducible repeat (first | apply Kd.R_alloc | apply Kd.R_drewN | apply Kd.R_drew)); exact (Kd.R_mono (Kd.R_far (p := ⟨gb175, 1, none⟩) (Kd.R_far (p := ⟨gb175, 0, none⟩) (Kd.R_mono HO_2.out (fun k_ hk => (⟨hk, hk.2⟩ : _ ∧ k_ ≠ gb175))) (fun _ hk => hk.2) (.int .i64 x8_1)) (fun _ hk => hk.2) (.int .i64 x9_2)) (fun _ h_ => h_.1))) hb); have n1_ := am_ (blk_below (g := gb171) (o := .cells #[.int .i64 a0_0, .string a0_1] 28 (0, 0)) (by (with_reducible repeat (first | refine blk_drewN ?_ _ | refine blk_drew ?_ | refine blk_alloc ?_ _)); refine blk_far ?_ NB171_175.out _; (with_reducible repeat (first | refine blk_drewN ?_ _ | refine blk_drew ?_ | refine blk_alloc ?_ _)); refine blk_far ?_ NB171_175.out _; (with_reducible repeat (first | refine blk_drewN ?_ _ | refine blk_drew ?_ | refine blk_alloc ?_ _)); exact BK171.out) hb); have n2_ := am_ (blk_below (g := gb175) (o := .cells #[.int .i64 x8_1, .int .i64 x9_2] 54 (0, 0)) (by (with_reducible repeat (first | refine blk_drewN ?_ _ | refine blk_drew ?_ | refine blk_alloc ?_ _)); refine blk_put (cs := #[.int .i64 x8_1, .int .i64 0]) ?_ 1 _ rfl; (with_reducible repeat (first | refine blk_drewN ?_ _ | refine blk_drew ?_ | refine blk_alloc ?_ _)); refine blk_put (cs := #[.int .i64 0, .int .i64 0]) ?_ 0 _ rfl; (with_reducible repeat (first | refine blk_drewN ?_ _ | refine blk_drew ?_ | refine blk_alloc ?_ _)); exact BK175.out) hb); have n3_ := am_ (Kept.below (S := (fun k_ => P2_ k_)) (by repeat (first | (with_reducible first | exact HK.out | apply Kept.alloc | apply Kept.drewN | apply Kept.drew | refine Kept.setCell ?_ (.inr GW171.out) _ | refine Kept.setCell ?_ (.inr GW175.out) _) | exact HK.out)) hb); have n4_ := am_ (below_step (bx2 HB.out GE171.out GE175.out) hb); clear HO_2; clear BK171; clear BK175; clear HK; clear HB; have HO_2 := n0_; have BK171 := n1_; have BK175 := n2_; have HK := n3_; have HB := n4_; clear n0_ n1_ n2_ n3_ n4_; (try clear hb); (try clear hb2); (try clear hk); (try clear hi)))
            have n0_ := am_ (Kd.R_drew HO_2.out)
            have n1_ := am_ (blk_drew BK171.out)
            have n2_ := am_ (blk_drew BK175.out)
            have n3_ := am_ (Kept.drew HK.out)
            have n4_ := am_ (below_drew1 HB.out)
            clear HO_2
            clear BK171
            clear BK175
            clear HK
            clear HB
            have HO_2 := n0_
            have BK171 := n1_
            have BK175 := n2_
            have HK := n3_
            have HB := n4_
            clear n0_ n1_ n2_ n3_ n4_
            refine start_ (n := 14) (S := fun w' => w'.cell? ⟨gb171, 0, none⟩ = some (.int .i64 a0_0) ∧ w'.cell? ⟨gb171, 1, none⟩ = some (.string a0_1) ∧ w'.cell? ⟨gb175, 0, none⟩ = some (.int .i64 x8_1) ∧ w'.cell? ⟨gb175, 1, none⟩ = some (.int .i64 x9_2)) (ds := []) #[false, false, false, false, false, false, false, false, false, false, false, false, false, false] (by kernel_rfl) rfl rfl ⟨(blk_cell BK171.out 0).trans rfl, (blk_cell BK171.out 1).trans rfl, (blk_cell BK175.out 0).trans rfl, (blk_cell BK175.out 1).trans rfl⟩ (fun hHeld => ?_); refine with_tabW spec_l23Place.tab11 spec_l23Place.bits11 (fun HT_ HW_ => ?_)
            generalize w23.drew = w24 at HO_2 BK171 BK175 HK HB hHeld ⊢
            refine pure_ (i := 1) (N := some 38) (v := ?_) (a' := ?_) #[false, true, false, false, false, false, false, false, false, false, false, false, false, false] rfl rfl (any_of HT_.out (by kernel_rfl)) (fun _ _ _ h => h) (Or.inl ⟨by rfl, ?_⟩) ?_ ?_
            rotate_left
            ·intro w'
             go_simp
             with_reducible rfl
            rotate_left
            ·simp only [Act.put, sA_, sZ_, sS_, i64_w, i32_w]
             rfl
            refine pure_ (i := 3) (N := some 40) (v := ?_) (a' := ?_) #[false, true, false, true, false, false, false, false, false, false, false, false, false, false] rfl rfl (any_of HT_.out (by kernel_rfl)) (fun _ _ _ h => h) (Or.inl ⟨by rfl, ?_⟩) ?_ ?_
            rotate_left
            ·intro w'
             go_simp
             with_reducible rfl
            rotate_left
            ·simp only [Act.put, sA_, sZ_, sS_, i64_w, i32_w]
             rfl
            refine take_ (i := 0) (N := some 37) (v := ?_) (a' := ?_) #[true, true, false, true, false, false, false, false, false, false, false, false, false, false] rfl rfl (take_ofW HT_.out HW_.out (by kernel_rfl)) (fun _ _ _ h => h) (Or.inl ⟨by rfl, ?_⟩) hHeld ?_ ?_
            rotate_left
            ·rintro w' ⟨s0, s1, s2, s3⟩
             go_simp
             with_reducible rfl
            rotate_left
            ·simp only [Act.put, sA_, sZ_, sS_, i64_w, i32_w]
             rfl
            refine take_ (i := 5) (N := some 42) (v := ?_) (a' := ?_) #[true, true, false, true, false, true, false, false, false, false, false, false, false, false] rfl rfl (take_ofW HT_.out HW_.out (by kernel_rfl)) (fun _ _ _ h => h) (Or.inl ⟨by rfl, ?_⟩) hHeld ?_ ?_
            rotate_left
            ·rintro w' ⟨s0, s1, s2, s3⟩
             go_simp
             with_reducible rfl
            rotate_left
            ·simp only [Act.put, sA_, sZ_, sS_, i64_w, i32_w]
             rfl
            refine join_ (σ := Value × Value × Value) 7 #[true, true, true, true, true, true, true, false, false, false, false, false, false, false] (fun s_ => [(39, s_.1), (41, s_.2.1), (43, s_.2.2)]) (fun s_ w' => (w'.cell? ⟨gb171, 0, none⟩ = some (.int .i64 a0_0) ∧ w'.cell? ⟨gb171, 1, none⟩ = some (.string a0_1) ∧ w'.cell? ⟨gb175, 0, none⟩ = some (.int .i64 x8_1) ∧ w'.cell? ⟨gb175, 1, none⟩ = some (.int .i64 x9_2)) ∧ (Kd.R k54 54 w' w0.heap.size (fun k_ => (P2_ k_ ∨ w.heap.size ≤ k_) ∧ some k_ ≠ (s_.2.2 : Value).ownBlock ∧ some k_ ≠ (.slice Ao9 l2.length co9 : Value).ownBlock ∧ k_ ≠ gb175) s_.2.1 y180) ∧ (Kd.R k54 54 w' w0.heap.size (fun k_ => (P2_ k_ ∨ w.heap.size ≤ k_) ∧ some k_ ≠ (s_.2.1 : Value).ownBlock ∧ some k_ ≠ (.slice Ao9 l2.length co9 : Value).ownBlock ∧ k_ ≠ gb175) s_.2.2 y183) ∧ (Kd.R k54 54 w' w0.heap.size (fun k_ => (P2_ k_ ∨ w.heap.size ≤ k_) ∧ some k_ ≠ (s_.2.1 : Value).ownBlock ∧ some k_ ≠ (s_.2.2 : Value).ownBlock ∧ k_ ≠ gb175) (.slice Ao9 l2.length co9) l2) ∧ (w'.heap[gb171]? = some (.cells #[.int .i64 a0_0, .string a0_1] 28 (0, 0))) ∧ (w'.heap[gb175]? = some (.cells #[.int .i64 x8_1, .int .i64 x9_2] 54 (0, 0))) ∧ (Kept w w' (fun k_ => P2_ k_)) ∧ (Below w0.heap.size w0 w')) ?_ ?_
            rotate_left
            ·intro hCont
             refine two_ (i := 2) (j := 6) (Ni := some 39) (Nj := some 43) #[true, true, true, true, false, true, false, false, false, false, false, false, false, false] #[true, true, false, true, false, true, true, false, false, false, false, false, false, false] rfl rfl rfl rfl (two_of HT_.out (by kernel_rfl)) (by decide) (by decide) (fun K hK => ?_) (fun K hK => ?_)
             ·skip
              refine Kd.R_lit_step k54 _ 54 ?hg (N := 39) ?hd (xs := ([] : List (S54))) (inner := []) (ok := fun _ => True) (okp := fun _ => True) ?hr ?hp (fun _ hk => hk) trivial (Below.refl _ _) (Nat.le_refl _) (by simp) ?_; (case hd => rfl); (case hg => rfl); (case hr => first | (go_simp; done) | (go_simp; rfl)); (case hp => exact (Reps.none _ _))
              intro v178 w25 ho26 hb hg_ hnew_
              clear hg_ hnew_
              (first | rw [← Ny177.out] at ho26 | (simp only [Int.reduceToNat] at ho26; rw [← Ny177.out] at ho26))
              have n0_ := am_ (Kd.R_elder' (rx_ HO_2.out) (Kd.R_base ho26) hb)
              have n1_ := am_ (Kd.R_lower (Kd.R_newB (Kd.R_new' (Kd.R_newM (M := fun k_ => (P2_ k_ ∨ w.heap.size ≤ k_)) ho26 (by first | exact HK.out.1 | exact (show Kept w _ (fun k_ => P2_ k_) from by repeat (first | (with_reducible first | exact HK.out | apply Kept.alloc | apply Kept.drewN | apply Kept.drew | refine Kept.setCell ?_ (.inr GW171.out) _ | refine Kept.setCell ?_ (.inr GW175.out) _) | exact HK.out)).1) (fun k_ h_ => .inr h_)) (Kd.R_lt (rx_ HO_2.out))) (g := gb175) (o := .cells #[.int .i64 x8_1, .int .i64 x9_2] 54 (0, 0)) (kx_ BK175.out)) (below_size (bx2 HB.out GE171.out GE175.out)))
              have n2_ := am_ (blk_below (g := gb171) (o := .cells #[.int .i64 a0_0, .string a0_1] 28 (0, 0)) (kx_ BK171.out) hb)
              have n3_ := am_ (blk_below (g := gb175) (o := .cells #[.int .i64 x8_1, .int .i64 x9_2] 54 (0, 0)) (kx_ BK175.out) hb)
              have n4_ := am_ (Kept.below (S := (fun k_ => P2_ k_)) (by repeat (first | (with_reducible first | exact HK.out | apply Kept.alloc | apply Kept.drewN | apply Kept.drew | refine Kept.setCell ?_ (.inr GW171.out) _ | refine Kept.setCell ?_ (.inr GW175.out) _) | exact HK.out)) hb)
              have n5_ := am_ (below_step (bx2 HB.out GE171.out GE175.out) hb)
              clear HO_2
              clear BK171
              clear BK175
              clear HK
              clear HB
              have HO_2 := n0_
              have HO179 := n1_
              have BK171 := n2_
              have BK175 := n3_
              have HK := n4_
              have HB := n5_
              clear n0_ n1_ n2_ n3_ n4_ n5_
              clear hb ho26
              refine hK.out _ _ ⟨(blk_cell BK171.out 0).trans rfl, (blk_cell BK171.out 1).trans rfl, (blk_cell BK175.out 0).trans rfl, (blk_cell BK175.out 1).trans rfl⟩ (fun hHeld => ?_)
              clear hK K
              refine norm_ (a' := ?_) ?_ ?_
              rotate_left
              ·show Act.put _ (some 39) _ = _
               simp only [Act.put, sA_, sZ_, sS_, i64_w, i32_w]
               rfl
              refine two_ (i := 4) (j := 6) (Ni := some 41) (Nj := some 43) #[true, true, true, true, true, true, false, false, false, false, false, false, false, false] #[true, true, true, true, false, true, true, false, false, false, false, false, false, false] rfl rfl rfl rfl (two_of HT_.out (by kernel_rfl)) (by decide) (by decide) (fun K hK => ?_) (fun K hK => ?_)
              ·skip
               refine Kd.R_append_rows_step k54 (w0 := w0) w0.heap.size (by rfl) (.tmp 39) (.tmp 40) 25 54 (.agg #[(.int .i64 0), (.int .i64 0)]) 16 rfl Try.underlying25 info54 rfl (by decide) (by omega) v178 y177 l2 _ _ _ (fun k_ => (P2_ k_ ∨ w.heap.size ≤ k_) ∧ some k_ ≠ (.slice Ao9 l2.length co9 : Value).ownBlock ∧ k_ ≠ gb175) (fun _ => False) rfl rfl ?aO ?aR (fun _ _ h => h) (fun _ h => h.elim) ?aF ?aB ?aS ?aL ?_
               (case aR => repeat (first | exact (Kd.R_reads' HO_2.out).2.2 | (with_reducible refine Kd.C_alloc ?_ _) | (with_reducible refine Kd.C_drewN ?_ _) | (with_reducible refine Kd.C_drew ?_)))
               (case aB => exact (bx2 HB.out GE171.out GE175.out))
               (case aF => exact (fun k_ hk => ⟨(.inr (Nat.le_trans (by first | exact HK.out.1 | exact (show Kept w _ (fun k_ => P2_ k_) from by repeat (first | (with_reducible first | exact HK.out | apply Kept.alloc | apply Kept.drewN | apply Kept.drew | refine Kept.setCell ?_ (.inr GW171.out) _ | refine Kept.setCell ?_ (.inr GW175.out) _) | exact HK.out)).1) hk)), Kd.fresh' (Kd.R_lt (rx_ HO_2.out)) k_ hk, Kd.freshB (g := gb175) (o := .cells #[.int .i64 x8_1, .int .i64 x9_2] 54 (0, 0)) (kx_ BK175.out) k_ hk⟩))
               (case aO => exact (by (with_reducible repeat (first | apply Kd.R_alloc | apply Kd.R_drewN | apply Kd.R_drew)); exact Kd.R_mono HO179.out (fun _ hk => ⟨hk.1.1.1, ⟨hk.1.2, hk.2⟩⟩)))
               (case aS => exact (below_size (bx2 HB.out GE171.out GE175.out)))
               (case aL => have := LMc15.out; omega)
               intro v181 w27 ho hb hg hat
               rw [← Ny180.out] at ho
               have n0_ := am_ (Kd.R_after (ok := (fun k_ => (P2_ k_ ∨ w.heap.size ≤ k_) ∧ k_ ≠ gb175)) (by (with_reducible repeat (first | apply Kd.R_alloc | apply Kd.R_drewN | apply Kd.R_drew)); first | exact HO_2.out | exact Kd.R_len HO_2.out) hg hat)
               have n1_ := am_ (blk_grown (g := gb171) (o := .cells #[.int .i64 a0_0, .string a0_1] 28 (0, 0)) (kx_ BK171.out) hg (Kd.R_ne HO179.out BK171.out (by decide)))
               have n2_ := am_ (blk_grown (g := gb175) (o := .cells #[.int .i64 x8_1, .int .i64 x9_2] 54 (0, 0)) (kx_ BK175.out) hg (Kd.R_away HO179.out (fun _ hk => hk.2)))
               have n3_ := am_ (hb)
               have n4_ := am_ (Kept.of_grown (S := (fun k_ => P2_ k_)) hg (by repeat (first | (with_reducible first | exact HK.out | apply Kept.alloc | apply Kept.drewN | apply Kept.drew | refine Kept.setCell ?_ (.inr GW171.out) _ | refine Kept.setCell ?_ (.inr GW175.out) _) | exact HK.out)) (fun k_ e_ => (HO179.out.1 k_ e_).1.1.1))
               have n5_ := am_ (ho)
               clear HO_2
               clear BK171
               clear BK175
               clear HB
               clear HK
               clear HO179
               have HO_2 := n0_
               have BK171 := n1_
               have BK175 := n2_
               have HB := n3_
               have HK := n4_
               have HO182 := n5_
               clear n0_ n1_ n2_ n3_ n4_ n5_
               clear ho hb hg hat
               refine hK.out _ _ ⟨(blk_cell BK171.out 0).trans rfl, (blk_cell BK171.out 1).trans rfl, (blk_cell BK175.out 0).trans rfl, (blk_cell BK175.out 1).trans rfl⟩ (fun hHeld => ?_)
               clear hK K
               refine norm_ (a' := ?_) ?_ ?_
               rotate_left
               ·show Act.put _ (some 41) _ = _
                simp only [Act.put, sA_, sZ_, sS_, i64_w, i32_w]
                rfl
               refine one_ (i := 6) (N := some 43) #[true, true, true, true, true, true, true, false, false, false, false, false, false, false] rfl rfl (one_of HT_.out (by kernel_rfl)) (by decide) (fun K hK => ?_)
               refine Kd.R_lit_step k54 _ 54 ?hg (N := 43) ?hd (xs := ([(⟨x8_1, x9_2⟩ : S54)] : List (S54))) (inner := [.int .i64 x8_1, .int .i64 x9_2]) (ok := fun _ => True) (okp := fun _ => True) ?hr ?hp (fun _ hk => hk) trivial (Below.refl _ _) (Nat.le_refl _) (by simp) ?_; (case hd => rfl); (case hg => rfl); (case hr => first | (go_simp; done) | (go_simp; rfl)); (case hp => exact (Reps.c2 (show Kd.M k54 _ _ _ (⟨x8_1, x9_2⟩ : S54) [.int .i64 x8_1, .int .i64 x9_2] from (k54_mkM _ _ _ (⟨x8_1, x9_2⟩ : S54) )) (Reps.none _ _)))
               intro v184 w28 ho29 hb hg_ hnew_
               clear hg_ hnew_
               (first | rw [← Ny183.out] at ho29 | (simp only [Int.reduceToNat] at ho29; rw [← Ny183.out] at ho29))
               have n0_ := am_ (Kd.R_elder' (rx_ HO_2.out) (Kd.R_base ho29) hb)
               have n1_ := am_ (Kd.R_elder' (rx_ HO182.out) (Kd.R_base ho29) hb)
               have n2_ := am_ (Kd.R_lower (Kd.R_newB (Kd.R_new' (Kd.R_new' (Kd.R_newM (M := fun k_ => (P2_ k_ ∨ w.heap.size ≤ k_)) ho29 (by first | exact HK.out.1 | exact (show Kept w _ (fun k_ => P2_ k_) from by repeat (first | (with_reducible first | exact HK.out | apply Kept.alloc | apply Kept.drewN | apply Kept.drew | refine Kept.setCell ?_ (.inr GW171.out) _ | refine Kept.setCell ?_ (.inr GW175.out) _) | exact HK.out)).1) (fun k_ h_ => .inr h_)) (Kd.R_lt (rx_ HO_2.out))) (Kd.R_lt (rx_ HO182.out))) (g := gb175) (o := .cells #[.int .i64 x8_1, .int .i64 x9_2] 54 (0, 0)) (kx_ BK175.out)) (below_size (bx2 HB.out GE171.out GE175.out)))
               have n3_ := am_ (blk_below (g := gb171) (o := .cells #[.int .i64 a0_0, .string a0_1] 28 (0, 0)) (kx_ BK171.out) hb)
               have n4_ := am_ (blk_below (g := gb175) (o := .cells #[.int .i64 x8_1, .int .i64 x9_2] 54 (0, 0)) (kx_ BK175.out) hb)
               have n5_ := am_ (Kept.below (S := (fun k_ => P2_ k_)) (by repeat (first | (with_reducible first | exact HK.out | apply Kept.alloc | apply Kept.drewN | apply Kept.drew | refine Kept.setCell ?_ (.inr GW171.out) _ | refine Kept.setCell ?_ (.inr GW175.out) _) | exact HK.out)) hb)
               have n6_ := am_ (below_step (bx2 HB.out GE171.out GE175.out) hb)
               clear HO_2
               clear HO182
               clear BK171
               clear BK175
               clear HK
               clear HB
               have HO_2 := n0_
               have HO182 := n1_
               have HO185 := n2_
               have BK171 := n3_
               have BK175 := n4_
               have HK := n5_
               have HB := n6_
               clear n0_ n1_ n2_ n3_ n4_ n5_ n6_
               clear hb ho29
               refine hK.out _ _ ⟨(blk_cell BK171.out 0).trans rfl, (blk_cell BK171.out 1).trans rfl, (blk_cell BK175.out 0).trans rfl, (blk_cell BK175.out 1).trans rfl⟩ (fun hHeld => ?_)
               clear hK K
               refine norm_ (a' := ?_) ?_ ?_
               rotate_left
               ·show Act.put _ (some 43) _ = _
                simp only [Act.put, sA_, sZ_, sS_, i64_w, i32_w]
                rfl
               exact norm_ (by simp only [putAll, Act.put, sA_, sZ_, sS_]) (hCont (v178, v181, v184) _ ⟨hHeld, (by (with_reducible repeat (first | apply Kd.R_alloc | apply Kd.R_drewN | apply Kd.R_drew)); exact Kd.R_mono HO182.out (fun _ hk => ⟨hk.1.1, ⟨hk.2, ⟨hk.1.2.1, hk.1.2.2⟩⟩⟩)), (by (with_reducible repeat (first | apply Kd.R_alloc | apply Kd.R_drewN | apply Kd.R_drew)); exact Kd.R_mono HO185.out (fun _ hk => ⟨hk.1.1.1.1, ⟨hk.1.2, ⟨hk.1.1.2, hk.2⟩⟩⟩)), (by (with_reducible repeat (first | apply Kd.R_alloc | apply Kd.R_drewN | apply Kd.R_drew)); exact Kd.R_mono HO_2.out (fun _ hk => ⟨hk.1.1.1, ⟨hk.1.2, ⟨hk.2, hk.1.1.2⟩⟩⟩)), (kx_ BK171.out), (kx_ BK175.out), (by repeat (first | (with_reducible first | exact HK.out | apply Kept.alloc | apply Kept.drewN | apply Kept.drew | refine Kept.setCell ?_ (.inr GW171.out) _ | refine Kept.setCell ?_ (.inr GW175.out) _) | exact HK.out)), (bx2 HB.out GE171.out GE175.out)⟩)
              ·skip
               refine Kd.R_lit_step k54 _ 54 ?hg (N := 43) ?hd (xs := ([(⟨x8_1, x9_2⟩ : S54)] : List (S54))) (inner := [.int .i64 x8_1, .int .i64 x9_2]) (ok := fun _ => True) (okp := fun _ => True) ?hr ?hp (fun _ hk => hk) trivial (Below.refl _ _) (Nat.le_refl _) (by simp) ?_; (case hd => rfl); (case hg => rfl); (case hr => first | (go_simp; done) | (go_simp; rfl)); (case hp => exact (Reps.c2 (show Kd.M k54 _ _ _ (⟨x8_1, x9_2⟩ : S54) [.int .i64 x8_1, .int .i64 x9_2] from (k54_mkM _ _ _ (⟨x8_1, x9_2⟩ : S54) )) (Reps.none _ _)))
               intro v184 w27 ho28 hb hg_ hnew_
               clear hg_ hnew_
               (first | rw [← Ny183.out] at ho28 | (simp only [Int.reduceToNat] at ho28; rw [← Ny183.out] at ho28))
               have n0_ := am_ (Kd.R_elder' (rx_ HO_2.out) (Kd.R_base ho28) hb)
               have n1_ := am_ (Kd.R_elder' (rx_ HO179.out) (Kd.R_base ho28) hb)
               have n2_ := am_ (Kd.R_lower (Kd.R_newB (Kd.R_new' (Kd.R_new' (Kd.R_newM (M := fun k_ => (P2_ k_ ∨ w.heap.size ≤ k_)) ho28 (by first | exact HK.out.1 | exact (show Kept w _ (fun k_ => P2_ k_) from by repeat (first | (with_reducible first | exact HK.out | apply Kept.alloc | apply Kept.drewN | apply Kept.drew | refine Kept.setCell ?_ (.inr GW171.out) _ | refine Kept.setCell ?_ (.inr GW175.out) _) | exact HK.out)).1) (fun k_ h_ => .inr h_)) (Kd.R_lt (rx_ HO_2.out))) (Kd.R_lt (rx_ HO179.out))) (g := gb175) (o := .cells #[.int .i64 x8_1, .int .i64 x9_2] 54 (0, 0)) (kx_ BK175.out)) (below_size (bx2 HB.out GE171.out GE175.out)))
               have n3_ := am_ (blk_below (g := gb171) (o := .cells #[.int .i64 a0_0, .string a0_1] 28 (0, 0)) (kx_ BK171.out) hb)
               have n4_ := am_ (blk_below (g := gb175) (o := .cells #[.int .i64 x8_1, .int .i64 x9_2] 54 (0, 0)) (kx_ BK175.out) hb)
               have n5_ := am_ (Kept.below (S := (fun k_ => P2_ k_)) (by repeat (first | (with_reducible first | exact HK.out | apply Kept.alloc | apply Kept.drewN | apply Kept.drew | refine Kept.setCell ?_ (.inr GW171.out) _ | refine Kept.setCell ?_ (.inr GW175.out) _) | exact HK.out)) hb)
               have n6_ := am_ (below_step (bx2 HB.out GE171.out GE175.out) hb)
               clear HO_2
               clear HO179
               clear BK171
               clear BK175
               clear HK
               clear HB
               have HO_2 := n0_
               have HO179 := n1_
               have HO185 := n2_
               have BK171 := n3_
               have BK175 := n4_
               have HK := n5_
               have HB := n6_
               clear n0_ n1_ n2_ n3_ n4_ n5_ n6_
               clear hb ho28
               refine hK.out _ _ ⟨(blk_cell BK171.out 0).trans rfl, (blk_cell BK171.out 1).trans rfl, (blk_cell BK175.out 0).trans rfl, (blk_cell BK175.out 1).trans rfl⟩ (fun hHeld => ?_)
               clear hK K
               refine norm_ (a' := ?_) ?_ ?_
               rotate_left
               ·show Act.put _ (some 43) _ = _
                simp only [Act.put, sA_, sZ_, sS_, i64_w, i32_w]
                rfl
               refine one_ (i := 4) (N := some 41) #[true, true, true, true, true, true, true, false, false, false, false, false, false, false] rfl rfl (one_of HT_.out (by kernel_rfl)) (by decide) (fun K hK => ?_)
               refine Kd.R_append_rows_step k54 (w0 := w0) w0.heap.size (by rfl) (.tmp 39) (.tmp 40) 25 54 (.agg #[(.int .i64 0), (.int .i64 0)]) 16 rfl Try.underlying25 info54 rfl (by decide) (by omega) v178 y177 l2 _ _ _ (fun k_ => (P2_ k_ ∨ w.heap.size ≤ k_) ∧ some k_ ≠ (.slice Ao9 l2.length co9 : Value).ownBlock ∧ some k_ ≠ (v184 : Value).ownBlock ∧ k_ ≠ gb175) (fun _ => False) rfl rfl ?aO ?aR (fun _ _ h => h) (fun _ h => h.elim) ?aF ?aB ?aS ?aL ?_
               (case aR => repeat (first | exact (Kd.R_reads' HO_2.out).2.2 | (with_reducible refine Kd.C_alloc ?_ _) | (with_reducible refine Kd.C_drewN ?_ _) | (with_reducible refine Kd.C_drew ?_)))
               (case aB => exact (bx2 HB.out GE171.out GE175.out))
               (case aF => exact (fun k_ hk => ⟨(.inr (Nat.le_trans (by first | exact HK.out.1 | exact (show Kept w _ (fun k_ => P2_ k_) from by repeat (first | (with_reducible first | exact HK.out | apply Kept.alloc | apply Kept.drewN | apply Kept.drew | refine Kept.setCell ?_ (.inr GW171.out) _ | refine Kept.setCell ?_ (.inr GW175.out) _) | exact HK.out)).1) hk)), Kd.fresh' (Kd.R_lt (rx_ HO_2.out)) k_ hk, Kd.fresh' (Kd.R_lt (rx_ HO185.out)) k_ hk, Kd.freshB (g := gb175) (o := .cells #[.int .i64 x8_1, .int .i64 x9_2] 54 (0, 0)) (kx_ BK175.out) k_ hk⟩))
               (case aO => exact (by (with_reducible repeat (first | apply Kd.R_alloc | apply Kd.R_drewN | apply Kd.R_drew)); exact Kd.R_mono HO179.out (fun _ hk => ⟨hk.1.1.1.1, ⟨hk.1.1.2, ⟨hk.2, hk.1.2⟩⟩⟩)))
               (case aS => exact (below_size (bx2 HB.out GE171.out GE175.out)))
               (case aL => have := LMc15.out; omega)
               intro v181 w29 ho hb hg hat
               rw [← Ny180.out] at ho
               have n0_ := am_ (Kd.R_after (ok := (fun k_ => (P2_ k_ ∨ w.heap.size ≤ k_) ∧ some k_ ≠ (v184 : Value).ownBlock ∧ k_ ≠ gb175)) (by (with_reducible repeat (first | apply Kd.R_alloc | apply Kd.R_drewN | apply Kd.R_drew)); exact Kd.R_mono HO_2.out (fun _ hk => ⟨⟨hk.1.1.1, ⟨hk.2, hk.1.1.2⟩⟩, hk.1.2⟩)) hg hat)
               have n1_ := am_ (blk_grown (g := gb171) (o := .cells #[.int .i64 a0_0, .string a0_1] 28 (0, 0)) (kx_ BK171.out) hg (Kd.R_ne HO179.out BK171.out (by decide)))
               have n2_ := am_ (blk_grown (g := gb175) (o := .cells #[.int .i64 x8_1, .int .i64 x9_2] 54 (0, 0)) (kx_ BK175.out) hg (Kd.R_away HO179.out (fun _ hk => hk.1.2)))
               have n3_ := am_ (Kd.R_after (ok := (fun k_ => (P2_ k_ ∨ w.heap.size ≤ k_) ∧ some k_ ≠ (.slice Ao9 l2.length co9 : Value).ownBlock ∧ k_ ≠ gb175)) (by (with_reducible repeat (first | apply Kd.R_alloc | apply Kd.R_drewN | apply Kd.R_drew)); exact Kd.R_mono HO185.out (fun _ hk => ⟨⟨hk.1.1.1.1, ⟨hk.1.1.2, hk.2⟩⟩, hk.1.2⟩)) hg hat)
               have n4_ := am_ (hb)
               have n5_ := am_ (Kept.of_grown (S := (fun k_ => P2_ k_)) hg (by repeat (first | (with_reducible first | exact HK.out | apply Kept.alloc | apply Kept.drewN | apply Kept.drew | refine Kept.setCell ?_ (.inr GW171.out) _ | refine Kept.setCell ?_ (.inr GW175.out) _) | exact HK.out)) (fun k_ e_ => (HO179.out.1 k_ e_).1.1.1.1))
               have n6_ := am_ (ho)
               clear HO_2
               clear BK171
               clear BK175
               clear HO185
               clear HB
               clear HK
               clear HO179
               have HO_2 := n0_
               have BK171 := n1_
               have BK175 := n2_
               have HO185 := n3_
               have HB := n4_
               have HK := n5_
               have HO182 := n6_
               clear n0_ n1_ n2_ n3_ n4_ n5_ n6_
               clear ho hb hg hat
               refine hK.out _ _ ⟨(blk_cell BK171.out 0).trans rfl, (blk_cell BK171.out 1).trans rfl, (blk_cell BK175.out 0).trans rfl, (blk_cell BK175.out 1).trans rfl⟩ (fun hHeld => ?_)
               clear hK K
               refine norm_ (a' := ?_) ?_ ?_
               rotate_left
               ·show Act.put _ (some 41) _ = _
                simp only [Act.put, sA_, sZ_, sS_, i64_w, i32_w]
                rfl
               exact norm_ (by simp only [putAll, Act.put, sA_, sZ_, sS_]) (hCont (v178, v181, v184) _ ⟨hHeld, (by (with_reducible repeat (first | apply Kd.R_alloc | apply Kd.R_drewN | apply Kd.R_drew)); exact Kd.R_mono HO182.out (fun _ hk => ⟨hk.1, ⟨hk.2.2.1, ⟨hk.2.1, hk.2.2.2⟩⟩⟩)), (by (with_reducible repeat (first | apply Kd.R_alloc | apply Kd.R_drewN | apply Kd.R_drew)); exact Kd.R_mono HO185.out (fun _ hk => ⟨hk.1.1, ⟨hk.2, ⟨hk.1.2.1, hk.1.2.2⟩⟩⟩)), (by (with_reducible repeat (first | apply Kd.R_alloc | apply Kd.R_drewN | apply Kd.R_drew)); exact Kd.R_mono HO_2.out (fun _ hk => ⟨hk.1.1, ⟨hk.2, ⟨hk.1.2.1, hk.1.2.2⟩⟩⟩)), (kx_ BK171.out), (kx_ BK175.out), (by repeat (first | (with_reducible first | exact HK.out | apply Kept.alloc | apply Kept.drewN | apply Kept.drew | refine Kept.setCell ?_ (.inr GW171.out) _ | refine Kept.setCell ?_ (.inr GW175.out) _) | exact HK.out)), (bx2 HB.out GE171.out GE175.out)⟩)
             ·skip
              refine Kd.R_lit_step k54 _ 54 ?hg (N := 43) ?hd (xs := ([(⟨x8_1, x9_2⟩ : S54)] : List (S54))) (inner := [.int .i64 x8_1, .int .i64 x9_2]) (ok := fun _ => True) (okp := fun _ => True) ?hr ?hp (fun _ hk => hk) trivial (Below.refl _ _) (Nat.le_refl _) (by simp) ?_; (case hd => rfl); (case hg => rfl); (case hr => first | (go_simp; done) | (go_simp; rfl)); (case hp => exact (Reps.c2 (show Kd.M k54 _ _ _ (⟨x8_1, x9_2⟩ : S54) [.int .i64 x8_1, .int .i64 x9_2] from (k54_mkM _ _ _ (⟨x8_1, x9_2⟩ : S54) )) (Reps.none _ _)))
              intro v184 w25 ho26 hb hg_ hnew_
              clear hg_ hnew_
              (first | rw [← Ny183.out] at ho26 | (simp only [Int.reduceToNat] at ho26; rw [← Ny183.out] at ho26))
              have n0_ := am_ (Kd.R_elder' (rx_ HO_2.out) (Kd.R_base ho26) hb)
              have n1_ := am_ (Kd.R_lower (Kd.R_newB (Kd.R_new' (Kd.R_newM (M := fun k_ => (P2_ k_ ∨ w.heap.size ≤ k_)) ho26 (by first | exact HK.out.1 | exact (show Kept w _ (fun k_ => P2_ k_) from by repeat (first | (with_reducible first | exact HK.out | apply Kept.alloc | apply Kept.drewN | apply Kept.drew | refine Kept.setCell ?_ (.inr GW171.out) _ | refine Kept.setCell ?_ (.inr GW175.out) _) | exact HK.out)).1) (fun k_ h_ => .inr h_)) (Kd.R_lt (rx_ HO_2.out))) (g := gb175) (o := .cells #[.int .i64 x8_1, .int .i64 x9_2] 54 (0, 0)) (kx_ BK175.out)) (below_size (bx2 HB.out GE171.out GE175.out)))
              have n2_ := am_ (blk_below (g := gb171) (o := .cells #[.int .i64 a0_0, .string a0_1] 28 (0, 0)) (kx_ BK171.out) hb)
              have n3_ := am_ (blk_below (g := gb175) (o := .cells #[.int .i64 x8_1, .int .i64 x9_2] 54 (0, 0)) (kx_ BK175.out) hb)
              have n4_ := am_ (Kept.below (S := (fun k_ => P2_ k_)) (by repeat (first | (with_reducible first | exact HK.out | apply Kept.alloc | apply Kept.drewN | apply Kept.drew | refine Kept.setCell ?_ (.inr GW171.out) _ | refine Kept.setCell ?_ (.inr GW175.out) _) | exact HK.out)) hb)
              have n5_ := am_ (below_step (bx2 HB.out GE171.out GE175.out) hb)
              clear HO_2
              clear BK171
              clear BK175
              clear HK
              clear HB
              have HO_2 := n0_
              have HO185 := n1_
              have BK171 := n2_
              have BK175 := n3_
              have HK := n4_
              have HB := n5_
              clear n0_ n1_ n2_ n3_ n4_ n5_
              clear hb ho26
              refine hK.out _ _ ⟨(blk_cell BK171.out 0).trans rfl, (blk_cell BK171.out 1).trans rfl, (blk_cell BK175.out 0).trans rfl, (blk_cell BK175.out 1).trans rfl⟩ (fun hHeld => ?_)
              clear hK K
              refine norm_ (a' := ?_) ?_ ?_
              rotate_left
              ·show Act.put _ (some 43) _ = _
               simp only [Act.put, sA_, sZ_, sS_, i64_w, i32_w]
               rfl
              refine one_ (i := 2) (N := some 39) #[true, true, true, true, false, true, true, false, false, false, false, false, false, false] rfl rfl (one_of HT_.out (by kernel_rfl)) (by decide) (fun K hK => ?_)
              refine Kd.R_lit_step k54 _ 54 ?hg (N := 39) ?hd (xs := ([] : List (S54))) (inner := []) (ok := fun _ => True) (okp := fun _ => True) ?hr ?hp (fun _ hk => hk) trivial (Below.refl _ _) (Nat.le_refl _) (by simp) ?_; (case hd => rfl); (case hg => rfl); (case hr => first | (go_simp; done) | (go_simp; rfl)); (case hp => exact (Reps.none _ _))
              intro v178 w27 ho28 hb hg_ hnew_
              clear hg_ hnew_
              (first | rw [← Ny177.out] at ho28 | (simp only [Int.reduceToNat] at ho28; rw [← Ny177.out] at ho28))
              have n0_ := am_ (Kd.R_elder' (rx_ HO_2.out) (Kd.R_base ho28) hb)
              have n1_ := am_ (Kd.R_elder' (rx_ HO185.out) (Kd.R_base ho28) hb)
              have n2_ := am_ (Kd.R_lower (Kd.R_newB (Kd.R_new' (Kd.R_new' (Kd.R_newM (M := fun k_ => (P2_ k_ ∨ w.heap.size ≤ k_)) ho28 (by first | exact HK.out.1 | exact (show Kept w _ (fun k_ => P2_ k_) from by repeat (first | (with_reducible first | exact HK.out | apply Kept.alloc | apply Kept.drewN | apply Kept.drew | refine Kept.setCell ?_ (.inr GW171.out) _ | refine Kept.setCell ?_ (.inr GW175.out) _) | exact HK.out)).1) (fun k_ h_ => .inr h_)) (Kd.R_lt (rx_ HO_2.out))) (Kd.R_lt (rx_ HO185.out))) (g := gb175) (o := .cells #[.int .i64 x8_1, .int .i64 x9_2] 54 (0, 0)) (kx_ BK175.out)) (below_size (bx2 HB.out GE171.out GE175.out)))
              have n3_ := am_ (blk_below (g := gb171) (o := .cells #[.int .i64 a0_0, .string a0_1] 28 (0, 0)) (kx_ BK171.out) hb)
              have n4_ := am_ (blk_below (g := gb175) (o := .cells #[.int .i64 x8_1, .int .i64 x9_2] 54 (0, 0)) (kx_ BK175.out) hb)
              have n5_ := am_ (Kept.below (S := (fun k_ => P2_ k_)) (by repeat (first | (with_reducible first | exact HK.out | apply Kept.alloc | apply Kept.drewN | apply Kept.drew | refine Kept.setCell ?_ (.inr GW171.out) _ | refine Kept.setCell ?_ (.inr GW175.out) _) | exact HK.out)) hb)
              have n6_ := am_ (below_step (bx2 HB.out GE171.out GE175.out) hb)
              clear HO_2
              clear HO185
              clear BK171
              clear BK175
              clear HK
              clear HB
              have HO_2 := n0_
              have HO185 := n1_
              have HO179 := n2_
              have BK171 := n3_
              have BK175 := n4_
              have HK := n5_
              have HB := n6_
              clear n0_ n1_ n2_ n3_ n4_ n5_ n6_
              clear hb ho28
              refine hK.out _ _ ⟨(blk_cell BK171.out 0).trans rfl, (blk_cell BK171.out 1).trans rfl, (blk_cell BK175.out 0).trans rfl, (blk_cell BK175.out 1).trans rfl⟩ (fun hHeld => ?_)
              clear hK K
              refine norm_ (a' := ?_) ?_ ?_
              rotate_left
              ·show Act.put _ (some 39) _ = _
               simp only [Act.put, sA_, sZ_, sS_, i64_w, i32_w]
               rfl
              refine one_ (i := 4) (N := some 41) #[true, true, true, true, true, true, true, false, false, false, false, false, false, false] rfl rfl (one_of HT_.out (by kernel_rfl)) (by decide) (fun K hK => ?_)
              refine Kd.R_append_rows_step k54 (w0 := w0) w0.heap.size (by rfl) (.tmp 39) (.tmp 40) 25 54 (.agg #[(.int .i64 0), (.int .i64 0)]) 16 rfl Try.underlying25 info54 rfl (by decide) (by omega) v178 y177 l2 _ _ _ (fun k_ => (P2_ k_ ∨ w.heap.size ≤ k_) ∧ some k_ ≠ (.slice Ao9 l2.length co9 : Value).ownBlock ∧ some k_ ≠ (v184 : Value).ownBlock ∧ k_ ≠ gb175) (fun _ => False) rfl rfl ?aO ?aR (fun _ _ h => h) (fun _ h => h.elim) ?aF ?aB ?aS ?aL ?_
              (case aR => repeat (first | exact (Kd.R_reads' HO_2.out).2.2 | (with_reducible refine Kd.C_alloc ?_ _) | (with_reducible refine Kd.C_drewN ?_ _) | (with_reducible refine Kd.C_drew ?_)))
              (case aB => exact (bx2 HB.out GE171.out GE175.out))
              (case aF => exact (fun k_ hk => ⟨(.inr (Nat.le_trans (by first | exact HK.out.1 | exact (show Kept w _ (fun k_ => P2_ k_) from by repeat (first | (with_reducible first | exact HK.out | apply Kept.alloc | apply Kept.drewN | apply Kept.drew | refine Kept.setCell ?_ (.inr GW171.out) _ | refine Kept.setCell ?_ (.inr GW175.out) _) | exact HK.out)).1) hk)), Kd.fresh' (Kd.R_lt (rx_ HO_2.out)) k_ hk, Kd.fresh' (Kd.R_lt (rx_ HO185.out)) k_ hk, Kd.freshB (g := gb175) (o := .cells #[.int .i64 x8_1, .int .i64 x9_2] 54 (0, 0)) (kx_ BK175.out) k_ hk⟩))
              (case aO => exact (by (with_reducible repeat (first | apply Kd.R_alloc | apply Kd.R_drewN | apply Kd.R_drew)); exact Kd.R_mono HO179.out (fun _ hk => ⟨hk.1.1.1.1, ⟨hk.1.1.2, ⟨hk.1.2, hk.2⟩⟩⟩)))
              (case aS => exact (below_size (bx2 HB.out GE171.out GE175.out)))
              (case aL => have := LMc15.out; omega)
              intro v181 w29 ho hb hg hat
              rw [← Ny180.out] at ho
              have n0_ := am_ (Kd.R_after (ok := (fun k_ => (P2_ k_ ∨ w.heap.size ≤ k_) ∧ some k_ ≠ (v184 : Value).ownBlock ∧ k_ ≠ gb175)) (by (with_reducible repeat (first | apply Kd.R_alloc | apply Kd.R_drewN | apply Kd.R_drew)); exact Kd.R_mono HO_2.out (fun _ hk => ⟨⟨hk.1.1.1, ⟨hk.1.2, hk.1.1.2⟩⟩, hk.2⟩)) hg hat)
              have n1_ := am_ (blk_grown (g := gb171) (o := .cells #[.int .i64 a0_0, .string a0_1] 28 (0, 0)) (kx_ BK171.out) hg (Kd.R_ne HO179.out BK171.out (by decide)))
              have n2_ := am_ (blk_grown (g := gb175) (o := .cells #[.int .i64 x8_1, .int .i64 x9_2] 54 (0, 0)) (kx_ BK175.out) hg (Kd.R_away HO179.out (fun _ hk => hk.2)))
              have n3_ := am_ (Kd.R_after (ok := (fun k_ => (P2_ k_ ∨ w.heap.size ≤ k_) ∧ some k_ ≠ (.slice Ao9 l2.length co9 : Value).ownBlock ∧ k_ ≠ gb175)) (by (with_reducible repeat (first | apply Kd.R_alloc | apply Kd.R_drewN | apply Kd.R_drew)); exact Kd.R_mono HO185.out (fun _ hk => ⟨⟨hk.1.1.1.1, ⟨hk.1.1.2, hk.1.2⟩⟩, hk.2⟩)) hg hat)
              have n4_ := am_ (hb)
              have n5_ := am_ (Kept.of_grown (S := (fun k_ => P2_ k_)) hg (by repeat (first | (with_reducible first | exact HK.out | apply Kept.alloc | apply Kept.drewN | apply Kept.drew | refine Kept.setCell ?_ (.inr GW171.out) _ | refine Kept.setCell ?_ (.inr GW175.out) _) | exact HK.out)) (fun k_ e_ => (HO179.out.1 k_ e_).1.1.1.1))
              have n6_ := am_ (ho)
              clear HO_2
              clear BK171
              clear BK175
              clear HO185
              clear HB
              clear HK
              clear HO179
              have HO_2 := n0_
              have BK171 := n1_
              have BK175 := n2_
              have HO185 := n3_
              have HB := n4_
              have HK := n5_
              have HO182 := n6_
              clear n0_ n1_ n2_ n3_ n4_ n5_ n6_
              clear ho hb hg hat
              refine hK.out _ _ ⟨(blk_cell BK171.out 0).trans rfl, (blk_cell BK171.out 1).trans rfl, (blk_cell BK175.out 0).trans rfl, (blk_cell BK175.out 1).trans rfl⟩ (fun hHeld => ?_)
              clear hK K
              refine norm_ (a' := ?_) ?_ ?_
              rotate_left
              ·show Act.put _ (some 41) _ = _
               simp only [Act.put, sA_, sZ_, sS_, i64_w, i32_w]
               rfl
              exact norm_ (by simp only [putAll, Act.put, sA_, sZ_, sS_]) (hCont (v178, v181, v184) _ ⟨hHeld, (by (with_reducible repeat (first | apply Kd.R_alloc | apply Kd.R_drewN | apply Kd.R_drew)); exact Kd.R_mono HO182.out (fun _ hk => ⟨hk.1, ⟨hk.2.2.1, ⟨hk.2.1, hk.2.2.2⟩⟩⟩)), (by (with_reducible repeat (first | apply Kd.R_alloc | apply Kd.R_drewN | apply Kd.R_drew)); exact Kd.R_mono HO185.out (fun _ hk => ⟨hk.1.1, ⟨hk.2, ⟨hk.1.2.1, hk.1.2.2⟩⟩⟩)), (by (with_reducible repeat (first | apply Kd.R_alloc | apply Kd.R_drewN | apply Kd.R_drew)); exact Kd.R_mono HO_2.out (fun _ hk => ⟨hk.1.1, ⟨hk.2, ⟨hk.1.2.1, hk.1.2.2⟩⟩⟩)), (kx_ BK171.out), (kx_ BK175.out), (by repeat (first | (with_reducible first | exact HK.out | apply Kept.alloc | apply Kept.drewN | apply Kept.drew | refine Kept.setCell ?_ (.inr GW171.out) _ | refine Kept.setCell ?_ (.inr GW175.out) _) | exact HK.out)), (bx2 HB.out GE171.out GE175.out)⟩)
            rintro ⟨v178, v181, v184⟩ w30 ⟨hS_, h0_, h1_, h2_, h3_, h4_, h5_, h6_⟩
            have n0_ : Aside0 (Kd.R k54 54 w30 w0.heap.size (fun k_ => (P2_ k_ ∨ w.heap.size ≤ k_) ∧ some k_ ≠ (v184 : Value).ownBlock ∧ some k_ ≠ (.slice Ao9 l2.length co9 : Value).ownBlock ∧ k_ ≠ gb175) v181 y180) := ⟨h0_⟩
            have n1_ : Aside0 (Kd.R k54 54 w30 w0.heap.size (fun k_ => (P2_ k_ ∨ w.heap.size ≤ k_) ∧ some k_ ≠ (v181 : Value).ownBlock ∧ some k_ ≠ (.slice Ao9 l2.length co9 : Value).ownBlock ∧ k_ ≠ gb175) v184 y183) := ⟨h1_⟩
            have n2_ : Aside0 (Kd.R k54 54 w30 w0.heap.size (fun k_ => (P2_ k_ ∨ w.heap.size ≤ k_) ∧ some k_ ≠ (v181 : Value).ownBlock ∧ some k_ ≠ (v184 : Value).ownBlock ∧ k_ ≠ gb175) (.slice Ao9 l2.length co9) l2) := ⟨h2_⟩
            have n3_ : Aside0 (w30.heap[gb171]? = some (.cells #[.int .i64 a0_0, .string a0_1] 28 (0, 0))) := ⟨h3_⟩
            have n4_ : Aside0 (w30.heap[gb175]? = some (.cells #[.int .i64 x8_1, .int .i64 x9_2] 54 (0, 0))) := ⟨h4_⟩
            have n5_ : Aside0 (Kept w w30 (fun k_ => P2_ k_)) := ⟨h5_⟩
            have n6_ : Aside0 (Below w0.heap.size w0 w30) := ⟨h6_⟩
            clear HO_2
            clear BK171
            clear BK175
            clear HK
            clear HB
            clear h0_ h1_ h2_ h3_ h4_ h5_ h6_
            have HO182 := n0_
            have HO185 := n1_
            have HO_2 := n2_
            have BK171 := n3_
            have BK175 := n4_
            have HK := n5_
            have HB := n6_
            clear n0_ n1_ n2_ n3_ n4_ n5_ n6_
            have hHeld : w30.cell? ⟨gb171, 0, none⟩ = some (.int .i64 a0_0) ∧ w30.cell? ⟨gb171, 1, none⟩ = some (.string a0_1) ∧ w30.cell? ⟨gb175, 0, none⟩ = some (.int .i64 x8_1) ∧ w30.cell? ⟨gb175, 1, none⟩ = some (.int .i64 x9_2) := hS_
            obtain ⟨Ao32, co32, eo32⟩ := Kd.R_slice HO185.out
            (first | subst eo32 | (injection eo32 with f1_ f2_ f3_; have f4_ := f1_.symm; have f5_ := f3_.symm; clear f1_ f2_ f3_; subst f4_; subst f5_))
            refine norm_ (a' := ?_) ?_ ?_
            rotate_left
            ·simp only [putAll, Act.put, sA_, sZ_, sS_]
             rfl
            refine one_ (i := 7) (N := some 44) #[true, true, true, true, true, true, true, true, false, false, false, false, false, false] rfl rfl (one_of HT_.out (by kernel_rfl)) (by decide) (fun K hK => ?_)
            refine Kd.R_append_rows_step k54 (w0 := w0) w0.heap.size (by rfl) (.tmp 41) (.tmp 43) 25 54 (.agg #[(.int .i64 0), (.int .i64 0)]) 16 rfl Try.underlying25 info54 rfl (by decide) (by omega) v181 y180 y183 _ _ _ (fun k_ => (P2_ k_ ∨ w.heap.size ≤ k_) ∧ some k_ ≠ (.slice Ao9 l2.length co9 : Value).ownBlock ∧ some k_ ≠ (.slice Ao32 y183.length co32 : Value).ownBlock ∧ k_ ≠ gb175) (fun _ => False) rfl rfl ?aO ?aR (fun _ _ h => h) (fun _ h => h.elim) ?aF ?aB ?aS ?aL ?_
            (case aR => repeat (first | exact (Kd.R_reads' HO185.out).2.2 | (with_reducible refine Kd.C_alloc ?_ _) | (with_reducible refine Kd.C_drewN ?_ _) | (with_reducible refine Kd.C_drew ?_)))
            (case aB => exact (bx2 HB.out GE171.out GE175.out))
            (case aF => exact (fun k_ hk => ⟨(.inr (Nat.le_trans (by first | exact HK.out.1 | exact (show Kept w _ (fun k_ => P2_ k_) from by repeat (first | (with_reducible first | exact HK.out | apply Kept.alloc | apply Kept.drewN | apply Kept.drew | refine Kept.setCell ?_ (.inr GW171.out) _ | refine Kept.setCell ?_ (.inr GW175.out) _) | exact HK.out)).1) hk)), Kd.fresh' (Kd.R_lt (rx_ HO_2.out)) k_ hk, Kd.fresh' (Kd.R_lt (rx_ HO185.out)) k_ hk, Kd.freshB (g := gb175) (o := .cells #[.int .i64 x8_1, .int .i64 x9_2] 54 (0, 0)) (kx_ BK175.out) k_ hk⟩))
            (case aO => exact (by (with_reducible repeat (first | apply Kd.R_alloc | apply Kd.R_drewN | apply Kd.R_drew)); exact Kd.R_mono HO182.out (fun _ hk => ⟨hk.1, ⟨hk.2.2.1, ⟨hk.2.1, hk.2.2.2⟩⟩⟩)))
            (case aS => exact (below_size (bx2 HB.out GE171.out GE175.out)))
            (case aL => have := LMc16.out; omega)
            intro v187 w31 ho hb hg hat
            rw [← Ny186.out] at ho
            have n0_ := am_ (Kd.R_after (ok := (fun k_ => (P2_ k_ ∨ w.heap.size ≤ k_) ∧ some k_ ≠ (.slice Ao32 y183.length co32 : Value).ownBlock ∧ k_ ≠ gb175)) (by (with_reducible repeat (first | apply Kd.R_alloc | apply Kd.R_drewN | apply Kd.R_drew)); exact Kd.R_mono HO_2.out (fun _ hk => ⟨⟨hk.1, ⟨hk.2.2.1, hk.2.2.2⟩⟩, hk.2.1⟩)) hg hat)
            have n1_ := am_ (blk_grown (g := gb171) (o := .cells #[.int .i64 a0_0, .string a0_1] 28 (0, 0)) (kx_ BK171.out) hg (Kd.R_ne HO182.out BK171.out (by decide)))
            have n2_ := am_ (blk_grown (g := gb175) (o := .cells #[.int .i64 x8_1, .int .i64 x9_2] 54 (0, 0)) (kx_ BK175.out) hg (Kd.R_away HO182.out (fun _ hk => hk.2.2.2)))
            have n3_ := am_ (Kd.R_after (ok := (fun k_ => (P2_ k_ ∨ w.heap.size ≤ k_) ∧ some k_ ≠ (.slice Ao9 l2.length co9 : Value).ownBlock ∧ k_ ≠ gb175)) (by (with_reducible repeat (first | apply Kd.R_alloc | apply Kd.R_drewN | apply Kd.R_drew)); exact Kd.R_mono HO185.out (fun _ hk => ⟨⟨hk.1, ⟨hk.2.2.1, hk.2.2.2⟩⟩, hk.2.1⟩)) hg hat)
            have n4_ := am_ (hb)
            have n5_ := am_ (Kept.of_grown (S := (fun k_ => P2_ k_)) hg (by repeat (first | (with_reducible first | exact HK.out | apply Kept.alloc | apply Kept.drewN | apply Kept.drew | refine Kept.setCell ?_ (.inr GW171.out) _ | refine Kept.setCell ?_ (.inr GW175.out) _) | exact HK.out)) (fun k_ e_ => (HO182.out.1 k_ e_).1))
            have n6_ := am_ (ho)
            clear HO_2
            clear BK171
            clear BK175
            clear HO185
            clear HB
            clear HK
            clear HO182
            have HO_2 := n0_
            have BK171 := n1_
            have BK175 := n2_
            have HO185 := n3_
            have HB := n4_
            have HK := n5_
            have HO188 := n6_
            clear n0_ n1_ n2_ n3_ n4_ n5_ n6_
            clear ho hb hg hat
            obtain ⟨Ao33, co33, eo33⟩ := Kd.R_slice HO188.out
            (first | subst eo33 | (injection eo33 with f1_ f2_ f3_; have f4_ := f1_.symm; have f5_ := f3_.symm; clear f1_ f2_ f3_; subst f4_; subst f5_))
            refine hK.out _ _ ⟨(blk_cell BK171.out 0).trans rfl, (blk_cell BK171.out 1).trans rfl, (blk_cell BK175.out 0).trans rfl, (blk_cell BK175.out 1).trans rfl⟩ (fun hHeld => ?_)
            clear hK K
            refine norm_ (a' := ?_) ?_ ?_
            rotate_left
            ·show Act.put _ (some 44) _ = _
             simp only [Act.put, sA_, sZ_, sS_, i64_w, i32_w]
             rfl
            refine one_ (i := 8) (N := some 45) #[true, true, true, true, true, true, true, true, true, false, false, false, false, false] rfl rfl (one_of HT_.out (by kernel_rfl)) (by decide) (fun K hK => ?_)
            refine goes_ Try.func31 (by kernel_rfl) rfl #[.agg #[.int .i64 a0_0, .string a0_1], .int .i64 a1, .slice Ao33 y186.length co33] (by rfl) rfl rfl (by (try simp only [List.map_toArray, List.map_cons, List.map_nil]); first | done | rfl | (simp only [List.length_drop, List.length_take]; rfl)) ?_
            with_reducible refine (ih k2 (by have := HK1.out; have := HK2.out; omega) a0_0 a0_1 a1 (fun k_ => some k_ = (.slice Ao33 y186.length co33 : Value).ownBlock) (.slice Ao33 y186.length co33) y186 t189 true w0 _ ?side1 ?side2 A17.out).mono ?_
            (case side1 => repeat (first | (with_reducible first | exact HB.out | apply below_alloc | apply pw_below_drewN | apply below_drew1 | refine below_set ?_ GE171.out | refine below_set ?_ GE175.out) | exact HB.out))
            (case side2 => exact Kd.R_tight rfl HO188.out)
            rintro e w34 ⟨v190, rfl, ho0, hb, hkp⟩
            refine ⟨_, rfl, ?_⟩
            have n0_ := am_ (Kd.R_mono (ok' := fun k_ => (P2_ k_ ∨ w.heap.size ≤ k_) ∧ some k_ ≠ (.slice Ao32 y183.length co32 : Value).ownBlock ∧ k_ ≠ gb175 ∧ some k_ ≠ (v190 : Value).ownBlock) (Kd.R_keptB (HO_2.out) hkp (fun k_ hk_ hs_ => (hk_.2) hs_)) (fun k_ hk_ => ⟨hk_.1.1.1, hk_.1.1.2.1, hk_.1.1.2.2, fun e_ => Or.elim (ho0.1 k_ e_.symm) (fun hs_ => hk_.2.1 hs_) (fun hn_ => Nat.not_le.2 hk_.2.2 hn_)⟩))
            have n1_ := am_ (blk_kept (kx_ BK171.out) hkp (fun hs_ => (fun e_ => (Kd.R_ne HO188.out BK171.out (by decide)) e_) hs_))
            have n2_ := am_ (blk_kept (kx_ BK175.out) hkp (fun hs_ => (fun e_ => (Kd.R_away HO188.out (fun _ hk => hk.2.2.2)) e_) hs_))
            have n3_ := am_ (Kd.R_mono (ok' := fun k_ => (P2_ k_ ∨ w.heap.size ≤ k_) ∧ some k_ ≠ (.slice Ao9 l2.length co9 : Value).ownBlock ∧ k_ ≠ gb175 ∧ some k_ ≠ (v190 : Value).ownBlock) (Kd.R_keptB (HO185.out) hkp (fun k_ hk_ hs_ => (hk_.2) hs_)) (fun k_ hk_ => ⟨hk_.1.1.1, hk_.1.1.2.1, hk_.1.1.2.2, fun e_ => Or.elim (ho0.1 k_ e_.symm) (fun hs_ => hk_.2.1 hs_) (fun hn_ => Nat.not_le.2 hk_.2.2 hn_)⟩))
            have n4_ := am_ (Kd.R_mono (ok' := fun k_ => (P2_ k_ ∨ w.heap.size ≤ k_) ∧ some k_ ≠ (.slice Ao9 l2.length co9 : Value).ownBlock ∧ some k_ ≠ (.slice Ao32 y183.length co32 : Value).ownBlock ∧ k_ ≠ gb175) ho0 (fun k_ hk_ => ⟨Or.elim hk_ (fun hs_ => (HO188.out.1 k_ (hs_).symm).1) (fun hn_ => (.inr (Nat.le_trans (by first | exact HK.out.1 | exact (show Kept w _ (fun k_ => P2_ k_) from by repeat (first | (with_reducible first | exact HK.out | apply Kept.alloc | apply Kept.drewN | apply Kept.drew | refine Kept.setCell ?_ (.inr GW171.out) _ | refine Kept.setCell ?_ (.inr GW175.out) _) | exact HK.out)).1) hn_))), Or.elim hk_ (fun hs_ => fun e_ => (((HO_2.out).1 k_ e_.symm).2) hs_) (fun hn_ => (Kd.fresh' (Kd.R_lt (rx_ HO_2.out)) k_ hn_)), Or.elim hk_ (fun hs_ => fun e_ => (((HO185.out).1 k_ e_.symm).2) hs_) (fun hn_ => (Kd.fresh' (Kd.R_lt (rx_ HO185.out)) k_ hn_)), Or.elim hk_ (fun hs_ => fun e_ => (Kd.R_away HO188.out (fun _ hk => hk.2.2.2)) (by rw [← e_]; exact hs_)) (fun hn_ => (Kd.freshB (g := gb175) (o := .cells #[.int .i64 x8_1, .int .i64 x9_2] 54 (0, 0)) (kx_ BK175.out) k_ hn_))⟩))
            have n5_ := am_ (Kept.then_ (S := (fun k_ => P2_ k_)) (by repeat (first | (with_reducible first | exact HK.out | apply Kept.alloc | apply Kept.drewN | apply Kept.drew | refine Kept.setCell ?_ (.inr GW171.out) _ | refine Kept.setCell ?_ (.inr GW175.out) _) | exact HK.out)) hkp (fun k_ hs_ => (fun e_ => (HO188.out.1 k_ e_.symm).1) hs_))
            have n6_ := am_ (hb)
            clear HO_2
            clear BK171
            clear BK175
            clear HO185
            clear HK
            clear HB
            clear HO188
            have HO_2 := n0_
            have BK171 := n1_
            have BK175 := n2_
            have HO185 := n3_
            have HO191 := n4_
            have HK := n5_
            have HB := n6_
            clear n0_ n1_ n2_ n3_ n4_ n5_ n6_
            (try clear hb)
            (try clear hkp)
            (try clear ho0)
            refine hK.out _ _ ⟨(blk_cell BK171.out 0).trans rfl, (blk_cell BK171.out 1).trans rfl, (blk_cell BK175.out 0).trans rfl, (blk_cell BK175.out 1).trans rfl⟩ (fun hHeld => ?_)
            clear hK K
            refine norm_ (a' := ?_) ?_ ?_
            rotate_left
            ·show Act.put _ (some 45) _ = _
             simp only [Act.put, sA_, sZ_, sS_, i64_w, i32_w]
             rfl
            refine pure_ (i := 9) (N := some 36) (v := ?_) (a' := ?_) #[true, true, true, true, true, true, true, true, true, true, false, false, false, false] rfl rfl (any_of HT_.out (by kernel_rfl)) (fun _ _ _ h => h) (Or.inl ⟨by rfl, ?_⟩) ?_ ?_
            rotate_left
            ·intro w'
             go_simp
             with_reducible rfl
            rotate_left
            ·simp only [Act.put, sA_, sZ_, sS_, i64_w, i32_w]
             rfl
            refine pure_ (i := 10) (N := some 46) (v := ?_) (a' := ?_) #[true, true, true, true, true, true, true, true, true, true, true, false, false, false] rfl rfl (any_of HT_.out (by kernel_rfl)) (fun _ _ _ h => h) (Or.inl ⟨by rfl, ?_⟩) ?_ ?_
            rotate_left
            ·intro w'
             go_simp
             with_reducible rfl
            rotate_left
            ·simp only [Act.put, sA_, sZ_, sS_, i64_w, i32_w]
             rfl
            refine pure_ (i := 11) (N := some 47) (v := ?_) (a' := ?_) #[true, true, true, true, true, true, true, true, true, true, true, true, false, false] rfl rfl (any_of HT_.out (by kernel_rfl)) (fun _ _ _ h => h) (Or.inl ⟨by rfl, ?_⟩) ?_ ?_
            rotate_left
            ·intro w'
             go_simp
             with_reducible rfl
            rotate_left
            ·simp only [Act.put, sA_, sZ_, sS_, i64_w, i32_w]
             rfl
            refine pure_ (i := 12) (N := some 11) (v := ?_) (a' := ?_) #[true, true, true, true, true, true, true, true, true, true, true, true, true, false] rfl rfl (any_of HT_.out (by kernel_rfl)) (fun _ _ _ h => h) (Or.inl ⟨by rfl, ?_⟩) ?_ ?_
            rotate_left
            ·intro w'
             go_simp
             with_reducible rfl
            rotate_left
            ·simp only [Act.put, sA_, sZ_, sS_, i64_w, i32_w]
             rfl
            refine pure_ (i := 13) (N := some 12) (v := ?_) (a' := ?_) #[true, true, true, true, true, true, true, true, true, true, true, true, true, true] rfl rfl (any_of HT_.out (by kernel_rfl)) (fun _ _ _ h => h) (Or.inl ⟨by rfl, ?_⟩) ?_ ?_
            rotate_left
            ·intro w'
             go_simp
             with_reducible rfl
            rotate_left
            ·simp only [Act.put, sA_, sZ_, sS_, i64_w, i32_w]
             rfl
            refine done_ (done_of HT_.out (by kernel_rfl)) ?_
            try go_wp2
            go_ret2
            exact ⟨_, by first | rfl | (simp [errW_none, errW_some] <;> rfl) | (simp [*, errW_none, errW_some] <;> rfl), by (with_reducible repeat (first | apply Kd.R_alloc | apply Kd.R_drewN | apply Kd.R_drew)); exact Kd.R_mono HO191.out (fun _ hk => hk.1), bx2 HB.out GE171.out GE175.out, by repeat (first | (with_reducible first | exact HK.out | apply Kept.alloc | apply Kept.drewN | apply Kept.drew | refine Kept.setCell ?_ (.inr GW171.out) _ | refine Kept.setCell ?_ (.inr GW175.out) _) | exact HK.out)⟩
           ·replace c18 := Bool.eq_false_iff.mpr c18
            subst c18
            have H1 : (spec_l23Place.l1 k2 a1 l2 x8_1 (wrap64 (x9_2 + 1)) a0_0 a0_1) = some (r1, r2) := by rw [if_neg (show ¬ (false = true) by decide)] at H; exact H
            clear H
            have H := H1
            clear H1
            have H' := am_ H
            clear H
            try go_wp2_with (first | ((with_reducible refine gate_dst (N := 10) rfl ?_); refine box_event ?hg (N := 10) ?hd (cs := #[.int .i64 0, .int .i64 0]) (t := 54) ?hr ?_; (case hd => rfl); (case hg => rfl); (case hr => first | (go_simp; done) | (go_simp; rfl)); intro gb175 hg w35 hbox hb; have n0_ := am_ (Kd.R_below (Kd.R_elderB (rx_ HO_2.out) gb175 (Nat.le_of_eq hg.symm)) hb); have n1_ := am_ (blk_below (g := gb171) (o := .cells #[.int .i64 a0_0, .string a0_1] 28 (0, 0)) (kx_ BK171.out) hb); have n2_ := am_ (Kept.below (S := (fun k_ => P2_ k_)) (by repeat (first | (with_reducible first | exact HK.out | apply Kept.alloc | apply Kept.drewN | apply Kept.drew | refine Kept.setCell ?_ (.inr GW171.out) _) | exact HK.out)) hb); have n3_ := am_ (below_step (bx1 HB.out GE171.out) hb); have n4_ := am_ (hbox); have n5_ := am_ ((by rw [hg]; exact (by first | exact HK.out.1 | exact (show Kept w _ (fun k_ => P2_ k_) from by repeat (first | (with_reducible first | exact HK.out | apply Kept.alloc | apply Kept.drewN | apply Kept.drew | refine Kept.setCell ?_ (.inr GW171.out) _) | exact HK.out)).1) : w.heap.size ≤ gb175)); have n6_ := am_ ((by rw [hg]; exact (below_size (bx1 HB.out GE171.out)) : w0.heap.size ≤ gb175)); have n7_ := am_ ((by rw [hg]; exact Nat.ne_of_lt (blk_lt (g := gb171) (o := .cells #[.int .i64 a0_0, .string a0_1] 28 (0, 0)) (kx_ BK171.out)) : gb171 ≠ gb175)); have n8_ := am_ ((by rw [hg]; exact Nat.ne_of_gt (blk_lt (g := gb171) (o := .cells #[.int .i64 a0_0, .string a0_1] 28 (0, 0)) (kx_ BK171.out)) : gb175 ≠ gb171)); clear HO_2; clear BK171; clear HK; clear HB; have HO_2 := n0_; have BK171 := n1_; have HK := n2_; have HB := n3_; have BK175 := n4_; have GW175 := n5_; have GE175 := n6_; have NB171_175 := n7_; have NB175_171 := n8_; clear n0_ n1_ n2_ n3_ n4_ n5_ n6_ n7_ n8_; clear hb hbox hg; have hnb36 := NB175_171.out; have hnc36 := NB171_175.out; have hcz37_0 : w35.cell? ⟨gb175, 0, none⟩ = some (.int .i64 0) := (blk_cell BK175.out 0).trans rfl; have hcz37_1 : w35.cell? ⟨gb175, 1, none⟩ = some (.int .i64 0) := (blk_cell BK175.out 1).trans rfl; have hfz37_0 := blk_frozen BK175.out 0; have hfz37_1 := blk_frozen BK175.out 1; have hcz38_0 : w35.cell? ⟨gb171, 0, none⟩ = some (.int .i64 a0_0) := (blk_cell BK171.out 0).trans rfl; have hcz38_1 : w35.cell? ⟨gb171, 1, none⟩ = some (.string a0_1) := (blk_cell BK171.out 1).trans rfl; have hfz38_0 := blk_frozen BK171.out 0; have hfz38_1 := blk_frozen BK171.out 1) | ((with_reducible refine gate_callee (f := 51) rfl ?_); refine goesL_ (some 35) rfl rfl Try.func51 (by kernel_rfl) rfl #[.agg #[.int .i64 a0_0, .string a0_1], .slice Ao9 l2.length co9, .agg #[.int .i64 x8_1, .int .i64 x9_2]] rfl (by (try simp only [List.map_toArray, List.map_cons, List.map_nil]); first | done | rfl | (simp only [List.length_drop, List.length_take]; rfl)) ?_; (with_reducible refine (spec_l23Fits.calls k2 a0_0 a0_1 _ _ l2 x8_1 x9_2 true _ ?side1 ?side2 A13.out).mono ?_); (case side1 => refine (Kd.R_reads' (e := 54) (base := w0.heap.size) (ok := fun k_ => ((P2_ k_ ∨ w.heap.size ≤ k_) ∧ k_ ≠ gb175)) (n := l2.length) (c := co9) ?_).2.2; exact (by (with_reducible repeat (first | apply Kd.R_alloc | apply Kd.R_drewN | apply Kd.R_drew)); exact (Kd.R_mono (Kd.R_far (p := ⟨gb175, 1, none⟩) (Kd.R_far (p := ⟨gb175, 0, none⟩) (Kd.R_mono HO_2.out (fun k_ hk => (⟨hk, hk.2⟩ : _ ∧ k_ ≠ gb175))) (fun _ hk => hk.2) (.int .i64 x8_1)) (fun _ hk => hk.2) (.int .i64 x9_2)) (fun _ h_ => h_.1)))); (case side2 => exact (Kd.R_reads' HO_2.out).2.1); rintro e w39 ⟨rfl, hb⟩; refine ⟨_, rfl, ?_⟩; have n0_ := am_ (Kd.R_below (by (with_reducible repeat (first | apply Kd.R_alloc | apply Kd.R_drewN | apply Kd.R_drew)); exact (Kd.R_mono (Kd.R_far (p := ⟨gb175, 1, none⟩) (Kd.R_far (p := ⟨gb175, 0, none⟩) (Kd.R_mono HO_2.out (fun k_ hk => (⟨hk, hk.2⟩ : _ ∧ k_ ≠ gb175))) (fun _ hk => hk.2) (.int .i64 x8_1)) (fun _ hk => hk.2) (.int .i64 x9_2)) (fun _ h_ => h_.1))) hb); have n1_ := am_ (blk_below (g := gb171) (o := .cells #[.int .i64 a0_0, .string a0_1] 28 (0, 0)) (by (with_reducible repeat (first | refine blk_drewN ?_ _ | refine blk_drew ?_ | refine blk_alloc ?_ _)); refine blk_far ?_ NB171_175.out _; (with_reducible repeat (first | refine blk_drewN ?_ _ | refine blk_drew ?_ | refine blk_alloc ?_ _)); refine blk_far ?_ NB171_175.out _; (with_reducible repeat (first | refine blk_drewN ?_ _ | refine blk_drew ?_ | refine blk_alloc ?_ _)); exact BK171.out) hb); have n2_ := am_ (blk_below (g := gb175) (o := .cells #[.int .i64 x8_1, .int .i64 x9_2] 54 (0, 0)) (by (with_reducible repeat (first | refine blk_drewN ?_ _ | refine blk_drew ?_ | refine blk_alloc ?_ _)); refine blk_put (cs := #[.int .i64 x8_1, .int .i64 0]) ?_ 1 _ rfl; (with_reducible repeat (first | refine blk_drewN ?_ _ | refine blk_drew ?_ | refine blk_alloc ?_ _)); refine blk_put (cs := #[.int .i64 0, .int .i64 0]) ?_ 0 _ rfl; (with_reducible repeat (first | refine blk_drewN ?_ _ | refine blk_drew ?_ | refine blk_alloc ?_ _)); exact BK175.out) hb); have n3_ := am_ (Kept.below (S := (fun k_ => P2_ k_)) (by repeat (first | (with_reducible first | exact HK.out | apply Kept.alloc | apply Kept.drewN | apply Kept.drew | refine Kept.setCell ?_ (.inr GW171.out) _ | refine Kept.setCell ?_ (.inr GW175.out) _) | exact HK.out)) hb); have n4_ := am_ (below_step (bx2 HB.out GE171.out GE175.out) hb); clear HO_2; clear BK171; clear BK175; clear HK; clear HB; have HO_2 := n0_; have BK171 := n1_; have BK175 := n2_; have HK := n3_; have HB := n4_; clear n0_ n1_ n2_ n3_ n4_; (try clear hb); (try clear hb2); (try clear hk); (try clear hi)))
            have n0_ := am_ (Kd.R_drew HO_2.out)
            have n1_ := am_ (blk_drew BK171.out)
            have n2_ := am_ (blk_drew BK175.out)
            have n3_ := am_ (Kept.drew HK.out)
            have n4_ := am_ (below_drew1 HB.out)
            clear HO_2
            clear BK171
            clear BK175
            clear HK
            clear HB
            have HO_2 := n0_
            have BK171 := n1_
            have BK175 := n2_
            have HK := n3_
            have HB := n4_
            clear n0_ n1_ n2_ n3_ n4_
            refine start_ (n := 14) (S := fun w' => w'.cell? ⟨gb171, 0, none⟩ = some (.int .i64 a0_0) ∧ w'.cell? ⟨gb171, 1, none⟩ = some (.string a0_1) ∧ w'.cell? ⟨gb175, 0, none⟩ = some (.int .i64 x8_1) ∧ w'.cell? ⟨gb175, 1, none⟩ = some (.int .i64 x9_2)) (ds := []) #[false, false, false, false, false, false, false, false, false, false, false, false, false, false] (by kernel_rfl) rfl rfl ⟨(blk_cell BK171.out 0).trans rfl, (blk_cell BK171.out 1).trans rfl, (blk_cell BK175.out 0).trans rfl, (blk_cell BK175.out 1).trans rfl⟩ (fun hHeld => ?_); refine with_tabW spec_l23Place.tab11 spec_l23Place.bits11 (fun HT_ HW_ => ?_)
            generalize w39.drew = w40 at HO_2 BK171 BK175 HK HB hHeld ⊢
            refine pure_ (i := 1) (N := some 38) (v := ?_) (a' := ?_) #[false, true, false, false, false, false, false, false, false, false, false, false, false, false] rfl rfl (any_of HT_.out (by kernel_rfl)) (fun _ _ _ h => h) (Or.inl ⟨by rfl, ?_⟩) ?_ ?_
            rotate_left
            ·intro w'
             go_simp
             with_reducible rfl
            rotate_left
            ·simp only [Act.put, sA_, sZ_, sS_, i64_w, i32_w]
             rfl
            refine pure_ (i := 3) (N := some 40) (v := ?_) (a' := ?_) #[false, true, false, true, false, false, false, false, false, false, false, false, false, false] rfl rfl (any_of HT_.out (by kernel_rfl)) (fun _ _ _ h => h) (Or.inl ⟨by rfl, ?_⟩) ?_ ?_
            rotate_left
            ·intro w'
             go_simp
             with_reducible rfl
            rotate_left
            ·simp only [Act.put, sA_, sZ_, sS_, i64_w, i32_w]
             rfl
            refine take_ (i := 0) (N := some 37) (v := ?_) (a' := ?_) #[true, true, false, true, false, false, false, false, false, false, false, false, false, false] rfl rfl (take_ofW HT_.out HW_.out (by kernel_rfl)) (fun _ _ _ h => h) (Or.inl ⟨by rfl, ?_⟩) hHeld ?_ ?_
            rotate_left
            ·rintro w' ⟨s0, s1, s2, s3⟩
             go_simp
             with_reducible rfl
            rotate_left
            ·simp only [Act.put, sA_, sZ_, sS_, i64_w, i32_w]
             rfl
            refine take_ (i := 5) (N := some 42) (v := ?_) (a' := ?_) #[true, true, false, true, false, true, false, false, false, false, false, false, false, false] rfl rfl (take_ofW HT_.out HW_.out (by kernel_rfl)) (fun _ _ _ h => h) (Or.inl ⟨by rfl, ?_⟩) hHeld ?_ ?_
            rotate_left
            ·rintro w' ⟨s0, s1, s2, s3⟩
             go_simp
             with_reducible rfl
            rotate_left
            ·simp only [Act.put, sA_, sZ_, sS_, i64_w, i32_w]
             rfl
            refine join_ (σ := Value × Value × Value) 7 #[true, true, true, true, true, true, true, false, false, false, false, false, false, false] (fun s_ => [(39, s_.1), (41, s_.2.1), (43, s_.2.2)]) (fun s_ w' => (w'.cell? ⟨gb171, 0, none⟩ = some (.int .i64 a0_0) ∧ w'.cell? ⟨gb171, 1, none⟩ = some (.string a0_1) ∧ w'.cell? ⟨gb175, 0, none⟩ = some (.int .i64 x8_1) ∧ w'.cell? ⟨gb175, 1, none⟩ = some (.int .i64 x9_2)) ∧ (Kd.R k54 54 w' w0.heap.size (fun k_ => (P2_ k_ ∨ w.heap.size ≤ k_) ∧ some k_ ≠ (s_.2.2 : Value).ownBlock ∧ some k_ ≠ (.slice Ao9 l2.length co9 : Value).ownBlock ∧ k_ ≠ gb175) s_.2.1 y180) ∧ (Kd.R k54 54 w' w0.heap.size (fun k_ => (P2_ k_ ∨ w.heap.size ≤ k_) ∧ some k_ ≠ (s_.2.1 : Value).ownBlock ∧ some k_ ≠ (.slice Ao9 l2.length co9 : Value).ownBlock ∧ k_ ≠ gb175) s_.2.2 y183) ∧ (Kd.R k54 54 w' w0.heap.size (fun k_ => (P2_ k_ ∨ w.heap.size ≤ k_) ∧ some k_ ≠ (s_.2.1 : Value).ownBlock ∧ some k_ ≠ (s_.2.2 : Value).ownBlock ∧ k_ ≠ gb175) (.slice Ao9 l2.length co9) l2) ∧ (w'.heap[gb171]? = some (.cells #[.int .i64 a0_0, .string a0_1] 28 (0, 0))) ∧ (w'.heap[gb175]? = some (.cells #[.int .i64 x8_1, .int .i64 x9_2] 54 (0, 0))) ∧ (Kept w w' (fun k_ => P2_ k_)) ∧ (Below w0.heap.size w0 w')) ?_ ?_
            rotate_left
            ·intro hCont
             refine two_ (i := 2) (j := 6) (Ni := some 39) (Nj := some 43) #[true, true, true, true, false, true, false, false, false, false, false, false, false, false] #[true, true, false, true, false, true, true, false, false, false, false, false, false, false] rfl rfl rfl rfl (two_of HT_.out (by kernel_rfl)) (by decide) (by decide) (fun K hK => ?_) (fun K hK => ?_)
             ·skip
              refine Kd.R_lit_step k54 _ 54 ?hg (N := 39) ?hd (xs := ([] : List (S54))) (inner := []) (ok := fun _ => True) (okp := fun _ => True) ?hr ?hp (fun _ hk => hk) trivial (Below.refl _ _) (Nat.le_refl _) (by simp) ?_; (case hd => rfl); (case hg => rfl); (case hr => first | (go_simp; done) | (go_simp; rfl)); (case hp => exact (Reps.none _ _))
              intro v178 w41 ho42 hb hg_ hnew_
              clear hg_ hnew_
              (first | rw [← Ny177.out] at ho42 | (simp only [Int.reduceToNat] at ho42; rw [← Ny177.out] at ho42))
              have n0_ := am_ (Kd.R_elder' (rx_ HO_2.out) (Kd.R_base ho42) hb)
              have n1_ := am_ (Kd.R_lower (Kd.R_newB (Kd.R_new' (Kd.R_newM (M := fun k_ => (P2_ k_ ∨ w.heap.size ≤ k_)) ho42 (by first | exact HK.out.1 | exact (show Kept w _ (fun k_ => P2_ k_) from by repeat (first | (with_reducible first | exact HK.out | apply Kept.alloc | apply Kept.drewN | apply Kept.drew | refine Kept.setCell ?_ (.inr GW171.out) _ | refine Kept.setCell ?_ (.inr GW175.out) _) | exact HK.out)).1) (fun k_ h_ => .inr h_)) (Kd.R_lt (rx_ HO_2.out))) (g := gb175) (o := .cells #[.int .i64 x8_1, .int .i64 x9_2] 54 (0, 0)) (kx_ BK175.out)) (below_size (bx2 HB.out GE171.out GE175.out)))
              have n2_ := am_ (blk_below (g := gb171) (o := .cells #[.int .i64 a0_0, .string a0_1] 28 (0, 0)) (kx_ BK171.out) hb)
              have n3_ := am_ (blk_below (g := gb175) (o := .cells #[.int .i64 x8_1, .int .i64 x9_2] 54 (0, 0)) (kx_ BK175.out) hb)
              have n4_ := am_ (Kept.below (S := (fun k_ => P2_ k_)) (by repeat (first | (with_reducible first | exact HK.out | apply Kept.alloc | apply Kept.drewN | apply Kept.drew | refine Kept.setCell ?_ (.inr GW171.out) _ | refine Kept.setCell ?_ (.inr GW175.out) _) | exact HK.out)) hb)
              have n5_ := am_ (below_step (bx2 HB.out GE171.out GE175.out) hb)
              clear HO_2
              clear BK171
              clear BK175
              clear HK
              clear HB
              have HO_2 := n0_
              have HO179 := n1_
              have BK171 := n2_
              have BK175 := n3_
              have HK := n4_
              have HB := n5_
              clear n0_ n1_ n2_ n3_ n4_ n5_
              clear hb ho42
              refine hK.out _ _ ⟨(blk_cell BK171.out 0).trans rfl, (blk_cell BK171.out 1).trans rfl, (blk_cell BK175.out 0).trans rfl, (blk_cell BK175.out 1).trans rfl⟩ (fun hHeld => ?_)
              clear hK K
              refine norm_ (a' := ?_) ?_ ?_
              rotate_left
              ·show Act.put _ (some 39) _ = _
               simp only [Act.put, sA_, sZ_, sS_, i64_w, i32_w]
               rfl
              refine two_ (i := 4) (j := 6) (Ni := some 41) (Nj := some 43) #[true, true, true, true, true, true, false, false, false, false, false, false, false, false] #[true, true, true, true, false, true, true, false, false, false, false, false, false, false] rfl rfl rfl rfl (two_of HT_.out (by kernel_rfl)) (by decide) (by decide) (fun K hK => ?_) (fun K hK => ?_)
              ·skip
               refine Kd.R_append_rows_step k54 (w0 := w0) w0.heap.size (by rfl) (.tmp 39) (.tmp 40) 25 54 (.agg #[(.int .i64 0), (.int .i64 0)]) 16 rfl Try.underlying25 info54 rfl (by decide) (by omega) v178 y177 l2 _ _ _ (fun k_ => (P2_ k_ ∨ w.heap.size ≤ k_) ∧ some k_ ≠ (.slice Ao9 l2.length co9 : Value).ownBlock ∧ k_ ≠ gb175) (fun _ => False) rfl rfl ?aO ?aR (fun _ _ h => h) (fun _ h => h.elim) ?aF ?aB ?aS ?aL ?_
               (case aR => repeat (first | exact (Kd.R_reads' HO_2.out).2.2 | (with_reducible refine Kd.C_alloc ?_ _) | (with_reducible refine Kd.C_drewN ?_ _) | (with_reducible refine Kd.C_drew ?_)))
               (case aB => exact (bx2 HB.out GE171.out GE175.out))
               (case aF => exact (fun k_ hk => ⟨(.inr (Nat.le_trans (by first | exact HK.out.1 | exact (show Kept w _ (fun k_ => P2_ k_) from by repeat (first | (with_reducible first | exact HK.out | apply Kept.alloc | apply Kept.drewN | apply Kept.drew | refine Kept.setCell ?_ (.inr GW171.out) _ | refine Kept.setCell ?_ (.inr GW175.out) _) | exact HK.out)).1) hk)), Kd.fresh' (Kd.R_lt (rx_ HO_2.out)) k_ hk, Kd.freshB (g := gb175) (o := .cells #[.int .i64 x8_1, .int .i64 x9_2] 54 (0, 0)) (kx_ BK175.out) k_ hk⟩))
               (case aO => exact (by (with_reducible repeat (first | apply Kd.R_alloc | apply Kd.R_drewN | apply Kd.R_drew)); exact Kd.R_mono HO179.out (fun _ hk => ⟨hk.1.1.1, ⟨hk.1.2, hk.2⟩⟩)))
               (case aS => exact (below_size (bx2 HB.out GE171.out GE175.out)))
               (case aL => have := LMc15.out; omega)
               intro v181 w43 ho hb hg hat
               rw [← Ny180.out] at ho
               have n0_ := am_ (Kd.R_after (ok := (fun k_ => (P2_ k_ ∨ w.heap.size ≤ k_) ∧ k_ ≠ gb175)) (by (with_reducible repeat (first | apply Kd.R_alloc | apply Kd.R_drewN | apply Kd.R_drew)); first | exact HO_2.out | exact Kd.R_len HO_2.out) hg hat)
               have n1_ := am_ (blk_grown (g := gb171) (o := .cells #[.int .i64 a0_0, .string a0_1] 28 (0, 0)) (kx_ BK171.out) hg (Kd.R_ne HO179.out BK171.out (by decide)))
               have n2_ := am_ (blk_grown (g := gb175) (o := .cells #[.int .i64 x8_1, .int .i64 x9_2] 54 (0, 0)) (kx_ BK175.out) hg (Kd.R_away HO179.out (fun _ hk => hk.2)))
               have n3_ := am_ (hb)
               have n4_ := am_ (Kept.of_grown (S := (fun k_ => P2_ k_)) hg (by repeat (first | (with_reducible first | exact HK.out | apply Kept.alloc | apply Kept.drewN | apply Kept.drew | refine Kept.setCell ?_ (.inr GW171.out) _ | refine Kept.setCell ?_ (.inr GW175.out) _) | exact HK.out)) (fun k_ e_ => (HO179.out.1 k_ e_).1.1.1))
               have n5_ := am_ (ho)
               clear HO_2
               clear BK171
               clear BK175
               clear HB
               clear HK
               clear HO179
               have HO_2 := n0_
               have BK171 := n1_
               have BK175 := n2_
               have HB := n3_
               have HK := n4_
               have HO182 := n5_
               clear n0_ n1_ n2_ n3_ n4_ n5_
               clear ho hb hg hat
               refine hK.out _ _ ⟨(blk_cell BK171.out 0).trans rfl, (blk_cell BK171.out 1).trans rfl, (blk_cell BK175.out 0).trans rfl, (blk_cell BK175.out 1).trans rfl⟩ (fun hHeld => ?_)
               clear hK K
               refine norm_ (a' := ?_) ?_ ?_
               rotate_left
               ·show Act.put _ (some 41) _ = _
                simp only [Act.put, sA_, sZ_, sS_, i64_w, i32_w]
                rfl
               refine one_ (i := 6) (N := some 43) #[true, true, true, true, true, true, true, false, false, false, false, false, false, false] rfl rfl (one_of HT_.out (by kernel_rfl)) (by decide) (fun K hK => ?_)
               refine Kd.R_lit_step k54 _ 54 ?hg (N := 43) ?hd (xs := ([(⟨x8_1, x9_2⟩ : S54)] : List (S54))) (inner := [.int .i64 x8_1, .int .i64 x9_2]) (ok := fun _ => True) (okp := fun _ => True) ?hr ?hp (fun _ hk => hk) trivial (Below.refl _ _) (Nat.le_refl _) (by simp) ?_; (case hd => rfl); (case hg => rfl); (case hr => first | (go_simp; done) | (go_simp; rfl)); (case hp => exact (Reps.c2 (show Kd.M k54 _ _ _ (⟨x8_1, x9_2⟩ : S54) [.int .i64 x8_1, .int .i64 x9_2] from (k54_mkM _ _ _ (⟨x8_1, x9_2⟩ : S54) )) (Reps.none _ _)))
               intro v184 w44 ho45 hb hg_ hnew_
               clear hg_ hnew_
               (first | rw [← Ny183.out] at ho45 | (simp only [Int.reduceToNat] at ho45; rw [← Ny183.out] at ho45))
               have n0_ := am_ (Kd.R_elder' (rx_ HO_2.out) (Kd.R_base ho45) hb)
               have n1_ := am_ (Kd.R_elder' (rx_ HO182.out) (Kd.R_base ho45) hb)
               have n2_ := am_ (Kd.R_lower (Kd.R_newB (Kd.R_new' (Kd.R_new' (Kd.R_newM (M := fun k_ => (P2_ k_ ∨ w.heap.size ≤ k_)) ho45 (by first | exact HK.out.1 | exact (show Kept w _ (fun k_ => P2_ k_) from by repeat (first | (with_reducible first | exact HK.out | apply Kept.alloc | apply Kept.drewN | apply Kept.drew | refine Kept.setCell ?_ (.inr GW171.out) _ | refine Kept.setCell ?_ (.inr GW175.out) _) | exact HK.out)).1) (fun k_ h_ => .inr h_)) (Kd.R_lt (rx_ HO_2.out))) (Kd.R_lt (rx_ HO182.out))) (g := gb175) (o := .cells #[.int .i64 x8_1, .int .i64 x9_2] 54 (0, 0)) (kx_ BK175.out)) (below_size (bx2 HB.out GE171.out GE175.out)))
               have n3_ := am_ (blk_below (g := gb171) (o := .cells #[.int .i64 a0_0, .string a0_1] 28 (0, 0)) (kx_ BK171.out) hb)
               have n4_ := am_ (blk_below (g := gb175) (o := .cells #[.int .i64 x8_1, .int .i64 x9_2] 54 (0, 0)) (kx_ BK175.out) hb)
               have n5_ := am_ (Kept.below (S := (fun k_ => P2_ k_)) (by repeat (first | (with_reducible first | exact HK.out | apply Kept.alloc | apply Kept.drewN | apply Kept.drew | refine Kept.setCell ?_ (.inr GW171.out) _ | refine Kept.setCell ?_ (.inr GW175.out) _) | exact HK.out)) hb)
               have n6_ := am_ (below_step (bx2 HB.out GE171.out GE175.out) hb)
               clear HO_2
               clear HO182
               clear BK171
               clear BK175
               clear HK
               clear HB
               have HO_2 := n0_
               have HO182 := n1_
               have HO185 := n2_
               have BK171 := n3_
               have BK175 := n4_
               have HK := n5_
               have HB := n6_
               clear n0_ n1_ n2_ n3_ n4_ n5_ n6_
               clear hb ho45
               refine hK.out _ _ ⟨(blk_cell BK171.out 0).trans rfl, (blk_cell BK171.out 1).trans rfl, (blk_cell BK175.out 0).trans rfl, (blk_cell BK175.out 1).trans rfl⟩ (fun hHeld => ?_)
               clear hK K
               refine norm_ (a' := ?_) ?_ ?_
               rotate_left
               ·show Act.put _ (some 43) _ = _
                simp only [Act.put, sA_, sZ_, sS_, i64_w, i32_w]
                rfl
               exact norm_ (by simp only [putAll, Act.put, sA_, sZ_, sS_]) (hCont (v178, v181, v184) _ ⟨hHeld, (by (with_reducible repeat (first | apply Kd.R_alloc | apply Kd.R_drewN | apply Kd.R_drew)); exact Kd.R_mono HO182.out (fun _ hk => ⟨hk.1.1, ⟨hk.2, ⟨hk.1.2.1, hk.1.2.2⟩⟩⟩)), (by (with_reducible repeat (first | apply Kd.R_alloc | apply Kd.R_drewN | apply Kd.R_drew)); exact Kd.R_mono HO185.out (fun _ hk => ⟨hk.1.1.1.1, ⟨hk.1.2, ⟨hk.1.1.2, hk.2⟩⟩⟩)), (by (with_reducible repeat (first | apply Kd.R_alloc | apply Kd.R_drewN | apply Kd.R_drew)); exact Kd.R_mono HO_2.out (fun _ hk => ⟨hk.1.1.1, ⟨hk.1.2, ⟨hk.2, hk.1.1.2⟩⟩⟩)), (kx_ BK171.out), (kx_ BK175.out), (by repeat (first | (with_reducible first | exact HK.out | apply Kept.alloc | apply Kept.drewN | apply Kept.drew | refine Kept.setCell ?_ (.inr GW171.out) _ | refine Kept.setCell ?_ (.inr GW175.out) _) | exact HK.out)), (bx2 HB.out GE171.out GE175.out)⟩)
              ·skip
               refine Kd.R_lit_step k54 _ 54 ?hg (N := 43) ?hd (xs := ([(⟨x8_1, x9_2⟩ : S54)] : List (S54))) (inner := [.int .i64 x8_1, .int .i64 x9_2]) (ok := fun _ => True) (okp := fun _ => True) ?hr ?hp (fun _ hk => hk) trivial (Below.refl _ _) (Nat.le_refl _) (by simp) ?_; (case hd => rfl); (case hg => rfl); (case hr => first | (go_simp; done) | (go_simp; rfl)); (case hp => exact (Reps.c2 (show Kd.M k54 _ _ _ (⟨x8_1, x9_2⟩ : S54) [.int .i64 x8_1, .int .i64 x9_2] from (k54_mkM _ _ _ (⟨x8_1, x9_2⟩ : S54) )) (Reps.none _ _)))
               intro v184 w43 ho44 hb hg_ hnew_
               clear hg_ hnew_
               (first | rw [← Ny183.out] at ho44 | (simp only [Int.reduceToNat] at ho44; rw [← Ny183.out] at ho44))
               have n0_ := am_ (Kd.R_elder' (rx_ HO_2.out) (Kd.R_base ho44) hb)
               have n1_ := am_ (Kd.R_elder' (rx_ HO179.out) (Kd.R_base ho44) hb)
               have n2_ := am_ (Kd.R_lower (Kd.R_newB (Kd.R_new' (Kd.R_new' (Kd.R_newM (M := fun k_ => (P2_ k_ ∨ w.heap.size ≤ k_)) ho44 (by first | exact HK.out.1 | exact (show Kept w _ (fun k_ => P2_ k_) from by repeat (first | (with_reducible first | exact HK.out | apply Kept.alloc | apply Kept.drewN | apply Kept.drew | refine Kept.setCell ?_ (.inr GW171.out) _ | refine Kept.setCell ?_ (.inr GW175.out) _) | exact HK.out)).1) (fun k_ h_ => .inr h_)) (Kd.R_lt (rx_ HO_2.out))) (Kd.R_lt (rx_ HO179.out))) (g := gb175) (o := .cells #[.int .i64 x8_1, .int .i64 x9_2] 54 (0, 0)) (kx_ BK175.out)) (below_size (bx2 HB.out GE171.out GE175.out)))
               have n3_ := am_ (blk_below (g := gb171) (o := .cells #[.int .i64 a0_0, .string a0_1] 28 (0, 0)) (kx_ BK171.out) hb)
               have n4_ := am_ (blk_below (g := gb175) (o := .cells #[.int .i64 x8_1, .int .i64 x9_2] 54 (0, 0)) (kx_ BK175.out) hb)
               have n5_ := am_ (Kept.below (S := (fun k_ => P2_ k_)) (by repeat (first | (with_reducible first | exact HK.out | apply Kept.alloc | apply Kept.drewN | apply Kept.drew | refine Kept.setCell ?_ (.inr GW171.out) _ | refine Kept.setCell ?_ (.inr GW175.out) _) | exact HK.out)) hb)
               have n6_ := am_ (below_step (bx2 HB.out GE171.out GE175.out) hb)
               clear HO_2
               clear HO179
               clear BK171
               clear BK175
               clear HK
               clear HB
               have HO_2 := n0_
               have HO179 := n1_
               have HO185 := n2_
               have BK171 := n3_
               have BK175 := n4_
               have HK := n5_
               have HB := n6_
               clear n0_ n1_ n2_ n3_ n4_ n5_ n6_
               clear hb ho44
               refine hK.out _ _ ⟨(blk_cell BK171.out 0).trans rfl, (blk_cell BK171.out 1).trans rfl, (blk_cell BK175.out 0).trans rfl, (blk_cell BK175.out 1).trans rfl⟩ (fun hHeld => ?_)
               clear hK K
               refine norm_ (a' := ?_) ?_ ?_
               rotate_left
               ·show Act.put _ (some 43) _ = _
                simp only [Act.put, sA_, sZ_, sS_, i64_w, i32_w]
                rfl
               refine one_ (i := 4) (N := some 41) #[true, true, true, true, true, true, true, false, false, false, false, false, false, false] rfl rfl (one_of HT_.out (by kernel_rfl)) (by decide) (fun K hK => ?_)
               refine Kd.R_append_rows_step k54 (w0 := w0) w0.heap.size (by rfl) (.tmp 39) (.tmp 40) 25 54 (.agg #[(.int .i64 0), (.int .i64 0)]) 16 rfl Try.underlying25 info54 rfl (by decide) (by omega) v178 y177 l2 _ _ _ (fun k_ => (P2_ k_ ∨ w.heap.size ≤ k_) ∧ some k_ ≠ (.slice Ao9 l2.length co9 : Value).ownBlock ∧ some k_ ≠ (v184 : Value).ownBlock ∧ k_ ≠ gb175) (fun _ => False) rfl rfl ?aO ?aR (fun _ _ h => h) (fun _ h => h.elim) ?aF ?aB ?aS ?aL ?_
               (case aR => repeat (first | exact (Kd.R_reads' HO_2.out).2.2 | (with_reducible refine Kd.C_alloc ?_ _) | (with_reducible refine Kd.C_drewN ?_ _) | (with_reducible refine Kd.C_drew ?_)))
               (case aB => exact (bx2 HB.out GE171.out GE175.out))
               (case aF => exact (fun k_ hk => ⟨(.inr (Nat.le_trans (by first | exact HK.out.1 | exact (show Kept w _ (fun k_ => P2_ k_) from by repeat (first | (with_reducible first | exact HK.out | apply Kept.alloc | apply Kept.drewN | apply Kept.drew | refine Kept.setCell ?_ (.inr GW171.out) _ | refine Kept.setCell ?_ (.inr GW175.out) _) | exact HK.out)).1) hk)), Kd.fresh' (Kd.R_lt (rx_ HO_2.out)) k_ hk, Kd.fresh' (Kd.R_lt (rx_ HO185.out)) k_ hk, Kd.freshB (g := gb175) (o := .cells #[.int .i64 x8_1, .int .i64 x9_2] 54 (0, 0)) (kx_ BK175.out) k_ hk⟩))
               (case aO => exact (by (with_reducible repeat (first | apply Kd.R_alloc | apply Kd.R_drewN | apply Kd.R_drew)); exact Kd.R_mono HO179.out (fun _ hk => ⟨hk.1.1.1.1, ⟨hk.1.1.2, ⟨hk.2, hk.1.2⟩⟩⟩)))
               (case aS => exact (below_size (bx2 HB.out GE171.out GE175.out)))
               (case aL => have := LMc15.out; omega)
               intro v181 w45 ho hb hg hat
               rw [← Ny180.out] at ho
               have n0_ := am_ (Kd.R_after (ok := (fun k_ => (P2_ k_ ∨ w.heap.size ≤ k_) ∧ some k_ ≠ (v184 : Value).ownBlock ∧ k_ ≠ gb175)) (by (with_reducible repeat (first | apply Kd.R_alloc | apply Kd.R_drewN | apply Kd.R_drew)); exact Kd.R_mono HO_2.out (fun _ hk => ⟨⟨hk.1.1.1, ⟨hk.2, hk.1.1.2⟩⟩, hk.1.2⟩)) hg hat)
               have n1_ := am_ (blk_grown (g := gb171) (o := .cells #[.int .i64 a0_0, .string a0_1] 28 (0, 0)) (kx_ BK171.out) hg (Kd.R_ne HO179.out BK171.out (by decide)))
               have n2_ := am_ (blk_grown (g := gb175) (o := .cells #[.int .i64 x8_1, .int .i64 x9_2] 54 (0, 0)) (kx_ BK175.out) hg (Kd.R_away HO179.out (fun _ hk => hk.1.2)))
               have n3_ := am_ (Kd.R_after (ok := (fun k_ => (P2_ k_ ∨ w.heap.size ≤ k_) ∧ some k_ ≠ (.slice Ao9 l2.length co9 : Value).ownBlock ∧ k_ ≠ gb175)) (by (with_reducible repeat (first | apply Kd.R_alloc | apply Kd.R_drewN | apply Kd.R_drew)); exact Kd.R_mono HO185.out (fun _ hk => ⟨⟨hk.1.1.1.1, ⟨hk.1.1.2, hk.2⟩⟩, hk.1.2⟩)) hg hat)
               have n4_ := am_ (hb)
               have n5_ := am_ (Kept.of_grown (S := (fun k_ => P2_ k_)) hg (by repeat (first | (with_reducible first | exact HK.out | apply Kept.alloc | apply Kept.drewN | apply Kept.drew | refine Kept.setCell ?_ (.inr GW171.out) _ | refine Kept.setCell ?_ (.inr GW175.out) _) | exact HK.out)) (fun k_ e_ => (HO179.out.1 k_ e_).1.1.1.1))
               have n6_ := am_ (ho)
               clear HO_2
               clear BK171
               clear BK175
               clear HO185
               clear HB
               clear HK
               clear HO179
               have HO_2 := n0_
               have BK171 := n1_
               have BK175 := n2_
               have HO185 := n3_
               have HB := n4_
               have HK := n5_
               have HO182 := n6_
               clear n0_ n1_ n2_ n3_ n4_ n5_ n6_
               clear ho hb hg hat
               refine hK.out _ _ ⟨(blk_cell BK171.out 0).trans rfl, (blk_cell BK171.out 1).trans rfl, (blk_cell BK175.out 0).trans rfl, (blk_cell BK175.out 1).trans rfl⟩ (fun hHeld => ?_)
               clear hK K
               refine norm_ (a' := ?_) ?_ ?_
               rotate_left
               ·show Act.put _ (some 41) _ = _
                simp only [Act.put, sA_, sZ_, sS_, i64_w, i32_w]
                rfl
               exact norm_ (by simp only [putAll, Act.put, sA_, sZ_, sS_]) (hCont (v178, v181, v184) _ ⟨hHeld, (by (with_reducible repeat (first | apply Kd.R_alloc | apply Kd.R_drewN | apply Kd.R_drew)); exact Kd.R_mono HO182.out (fun _ hk => ⟨hk.1, ⟨hk.2.2.1, ⟨hk.2.1, hk.2.2.2⟩⟩⟩)), (by (with_reducible repeat (first | apply Kd.R_alloc | apply Kd.R_drewN | apply Kd.R_drew)); exact Kd.R_mono HO185.out (fun _ hk => ⟨hk.1.1, ⟨hk.2, ⟨hk.1.2.1, hk.1.2.2⟩⟩⟩)), (by (with_reducible repeat (first | apply Kd.R_alloc | apply Kd.R_drewN | apply Kd.R_drew)); exact Kd.R_mono HO_2.out (fun _ hk => ⟨hk.1.1, ⟨hk.2, ⟨hk.1.2.1, hk.1.2.2⟩⟩⟩)), (kx_ BK171.out), (kx_ BK175.out), (by repeat (first | (with_reducible first | exact HK.out | apply Kept.alloc | apply Kept.drewN | apply Kept.drew | refine Kept.setCell ?_ (.inr GW171.out) _ | refine Kept.setCell ?_ (.inr GW175.out) _) | exact HK.out)), (bx2 HB.out GE171.out GE175.out)⟩)
             ·skip
              refine Kd.R_lit_step k54 _ 54 ?hg (N := 43) ?hd (xs := ([(⟨x8_1, x9_2⟩ : S54)] : List (S54))) (inner := [.int .i64 x8_1, .int .i64 x9_2]) (ok := fun _ => True) (okp := fun _ => True) ?hr ?hp (fun _ hk => hk) trivial (Below.refl _ _) (Nat.le_refl _) (by simp) ?_; (case hd => rfl); (case hg => rfl); (case hr => first | (go_simp; done) | (go_simp; rfl)); (case hp => exact (Reps.c2 (show Kd.M k54 _ _ _ (⟨x8_1, x9_2⟩ : S54) [.int .i64 x8_1, .int .i64 x9_2] from (k54_mkM _ _ _ (⟨x8_1, x9_2⟩ : S54) )) (Reps.none _ _)))
              intro v184 w41 ho42 hb hg_ hnew_
              clear hg_ hnew_
              (first | rw [← Ny183.out] at ho42 | (simp only [Int.reduceToNat] at ho42; rw [← Ny183.out] at ho42))
              have n0_ := am_ (Kd.R_elder' (rx_ HO_2.out) (Kd.R_base ho42) hb)
              have n1_ := am_ (Kd.R_lower (Kd.R_newB (Kd.R_new' (Kd.R_newM (M := fun k_ => (P2_ k_ ∨ w.heap.size ≤ k_)) ho42 (by first | exact HK.out.1 | exact (show Kept w _ (fun k_ => P2_ k_) from by repeat (first | (with_reducible first | exact HK.out | apply Kept.alloc | apply Kept.drewN | apply Kept.drew | refine Kept.setCell ?_ (.inr GW171.out) _ | refine Kept.setCell ?_ (.inr GW175.out) _) | exact HK.out)).1) (fun k_ h_ => .inr h_)) (Kd.R_lt (rx_ HO_2.out))) (g := gb175) (o := .cells #[.int .i64 x8_1, .int .i64 x9_2] 54 (0, 0)) (kx_ BK175.out)) (below_size (bx2 HB.out GE171.out GE175.out)))
              have n2_ := am_ (blk_below (g := gb171) (o := .cells #[.int .i64 a0_0, .string a0_1] 28 (0, 0)) (kx_ BK171.out) hb)
              have n3_ := am_ (blk_below (g := gb175) (o := .cells #[.int .i64 x8_1, .int .i64 x9_2] 54 (0, 0)) (kx_ BK175.out) hb)
              have n4_ := am_ (Kept.below (S := (fun k_ => P2_ k_)) (by repeat (first | (with_reducible first | exact HK.out | apply Kept.alloc | apply Kept.drewN | apply Kept.drew | refine Kept.setCell ?_ (.inr GW171.out) _ | refine Kept.setCell ?_ (.inr GW175.out) _) | exact HK.out)) hb)
              have n5_ := am_ (below_step (bx2 HB.out GE171.out GE175.out) hb)
              clear HO_2
              clear BK171
              clear BK175
              clear HK
              clear HB
              have HO_2 := n0_
              have HO185 := n1_
              have BK171 := n2_
              have BK175 := n3_
              have HK := n4_
              have HB := n5_
              clear n0_ n1_ n2_ n3_ n4_ n5_
              clear hb ho42
              refine hK.out _ _ ⟨(blk_cell BK171.out 0).trans rfl, (blk_cell BK171.out 1).trans rfl, (blk_cell BK175.out 0).trans rfl, (blk_cell BK175.out 1).trans rfl⟩ (fun hHeld => ?_)
              clear hK K
              refine norm_ (a' := ?_) ?_ ?_
              rotate_left
              ·show Act.put _ (some 43) _ = _
               simp only [Act.put, sA_, sZ_, sS_, i64_w, i32_w]
               rfl
              refine one_ (i := 2) (N := some 39) #[true, true, true, true, false, true, true, false, false, false, false, false, false, false] rfl rfl (one_of HT_.out (by kernel_rfl)) (by decide) (fun K hK => ?_)
              refine Kd.R_lit_step k54 _ 54 ?hg (N := 39) ?hd (xs := ([] : List (S54))) (inner := []) (ok := fun _ => True) (okp := fun _ => True) ?hr ?hp (fun _ hk => hk) trivial (Below.refl _ _) (Nat.le_refl _) (by simp) ?_; (case hd => rfl); (case hg => rfl); (case hr => first | (go_simp; done) | (go_simp; rfl)); (case hp => exact (Reps.none _ _))
              intro v178 w43 ho44 hb hg_ hnew_
              clear hg_ hnew_
              (first | rw [← Ny177.out] at ho44 | (simp only [Int.reduceToNat] at ho44; rw [← Ny177.out] at ho44))
              have n0_ := am_ (Kd.R_elder' (rx_ HO_2.out) (Kd.R_base ho44) hb)
              have n1_ := am_ (Kd.R_elder' (rx_ HO185.out) (Kd.R_base ho44) hb)
              have n2_ := am_ (Kd.R_lower (Kd.R_newB (Kd.R_new' (Kd.R_new' (Kd.R_newM (M := fun k_ => (P2_ k_ ∨ w.heap.size ≤ k_)) ho44 (by first | exact HK.out.1 | exact (show Kept w _ (fun k_ => P2_ k_) from by repeat (first | (with_reducible first | exact HK.out | apply Kept.alloc | apply Kept.drewN | apply Kept.drew | refine Kept.setCell ?_ (.inr GW171.out) _ | refine Kept.setCell ?_ (.inr GW175.out) _) | exact HK.out)).1) (fun k_ h_ => .inr h_)) (Kd.R_lt (rx_ HO_2.out))) (Kd.R_lt (rx_ HO185.out))) (g := gb175) (o := .cells #[.int .i64 x8_1, .int .i64 x9_2] 54 (0, 0)) (kx_ BK175.out)) (below_size (bx2 HB.out GE171.out GE175.out)))
              have n3_ := am_ (blk_below (g := gb171) (o := .cells #[.int .i64 a0_0, .string a0_1] 28 (0, 0)) (kx_ BK171.out) hb)
              have n4_ := am_ (blk_below (g := gb175) (o := .cells #[.int .i64 x8_1, .int .i64 x9_2] 54 (0, 0)) (kx_ BK175.out) hb)
              have n5_ := am_ (Kept.below (S := (fun k_ => P2_ k_)) (by repeat (first | (with_reducible first | exact HK.out | apply Kept.alloc | apply Kept.drewN | apply Kept.drew | refine Kept.setCell ?_ (.inr GW171.out) _ | refine Kept.setCell ?_ (.inr GW175.out) _) | exact HK.out)) hb)
              have n6_ := am_ (below_step (bx2 HB.out GE171.out GE175.out) hb)
              clear HO_2
              clear HO185
              clear BK171
              clear BK175
              clear HK
              clear HB
              have HO_2 := n0_
              have HO185 := n1_
              have HO179 := n2_
              have BK171 := n3_
              have BK175 := n4_
              have HK := n5_
              have HB := n6_
              clear n0_ n1_ n2_ n3_ n4_ n5_ n6_
              clear hb ho44
              refine hK.out _ _ ⟨(blk_cell BK171.out 0).trans rfl, (blk_cell BK171.out 1).trans rfl, (blk_cell BK175.out 0).trans rfl, (blk_cell BK175.out 1).trans rfl⟩ (fun hHeld => ?_)
              clear hK K
              refine norm_ (a' := ?_) ?_ ?_
              rotate_left
              ·show Act.put _ (some 39) _ = _
               simp only [Act.put, sA_, sZ_, sS_, i64_w, i32_w]
               rfl
              refine one_ (i := 4) (N := some 41) #[true, true, true, true, true, true, true, false, false, false, false, false, false, false] rfl rfl (one_of HT_.out (by kernel_rfl)) (by decide) (fun K hK => ?_)
              refine Kd.R_append_rows_step k54 (w0 := w0) w0.heap.size (by rfl) (.tmp 39) (.tmp 40) 25 54 (.agg #[(.int .i64 0), (.int .i64 0)]) 16 rfl Try.underlying25 info54 rfl (by decide) (by omega) v178 y177 l2 _ _ _ (fun k_ => (P2_ k_ ∨ w.heap.size ≤ k_) ∧ some k_ ≠ (.slice Ao9 l2.length co9 : Value).ownBlock ∧ some k_ ≠ (v184 : Value).ownBlock ∧ k_ ≠ gb175) (fun _ => False) rfl rfl ?aO ?aR (fun _ _ h => h) (fun _ h => h.elim) ?aF ?aB ?aS ?aL ?_
              (case aR => repeat (first | exact (Kd.R_reads' HO_2.out).2.2 | (with_reducible refine Kd.C_alloc ?_ _) | (with_reducible refine Kd.C_drewN ?_ _) | (with_reducible refine Kd.C_drew ?_)))
              (case aB => exact (bx2 HB.out GE171.out GE175.out))
              (case aF => exact (fun k_ hk => ⟨(.inr (Nat.le_trans (by first | exact HK.out.1 | exact (show Kept w _ (fun k_ => P2_ k_) from by repeat (first | (with_reducible first | exact HK.out | apply Kept.alloc | apply Kept.drewN | apply Kept.drew | refine Kept.setCell ?_ (.inr GW171.out) _ | refine Kept.setCell ?_ (.inr GW175.out) _) | exact HK.out)).1) hk)), Kd.fresh' (Kd.R_lt (rx_ HO_2.out)) k_ hk, Kd.fresh' (Kd.R_lt (rx_ HO185.out)) k_ hk, Kd.freshB (g := gb175) (o := .cells #[.int .i64 x8_1, .int .i64 x9_2] 54 (0, 0)) (kx_ BK175.out) k_ hk⟩))
              (case aO => exact (by (with_reducible repeat (first | apply Kd.R_alloc | apply Kd.R_drewN | apply Kd.R_drew)); exact Kd.R_mono HO179.out (fun _ hk => ⟨hk.1.1.1.1, ⟨hk.1.1.2, ⟨hk.1.2, hk.2⟩⟩⟩)))
              (case aS => exact (below_size (bx2 HB.out GE171.out GE175.out)))
              (case aL => have := LMc15.out; omega)
              intro v181 w45 ho hb hg hat
              rw [← Ny180.out] at ho
              have n0_ := am_ (Kd.R_after (ok := (fun k_ => (P2_ k_ ∨ w.heap.size ≤ k_) ∧ some k_ ≠ (v184 : Value).ownBlock ∧ k_ ≠ gb175)) (by (with_reducible repeat (first | apply Kd.R_alloc | apply Kd.R_drewN | apply Kd.R_drew)); exact Kd.R_mono HO_2.out (fun _ hk => ⟨⟨hk.1.1.1, ⟨hk.1.2, hk.1.1.2⟩⟩, hk.2⟩)) hg hat)
              have n1_ := am_ (blk_grown (g := gb171) (o := .cells #[.int .i64 a0_0, .string a0_1] 28 (0, 0)) (kx_ BK171.out) hg (Kd.R_ne HO179.out BK171.out (by decide)))
              have n2_ := am_ (blk_grown (g := gb175) (o := .cells #[.int .i64 x8_1, .int .i64 x9_2] 54 (0, 0)) (kx_ BK175.out) hg (Kd.R_away HO179.out (fun _ hk => hk.2)))
              have n3_ := am_ (Kd.R_after (ok := (fun k_ => (P2_ k_ ∨ w.heap.size ≤ k_) ∧ some k_ ≠ (.slice Ao9 l2.length co9 : Value).ownBlock ∧ k_ ≠ gb175)) (by (with_reducible repeat (first | apply Kd.R_alloc | apply Kd.R_drewN | apply Kd.R_drew)); exact Kd.R_mono HO185.out (fun _ hk => ⟨⟨hk.1.1.1.1, ⟨hk.1.1.2, hk.1.2⟩⟩, hk.2⟩)) hg hat)
              have n4_ := am_ (hb)
              have n5_ := am_ (Kept.of_grown (S := (fun k_ => P2_ k_)) hg (by repeat (first | (with_reducible first | exact HK.out | apply Kept.alloc | apply Kept.drewN | apply Kept.drew | refine Kept.setCell ?_ (.inr GW171.out) _ | refine Kept.setCell ?_ (.inr GW175.out) _) | exact HK.out)) (fun k_ e_ => (HO179.out.1 k_ e_).1.1.1.1))
              have n6_ := am_ (ho)
              clear HO_2
              clear BK171
              clear BK175
              clear HO185
              clear HB
              clear HK
              clear HO179
              have HO_2 := n0_
              have BK171 := n1_
              have BK175 := n2_
              have HO185 := n3_
              have HB := n4_
              have HK := n5_
              have HO182 := n6_
              clear n0_ n1_ n2_ n3_ n4_ n5_ n6_
              clear ho hb hg hat
              refine hK.out _ _ ⟨(blk_cell BK171.out 0).trans rfl, (blk_cell BK171.out 1).trans rfl, (blk_cell BK175.out 0).trans rfl, (blk_cell BK175.out 1).trans rfl⟩ (fun hHeld => ?_)
              clear hK K
              refine norm_ (a' := ?_) ?_ ?_
              rotate_left
              ·show Act.put _ (some 41) _ = _
               simp only [Act.put, sA_, sZ_, sS_, i64_w, i32_w]
               rfl
              exact norm_ (by simp only [putAll, Act.put, sA_, sZ_, sS_]) (hCont (v178, v181, v184) _ ⟨hHeld, (by (with_reducible repeat (first | apply Kd.R_alloc | apply Kd.R_drewN | apply Kd.R_drew)); exact Kd.R_mono HO182.out (fun _ hk => ⟨hk.1, ⟨hk.2.2.1, ⟨hk.2.1, hk.2.2.2⟩⟩⟩)), (by (with_reducible repeat (first | apply Kd.R_alloc | apply Kd.R_drewN | apply Kd.R_drew)); exact Kd.R_mono HO185.out (fun _ hk => ⟨hk.1.1, ⟨hk.2, ⟨hk.1.2.1, hk.1.2.2⟩⟩⟩)), (by (with_reducible repeat (first | apply Kd.R_alloc | apply Kd.R_drewN | apply Kd.R_drew)); exact Kd.R_mono HO_2.out (fun _ hk => ⟨hk.1.1, ⟨hk.2, ⟨hk.1.2.1, hk.1.2.2⟩⟩⟩)), (kx_ BK171.out), (kx_ BK175.out), (by repeat (first | (with_reducible first | exact HK.out | apply Kept.alloc | apply Kept.drewN | apply Kept.drew | refine Kept.setCell ?_ (.inr GW171.out) _ | refine Kept.setCell ?_ (.inr GW175.out) _) | exact HK.out)), (bx2 HB.out GE171.out GE175.out)⟩)
            rintro ⟨v178, v181, v184⟩ w46 ⟨hS_, h0_, h1_, h2_, h3_, h4_, h5_, h6_⟩
            have n0_ : Aside0 (Kd.R k54 54 w46 w0.heap.size (fun k_ => (P2_ k_ ∨ w.heap.size ≤ k_) ∧ some k_ ≠ (v184 : Value).ownBlock ∧ some k_ ≠ (.slice Ao9 l2.length co9 : Value).ownBlock ∧ k_ ≠ gb175) v181 y180) := ⟨h0_⟩
            have n1_ : Aside0 (Kd.R k54 54 w46 w0.heap.size (fun k_ => (P2_ k_ ∨ w.heap.size ≤ k_) ∧ some k_ ≠ (v181 : Value).ownBlock ∧ some k_ ≠ (.slice Ao9 l2.length co9 : Value).ownBlock ∧ k_ ≠ gb175) v184 y183) := ⟨h1_⟩
            have n2_ : Aside0 (Kd.R k54 54 w46 w0.heap.size (fun k_ => (P2_ k_ ∨ w.heap.size ≤ k_) ∧ some k_ ≠ (v181 : Value).ownBlock ∧ some k_ ≠ (v184 : Value).ownBlock ∧ k_ ≠ gb175) (.slice Ao9 l2.length co9) l2) := ⟨h2_⟩
            have n3_ : Aside0 (w46.heap[gb171]? = some (.cells #[.int .i64 a0_0, .string a0_1] 28 (0, 0))) := ⟨h3_⟩
            have n4_ : Aside0 (w46.heap[gb175]? = some (.cells #[.int .i64 x8_1, .int .i64 x9_2] 54 (0, 0))) := ⟨h4_⟩
            have n5_ : Aside0 (Kept w w46 (fun k_ => P2_ k_)) := ⟨h5_⟩
            have n6_ : Aside0 (Below w0.heap.size w0 w46) := ⟨h6_⟩
            clear HO_2
            clear BK171
            clear BK175
            clear HK
            clear HB
            clear h0_ h1_ h2_ h3_ h4_ h5_ h6_
            have HO182 := n0_
            have HO185 := n1_
            have HO_2 := n2_
            have BK171 := n3_
            have BK175 := n4_
            have HK := n5_
            have HB := n6_
            clear n0_ n1_ n2_ n3_ n4_ n5_ n6_
            have hHeld : w46.cell? ⟨gb171, 0, none⟩ = some (.int .i64 a0_0) ∧ w46.cell? ⟨gb171, 1, none⟩ = some (.string a0_1) ∧ w46.cell? ⟨gb175, 0, none⟩ = some (.int .i64 x8_1) ∧ w46.cell? ⟨gb175, 1, none⟩ = some (.int .i64 x9_2) := hS_
            obtain ⟨Ao48, co48, eo48⟩ := Kd.R_slice HO185.out
            (first | subst eo48 | (injection eo48 with f1_ f2_ f3_; have f4_ := f1_.symm; have f5_ := f3_.symm; clear f1_ f2_ f3_; subst f4_; subst f5_))
            refine norm_ (a' := ?_) ?_ ?_
            rotate_left
            ·simp only [putAll, Act.put, sA_, sZ_, sS_]
             rfl
            refine one_ (i := 7) (N := some 44) #[true, true, true, true, true, true, true, true, false, false, false, false, false, false] rfl rfl (one_of HT_.out (by kernel_rfl)) (by decide) (fun K hK => ?_)
            refine Kd.R_append_rows_step k54 (w0 := w0) w0.heap.size (by rfl) (.tmp 41) (.tmp 43) 25 54 (.agg #[(.int .i64 0), (.int .i64 0)]) 16 rfl Try.underlying25 info54 rfl (by decide) (by omega) v181 y180 y183 _ _ _ (fun k_ => (P2_ k_ ∨ w.heap.size ≤ k_) ∧ some k_ ≠ (.slice Ao9 l2.length co9 : Value).ownBlock ∧ some k_ ≠ (.slice Ao48 y183.length co48 : Value).ownBlock ∧ k_ ≠ gb175) (fun _ => False) rfl rfl ?aO ?aR (fun _ _ h => h) (fun _ h => h.elim) ?aF ?aB ?aS ?aL ?_
            (case aR => repeat (first | exact (Kd.R_reads' HO185.out).2.2 | (with_reducible refine Kd.C_alloc ?_ _) | (with_reducible refine Kd.C_drewN ?_ _) | (with_reducible refine Kd.C_drew ?_)))
            (case aB => exact (bx2 HB.out GE171.out GE175.out))
            (case aF => exact (fun k_ hk => ⟨(.inr (Nat.le_trans (by first | exact HK.out.1 | exact (show Kept w _ (fun k_ => P2_ k_) from by repeat (first | (with_reducible first | exact HK.out | apply Kept.alloc | apply Kept.drewN | apply Kept.drew | refine Kept.setCell ?_ (.inr GW171.out) _ | refine Kept.setCell ?_ (.inr GW175.out) _) | exact HK.out)).1) hk)), Kd.fresh' (Kd.R_lt (rx_ HO_2.out)) k_ hk, Kd.fresh' (Kd.R_lt (rx_ HO185.out)) k_ hk, Kd.freshB (g := gb175) (o := .cells #[.int .i64 x8_1, .int .i64 x9_2] 54 (0, 0)) (kx_ BK175.out) k_ hk⟩))
            (case aO => exact (by (with_reducible repeat (first | apply Kd.R_alloc | apply Kd.R_drewN | apply Kd.R_drew)); exact Kd.R_mono HO182.out (fun _ hk => ⟨hk.1, ⟨hk.2.2.1, ⟨hk.2.1, hk.2.2.2⟩⟩⟩)))
            (case aS => exact (below_size (bx2 HB.out GE171.out GE175.out)))
            (case aL => have := LMc16.out; omega)
            intro v187 w47 ho hb hg hat
            rw [← Ny186.out] at ho
            have n0_ := am_ (Kd.R_after (ok := (fun k_ => (P2_ k_ ∨ w.heap.size ≤ k_) ∧ some k_ ≠ (.slice Ao48 y183.length co48 : Value).ownBlock ∧ k_ ≠ gb175)) (by (with_reducible repeat (first | apply Kd.R_alloc | apply Kd.R_drewN | apply Kd.R_drew)); exact Kd.R_mono HO_2.out (fun _ hk => ⟨⟨hk.1, ⟨hk.2.2.1, hk.2.2.2⟩⟩, hk.2.1⟩)) hg hat)
            have n1_ := am_ (blk_grown (g := gb171) (o := .cells #[.int .i64 a0_0, .string a0_1] 28 (0, 0)) (kx_ BK171.out) hg (Kd.R_ne HO182.out BK171.out (by decide)))
            have n2_ := am_ (blk_grown (g := gb175) (o := .cells #[.int .i64 x8_1, .int .i64 x9_2] 54 (0, 0)) (kx_ BK175.out) hg (Kd.R_away HO182.out (fun _ hk => hk.2.2.2)))
            have n3_ := am_ (Kd.R_after (ok := (fun k_ => (P2_ k_ ∨ w.heap.size ≤ k_) ∧ some k_ ≠ (.slice Ao9 l2.length co9 : Value).ownBlock ∧ k_ ≠ gb175)) (by (with_reducible repeat (first | apply Kd.R_alloc | apply Kd.R_drewN | apply Kd.R_drew)); exact Kd.R_mono HO185.out (fun _ hk => ⟨⟨hk.1, ⟨hk.2.2.1, hk.2.2.2⟩⟩, hk.2.1⟩)) hg hat)
            have n4_ := am_ (hb)
            have n5_ := am_ (Kept.of_grown (S := (fun k_ => P2_ k_)) hg (by repeat (first | (with_reducible first | exact HK.out | apply Kept.alloc | apply Kept.drewN | apply Kept.drew | refine Kept.setCell ?_ (.inr GW171.out) _ | refine Kept.setCell ?_ (.inr GW175.out) _) | exact HK.out)) (fun k_ e_ => (HO182.out.1 k_ e_).1))
            have n6_ := am_ (ho)
            clear HO_2
            clear BK171
            clear BK175
            clear HO185
            clear HB
            clear HK
            clear HO182
            have HO_2 := n0_
            have BK171 := n1_
            have BK175 := n2_
            have HO185 := n3_
            have HB := n4_
            have HK := n5_
            have HO188 := n6_
            clear n0_ n1_ n2_ n3_ n4_ n5_ n6_
            clear ho hb hg hat
            obtain ⟨Ao49, co49, eo49⟩ := Kd.R_slice HO188.out
            (first | subst eo49 | (injection eo49 with f1_ f2_ f3_; have f4_ := f1_.symm; have f5_ := f3_.symm; clear f1_ f2_ f3_; subst f4_; subst f5_))
            refine hK.out _ _ ⟨(blk_cell BK171.out 0).trans rfl, (blk_cell BK171.out 1).trans rfl, (blk_cell BK175.out 0).trans rfl, (blk_cell BK175.out 1).trans rfl⟩ (fun hHeld => ?_)
            clear hK K
            refine norm_ (a' := ?_) ?_ ?_
            rotate_left
            ·show Act.put _ (some 44) _ = _
             simp only [Act.put, sA_, sZ_, sS_, i64_w, i32_w]
             rfl
            refine one_ (i := 8) (N := some 45) #[true, true, true, true, true, true, true, true, true, false, false, false, false, false] rfl rfl (one_of HT_.out (by kernel_rfl)) (by decide) (fun K hK => ?_)
            refine goes_ Try.func31 (by kernel_rfl) rfl #[.agg #[.int .i64 a0_0, .string a0_1], .int .i64 a1, .slice Ao49 y186.length co49] (by rfl) rfl rfl (by (try simp only [List.map_toArray, List.map_cons, List.map_nil]); first | done | rfl | (simp only [List.length_drop, List.length_take]; rfl)) ?_
            with_reducible refine (ih k2 (by have := HK1.out; have := HK2.out; omega) a0_0 a0_1 a1 (fun k_ => some k_ = (.slice Ao49 y186.length co49 : Value).ownBlock) (.slice Ao49 y186.length co49) y186 t189 false w0 _ ?side1 ?side2 A17.out).mono ?_
            (case side1 => repeat (first | (with_reducible first | exact HB.out | apply below_alloc | apply pw_below_drewN | apply below_drew1 | refine below_set ?_ GE171.out | refine below_set ?_ GE175.out) | exact HB.out))
            (case side2 => exact Kd.R_tight rfl HO188.out)
            rintro e w50 ⟨v190, rfl, ho0, hb, hkp⟩
            refine ⟨_, rfl, ?_⟩
            have n0_ := am_ (Kd.R_mono (ok' := fun k_ => (P2_ k_ ∨ w.heap.size ≤ k_) ∧ some k_ ≠ (.slice Ao48 y183.length co48 : Value).ownBlock ∧ k_ ≠ gb175 ∧ some k_ ≠ (v190 : Value).ownBlock) (Kd.R_keptB (HO_2.out) hkp (fun k_ hk_ hs_ => (hk_.2) hs_)) (fun k_ hk_ => ⟨hk_.1.1.1, hk_.1.1.2.1, hk_.1.1.2.2, fun e_ => Or.elim (ho0.1 k_ e_.symm) (fun hs_ => hk_.2.1 hs_) (fun hn_ => Nat.not_le.2 hk_.2.2 hn_)⟩))
            have n1_ := am_ (blk_kept (kx_ BK171.out) hkp (fun hs_ => (fun e_ => (Kd.R_ne HO188.out BK171.out (by decide)) e_) hs_))
            have n2_ := am_ (blk_kept (kx_ BK175.out) hkp (fun hs_ => (fun e_ => (Kd.R_away HO188.out (fun _ hk => hk.2.2.2)) e_) hs_))
            have n3_ := am_ (Kd.R_mono (ok' := fun k_ => (P2_ k_ ∨ w.heap.size ≤ k_) ∧ some k_ ≠ (.slice Ao9 l2.length co9 : Value).ownBlock ∧ k_ ≠ gb175 ∧ some k_ ≠ (v190 : Value).ownBlock) (Kd.R_keptB (HO185.out) hkp (fun k_ hk_ hs_ => (hk_.2) hs_)) (fun k_ hk_ => ⟨hk_.1.1.1, hk_.1.1.2.1, hk_.1.1.2.2, fun e_ => Or.elim (ho0.1 k_ e_.symm) (fun hs_ => hk_.2.1 hs_) (fun hn_ => Nat.not_le.2 hk_.2.2 hn_)⟩))
            have n4_ := am_ (Kd.R_mono (ok' := fun k_ => (P2_ k_ ∨ w.heap.size ≤ k_) ∧ some k_ ≠ (.slice Ao9 l2.length co9 : Value).ownBlock ∧ some k_ ≠ (.slice Ao48 y183.length co48 : Value).ownBlock ∧ k_ ≠ gb175) ho0 (fun k_ hk_ => ⟨Or.elim hk_ (fun hs_ => (HO188.out.1 k_ (hs_).symm).1) (fun hn_ => (.inr (Nat.le_trans (by first | exact HK.out.1 | exact (show Kept w _ (fun k_ => P2_ k_) from by repeat (first | (with_reducible first | exact HK.out | apply Kept.alloc | apply Kept.drewN | apply Kept.drew | refine Kept.setCell ?_ (.inr GW171.out) _ | refine Kept.setCell ?_ (.inr GW175.out) _) | exact HK.out)).1) hn_))), Or.elim hk_ (fun hs_ => fun e_ => (((HO_2.out).1 k_ e_.symm).2) hs_) (fun hn_ => (Kd.fresh' (Kd.R_lt (rx_ HO_2.out)) k_ hn_)), Or.elim hk_ (fun hs_ => fun e_ => (((HO185.out).1 k_ e_.symm).2) hs_) (fun hn_ => (Kd.fresh' (Kd.R_lt (rx_ HO185.out)) k_ hn_)), Or.elim hk_ (fun hs_ => fun e_ => (Kd.R_away HO188.out (fun _ hk => hk.2.2.2)) (by rw [← e_]; exact hs_)) (fun hn_ => (Kd.freshB (g := gb175) (o := .cells #[.int .i64 x8_1, .int .i64 x9_2] 54 (0, 0)) (kx_ BK175.out) k_ hn_))⟩))
            have n5_ := am_ (Kept.then_ (S := (fun k_ => P2_ k_)) (by repeat (first | (with_reducible first | exact HK.out | apply Kept.alloc | apply Kept.drewN | apply Kept.drew | refine Kept.setCell ?_ (.inr GW171.out) _ | refine Kept.setCell ?_ (.inr GW175.out) _) | exact HK.out)) hkp (fun k_ hs_ => (fun e_ => (HO188.out.1 k_ e_.symm).1) hs_))
            have n6_ := am_ (hb)
            clear HO_2
            clear BK171
            clear BK175
            clear HO185
            clear HK
            clear HB
            clear HO188
            have HO_2 := n0_
            have BK171 := n1_
            have BK175 := n2_
            have HO185 := n3_
            have HO191 := n4_
            have HK := n5_
            have HB := n6_
            clear n0_ n1_ n2_ n3_ n4_ n5_ n6_
            (try clear hb)
            (try clear hkp)
            (try clear ho0)
            refine hK.out _ _ ⟨(blk_cell BK171.out 0).trans rfl, (blk_cell BK171.out 1).trans rfl, (blk_cell BK175.out 0).trans rfl, (blk_cell BK175.out 1).trans rfl⟩ (fun hHeld => ?_)
            clear hK K
            refine norm_ (a' := ?_) ?_ ?_
            rotate_left
            ·show Act.put _ (some 45) _ = _
             simp only [Act.put, sA_, sZ_, sS_, i64_w, i32_w]
             rfl
            refine pure_ (i := 9) (N := some 36) (v := ?_) (a' := ?_) #[true, true, true, true, true, true, true, true, true, true, false, false, false, false] rfl rfl (any_of HT_.out (by kernel_rfl)) (fun _ _ _ h => h) (Or.inl ⟨by rfl, ?_⟩) ?_ ?_
            rotate_left
            ·intro w'
             go_simp
             with_reducible rfl
            rotate_left
            ·simp only [Act.put, sA_, sZ_, sS_, i64_w, i32_w]
             rfl
            refine pure_ (i := 10) (N := some 46) (v := ?_) (a' := ?_) #[true, true, true, true, true, true, true, true, true, true, true, false, false, false] rfl rfl (any_of HT_.out (by kernel_rfl)) (fun _ _ _ h => h) (Or.inl ⟨by rfl, ?_⟩) ?_ ?_
            rotate_left
            ·intro w'
             go_simp
             with_reducible rfl
            rotate_left
            ·simp only [Act.put, sA_, sZ_, sS_, i64_w, i32_w]
             rfl
            refine pure_ (i := 11) (N := some 47) (v := ?_) (a' := ?_) #[true, true, true, true, true, true, true, true, true, true, true, true, false, false] rfl rfl (any_of HT_.out (by kernel_rfl)) (fun _ _ _ h => h) (Or.inl ⟨by rfl, ?_⟩) ?_ ?_
            rotate_left
            ·intro w'
             go_simp
             with_reducible rfl
            rotate_left
            ·simp only [Act.put, sA_, sZ_, sS_, i64_w, i32_w]
             rfl
            refine pure_ (i := 12) (N := some 11) (v := ?_) (a' := ?_) #[true, true, true, true, true, true, true, true, true, true, true, true, true, false] rfl rfl (any_of HT_.out (by kernel_rfl)) (fun _ _ _ h => h) (Or.inl ⟨by rfl, ?_⟩) ?_ ?_
            rotate_left
            ·intro w'
             go_simp
             with_reducible rfl
            rotate_left
            ·simp only [Act.put, sA_, sZ_, sS_, i64_w, i32_w]
             rfl
            refine pure_ (i := 13) (N := some 12) (v := ?_) (a' := ?_) #[true, true, true, true, true, true, true, true, true, true, true, true, true, true] rfl rfl (any_of HT_.out (by kernel_rfl)) (fun _ _ _ h => h) (Or.inl ⟨by rfl, ?_⟩) ?_ ?_
            rotate_left
            ·intro w'
             go_simp
             with_reducible rfl
            rotate_left
            ·simp only [Act.put, sA_, sZ_, sS_, i64_w, i32_w]
             rfl
            refine done_ (done_of HT_.out (by kernel_rfl)) ?_
            try go_wp2
            go_roundg k2
            case measure => have := HK1.out; have := HK2.out; omega
            case rel => exact ⟨(wrap64 (x9_2 + 1)), (by first | rfl | (simp; done) | (simp [*]; done)), H', ⟨by have := HK1.out; have := HK2.out; omega⟩, ⟨by (with_reducible repeat (first | apply Kd.R_alloc | apply Kd.R_drewN | apply Kd.R_drew)); exact Kd.R_mono HO_2.out (fun _ hk => hk.1)⟩, ⟨kx_ BK171.out⟩, ⟨by repeat (first | (with_reducible first | exact HK.out | apply Kept.alloc | apply Kept.drewN | apply Kept.drew | refine Kept.setCell ?_ (.inr GW171.out) _ | refine Kept.setCell ?_ (.inr GW175.out) _) | exact HK.out)⟩, ⟨bx2 HB.out GE171.out GE175.out⟩⟩
          ·rw [if_neg c16] at H
           exact absurd H (by simp)
         ·rw [if_neg c15] at H
          exact absurd H (by simp)
        ·replace c14 := Bool.eq_false_iff.mpr c14
         subst c14
         have H1 : (spec_l23Place.l1 k2 a1 l2 x8_1 (wrap64 (x9_2 + 1)) a0_0 a0_1) = some (r1, r2) := by rw [if_neg (show ¬ (false = true) by decide)] at H; exact H
         clear H
         have H := H1
         clear H1
         have H' := am_ H
         clear H
         go_wp2_with (first | ((with_reducible refine gate_dst (N := 10) rfl ?_); refine box_event ?hg (N := 10) ?hd (cs := #[.int .i64 0, .int .i64 0]) (t := 54) ?hr ?_; (case hd => rfl); (case hg => rfl); (case hr => first | (go_simp; done) | (go_simp; rfl)); intro gb175 hg w51 hbox hb; have n0_ := am_ (Kd.R_below (Kd.R_elderB (rx_ HO_2.out) gb175 (Nat.le_of_eq hg.symm)) hb); have n1_ := am_ (blk_below (g := gb171) (o := .cells #[.int .i64 a0_0, .string a0_1] 28 (0, 0)) (kx_ BK171.out) hb); have n2_ := am_ (Kept.below (S := (fun k_ => P2_ k_)) (by repeat (first | (with_reducible first | exact HK.out | apply Kept.alloc | apply Kept.drewN | apply Kept.drew | refine Kept.setCell ?_ (.inr GW171.out) _) | exact HK.out)) hb); have n3_ := am_ (below_step (bx1 HB.out GE171.out) hb); have n4_ := am_ (hbox); have n5_ := am_ ((by rw [hg]; exact (by first | exact HK.out.1 | exact (show Kept w _ (fun k_ => P2_ k_) from by repeat (first | (with_reducible first | exact HK.out | apply Kept.alloc | apply Kept.drewN | apply Kept.drew | refine Kept.setCell ?_ (.inr GW171.out) _) | exact HK.out)).1) : w.heap.size ≤ gb175)); have n6_ := am_ ((by rw [hg]; exact (below_size (bx1 HB.out GE171.out)) : w0.heap.size ≤ gb175)); have n7_ := am_ ((by rw [hg]; exact Nat.ne_of_lt (blk_lt (g := gb171) (o := .cells #[.int .i64 a0_0, .string a0_1] 28 (0, 0)) (kx_ BK171.out)) : gb171 ≠ gb175)); have n8_ := am_ ((by rw [hg]; exact Nat.ne_of_gt (blk_lt (g := gb171) (o := .cells #[.int .i64 a0_0, .string a0_1] 28 (0, 0)) (kx_ BK171.out)) : gb175 ≠ gb171)); clear HO_2; clear BK171; clear HK; clear HB; have HO_2 := n0_; have BK171 := n1_; have HK := n2_; have HB := n3_; have BK175 := n4_; have GW175 := n5_; have GE175 := n6_; have NB171_175 := n7_; have NB175_171 := n8_; clear n0_ n1_ n2_ n3_ n4_ n5_ n6_ n7_ n8_; clear hb hbox hg; have hnb52 := NB175_171.out; have hnc52 := NB171_175.out; have hcz53_0 : w51.cell? ⟨gb175, 0, none⟩ = some (.int .i64 0) := (blk_cell BK175.out 0).trans rfl; have hcz53_1 : w51.cell? ⟨gb175, 1, none⟩ = some (.int .i64 0) := (blk_cell BK175.out 1).trans rfl; have hfz53_0 := blk_frozen BK175.out 0; have hfz53_1 := blk_frozen BK175.out 1; have hcz54_0 : w51.cell? ⟨gb171, 0, none⟩ = some (.int .i64 a0_0) := (blk_cell BK171.out 0).trans rfl; have hcz54_1 : w51.cell? ⟨gb171, 1, none⟩ = some (.string a0_1) := (blk_cell BK171.out 1).trans rfl; have hfz54_0 := blk_frozen BK171.out 0; have hfz54_1 := blk_frozen BK171.out 1) | ((with_reducible refine gate_callee (f := 51) rfl ?_); refine goesL_ (some 35) rfl rfl Try.func51 (by kernel_rfl) rfl #[.agg #[.int .i64 a0_0, .string a0_1], .slice Ao9 l2.length co9, .agg #[.int .i64 x8_1, .int .i64 x9_2]] rfl (by (try simp only [List.map_toArray, List.map_cons, List.map_nil]); first | done | rfl | (simp only [List.length_drop, List.length_take]; rfl)) ?_; (with_reducible refine (spec_l23Fits.calls k2 a0_0 a0_1 _ _ l2 x8_1 x9_2 false _ ?side1 ?side2 A13.out).mono ?_); (case side1 => refine (Kd.R_reads' (e := 54) (base := w0.heap.size) (ok := fun k_ => ((P2_ k_ ∨ w.heap.size ≤ k_) ∧ k_ ≠ gb175)) (n := l2.length) (c := co9) ?_).2.2; exact (by (with_reducible repeat (first | apply Kd.R_alloc | apply Kd.R_drewN | apply Kd.R_drew)); exact (Kd.R_mono (Kd.R_far (p := ⟨gb175, 1, none⟩) (Kd.R_far (p := ⟨gb175, 0, none⟩) (Kd.R_mono HO_2.out (fun k_ hk => (⟨hk, hk.2⟩ : _ ∧ k_ ≠ gb175))) (fun _ hk => hk.2) (.int .i64 x8_1)) (fun _ hk => hk.2) (.int .i64 x9_2)) (fun _ h_ => h_.1)))); (case side2 => exact (Kd.R_reads' HO_2.out).2.1); rintro e w55 ⟨rfl, hb⟩; refine ⟨_, rfl, ?_⟩; have n0_ := am_ (Kd.R_below (by (with_reducible repeat (first | apply Kd.R_alloc | apply Kd.R_drewN | apply Kd.R_drew)); exact (Kd.R_mono (Kd.R_far (p := ⟨gb175, 1, none⟩) (Kd.R_far (p := ⟨gb175, 0, none⟩) (Kd.R_mono HO_2.out (fun k_ hk => (⟨hk, hk.2⟩ : _ ∧ k_ ≠ gb175))) (fun _ hk => hk.2) (.int .i64 x8_1)) (fun _ hk => hk.2) (.int .i64 x9_2)) (fun _ h_ => h_.1))) hb); have n1_ := am_ (blk_below (g := gb171) (o := .cells #[.int .i64 a0_0, .string a0_1] 28 (0, 0)) (by (with_reducible repeat (first | refine blk_drewN ?_ _ | refine blk_drew ?_ | refine blk_alloc ?_ _)); refine blk_far ?_ NB171_175.out _; (with_reducible repeat (first | refine blk_drewN ?_ _ | refine blk_drew ?_ | refine blk_alloc ?_ _)); refine blk_far ?_ NB171_175.out _; (with_reducible repeat (first | refine blk_drewN ?_ _ | refine blk_drew ?_ | refine blk_alloc ?_ _)); exact BK171.out) hb); have n2_ := am_ (blk_below (g := gb175) (o := .cells #[.int .i64 x8_1, .int .i64 x9_2] 54 (0, 0)) (by (with_reducible repeat (first | refine blk_drewN ?_ _ | refine blk_drew ?_ | refine blk_alloc ?_ _)); refine blk_put (cs := #[.int .i64 x8_1, .int .i64 0]) ?_ 1 _ rfl; (with_reducible repeat (first | refine blk_drewN ?_ _ | refine blk_drew ?_ | refine blk_alloc ?_ _)); refine blk_put (cs := #[.int .i64 0, .int .i64 0]) ?_ 0 _ rfl; (with_reducible repeat (first | refine blk_drewN ?_ _ | refine blk_drew ?_ | refine blk_alloc ?_ _)); exact BK175.out) hb); have n3_ := am_ (Kept.below (S := (fun k_ => P2_ k_)) (by repeat (first | (with_reducible first | exact HK.out | apply Kept.alloc | apply Kept.drewN | apply Kept.drew | refine Kept.setCell ?_ (.inr GW171.out) _ | refine Kept.setCell ?_ (.inr GW175.out) _) | exact HK.out)) hb); have n4_ := am_ (below_step (bx2 HB.out GE171.out GE175.out) hb); clear HO_2; clear BK171; clear BK175; clear HK; clear HB; have HO_2 := n0_; have BK171 := n1_; have BK175 := n2_; have HK := n3_; have HB := n4_; clear n0_ n1_ n2_ n3_ n4_; (try clear hb); (try clear hb2); (try clear hk); (try clear hi)))
         go_roundg k2
         case measure => have := HK1.out; have := HK2.out; omega
         case rel => exact ⟨(wrap64 (x9_2 + 1)), (by first | rfl | (simp; done) | (simp [*]; done)), H', ⟨by have := HK1.out; have := HK2.out; omega⟩, ⟨by (with_reducible repeat (first | apply Kd.R_alloc | apply Kd.R_drewN | apply Kd.R_drew)); exact Kd.R_mono HO_2.out (fun _ hk => hk.1)⟩, ⟨kx_ BK171.out⟩, ⟨by repeat (first | (with_reducible first | exact HK.out | apply Kept.alloc | apply Kept.drewN | apply Kept.drew | refine Kept.setCell ?_ (.inr GW171.out) _ | refine Kept.setCell ?_ (.inr GW175.out) _) | exact HK.out)⟩, ⟨bx2 HB.out GE171.out GE175.out⟩⟩
       ·rw [if_neg c12] at H
        have c12b0 : decide (x9_2 ≤ a1) = false := decide_eq_false c12
        clear c12
        have H' := am_ H
        clear H
        go_wp2
        go_roundg k2
        case measure => have := HK1.out; have := HK2.out; omega
        case rel => exact ⟨(wrap64 (x8_1 + 1)), (by first | rfl | (simp; done) | (simp [*]; done)), H', ⟨by have := HK1.out; have := HK2.out; omega⟩, ⟨rx_ HO_2.out⟩, ⟨kx_ BK171.out⟩, ⟨by repeat (first | (with_reducible first | exact HK.out | apply Kept.alloc | apply Kept.drewN | apply Kept.drew | refine Kept.setCell ?_ (.inr GW171.out) _) | exact HK.out)⟩, ⟨bx1 HB.out GE171.out⟩⟩
    ·rw [if_neg c11] at H
     have c11b0 : decide (x8_1 ≤ a1) = false := decide_eq_false c11
     clear c11
     obtain ⟨y172, hy172⟩ : ∃ y_ : List (S54), y_ = (([] : List (S54))) := ⟨_, rfl⟩
     replace H : (some (y172, false)) = some (r1, r2) := by first | (rw [hy172]; with_reducible exact H) | (have H2_ := (Option.bind_some _ _).symm.trans H; rw [hy172]; with_reducible exact H2_) | (have H2_ := (Option.bind_some _ _).symm.trans H; with_reducible exact H2_) | with_reducible exact H | (rw [hy172]; exact H) | exact H
     have Ny172 := am_ hy172
     clear hy172
     simp only [Option.some.injEq, Prod.mk.injEq] at H
     obtain ⟨rfl, rfl⟩ := H
     go_wp2_with (first | ((with_reducible refine gate_dst (N := 50) rfl ?_); refine Kd.R_lit k54 _ 54 ?hg (N := 50) ?hd (xs := ([] : List (S54))) (inner := []) (ok := fun _ => True) (okp := fun _ => True) ?hr ?hp (fun _ hk => hk) trivial (Below.refl _ _) (Nat.le_refl _) (by simp) ?_; (case hd => rfl); (case hg => rfl); (case hr => first | (go_simp; done) | (go_simp; rfl)); (case hp => exact (Reps.none _ _)); intro v173 w56 ho57 hb hg_ hnew_; clear hg_ hnew_; (first | rw [← Ny172.out] at ho57 | (simp only [Int.reduceToNat] at ho57; rw [← Ny172.out] at ho57)); have n0_ := am_ (Kd.R_elder' (rx_ HO_2.out) (Kd.R_base ho57) hb); have n1_ := am_ (Kd.R_lower (Kd.R_new' (Kd.R_newM (M := fun k_ => (P2_ k_ ∨ w.heap.size ≤ k_)) ho57 (by first | exact HK.out.1 | exact (show Kept w _ (fun k_ => P2_ k_) from by repeat (first | (with_reducible first | exact HK.out | apply Kept.alloc | apply Kept.drewN | apply Kept.drew | refine Kept.setCell ?_ (.inr GW171.out) _) | exact HK.out)).1) (fun k_ h_ => .inr h_)) (Kd.R_lt (rx_ HO_2.out))) (below_size (bx1 HB.out GE171.out))); have n2_ := am_ (blk_below (g := gb171) (o := .cells #[.int .i64 a0_0, .string a0_1] 28 (0, 0)) (kx_ BK171.out) hb); have n3_ := am_ (Kept.below (S := (fun k_ => P2_ k_)) (by repeat (first | (with_reducible first | exact HK.out | apply Kept.alloc | apply Kept.drewN | apply Kept.drew | refine Kept.setCell ?_ (.inr GW171.out) _) | exact HK.out)) hb); have n4_ := am_ (below_step (bx1 HB.out GE171.out) hb); clear HO_2; clear BK171; clear HK; clear HB; have HO_2 := n0_; have HO174 := n1_; have BK171 := n2_; have HK := n3_; have HB := n4_; clear n0_ n1_ n2_ n3_ n4_; clear hb ho57))
     go_ret2
     exact ⟨_, by first | rfl | (simp [errW_none, errW_some] <;> rfl) | (simp [*, errW_none, errW_some] <;> rfl), by (with_reducible repeat (first | apply Kd.R_alloc | apply Kd.R_drewN | apply Kd.R_drew)); exact Kd.R_mono HO174.out (fun _ hk => hk.1.1), bx1 HB.out GE171.out, by repeat (first | (with_reducible first | exact HK.out | apply Kept.alloc | apply Kept.drewN | apply Kept.drew | refine Kept.setCell ?_ (.inr GW171.out) _) | exact HK.out)⟩
end Go.Proofs.Ytdkpiahpmgcmdaa.P
