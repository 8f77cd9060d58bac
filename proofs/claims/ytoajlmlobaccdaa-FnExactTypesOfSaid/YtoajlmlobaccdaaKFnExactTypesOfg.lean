/- What the law FnExactTypesOf reaches, part 7: functions as plain Lean functions with the proofs that their calls come to them, and plain lemmas over these. Put together by a program (wip/pack.py). -/
import Derived.Test.YtoajlmlobaccdaaKFnExactTypesOfd
import Derived.Test.YtoajlmlobaccdaaKFnExactTypesOfc
import Derived.Test.YtoajlmlobaccdaaKFnExactTypesOfe
import Derived.Test.YtoajlmlobaccdaaKFnExactTypesOff
namespace Go.Proofs.Ytoajlmlobaccdaa.P
open Go.RowKit Go.Proofs.YtoajlmlobaccdaaW.PrintWords Go.Proofs.YtoajlmlobaccdaaW.PrintLast Go.Proofs.YtoajlmlobaccdaaW.PrintMore
attribute [local go_sem] ptrOf_slice
attribute [local go_sem] min2_str max2_int min2_int max_two min_two max_three min_three max_four min_four
set_option linter.unusedVariables false
set_option linter.unusedSimpArgs false
mutual
def impl_TypesOf.j0 : Nat → Int → Bool → Option (List ByteArray)
 | 0, _, _ => none
 | k + 1, x0, x17 => if x17 = true then (some ([] : List ByteArray)) else ((impl_triplesOf.f k x0).bind fun t614 => (impl_TypesOf.l0 k x0 t614 ([] : List ByteArray) 0))
def impl_TypesOf.l0 : Nat → Int → List (S89) → List ByteArray → Int → Option (List ByteArray)
 | 0, _, _, _, _ => none
 | k + 1, x0, x3, x4, x5 => if x5 < (shl .i64 1 (x3.length : Int)) then (impl_TypesOf.l1 k x0 x3 x4 x5 (chiNew x0) x3 (x3.length : Int) 0) else ((slices_Sort_Sstring_string.f x4).bind fun t617 => ((slices_Compact_Sstring_string.f t617).bind fun t618 => (some t618)))
def impl_TypesOf.l1 : Nat → Int → List (S89) → List ByteArray → Int → List Int → List (S89) → Int → Int → Option (List ByteArray)
 | 0, _, _, _, _, _, _, _, _ => none
 | k + 1, x0, x3, x4, x5, x6, x30, x31, x32 => if x32 < x31 then (if 0 ≤ x32 then (if x32 < (x30.length : Int) then ((impl_chi_set.f x6 ((rd_T89 x30 x32).f0) ((rd_T89 x30 x32).f1) ((rd_T89 x30 x32).f2) (wrap64 ((wrap64 (2 * (Go.bits .and .i64 (shr .i64 x5 x32) 1))) - 1))).bind fun t626 => (impl_TypesOf.l1 k x0 x3 x4 x5 t626 x30 x31 (wrap64 (x32 + 1)))) else (none)) else (none)) else ((impl_chi_signs.f k x6).bind fun bt627 => ((impl_IsAcyclic.f k bt627.1 bt627.2).bind fun t630 => (if t630 = true then ((impl_LeastSigns.f k bt627.1 bt627.2).bind fun bt631 => (if x4.length < 8796093022208 then (impl_TypesOf.l0 k x0 x3 (x4 ++ [bt631.2.1]) (wrap64 (x5 + 1))) else (none))) else (impl_TypesOf.l0 k x0 x3 x4 (wrap64 (x5 + 1))))))
end
def impl_TypesOf.f (k : Nat) (a0 : Int) : Option (List ByteArray) := if a0 < 3 then (impl_TypesOf.j0 k a0 true) else (impl_TypesOf.j0 k a0 (decide (a0 > 5)))
def impl_TypesOf.T12 : Bool × List (List Nat × List Nat) := (true, [([], []), ([], []), ([1], [1]), ([], []), ([3], [3]), ([], []), ([5], [5]), ([], []), ([], []), ([7, 8], [7, 8]), ([9], [9]), ([10], [10]), ([11], [11]), ([0, 2, 4, 6, 12], [0, 2, 4, 6, 12])])
def impl_TypesOf.B12 : List Nat := [0, 0, 2, 0, 8, 0, 32, 0, 0, 384, 896, 1920, 3968, 8191]
theorem impl_TypesOf.tab12 : rtab .any (opsOf Try.f12 12) = impl_TypesOf.T12 := by kernel_rfl
theorem impl_TypesOf.bits12 : waitsOk impl_TypesOf.T12.2 impl_TypesOf.B12 = true := by kernel_rfl
set_option maxHeartbeats 8000000 in
set_option maxRecDepth 100000 in
theorem impl_TypesOf.calls (k : Nat) (a0 : Int) (r : List ByteArray) (w : World) (h : impl_TypesOf.f k a0 = some r) :
  Calls Try.prog 12 #[.int .i64 a0] w fun e w' => ∃ v0_ : Value, e = .returned (v0_) ∧ Kd.R Kd.string 9 w' w.heap.size (fun _ => True) v0_ r ∧ Below w.heap.size w w' := by
 have hu89 := Try.underlying89; have hu31 := Try.underlying31; have HB := am_ (Below.refl w.heap.size w); have H : (if a0 < 3 then (impl_TypesOf.j0 k a0 true) else (impl_TypesOf.j0 k a0 (decide (a0 > 5)))) = some r := h; clear h; have HC2 := am_ H; clear H; go_enter Try.func12, Try.ntmps12
 go_upto_region 1 with (fail)
 go_cut [17] (fun v17 wc => ∃ (kq : Nat) (x17_1 : Bool), v17 = .bool x17_1 ∧ Aside0 (impl_TypesOf.j0 kq a0 x17_1 = some r) ∧ Aside0 (kq ≤ k) ∧ Aside0 (Below w.heap.size w wc))
 case first =>
  have H := HC2.out; clear HC2; by_cases c3 : a0 < 3
  ·rw [if_pos c3] at H; have c3b0 := decide_eq_true c3; clear c3; (first | rw [c3b0] | (simp only [i64_w, i32_w]; rw [c3b0]) | skip)
   have H' := am_ H; clear H; go_wp2; go_meet
   case rel => exact ⟨_, (true), vt_, H', le_, bX0_ HB⟩
  ·rw [if_neg c3] at H; have c3b0 := decide_eq_false c3; clear c3; (first | rw [c3b0] | (simp only [i64_w, i32_w]; rw [c3b0]) | skip)
   have H' := am_ H; clear H; go_wp2; go_meet
   case rel => exact ⟨_, (decide (a0 > 5)), vt_, H', le_, bX0_ HB⟩
 case rest =>
  clear HC2; obtain ⟨kq, x17_1, rfl, HA, HJ1, HB⟩ := hcut; cases kq with
  | zero => exact absurd HA.out (by simp [impl_TypesOf.j0])
  | succ kj1 =>
   have H := HA.out; clear HA; simp only [impl_TypesOf.j0] at H
   by_cases c4 : x17_1 = true
   ·subst c4; replace H := ifT_ H; obtain rfl := Option.some.inj H; go_wp2; go_ret; exact ⟨_, by first | rfl | (simp [errW_none, errW_some] <;> rfl) | (simp [*, errW_none, errW_some] <;> rfl), by first | exact Kd.R_nil _ _ _ _ _ | exact Kd.N_nil _ _ _ _ _ | exact Kd.V_nil _ _ _ _ _ | exact Kd.Q_nil _ _ _ _ _ | exact Kd.S_nil _ _ _ _ _, bx0 HB.out⟩
   ·replace c4 := Bool.eq_false_iff.mpr c4; subst c4; replace H := ifF_ H; obtain ⟨t614, A5, H⟩ := bnd_ H; have H' := am_ H; clear H; go_wp2_with (first | ((with_reducible refine gc_ 84 rfl ?_); refine gR_ (some 19) Try.func84 #[.int .i64 a0] (impl_triplesOf.calls kj1 a0 t614 _ A5.out) ?_; intro w6 v615 ho0 hb; have HO616 := rl0_ ho0 HB; replace HB := bs0_ HB hb; try clear hb; (try clear ho0)))
    go_loopg [4, 5] kj1 (fun kq v4 v5 w' => ∃ (x4_2 : List ByteArray) (x5_2 : Int), v5 = .int .i64 x5_2 ∧ Aside0 (impl_TypesOf.l0 kq a0 t614 x4_2 x5_2 = some r) ∧ Aside0 (kq ≤ kj1) ∧ Aside0 (Kd.R k89 89 w' w.heap.size (fun _ => True) v615 t614) ∧ Aside0 (Kd.R Kd.string 9 w' w.heap.size (fun _ => True) v4 x4_2) ∧ Aside0 (Below w.heap.size w w'))
    case atStart => exact ⟨(([] : List ByteArray)), (0), vt_, H', ⟨Nat.le_refl _⟩, rX_ HO616, ⟨by first | exact Kd.R_nil _ _ _ _ _ | exact Kd.N_nil _ _ _ _ _ | exact Kd.V_nil _ _ _ _ _ | exact Kd.Q_nil _ _ _ _ _ | exact Kd.S_nil _ _ _ _ _⟩, bX0_ HB⟩
    case round =>
     clear H'; try clear c4
     obtain ⟨x4_2, x5_2, rfl, HA, HK2, HO_3, HO_4, HB⟩ := hrel; cases gk with
     | zero => exact absurd HA.out (by simp [impl_TypesOf.l0])
     | succ k2 =>
      have H := HA.out; clear HA; simp only [impl_TypesOf.l0] at H
      obtain ⟨ji7, hji7⟩ : ∃ j_ : Int, (shl .i64 1 (t614.length : Int)) = j_ := ⟨_, rfl⟩; first | rw [hji7] at H | simp only [hji7] at H
      have hji7_ : (IntKind.i64.wrap (1 * 2 ^ min (t614.length : Int).toNat 64)) = ji7 := hji7; have hji7z : (t614.length : Int) ≤ 64 → (IntKind.i64.wrap (1 * 2 ^ (t614.length : Int).toNat)) = ji7 := shl_small hji7; have hji7p : (IntKind.i64.wrap (1 * 2 ^ min t614.length 64)) = ji7 := hji7_; have hji7q : (t614.length : Int) ≤ 64 → (IntKind.i64.wrap (1 * 2 ^ t614.length)) = ji7 := hji7z; have hji7r : (IntKind.i64.wrap (2 ^ min t614.length 64)) = ji7 := by have h_ := hji7p; rw [Int.one_mul] at h_; exact h_
      have hji7s : (t614.length : Int) ≤ 64 → (IntKind.i64.wrap (2 ^ t614.length)) = ji7 := fun hle_ => by have h_ := hji7q hle_; rw [Int.one_mul] at h_; exact h_
      have hji7u : (IntKind.i64.wrap (2 ^ min (t614.length : Int).toNat 64)) = ji7 := by have h_ := hji7_; rw [Int.one_mul] at h_; exact h_
      have hji7v : (t614.length : Int) ≤ 64 → (IntKind.i64.wrap (2 ^ (t614.length : Int).toNat)) = ji7 := fun hle_ => by have h_ := hji7z hle_; rw [Int.one_mul] at h_; exact h_
      have hji7y : (wrap64 (1 * 2 ^ min (t614.length : Int).toNat 64)) = ji7 := (i64_w _).symm.trans hji7_; have hji7x : (t614.length : Int) ≤ 64 → (wrap64 (1 * 2 ^ (t614.length : Int).toNat)) = ji7 := fun h_ => (i64_w _).symm.trans (hji7z h_)
      by_cases c8 : x5_2 < (ji7)
      ·rw [if_pos c8] at H; have c8b0 := decide_eq_true c8; clear c8; obtain ⟨y621, hy621⟩ : ∃ y_ : List Int, y_ = (chiNew a0) := ⟨_, rfl⟩; replace H : (impl_TypesOf.l1 k2 a0 t614 x4_2 x5_2 y621 t614 (t614.length : Int) 0) = some r := yH_ hy621 H; have Ny621 := am_ hy621; clear hy621; have H' := am_ H; clear H; obtain ⟨Ao9, co9, eo9⟩ := Kd.R_slice HO_3.out; subst eo9; go_wp2_with (first | ((with_reducible refine gd_ 28 rfl ?_); refine chi_build (N := 28) ?hg ?hd (n := a0) ?hr ?_; (case hd => rfl); (case hg => rfl); (case hr => first | (go_simp; done) | (go_simp; rfl))) | ((with_reducible refine gd_ 29 rfl ?_); refine chi_make _ 88 ?hg (N := 29) ?hd (n := a0) (ok := fun _ => True) ?hr trivial (Below.refl _ _) (Nat.le_refl _) ?_; (case hd => rfl); (case hg => rfl); (case hr => first | (go_simp; done) | (go_simp; rfl)); intro v622 w10 ho11 hb hg_ hnew_; clear hg_ hnew_; (first | rw [← Ny621.out] at ho11 | (simp only [Int.reduceToNat] at ho11; rw [← Ny621.out] at ho11)); replace HO_3 := rb_ HO_3 hb; replace HO_4 := rb_ HO_4 hb; have HO623 := rl0_ ho11 HB; replace HB := bs0_ HB hb; clear hb ho11))
       go_loopg [32] k2 (fun kq v32 w' => ∃ (x6_3 : List Int) (x32_3 : Int), v32 = .int .i64 x32_3 ∧ Aside0 (impl_TypesOf.l1 kq a0 t614 x4_2 x5_2 x6_3 t614 (t614.length : Int) x32_3 = some r) ∧ Aside0 (kq ≤ k2) ∧ Aside0 (Kd.R k89 89 w' w.heap.size (fun _ => True) (.slice Ao9 t614.length co9) t614) ∧ Aside0 (Kd.R Kd.string 9 w' w.heap.size (fun _ => True) u4 x4_2) ∧ Aside0 (Kd.R (Kd.int .i64) 88 w' w.heap.size (fun _ => True) v622 x6_3) ∧ Aside0 (Kd.R k89 89 w' w.heap.size (fun _ => True) (.slice Ao9 t614.length co9) t614) ∧ Aside0 (Below w.heap.size w w'))
       case atStart => exact ⟨(y621), (0), vt_, H', ⟨Nat.le_refl _⟩, rX_ HO_3, rX_ HO_4, rX_ HO623, rX_ HO_3, bX0_ HB⟩
       case round =>
        clear H'; try clear c4 c8b0
        obtain ⟨x6_3, x32_3, rfl, HA, HK3, HO_3, HO_4, HO_6, HO_30, HB⟩ := hrel; cases gk with
        | zero => exact absurd HA.out (by simp [impl_TypesOf.l1])
        | succ k3 =>
         have H := HA.out; clear HA; simp only [impl_TypesOf.l1] at H
         by_cases c12 : x32_3 < (t614.length : Int)
         ·rw [if_pos c12] at H; have c12b0 := decide_eq_true c12; clear c12; by_cases c13 : 0 ≤ x32_3
          ·rw [if_pos c13] at H; have c13b0 := decide_eq_true c13; clear c13; by_cases c14 : x32_3 < (t614.length : Int)
           ·rw [if_pos c14] at H; have c14b0 := decide_eq_true c14; clear c14; have c15b0 := eq_true (oda_ : 0 ≤ x32_3); obtain ⟨ji16, hji16⟩ : ∃ j_ : Int, (shr .i64 x5_2 x32_3) = j_ := ⟨_, rfl⟩; first | rw [hji16] at H | simp only [hji16] at H
            have hji16_ : (x5_2 / 2 ^ min x32_3.toNat 64) = ji16 := hji16; have hji16z : x32_3 ≤ 64 → (x5_2 / 2 ^ x32_3.toNat) = ji16 := shr_small hji16; obtain ⟨t626, A17, H⟩ := bnd_ H; have H' := am_ H; clear H; have p624 : 0 ≤ (x32_3 : Int) := oda_; have q624 : x32_3 < (t614.length : Int) := oda_; obtain ⟨ad624, e624, hx624_0, hx624_1, hx624_2⟩ := at_T89 (Kd.R_reads' HO_30.out).2.2 x32_3 p624 q624; cases e624; replace p624 := eq_true p624; replace q624 := eq_true q624; try go_wp2_with (first | ((with_reducible refine gd_ 8 rfl ?_); refine be_ 8 #[.int .i64 0, .int .i64 0, .int .i64 0] 89 ?_; intro gb625 hg w18 hbox hb; replace HO_3 := am_ (Kd.R_below (Kd.R_elderB (rx_ HO_3.out) gb625 (Nat.le_of_eq hg.symm)) hb); replace HO_4 := rb_ HO_4 hb; replace HO_6 := rb_ HO_6 hb; replace HO_30 := am_ (Kd.R_below (Kd.R_elderB (rx_ HO_30.out) gb625 (Nat.le_of_eq hg.symm)) hb); have BK625 := am_ hbox; have GW625 := gw0_ HB hg; have GE625 := GW625; replace HB := bs0_ HB hb; clear hb hbox hg; obtain ⟨hcz19_0, hfz19_0, hcz19_1, hfz19_1, hcz19_2, hfz19_2⟩ := bk3_ BK625))
            have n0_ : Aside0 (Kd.R k89 89 (((w18.setCell ⟨gb625, 0, none⟩ (.int .i64 ((rd_T89 t614 x32_3).f0))).setCell ⟨gb625, 1, none⟩ (.int .i64 ((rd_T89 t614 x32_3).f1))).setCell ⟨gb625, 2, none⟩ (.int .i64 ((rd_T89 t614 x32_3).f2))) w.heap.size (fun k_ => k_ ≠ gb625) (.slice (some ad624) t614.length co9) t614) := ⟨by refine rx_ ?_; exact Kd.R_mono (Kd.R_far (p := ⟨gb625, 2, none⟩) (Kd.R_far (p := ⟨gb625, 1, none⟩) (Kd.R_far (p := ⟨gb625, 0, none⟩) (Kd.R_mono HO_3.out (fun k_ hk => (⟨hk, hk.2⟩ : _ ∧ k_ ≠ gb625))) (fun _ hk => hk.2) (.int .i64 ((rd_T89 t614 x32_3).f0))) (fun _ hk => hk.2) (.int .i64 ((rd_T89 t614 x32_3).f1))) (fun _ hk => hk.2) (.int .i64 ((rd_T89 t614 x32_3).f2))) (fun _ hk => hk.1.2)⟩; have n1_ : Aside0 (Kd.R Kd.string 9 (((w18.setCell ⟨gb625, 0, none⟩ (.int .i64 ((rd_T89 t614 x32_3).f0))).setCell ⟨gb625, 1, none⟩ (.int .i64 ((rd_T89 t614 x32_3).f1))).setCell ⟨gb625, 2, none⟩ (.int .i64 ((rd_T89 t614 x32_3).f2))) w.heap.size (fun _ => True) u4 x4_2) := ⟨by refine rx_ ?_; exact Kd.R_mono (Kd.R_far (p := ⟨gb625, 2, none⟩) (Kd.R_far (p := ⟨gb625, 1, none⟩) (Kd.R_far (p := ⟨gb625, 0, none⟩) (Kd.R_types HO_4.out BK625.out (by decide)) (fun _ hk => hk.2) (.int .i64 ((rd_T89 t614 x32_3).f0))) (fun _ hk => hk.2) (.int .i64 ((rd_T89 t614 x32_3).f1))) (fun _ hk => hk.2) (.int .i64 ((rd_T89 t614 x32_3).f2))) (fun _ hk => trivial)⟩; have n2_ : Aside0 (Kd.R (Kd.int .i64) 88 (((w18.setCell ⟨gb625, 0, none⟩ (.int .i64 ((rd_T89 t614 x32_3).f0))).setCell ⟨gb625, 1, none⟩ (.int .i64 ((rd_T89 t614 x32_3).f1))).setCell ⟨gb625, 2, none⟩ (.int .i64 ((rd_T89 t614 x32_3).f2))) w.heap.size (fun _ => True) v622 x6_3) := ⟨by refine rx_ ?_; exact Kd.R_mono (Kd.R_far (p := ⟨gb625, 2, none⟩) (Kd.R_far (p := ⟨gb625, 1, none⟩) (Kd.R_far (p := ⟨gb625, 0, none⟩) (Kd.R_types HO_6.out BK625.out (by decide)) (fun _ hk => hk.2) (.int .i64 ((rd_T89 t614 x32_3).f0))) (fun _ hk => hk.2) (.int .i64 ((rd_T89 t614 x32_3).f1))) (fun _ hk => hk.2) (.int .i64 ((rd_T89 t614 x32_3).f2))) (fun _ hk => trivial)⟩
            have n3_ : Aside0 (Kd.R k89 89 (((w18.setCell ⟨gb625, 0, none⟩ (.int .i64 ((rd_T89 t614 x32_3).f0))).setCell ⟨gb625, 1, none⟩ (.int .i64 ((rd_T89 t614 x32_3).f1))).setCell ⟨gb625, 2, none⟩ (.int .i64 ((rd_T89 t614 x32_3).f2))) w.heap.size (fun k_ => k_ ≠ gb625) (.slice (some ad624) t614.length co9) t614) := ⟨by refine rx_ ?_; exact Kd.R_mono (Kd.R_far (p := ⟨gb625, 2, none⟩) (Kd.R_far (p := ⟨gb625, 1, none⟩) (Kd.R_far (p := ⟨gb625, 0, none⟩) (Kd.R_mono HO_30.out (fun k_ hk => (⟨hk, hk.2⟩ : _ ∧ k_ ≠ gb625))) (fun _ hk => hk.2) (.int .i64 ((rd_T89 t614 x32_3).f0))) (fun _ hk => hk.2) (.int .i64 ((rd_T89 t614 x32_3).f1))) (fun _ hk => hk.2) (.int .i64 ((rd_T89 t614 x32_3).f2))) (fun _ hk => hk.1.2)⟩; have n4_ : Aside0 ((((w18.setCell ⟨gb625, 0, none⟩ (.int .i64 ((rd_T89 t614 x32_3).f0))).setCell ⟨gb625, 1, none⟩ (.int .i64 ((rd_T89 t614 x32_3).f1))).setCell ⟨gb625, 2, none⟩ (.int .i64 ((rd_T89 t614 x32_3).f2))).heap[gb625]? = some (.cells #[.int .i64 ((rd_T89 t614 x32_3).f0), .int .i64 ((rd_T89 t614 x32_3).f1), .int .i64 ((rd_T89 t614 x32_3).f2)] 89 (0, 0))) := ⟨by refine kx_ ?_; refine blk_put (cs := #[.int .i64 ((rd_T89 t614 x32_3).f0), .int .i64 ((rd_T89 t614 x32_3).f1), .int .i64 0]) ?_ 2 _ rfl; refine kx_ ?_; refine blk_put (cs := #[.int .i64 ((rd_T89 t614 x32_3).f0), .int .i64 0, .int .i64 0]) ?_ 1 _ rfl; refine kx_ ?_; refine blk_put (cs := #[.int .i64 0, .int .i64 0, .int .i64 0]) ?_ 0 _ rfl; refine kx_ ?_; exact BK625.out⟩; have n5_ : Aside0 (Below w.heap.size w (((w18.setCell ⟨gb625, 0, none⟩ (.int .i64 ((rd_T89 t614 x32_3).f0))).setCell ⟨gb625, 1, none⟩ (.int .i64 ((rd_T89 t614 x32_3).f1))).setCell ⟨gb625, 2, none⟩ (.int .i64 ((rd_T89 t614 x32_3).f2)))) := bX1_ HB GE625; (try clear HO_3)
            (try clear HO_4)
            (try clear HO_6)
            (try clear HO_30)
            (try clear BK625)
            (try clear HB)
            generalize (((w18.setCell ⟨gb625, 0, none⟩ (.int .i64 ((rd_T89 t614 x32_3).f0))).setCell ⟨gb625, 1, none⟩ (.int .i64 ((rd_T89 t614 x32_3).f1))).setCell ⟨gb625, 2, none⟩ (.int .i64 ((rd_T89 t614 x32_3).f2))) = w20 at n0_ n1_ n2_ n3_ n4_ n5_ ⊢
            have HO_3 := n0_; have HO_4 := n1_; have HO_6 := n2_; have HO_30 := n3_; have BK625 := n4_; have HB := n5_; clear n0_ n1_ n2_ n3_ n4_ n5_; replace HO_3 := am_ (Kd.R_drew HO_3.out); replace HO_4 := am_ (Kd.R_drew HO_4.out); replace HO_6 := am_ (Kd.R_drew HO_6.out); replace HO_30 := am_ (Kd.R_drew HO_30.out); replace BK625 := am_ (blk_drew BK625.out); replace HB := bd_ HB; obtain ⟨Ao22, co22, eo22⟩ := Kd.R_slice HO_6.out; (first | subst eo22 | (injection eo22 with f1_ f2_ f3_; have f4_ := f1_.symm; have f5_ := f3_.symm; clear f1_ f2_ f3_; subst f4_; subst f5_))
            refine start_ (n := 14) (S := fun w' => w'.cell? ⟨gb625, 0, none⟩ = some (.int .i64 ((rd_T89 t614 x32_3).f0)) ∧ w'.cell? ⟨gb625, 1, none⟩ = some (.int .i64 ((rd_T89 t614 x32_3).f1)) ∧ w'.cell? ⟨gb625, 2, none⟩ = some (.int .i64 ((rd_T89 t614 x32_3).f2))) (ds := []) #[false, false, false, false, false, false, false, false, false, false, false, false, false, false] (by kernel_rfl) rfl rfl ⟨c0_ BK625, c1_ BK625, c2_ BK625⟩ (fun hHeld => ?_); refine with_tabW impl_TypesOf.tab12 impl_TypesOf.bits12 (fun HT_ HW_ => ?_); generalize w20.drew = w21 at HO_3 HO_4 HO_6 HO_30 BK625 HB hHeld ⊢
            refine pD_ 0 (some 37) HT_ (h := ?_); refine pD_ 1 (some 38) HT_ (h := ?_); refine pD_ 3 (some 40) HT_ (h := ?_); refine pD_ 5 (some 42) HT_ (h := ?_); refine pD_ 7 (some 44) HT_ (h := ?_); refine pD_ 8 (some 45) HT_ (h := ?_); refine pD_ 9 (some 46) HT_ (h := ?_); refine pD_ 10 (some 47) HT_ (h := ?_); refine pD_ 11 (some 48) HT_ (h := ?_); refine pD_ 12 (some 49) HT_ (h := ?_); refine tD3_ 2 (some 39) HT_ HW_ hHeld (h := ?_); refine tD3_ 4 (some 41) HT_ HW_ hHeld (h := ?_); refine tD3_ 6 (some 43) HT_ HW_ hHeld (h := ?_); refine oN_ 13 (some 50) HT_ (fun K hK => ?_); refine goes_ Try.func85 (by kernel_rfl) rfl #[.pointer Ao22, .int .i64 ((rd_T89 t614 x32_3).f0), .int .i64 ((rd_T89 t614 x32_3).f1), .int .i64 ((rd_T89 t614 x32_3).f2), .int .i64 (wrap64 ((wrap64 (2 * (Go.bits .and .i64 (ji16) 1))) - 1))] (by rfl) rfl rfl (by (try simp only [List.map_toArray, List.map_cons, List.map_nil]); first | done | (simp only [hji16]; rfl) | rfl | (simp only [List.length_drop, List.length_take]; rfl)) ?_; refine (impl_chi_set.calls (fun k_ => some k_ = (.slice Ao22 x6_3.length co22 : Value).ownBlock) (.slice Ao22 x6_3.length co22) x6_3 ((rd_T89 t614 x32_3).f0) ((rd_T89 t614 x32_3).f1) ((rd_T89 t614 x32_3).f2) (wrap64 ((wrap64 (2 * (Go.bits .and .i64 (ji16) 1))) - 1)) t626 w _ ?side1 ?side2 A17.out).mono ?_; (case side1 => exact bx1 HB.out GE625.out)
            (case side2 => exact Kd.R_tight rfl HO_6.out)
            rintro e w23 ⟨rfl, hy0, hb, hkp⟩; refine ⟨_, rfl, ?_⟩; replace HO_3 := am_ (Kd.R_mono (ok' := fun k_ => k_ ≠ gb625) (Kd.R_keptB ((Kd.R_apart' HO_3.out (Kd.R_typed HO_6.out) (by decide))) hkp (fun k_ hk_ hs_ => (hk_.2) hs_)) (fun k_ hk_ => hk_.1.1)); replace HO_4 := am_ (Kd.R_mono (ok' := fun k_ => True) (Kd.R_keptB ((Kd.R_apart' HO_4.out (Kd.R_typed HO_6.out) (by decide))) hkp (fun k_ hk_ hs_ => (hk_.2) hs_)) (fun k_ hk_ => trivial)); replace HO_30 := am_ (Kd.R_mono (ok' := fun k_ => k_ ≠ gb625) (Kd.R_keptB ((Kd.R_apart' HO_30.out (Kd.R_typed HO_6.out) (by decide))) hkp (fun k_ hk_ hs_ => (hk_.2) hs_)) (fun k_ hk_ => hk_.1.1)); replace BK625 := am_ (blk_kept (kx_ BK625.out) hkp (fun hs_ => (fun e_ => (Kd.R_ne HO_6.out BK625.out (by decide)) e_) hs_)); replace HO_6 := am_ (Kd.R_reok rfl hy0 (fun k_ e_ => HO_6.out.1 k_ e_)); replace HB := am_ hb; (try clear hb)
            (try clear hkp)
            (try clear hy0)
            refine hK.out _ _ ⟨c0_ BK625, c1_ BK625, c2_ BK625⟩ (fun hHeld => ?_); clear hK K; refine nm_ 50 (h := ?_); refine done_ (done_of HT_.out (by kernel_rfl)) ?_; try go_wp2
            go_roundg k3
            case measure => have := HJ1.out; have := HK2.out; have := HK3.out; omega
            case rel => exact ⟨(t626), (wrap64 (x32_3 + 1)), vt_, H', hl3_ HJ1 HK2 HK3, ⟨by refine rx_ ?_; exact Kd.R_mono HO_3.out (fun _ hk => trivial)⟩, rX_ HO_4, rX_ HO_6, ⟨by refine rx_ ?_; exact Kd.R_mono HO_30.out (fun _ hk => trivial)⟩, bX1_ HB GE625⟩
           ·rw [if_neg c14] at H; exact absurd H (by simp)
          ·rw [if_neg c13] at H; exact absurd H (by simp)
         ·rw [if_neg c12] at H; have c12b0 := decide_eq_false c12; clear c12; replace H := Option.bind_eq_some_iff.mp H; obtain ⟨⟨t627, t628⟩, A240, H⟩ := H; replace H : ((impl_IsAcyclic.f k3 t627 t628).bind fun t630 => (if t630 = true then ((impl_LeastSigns.f k3 t627 t628).bind fun bt631 => (if x4_2.length < 8796093022208 then (impl_TypesOf.l0 k3 a0 t614 (x4_2 ++ [bt631.2.1]) (wrap64 (x5_2 + 1))) else (none))) else (impl_TypesOf.l0 k3 a0 t614 x4_2 (wrap64 (x5_2 + 1))))) = some r := H; have A24 := am_ A240; clear A240; obtain ⟨t630, A25, H⟩ := bnd_ H; by_cases c26 : t630 = true
          ·subst c26; replace H := ifT_ H; replace H := Option.bind_eq_some_iff.mp H; obtain ⟨⟨t631, t632, t633⟩, A270, H⟩ := H; replace H : (if x4_2.length < 8796093022208 then (impl_TypesOf.l0 k3 a0 t614 (x4_2 ++ [t632]) (wrap64 (x5_2 + 1))) else (none)) = some r := H; have A27 := am_ A270; clear A270; by_cases c28 : x4_2.length < 8796093022208
           ·rw [if_pos c28] at H; have LMc28 := am_ c28; clear c28; obtain ⟨y635, hy635⟩ : ∃ y_ : List ByteArray, y_ = (x4_2 ++ [t632]) := ⟨_, rfl⟩; replace H : (impl_TypesOf.l0 k3 a0 t614 y635 (wrap64 (x5_2 + 1))) = some r := yH_ hy635 H; have Ny635 := am_ hy635; clear hy635; have H' := am_ H; clear H; obtain ⟨Ao29, co29, eo29⟩ := Kd.R_slice HO_6.out; subst eo29; go_wp2_with (first | ((with_reducible refine gc_ 86 rfl ?_); refine gL_ (some 53) Try.func86 #[.pointer Ao29] ?_; (refine (impl_chi_signs.calls k3 _ co29 x6_3 t627 t628 _ ?side1 ?side2 A24.out).mono ?_); (case side1 => exact cR_ HO_6); (case side2 => exact (Kd.R_reads' HO_6.out).2.1); rintro e w30 ⟨rfl, hb⟩; refine ⟨_, rfl, ?_⟩; replace HO_3 := rb_ HO_3 hb; replace HO_4 := rb_ HO_4 hb; replace HO_6 := rb_ HO_6 hb; replace HO_30 := rb_ HO_30 hb; replace HB := bs0_ HB hb; try clear hb) | ((with_reducible refine gd_ 9 rfl ?_); refine be_ 9 #[.int .i64 0, .string (⟨#[]⟩ : ByteArray)] 31 ?_; intro gb629 hg w31 hbox hb; replace HO_3 := rb_ HO_3 hb; replace HO_4 := rb_ HO_4 hb; replace HO_6 := rb_ HO_6 hb; replace HO_30 := rb_ HO_30 hb; have BK629 := am_ hbox; have GW629 := gw0_ HB hg; have GE629 := GW629; replace HB := bs0_ HB hb; clear hb hbox hg; obtain ⟨hcz32_0, hfz32_0, hcz32_1, hfz32_1⟩ := bk2_ BK629) | ((with_reducible refine gc_ 87 rfl ?_); refine gB_ (some 55) Try.func87 #[.agg #[.int .i64 t627, .string t628]] (impl_IsAcyclic.calls k3 t627 t628 true _ A25.out) ?_; intro w33 hb; replace HO_3 := am_ (Kd.R_below (by refine rx_ ?_; exact (Kd.R_mono (Kd.R_far (p := ⟨gb629, 1, none⟩) (Kd.R_far (p := ⟨gb629, 0, none⟩) (Kd.R_types HO_3.out BK629.out (by decide)) (fun _ hk => hk.2) (.int .i64 t627)) (fun _ hk => hk.2) (.string t628)) (fun _ h_ => h_.1))) hb); replace HO_4 := am_ (Kd.R_below (by refine rx_ ?_; exact (Kd.R_mono (Kd.R_far (p := ⟨gb629, 1, none⟩) (Kd.R_far (p := ⟨gb629, 0, none⟩) (Kd.R_types HO_4.out BK629.out (by decide)) (fun _ hk => hk.2) (.int .i64 t627)) (fun _ hk => hk.2) (.string t628)) (fun _ h_ => h_.1))) hb); replace HO_6 := am_ (Kd.R_below (by refine rx_ ?_; exact (Kd.R_mono (Kd.R_far (p := ⟨gb629, 1, none⟩) (Kd.R_far (p := ⟨gb629, 0, none⟩) (Kd.R_types HO_6.out BK629.out (by decide)) (fun _ hk => hk.2) (.int .i64 t627)) (fun _ hk => hk.2) (.string t628)) (fun _ h_ => h_.1))) hb); replace HO_30 := am_ (Kd.R_below (by refine rx_ ?_; exact (Kd.R_mono (Kd.R_far (p := ⟨gb629, 1, none⟩) (Kd.R_far (p := ⟨gb629, 0, none⟩) (Kd.R_types HO_30.out BK629.out (by decide)) (fun _ hk => hk.2) (.int .i64 t627)) (fun _ hk => hk.2) (.string t628)) (fun _ h_ => h_.1))) hb); replace BK629 := am_ (blk_below (g := gb629) (o := .cells #[.int .i64 t627, .string t628] 31 (0, 0)) (by refine kx_ ?_; refine blk_put (cs := #[.int .i64 t627, .string (⟨#[]⟩ : ByteArray)]) ?_ 1 _ rfl; refine kx_ ?_; refine blk_put (cs := #[.int .i64 0, .string (⟨#[]⟩ : ByteArray)]) ?_ 0 _ rfl; refine kx_ ?_; exact BK629.out) hb); replace HB := bs1_ HB hb GE629; try clear hb; obtain ⟨hcz34_0, hfz34_0, hcz34_1, hfz34_1⟩ := bk2_ BK629) | ((with_reducible refine gc_ 88 rfl ?_); refine gB_ (some 58) Try.func88 #[.agg #[.int .i64 t627, .string t628]] (impl_LeastSigns.calls k3 t627 t628 t631 t632 t633 _ A27.out) ?_; intro w35 hb; replace HO_3 := rb_ HO_3 hb; replace HO_4 := rb_ HO_4 hb; replace HO_6 := rb_ HO_6 hb; replace HO_30 := rb_ HO_30 hb; replace BK629 := bb_ BK629 hb; replace HB := bs1_ HB hb GE629; try clear hb) | ((with_reducible refine gd_ 10 rfl ?_); refine be_ 10 #[.int .i64 0, .string (⟨#[]⟩ : ByteArray)] 31 ?_; intro gb634 hg w36 hbox hb; replace HO_3 := rb_ HO_3 hb; replace HO_4 := rb_ HO_4 hb; replace HO_6 := rb_ HO_6 hb; replace HO_30 := rb_ HO_30 hb; have BK634 := am_ hbox; have GW634 := gw1_ HB hg GE629; have GE634 := GW634; replace HB := bs1_ HB hb GE629; have NB629_634 := nl_ BK629 hg; have NB634_629 := ng_ BK629 hg; replace BK629 := bb_ BK629 hb; clear hb hbox hg; have hnb37 := NB634_629.out; have hnc37 := NB629_634.out; obtain ⟨hcz38_0, hfz38_0, hcz38_1, hfz38_1⟩ := bk2_ BK634) | ((with_reducible refine gate_builtin (b := .append) (xs := #[.tmp 61, .tmp 64]) rfl ?_); at_builtin; refine Kd.R_append Kd.string (w0 := w) w.heap.size rfl (.tmp 61) (.tmp 64) 22 9 (.string ⟨#[]⟩) 16 rfl Try.underlying22 info9 rfl (by decide) (by omega) u4 x4_2 t632 [.string t632] (fun _ => True) (fun _ => False) rfl (by first | (go_simp; done) | (go_simp; rfl)) ?aP (fun _ hk => hk.elim) ?aF ?aO ?aB ?aS ?aL ?_; (case aP => exact rfl); (case aB => exact (bx2 HB.out GE629.out GE634.out)); (case aF => exact (fun _ _ => trivial)); (case aO => exact (by refine rx_ ?_; exact Kd.R_mono (Kd.R_far (p := ⟨gb634, 1, none⟩) (Kd.R_far (p := ⟨gb634, 0, none⟩) (Kd.R_types HO_4.out BK634.out (by decide)) (fun _ hk => hk.2) (.int .i64 t631)) (fun _ hk => hk.2) (.string t632)) (fun _ hk => trivial))); (case aS => exact (below_size (bx2 HB.out GE629.out GE634.out))); (case aL => have := LMc28.out; omega); intro v636 w39 ho hb hg hat; rw [← Ny635.out] at ho; replace HO_3 := am_ (Kd.R_over' (by refine rx_ ?_; exact (Kd.R_mono (Kd.R_far (p := ⟨gb634, 1, none⟩) (Kd.R_far (p := ⟨gb634, 0, none⟩) (Kd.R_types HO_3.out BK634.out (by decide)) (fun _ hk => hk.2) (.int .i64 t631)) (fun _ hk => hk.2) (.string t632)) (fun _ h_ => h_.1))) (Kd.R_typed (by refine rx_ ?_; exact (Kd.R_mono (Kd.R_far (p := ⟨gb634, 1, none⟩) (Kd.R_far (p := ⟨gb634, 0, none⟩) (Kd.R_types HO_4.out BK634.out (by decide)) (fun _ hk => hk.2) (.int .i64 t631)) (fun _ hk => hk.2) (.string t632)) (fun _ h_ => h_.1)))) (by decide) hg); replace HO_6 := am_ (Kd.R_over' (by refine rx_ ?_; exact (Kd.R_mono (Kd.R_far (p := ⟨gb634, 1, none⟩) (Kd.R_far (p := ⟨gb634, 0, none⟩) (Kd.R_types HO_6.out BK634.out (by decide)) (fun _ hk => hk.2) (.int .i64 t631)) (fun _ hk => hk.2) (.string t632)) (fun _ h_ => h_.1))) (Kd.R_typed (by refine rx_ ?_; exact (Kd.R_mono (Kd.R_far (p := ⟨gb634, 1, none⟩) (Kd.R_far (p := ⟨gb634, 0, none⟩) (Kd.R_types HO_4.out BK634.out (by decide)) (fun _ hk => hk.2) (.int .i64 t631)) (fun _ hk => hk.2) (.string t632)) (fun _ h_ => h_.1)))) (by decide) hg); replace HO_30 := am_ (Kd.R_over' (by refine rx_ ?_; exact (Kd.R_mono (Kd.R_far (p := ⟨gb634, 1, none⟩) (Kd.R_far (p := ⟨gb634, 0, none⟩) (Kd.R_types HO_30.out BK634.out (by decide)) (fun _ hk => hk.2) (.int .i64 t631)) (fun _ hk => hk.2) (.string t632)) (fun _ h_ => h_.1))) (Kd.R_typed (by refine rx_ ?_; exact (Kd.R_mono (Kd.R_far (p := ⟨gb634, 1, none⟩) (Kd.R_far (p := ⟨gb634, 0, none⟩) (Kd.R_types HO_4.out BK634.out (by decide)) (fun _ hk => hk.2) (.int .i64 t631)) (fun _ hk => hk.2) (.string t632)) (fun _ h_ => h_.1)))) (by decide) hg); replace BK629 := am_ (blk_grown (g := gb629) (o := .cells #[.int .i64 t627, .string t628] 31 (0, 0)) (by refine kx_ ?_; refine blk_far ?_ NB629_634.out _; refine kx_ ?_; refine blk_far ?_ NB629_634.out _; refine kx_ ?_; exact BK629.out) hg (Kd.R_ne HO_4.out BK629.out (by decide))); replace BK634 := am_ (blk_grown (g := gb634) (o := .cells #[.int .i64 t631, .string t632] 31 (0, 0)) (by refine kx_ ?_; refine blk_put (cs := #[.int .i64 t631, .string (⟨#[]⟩ : ByteArray)]) ?_ 1 _ rfl; refine kx_ ?_; refine blk_put (cs := #[.int .i64 0, .string (⟨#[]⟩ : ByteArray)]) ?_ 0 _ rfl; refine kx_ ?_; exact BK634.out) hg (Kd.R_ne HO_4.out BK634.out (by decide))); replace HB := am_ hb; have HO637 := am_ ho; clear HO_4; clear ho hb hg hat))
            go_roundg k3
            case measure => have := HJ1.out; have := HK2.out; have := HK3.out; omega
            case rel => exact ⟨(y635), (wrap64 (x5_2 + 1)), vt_, H', hl3_ HJ1 HK2 HK3, rX_ HO_3, rX_ HO637, bX2_ HB GE629 GE634⟩
           ·rw [if_neg c28] at H; exact absurd H (by simp)
          ·replace c26 := Bool.eq_false_iff.mpr c26; subst c26; replace H := ifF_ H; have H' := am_ H; clear H; obtain ⟨Ao40, co40, eo40⟩ := Kd.R_slice HO_6.out; subst eo40; go_wp2_with (first | ((with_reducible refine gc_ 86 rfl ?_); refine gL_ (some 53) Try.func86 #[.pointer Ao40] ?_; (refine (impl_chi_signs.calls k3 _ co40 x6_3 t627 t628 _ ?side1 ?side2 A24.out).mono ?_); (case side1 => exact cR_ HO_6); (case side2 => exact (Kd.R_reads' HO_6.out).2.1); rintro e w41 ⟨rfl, hb⟩; refine ⟨_, rfl, ?_⟩; replace HO_3 := rb_ HO_3 hb; replace HO_4 := rb_ HO_4 hb; replace HO_6 := rb_ HO_6 hb; replace HO_30 := rb_ HO_30 hb; replace HB := bs0_ HB hb; try clear hb) | ((with_reducible refine gd_ 9 rfl ?_); refine be_ 9 #[.int .i64 0, .string (⟨#[]⟩ : ByteArray)] 31 ?_; intro gb629 hg w42 hbox hb; replace HO_3 := rb_ HO_3 hb; replace HO_4 := rb_ HO_4 hb; replace HO_6 := rb_ HO_6 hb; replace HO_30 := rb_ HO_30 hb; have BK629 := am_ hbox; have GW629 := gw0_ HB hg; have GE629 := GW629; replace HB := bs0_ HB hb; clear hb hbox hg; obtain ⟨hcz43_0, hfz43_0, hcz43_1, hfz43_1⟩ := bk2_ BK629) | ((with_reducible refine gc_ 87 rfl ?_); refine gB_ (some 55) Try.func87 #[.agg #[.int .i64 t627, .string t628]] (impl_IsAcyclic.calls k3 t627 t628 false _ A25.out) ?_; intro w44 hb; replace HO_3 := am_ (Kd.R_below (by refine rx_ ?_; exact (Kd.R_mono (Kd.R_far (p := ⟨gb629, 1, none⟩) (Kd.R_far (p := ⟨gb629, 0, none⟩) (Kd.R_types HO_3.out BK629.out (by decide)) (fun _ hk => hk.2) (.int .i64 t627)) (fun _ hk => hk.2) (.string t628)) (fun _ h_ => h_.1))) hb); replace HO_4 := am_ (Kd.R_below (by refine rx_ ?_; exact (Kd.R_mono (Kd.R_far (p := ⟨gb629, 1, none⟩) (Kd.R_far (p := ⟨gb629, 0, none⟩) (Kd.R_types HO_4.out BK629.out (by decide)) (fun _ hk => hk.2) (.int .i64 t627)) (fun _ hk => hk.2) (.string t628)) (fun _ h_ => h_.1))) hb); replace HO_6 := am_ (Kd.R_below (by refine rx_ ?_; exact (Kd.R_mono (Kd.R_far (p := ⟨gb629, 1, none⟩) (Kd.R_far (p := ⟨gb629, 0, none⟩) (Kd.R_types HO_6.out BK629.out (by decide)) (fun _ hk => hk.2) (.int .i64 t627)) (fun _ hk => hk.2) (.string t628)) (fun _ h_ => h_.1))) hb); replace HO_30 := am_ (Kd.R_below (by refine rx_ ?_; exact (Kd.R_mono (Kd.R_far (p := ⟨gb629, 1, none⟩) (Kd.R_far (p := ⟨gb629, 0, none⟩) (Kd.R_types HO_30.out BK629.out (by decide)) (fun _ hk => hk.2) (.int .i64 t627)) (fun _ hk => hk.2) (.string t628)) (fun _ h_ => h_.1))) hb); replace BK629 := am_ (blk_below (g := gb629) (o := .cells #[.int .i64 t627, .string t628] 31 (0, 0)) (by refine kx_ ?_; refine blk_put (cs := #[.int .i64 t627, .string (⟨#[]⟩ : ByteArray)]) ?_ 1 _ rfl; refine kx_ ?_; refine blk_put (cs := #[.int .i64 0, .string (⟨#[]⟩ : ByteArray)]) ?_ 0 _ rfl; refine kx_ ?_; exact BK629.out) hb); replace HB := bs1_ HB hb GE629; try clear hb))
           go_roundg k3
           case measure => have := HJ1.out; have := HK2.out; have := HK3.out; omega
           case rel => exact ⟨(x4_2), (wrap64 (x5_2 + 1)), vt_, H', hl3_ HJ1 HK2 HK3, rX_ HO_3, rX_ HO_4, bX1_ HB GE629⟩
      ·rw [if_neg c8] at H; have c8b0 := decide_eq_false c8; clear c8; obtain ⟨t617, A45, H⟩ := bnd_ H; obtain ⟨t618, A46, H⟩ := bnd_ H; obtain rfl := Option.some.inj H; obtain ⟨Ao47, co47, eo47⟩ := Kd.R_slice HO_3.out; subst eo47; obtain ⟨Ao48, co48, eo48⟩ := Kd.R_slice HO_4.out; subst eo48; go_wp2_with (first | ((with_reducible refine gc_ 89 rfl ?_); refine gL_ (some 67) Try.func89 #[.slice Ao48 x4_2.length co48] ?_; (with_reducible refine (slices_Sort_Sstring_string.calls (fun k_ => some k_ = (.slice Ao48 x4_2.length co48 : Value).ownBlock) (.slice Ao48 x4_2.length co48) x4_2 t617 w _ ?side1 ?side2 A45.out).mono ?_); (case side1 => exact bx0 HB.out); (case side2 => exact Kd.R_tight rfl HO_4.out); rintro e w49 ⟨rfl, hy0, hb, hkp⟩; refine ⟨_, rfl, ?_⟩; replace HO_3 := am_ (Kd.R_mono (ok' := fun k_ => True) (Kd.R_keptB ((Kd.R_apart' HO_3.out (Kd.R_typed HO_4.out) (by decide))) hkp (fun k_ hk_ hs_ => (hk_.2) hs_)) (fun k_ hk_ => trivial)); replace HO_4 := am_ (Kd.R_reok rfl hy0 (fun k_ e_ => HO_4.out.1 k_ e_)); replace HB := am_ hb; (try clear hb); (try clear hkp); (try clear hy0)) | ((with_reducible refine gc_ 90 rfl ?_); refine gL_ (some 69) Try.func90 #[.slice Ao48 x4_2.length co48] ?_; (with_reducible refine (slices_Compact_Sstring_string.calls (fun k_ => some k_ = (.slice Ao48 x4_2.length co48 : Value).ownBlock) (.slice Ao48 x4_2.length co48) t617 t618 w _ ?side1 ?side2 A46.out).mono ?_); (case side1 => exact bx0 HB.out); (case side2 => exact Kd.R_tight rfl HO_4.out); rintro e w50 ⟨v619, rfl, ho0, hb, hkp⟩; refine ⟨_, rfl, ?_⟩; replace HO_3 := am_ (Kd.R_mono (ok' := fun k_ => True) (Kd.R_keptB ((Kd.R_apart' HO_3.out (Kd.R_typed HO_4.out) (by decide))) hkp (fun k_ hk_ hs_ => (hk_.2) hs_)) (fun k_ hk_ => trivial)); have HO620 := am_ (Kd.R_mono (ok' := fun k_ => True) ho0 (fun k_ hk_ => trivial)); replace HB := am_ hb; clear HO_4; (try clear hb); (try clear hkp); (try clear ho0)))
       go_ret; exact ⟨_, by first | rfl | (simp [errW_none, errW_some] <;> rfl) | (simp only [← hji7]; first | rfl | (simp [errW_none, errW_some] <;> rfl)) | (simp [*, errW_none, errW_some] <;> rfl), rx_ HO620.out, bx0 HB.out⟩
def laws_eqStringS.l0 : Nat → List ByteArray → List ByteArray → Int → Option (Bool)
 | 0, _, _, _ => none
 | k + 1, x0, x1, x5 => if x5 < (x0.length : Int) then (if 0 ≤ x5 then (if x5 < (x1.length : Int) then (if (rdOf ByteArray.empty x0 x5).toList = (rdOf ByteArray.empty x1 x5).toList then (laws_eqStringS.l0 k x0 x1 (wrap64 (x5 + 1))) else (some false)) else (none)) else (none)) else (some true)
def laws_eqStringS.f (k : Nat) (l0 : List ByteArray) (l1 : List ByteArray) : Option (Bool) := if (l0.length : Int) = (l1.length : Int) then (laws_eqStringS.l0 k l0 l1 0) else (some false)
set_option maxHeartbeats 8000000 in
set_option maxRecDepth 100000 in
theorem laws_eqStringS.calls (k : Nat) (A0 : Option Addr) (c0 : Nat) (l0 : List ByteArray) (A1 : Option Addr) (c1 : Nat) (l1 : List ByteArray) (r : Bool) (w : World) (hr0 : Kd.C Kd.string w A0 l0.length l0) (hc0 : l0.length ≤ c0) (hr1 : Kd.C Kd.string w A1 l1.length l1) (hc1 : l1.length ≤ c1) (h : laws_eqStringS.f k l0 l1 = some r) :
  Calls Try.prog 13 #[.slice A0 l0.length c0, .slice A1 l1.length c1] w fun e w' => e = .returned (.bool r) ∧ Drawn0 w w' := by
 have HR0 := am_ hr0; have HC0 := am_ hc0; clear hr0 hc0; have HR1 := am_ hr1; have HC1 := am_ hc1; clear hr1 hc1; have H : (if (l0.length : Int) = (l1.length : Int) then (laws_eqStringS.l0 k l0 l1 0) else (some false)) = some r := h; clear h; by_cases c3 : (l0.length : Int) = (l1.length : Int)
 ·rw [if_pos c3] at H; obtain ⟨c3b0, c3b1⟩ := eqT_ c3; have c3b2 : (l0.length == l1.length) = true := by first | simpa using c3 | (simp at c3 ⊢; omega)
  clear c3; have H' := am_ H; clear H; go_enter Try.func13, Try.ntmps13
  go_wp2; repeat (go_quiet (fail); try go_wp2)
  go_loopg [5] k (fun kq v5 w' => ∃ (x5_1 : Int), v5 = .int .i64 x5_1 ∧ Aside0 (laws_eqStringS.l0 kq l0 l1 x5_1 = some r) ∧ Aside0 (kq ≤ k) ∧ Drawn0 w w')
  case atStart => exact ⟨(0), vt_, H', ⟨Nat.le_refl _⟩, dr_⟩
  case round =>
   clear H'; try clear c3b0 c3b1 c3b2
   obtain ⟨x5_1, rfl, HA, HK1, ⟨m1, rfl⟩⟩ := hrel; cases gk with
   | zero => exact absurd HA.out (by simp [laws_eqStringS.l0])
   | succ k1 =>
    have H := HA.out; clear HA; simp only [laws_eqStringS.l0] at H
    by_cases c4 : x5_1 < (l0.length : Int)
    ·rw [if_pos c4] at H; have c4b0 := decide_eq_true c4; clear c4; by_cases c5 : 0 ≤ x5_1
     ·rw [if_pos c5] at H; have c5b0 := decide_eq_true c5; clear c5; by_cases c6 : x5_1 < (l1.length : Int)
      ·rw [if_pos c6] at H; have c6b0 := decide_eq_true c6; clear c6; by_cases c7 : (rdOf ByteArray.empty l0 x5_1).toList = (rdOf ByteArray.empty l1 x5_1).toList
       ·rw [if_pos c7] at H; obtain ⟨c7b0, c7b1⟩ := eqT_ c7; clear c7; have H' := am_ H; clear H; have p638 : 0 ≤ (x5_1 : Int) := oda_; have q638 : x5_1 < (l0.length : Int) := oda_; obtain ⟨ad638, e638, hx638_0⟩ := Kd.at_string HR0.out x5_1 p638 q638; cases e638; replace p638 := eq_true p638; replace q638 := eq_true q638; have p639 : 0 ≤ (x5_1 : Int) := oda_; have q639 : x5_1 < (l1.length : Int) := oda_; obtain ⟨ad639, e639, hx639_0⟩ := Kd.at_string HR1.out x5_1 p639 q639; cases e639; replace p639 := eq_true p639; replace q639 := eq_true q639; go_wp2; repeat (go_quiet (fail); try go_wp2)
        go_roundg k1
        case measure => have := HK1.out; omega
        case rel => exact ⟨(wrap64 (x5_1 + 1)), vt_, H', hl_ HK1, dr_⟩
       ·rw [if_neg c7] at H; obtain ⟨c7b0, c7b1⟩ := eqF_ c7; obtain rfl := Option.some.inj H; have p638 : 0 ≤ (x5_1 : Int) := oda_; have q638 : x5_1 < (l0.length : Int) := oda_; obtain ⟨ad638, e638, hx638_0⟩ := Kd.at_string HR0.out x5_1 p638 q638; cases e638; replace p638 := eq_true p638; replace q638 := eq_true q638; have p639 : 0 ≤ (x5_1 : Int) := oda_; have q639 : x5_1 < (l1.length : Int) := oda_; obtain ⟨ad639, e639, hx639_0⟩ := Kd.at_string HR1.out x5_1 p639 q639; cases e639; replace p639 := eq_true p639; replace q639 := eq_true q639; go_wp2; repeat (go_quiet (fail); try go_wp2)
        go_ret; exact ⟨by first | rfl | (simp; done) | (simp [*]; done), dr_⟩
      ·rw [if_neg c6] at H; exact absurd H (by simp)
     ·rw [if_neg c5] at H; exact absurd H (by simp)
    ·rw [if_neg c4] at H; have c4b0 := decide_eq_false c4; clear c4; obtain rfl := Option.some.inj H; go_wp2; repeat (go_quiet (fail); try go_wp2)
     go_ret; exact ⟨by first | rfl | (simp; done) | (simp [*]; done), dr_⟩
 ·rw [if_neg c3] at H; obtain ⟨c3b0, c3b1⟩ := eqF_ c3; have c3b2 : (l0.length == l1.length) = false := by first | simpa using c3 | (simp at c3 ⊢; omega)
  obtain rfl := Option.some.inj H; go_enter Try.func13, Try.ntmps13
  go_wp2; repeat (go_quiet (fail); try go_wp2)
  go_ret; exact ⟨by first | rfl | (simp; done) | (simp [*]; done), dr_⟩
def laws_markText.l0 : Nat → Int → ByteArray → Option (ByteArray)
 | 0, _, _ => none
 | k + 1, x0, x3 => if x0 > 0 then ((some (([(wrap64 (48 + (Int.tmod x0 10))) % 256] : List Int) : List Int)).bind fun y640 => (if (strOfNums y640).size + x3.size ≤ 9223372036854775807 then (laws_markText.l0 k (wrap64 (Int.tdiv x0 10)) ((strOfNums y640) ++ x3)) else (none))) else (if 1 + x3.size ≤ 9223372036854775807 then (some ((⟨#[109]⟩ : ByteArray) ++ x3)) else (none))
def laws_markText.f (k : Nat) (a0 : Int) : Option (ByteArray) := if a0 ≤ 0 then (some (⟨#[109, 48]⟩ : ByteArray)) else (laws_markText.l0 k a0 (⟨#[]⟩ : ByteArray))
set_option maxHeartbeats 8000000 in
set_option maxRecDepth 100000 in
theorem laws_markText.calls (k : Nat) (a0 : Int) (r : ByteArray) (w : World) (h : laws_markText.f k a0 = some r) :
  Calls Try.prog 91 #[.int .i64 a0] w fun e w' => e = .returned (.string r) ∧ Below w.heap.size w w' := by
 have HB := am_ (Below.refl w.heap.size w); have H : (if a0 ≤ 0 then (some (⟨#[109, 48]⟩ : ByteArray)) else (laws_markText.l0 k a0 (⟨#[]⟩ : ByteArray))) = some r := h; clear h; by_cases c2 : a0 ≤ 0
 ·rw [if_pos c2] at H; have c2b0 := decide_eq_true c2; clear c2; obtain rfl := Option.some.inj H; go_enter Try.func91, Try.ntmps91
  go_wp2; go_ret; exact ⟨er_, bx0 HB.out⟩
 ·rw [if_neg c2] at H; have c2b0 := decide_eq_false c2; clear c2; have H' := am_ H; clear H; go_enter Try.func91, Try.ntmps91
  go_wp2; go_loopg [0, 3] k (fun kq v0 v3 w' => ∃ (x0_1 : Int) (x3_1 : ByteArray), v0 = .int .i64 x0_1 ∧ v3 = .string x3_1 ∧ Aside0 (laws_markText.l0 kq x0_1 x3_1 = some r) ∧ Aside0 (kq ≤ k) ∧ Aside0 (Below w.heap.size w w'))
  case atStart => exact ⟨(a0), ((⟨#[]⟩ : ByteArray)), vt_, vt_, H', ⟨Nat.le_refl _⟩, bX0_ HB⟩
  case round =>
   clear H'; try clear c2b0
   obtain ⟨x0_1, x3_1, rfl, rfl, HA, HK1, HB⟩ := hrel; cases gk with
   | zero => exact absurd HA.out (by simp [laws_markText.l0])
   | succ k1 =>
    have H := HA.out; clear HA; simp only [laws_markText.l0] at H
    by_cases c3 : x0_1 > 0
    ·rw [if_pos c3] at H; have c3b0 := decide_eq_true c3; clear c3; obtain ⟨y640, hy640⟩ : ∃ y_ : List Int, y_ = (([(wrap64 (48 + (Int.tmod x0_1 10))) % 256] : List Int)) := ⟨_, rfl⟩; replace H : (if (strOfNums y640).size + x3_1.size ≤ 9223372036854775807 then (laws_markText.l0 k1 (wrap64 (Int.tdiv x0_1 10)) ((strOfNums y640) ++ x3_1)) else (none)) = some r := yH_ hy640 H; have Ny640 := am_ hy640; clear hy640; by_cases c4 : (strOfNums y640).size + x3_1.size ≤ 9223372036854775807
     ·rw [if_pos c4] at H; have c4b0 := eq_true c4; have c4b1 := decide_eq_true c4; try have c4b2 : (9223372036854775807 < (strOfNums y640).size + x3_1.size) = False := eq_false (Nat.not_lt.2 c4)
      have H' := am_ H; clear H; go_wp2_with (first | ((with_reducible refine gd_ 12 rfl ?_); refine Kd.R_lit (Kd.int .u8) _ 5 ?hg (N := 12) ?hd (xs := ([(wrap64 (48 + (Int.tmod x0_1 10))) % 256] : List Int)) (inner := [.int .u8 ((wrap64 (48 + (Int.tmod x0_1 10))) % 256)]) (ok := fun _ => True) (okp := fun _ => True) ?hr ?hp (fun _ hk => hk) trivial (Below.refl _ _) (Nat.le_refl _) (by simp) ?_; (case hd => rfl); (case hg => rfl); (case hr => first | (go_simp; done) | (go_simp; rfl)); (case hp => exact (Reps.one (show Kd.M (Kd.int .u8) _ _ _ ((wrap64 (48 + (Int.tmod x0_1 10))) % 256) [.int .u8 ((wrap64 (48 + (Int.tmod x0_1 10))) % 256)] from rfl) (Reps.none _ _))); intro v641 w5 ho6 hb hg_ hnew_; clear hg_ hnew_; (first | rw [← Ny640.out] at ho6 | (simp only [Int.reduceToNat] at ho6; rw [← Ny640.out] at ho6)); have HO642 := rl0_ ho6 HB; replace HB := bs0_ HB hb; clear hb ho6; have hcv7 := own_string (P := Try.prog) Try.underlying46 Try.underlying5 Try.underlying9 (Kd.own_of_R HO642.out)))
      go_roundg k1
      case measure => have := HK1.out; omega
      case rel => exact ⟨(wrap64 (Int.tdiv x0_1 10)), ((strOfNums y640) ++ x3_1), vt_, vt_, H', hl_ HK1, bX0_ HB⟩
     ·rw [if_neg c4] at H; exact absurd H (by simp)
    ·rw [if_neg c3] at H; have c3b0 := decide_eq_false c3; clear c3; by_cases c8 : 1 + x3_1.size ≤ 9223372036854775807
     ·rw [if_pos c8] at H; have c8b0 := eq_true c8; have c8b1 := decide_eq_true c8; try have c8b2 : (9223372036854775807 < 1 + x3_1.size) = False := eq_false (Nat.not_lt.2 c8)
      obtain rfl := Option.some.inj H; go_wp2; go_ret; exact ⟨er_, bx0 HB.out⟩
     ·rw [if_neg c8] at H; exact absurd H (by simp)
def laws_markStringS.l0 : Nat → List ByteArray → Int → Int → Option (Int × List ByteArray)
 | 0, _, _, _ => none
 | k + 1, x0, x1, x5 => if x5 < (x0.length : Int) then ((laws_markText.f k x1).bind fun t643 => (if 0 ≤ x5 then (laws_markStringS.l0 k (x0.set (x5 : Int).toNat t643) (wrap64 (x1 + 1)) (wrap64 (x5 + 1))) else (none))) else (some (x1, x0))
def laws_markStringS.f (k : Nat) (l0 : List ByteArray) (a1 : Int) : Option (Int × List ByteArray) := laws_markStringS.l0 k l0 a1 0
set_option maxHeartbeats 8000000 in
set_option maxRecDepth 100000 in
theorem laws_markStringS.calls (k : Nat) (P0_ : Nat → Prop) (u9000_ : Value) (l0 : List ByteArray) (a1 : Int) (r1 : Int) (r2 : List ByteArray) (w0 w : World) (hB : Below w0.heap.size w0 w) (ho0 : Kd.R Kd.string 9 w w0.heap.size P0_ u9000_ l0) (h : laws_markStringS.f k l0 a1 = some (r1, r2)) :
  Calls Try.prog 14 #[u9000_, .int .i64 a1] w fun e w' => e = .returned (.int .i64 r1) ∧ Kd.R Kd.string 9 w' w0.heap.size (fun k_ => (P0_ k_ ∨ w.heap.size ≤ k_)) u9000_ r2 ∧ Below w0.heap.size w0 w' ∧ Kept w w' (fun k_ => P0_ k_) := by
 have HO0 := am_ (show Kd.R Kd.string 9 w w0.heap.size (fun k_ => (P0_ k_ ∨ w.heap.size ≤ k_)) u9000_ l0 from Kd.R_mono ho0 (fun k_ hk => (.inl hk))); have HK := am_ (Kept.refl w (fun k_ => P0_ k_)); have HW0 := am_ hB.size; have HB := am_ hB; clear hB; have H : (laws_markStringS.l0 k l0 a1 0) = some (r1, r2) := h; clear h; have H' := am_ H; clear H; go_enter Try.func14, Try.ntmps14
 go_wp2; go_loopg [1, 5] k (fun kq v1 v5 w' => ∃ (x0_1 : List ByteArray) (x1_1 : Int) (x5_1 : Int), v1 = .int .i64 x1_1 ∧ v5 = .int .i64 x5_1 ∧ Aside0 (laws_markStringS.l0 kq x0_1 x1_1 x5_1 = some (r1, r2)) ∧ Aside0 (kq ≤ k) ∧ Aside0 (Kd.R Kd.string 9 w' w0.heap.size (fun k_ => (P0_ k_ ∨ w.heap.size ≤ k_)) u9000_ x0_1) ∧ Aside0 (Kept w w' (fun k_ => P0_ k_)) ∧ Aside0 (Below w0.heap.size w0 w'))
 case atStart => exact ⟨(l0), (a1), (0), vt_, vt_, H', ⟨Nat.le_refl _⟩, rX_ HO0, ⟨by repeat (first | (with_reducible first | exact HK.out | apply Kept.alloc | apply Kept.drewN | apply Kept.drew) | exact HK.out)⟩, bX0_ HB⟩
 case round =>
  clear H'; obtain ⟨x0_1, x1_1, x5_1, rfl, rfl, HA, HK1, HO_0, HK, HB⟩ := hrel; cases gk with
  | zero => exact absurd HA.out (by simp [laws_markStringS.l0])
  | succ k1 =>
   have H := HA.out; clear HA; simp only [laws_markStringS.l0] at H
   by_cases c3 : x5_1 < (x0_1.length : Int)
   ·rw [if_pos c3] at H; have c3b0 := decide_eq_true c3; clear c3; obtain ⟨t643, A4, H⟩ := bnd_ H; by_cases c5 : 0 ≤ x5_1
    ·rw [if_pos c5] at H; have c5b0 := decide_eq_true c5; clear c5; obtain ⟨y644, hy644⟩ : ∃ y_ : List ByteArray, y_ = (x0_1.set (x5_1 : Int).toNat t643) := ⟨_, rfl⟩; replace H : (laws_markStringS.l0 k1 y644 (wrap64 (x1_1 + 1)) (wrap64 (x5_1 + 1))) = some (r1, r2) := yH_ hy644 H; have Ny644 := am_ hy644; clear hy644; have H' := am_ H; clear H; obtain ⟨Ao7, co7, eo7⟩ := Kd.R_slice HO_0.out; subst eo7; go_wp2_with (first | ((with_reducible refine gc_ 91 rfl ?_); refine gB_ (some 15) Try.func91 #[.int .i64 x1_1] (laws_markText.calls k1 x1_1 t643 _ A4.out) ?_; intro w8 hb; replace HO_0 := rb_ HO_0 hb; replace HK := am_ (Kept.below (S := (fun k_ => P0_ k_)) (by repeat (first | (with_reducible first | exact HK.out | apply Kept.alloc | apply Kept.drewN | apply Kept.drew) | exact HK.out)) hb); replace HB := bs0_ HB hb; try clear hb; have p6 : 0 ≤ (x5_1 : Int) := oda_; have q6 : (x5_1 : Int) < ((x0_1.length : Int) : Int) := oda_; obtain ⟨go6, co6, eo6, gb6, gl6, cl6, HG6⟩ := Kd.R_form HO_0.out (by omega); (first | cases eo6 | (injection eo6 with ea_ en_ ec_; (first | subst ea_ | (injection ea_ with ea_; subst ea_)); subst ec_; clear en_)); have GB6 := am_ gb6; have GG6 := am_ HG6; clear gb6 gl6 HG6; have HMgo6 := am_ (show (P0_ go6 ∨ w.heap.size ≤ go6) from (HO_0.out.1 _ rfl)); obtain ⟨hx6_0, hf6_0⟩ := Kd.R_celln (⟨#[]⟩ : ByteArray) HO_0.out (x5_1 : Int) p6 q6; replace p6 := eq_true p6; replace q6 := eq_true q6; obtain ⟨hy9_, hz9_⟩ := Kd.R_celln (⟨#[]⟩ : ByteArray) HO_0.out (x5_1 : Int) (oda_) (oda_); have HP9 := Kd.R_putg HO_0.out (x5_1 : Int) t643) | ((with_reducible refine gate_store (t := 9) (p := 16) rfl ?_); refine store_event (t := 9) (p := 16) (v := ?vo_w10) (w1 := (w8.setCell ⟨go6, (x5_1 : Int).toNat, none⟩ (.string t643))) ?hg ?ho ?hn ?hr ?_; (case ho => rfl); (case hg => rfl); (case hn => rfl); (case hr => first | (go_simp; done) | (go_simp; rfl)); intro w10 hw; have hg : w8.grownBy w10 (some go6) := (by rw [hw]; exact HP9.2); have hp_ : Kd.R Kd.string 9 w10 w0.heap.size (fun k_ => (P0_ k_ ∨ w.heap.size ≤ k_)) (.slice (some ⟨go6, 0, none⟩) x0_1.length co7) y644 := (by rw [hw, Ny644.out]; exact HP9.1); clear HP9; replace HB := am_ ((by rw [hw]; exact below_set (HB.out) GB6.out : Below w0.heap.size w0 w10)); replace HK := am_ (Kept.of_grown (S := (fun k_ => P0_ k_)) hg (by repeat (first | (with_reducible first | exact HK.out | apply Kept.alloc | apply Kept.drewN | apply Kept.drew) | exact HK.out)) (fun k_ e_ => (HO_0.out.1 k_ e_))); replace HO_0 := am_ hp_; clear hg hw hp_))
     go_roundg k1
     case measure => have := HK1.out; omega
     case rel => exact ⟨(y644), (wrap64 (x1_1 + 1)), (wrap64 (x5_1 + 1)), vt_, vt_, H', hl_ HK1, rX_ HO_0, ⟨by repeat (first | (with_reducible first | exact HK.out | apply Kept.alloc | apply Kept.drewN | apply Kept.drew) | exact HK.out)⟩, bX0_ HB⟩
    ·rw [if_neg c5] at H; exact absurd H (by simp)
   ·rw [if_neg c3] at H; have c3b0 := decide_eq_false c3; clear c3; simp only [Option.some.injEq, Prod.mk.injEq] at H
    obtain ⟨rfl, rfl⟩ := H; obtain ⟨Ao11, co11, eo11⟩ := Kd.R_slice HO_0.out; subst eo11; go_wp2; go_ret; exact ⟨er_, rx_ HO_0.out, bx0 HB.out, by repeat (first | (with_reducible first | exact HK.out | apply Kept.alloc | apply Kept.drewN | apply Kept.drew) | exact HK.out)⟩
def laws_heldStringS.l0 : Nat → List ByteArray → Int → Int → Option (Int)
 | 0, _, _, _ => none
 | k + 1, x0, x1, x5 => if x5 < (x0.length : Int) then (if 0 ≤ x5 then ((laws_markText.f k x1).bind fun t646 => (if (rdOf ByteArray.empty x0 x5).toList = t646.toList then (laws_heldStringS.l0 k x0 (wrap64 (x1 + 1)) (wrap64 (x5 + 1))) else (some (-1)))) else (none)) else (some x1)
def laws_heldStringS.f (k : Nat) (l0 : List ByteArray) (a1 : Int) : Option (Int) := laws_heldStringS.l0 k l0 a1 0
set_option maxHeartbeats 8000000 in
set_option maxRecDepth 100000 in
theorem laws_heldStringS.calls (k : Nat) (A0 : Option Addr) (c0 : Nat) (l0 : List ByteArray) (a1 : Int) (r : Int) (w : World) (hr0 : Kd.C Kd.string w A0 l0.length l0) (hc0 : l0.length ≤ c0) (h : laws_heldStringS.f k l0 a1 = some r) :
  Calls Try.prog 15 #[.slice A0 l0.length c0, .int .i64 a1] w fun e w' => e = .returned (.int .i64 r) ∧ Below w.heap.size w w' := by
 have HR0 := am_ hr0; have HC0 := am_ hc0; clear hr0 hc0; have HB := am_ (Below.refl w.heap.size w); have H : (laws_heldStringS.l0 k l0 a1 0) = some r := h; clear h; have H' := am_ H; clear H; go_enter Try.func15, Try.ntmps15
 go_wp2; go_loopg [1, 5] k (fun kq v1 v5 w' => ∃ (x1_1 : Int) (x5_1 : Int), v1 = .int .i64 x1_1 ∧ v5 = .int .i64 x5_1 ∧ Aside0 (laws_heldStringS.l0 kq l0 x1_1 x5_1 = some r) ∧ Aside0 (kq ≤ k) ∧ Aside0 (Below w.heap.size w w'))
 case atStart => exact ⟨(a1), (0), vt_, vt_, H', ⟨Nat.le_refl _⟩, bX0_ HB⟩
 case round =>
  clear H'; obtain ⟨x1_1, x5_1, rfl, rfl, HA, HK1, HB⟩ := hrel; cases gk with
  | zero => exact absurd HA.out (by simp [laws_heldStringS.l0])
  | succ k1 =>
   have H := HA.out; clear HA; simp only [laws_heldStringS.l0] at H
   by_cases c3 : x5_1 < (l0.length : Int)
   ·rw [if_pos c3] at H; have c3b0 := decide_eq_true c3; clear c3; by_cases c4 : 0 ≤ x5_1
    ·rw [if_pos c4] at H; have c4b0 := decide_eq_true c4; clear c4; obtain ⟨t646, A5, H⟩ := bnd_ H; by_cases c6 : (rdOf ByteArray.empty l0 x5_1).toList = t646.toList
     ·rw [if_pos c6] at H; obtain ⟨c6b0, c6b1⟩ := eqT_ c6; clear c6; have H' := am_ H; clear H; try go_wp2
      replace HB := bd_ HB; have p645 : 0 ≤ (x5_1 : Int) := oda_; have q645 : x5_1 < (l0.length : Int) := oda_; obtain ⟨ad645, e645, hx645_0⟩ := Kd.at_string HR0.out x5_1 p645 q645; have hw645_0 := hx645_0; cases e645; replace hx645_0 := hc_ HB hx645_0; replace p645 := eq_true p645; replace q645 := eq_true q645; refine start_ (n := 7) (S := fun w' => w'.cell? (ad645.add (x5_1).toNat) = some (.string (rdOf ByteArray.empty l0 x5_1))) (ds := []) #[false, false, false, false, false, false, false] (by kernel_rfl) rfl rfl ((hc_ HB hw645_0)) (fun hHeld => ?_); generalize wr.drew = w7 at HB hx645_0 hHeld ⊢
      refine pure_ (i := 0) (N := some 12) (v := ?_) (a' := ?_) #[true, false, false, false, false, false, false] rfl rfl (by kernel_rfl) (fun _ _ _ h => h) (Or.inl ⟨by rfl, ?_⟩) ?_ ?_; rotate_left
      ·intro w'; go_simp
       with_reducible rfl
      rotate_left
      ·simp only [Act.put, sA_, sZ_, sS_, i64_w, i32_w]
       rfl
      refine pure_ (i := 1) (N := some 13) (v := ?_) (a' := ?_) #[true, true, false, false, false, false, false] rfl rfl (by kernel_rfl) (fun _ _ _ h => h) (Or.inl ⟨by rfl, ?_⟩) ?_ ?_; rotate_left
      ·intro w'; go_simp
       with_reducible rfl
      rotate_left
      ·simp only [Act.put, sA_, sZ_, sS_, i64_w, i32_w]
       rfl
      refine pure_ (i := 2) (N := some 14) (v := ?_) (a' := ?_) #[true, true, true, false, false, false, false] rfl rfl (by kernel_rfl) (fun _ _ _ h => h) (Or.inl ⟨by rfl, ?_⟩) ?_ ?_; rotate_left
      ·intro w'; go_simp
       with_reducible rfl
      rotate_left
      ·simp only [Act.put, sA_, sZ_, sS_, i64_w, i32_w]
       rfl
      refine pure_ (i := 4) (N := some 16) (v := ?_) (a' := ?_) #[true, true, true, false, true, false, false] rfl rfl (by kernel_rfl) (fun _ _ _ h => h) (Or.inl ⟨by rfl, ?_⟩) ?_ ?_; rotate_left
      ·intro w'; go_simp
       with_reducible rfl
      rotate_left
      ·simp only [Act.put, sA_, sZ_, sS_, i64_w, i32_w]
       rfl
      refine take_ (i := 3) (N := some 15) (v := ?_) (a' := ?_) #[true, true, true, true, true, false, false] rfl rfl (by kernel_rfl) (fun _ _ _ h => h) (Or.inl ⟨by rfl, ?_⟩) hHeld ?_ ?_; rotate_left
      ·intro w' s0; go_simp
       with_reducible rfl
      rotate_left
      ·simp only [Act.put, sA_, sZ_, sS_, i64_w, i32_w]
       rfl
      refine one_ (i := 5) (N := some 17) #[true, true, true, true, true, true, false] rfl rfl (by kernel_rfl) (by decide) (fun K hK => ?_); refine gO_ Try.func91 #[.int .i64 x1_1] ?_; with_reducible refine (laws_markText.calls k1 x1_1 t646 _ A5.out).mono ?_
      rintro e w8 ⟨rfl, hb⟩; refine ⟨_, rfl, ?_⟩; replace HB := bs0_ HB hb; try clear hb
      refine hK.out _ _ ((hc_ HB hw645_0)) (fun hHeld => ?_); clear hK K; refine nm_ 17 (h := ?_); refine pure_ (i := 6) (N := some 18) (v := ?_) (a' := ?_) #[true, true, true, true, true, true, true] rfl rfl (by kernel_rfl) (fun _ _ _ h => h) (Or.inl ⟨by rfl, ?_⟩) ?_ ?_; rotate_left
      ·intro w'; go_simp
       with_reducible rfl
      rotate_left
      ·simp only [Act.put, sA_, sZ_, sS_, i64_w, i32_w]
       rfl
      refine done_ (by kernel_rfl) ?_; try go_wp2
      go_roundg k1
      case measure => have := HK1.out; omega
      case rel => exact ⟨(wrap64 (x1_1 + 1)), (wrap64 (x5_1 + 1)), vt_, vt_, H', hl_ HK1, bX0_ HB⟩
     ·rw [if_neg c6] at H; obtain ⟨c6b0, c6b1⟩ := eqF_ c6; obtain rfl := Option.some.inj H; try go_wp2
      replace HB := bd_ HB; have p645 : 0 ≤ (x5_1 : Int) := oda_; have q645 : x5_1 < (l0.length : Int) := oda_; obtain ⟨ad645, e645, hx645_0⟩ := Kd.at_string HR0.out x5_1 p645 q645; have hw645_0 := hx645_0; cases e645; replace hx645_0 := hc_ HB hx645_0; replace p645 := eq_true p645; replace q645 := eq_true q645; refine start_ (n := 7) (S := fun w' => w'.cell? (ad645.add (x5_1).toNat) = some (.string (rdOf ByteArray.empty l0 x5_1))) (ds := []) #[false, false, false, false, false, false, false] (by kernel_rfl) rfl rfl ((hc_ HB hw645_0)) (fun hHeld => ?_); generalize wr.drew = w9 at HB hx645_0 hHeld ⊢
      refine pure_ (i := 0) (N := some 12) (v := ?_) (a' := ?_) #[true, false, false, false, false, false, false] rfl rfl (by kernel_rfl) (fun _ _ _ h => h) (Or.inl ⟨by rfl, ?_⟩) ?_ ?_; rotate_left
      ·intro w'; go_simp
       with_reducible rfl
      rotate_left
      ·simp only [Act.put, sA_, sZ_, sS_, i64_w, i32_w]
       rfl
      refine pure_ (i := 1) (N := some 13) (v := ?_) (a' := ?_) #[true, true, false, false, false, false, false] rfl rfl (by kernel_rfl) (fun _ _ _ h => h) (Or.inl ⟨by rfl, ?_⟩) ?_ ?_; rotate_left
      ·intro w'; go_simp
       with_reducible rfl
      rotate_left
      ·simp only [Act.put, sA_, sZ_, sS_, i64_w, i32_w]
       rfl
      refine pure_ (i := 2) (N := some 14) (v := ?_) (a' := ?_) #[true, true, true, false, false, false, false] rfl rfl (by kernel_rfl) (fun _ _ _ h => h) (Or.inl ⟨by rfl, ?_⟩) ?_ ?_; rotate_left
      ·intro w'; go_simp
       with_reducible rfl
      rotate_left
      ·simp only [Act.put, sA_, sZ_, sS_, i64_w, i32_w]
       rfl
      refine pure_ (i := 4) (N := some 16) (v := ?_) (a' := ?_) #[true, true, true, false, true, false, false] rfl rfl (by kernel_rfl) (fun _ _ _ h => h) (Or.inl ⟨by rfl, ?_⟩) ?_ ?_; rotate_left
      ·intro w'; go_simp
       with_reducible rfl
      rotate_left
      ·simp only [Act.put, sA_, sZ_, sS_, i64_w, i32_w]
       rfl
      refine take_ (i := 3) (N := some 15) (v := ?_) (a' := ?_) #[true, true, true, true, true, false, false] rfl rfl (by kernel_rfl) (fun _ _ _ h => h) (Or.inl ⟨by rfl, ?_⟩) hHeld ?_ ?_; rotate_left
      ·intro w' s0; go_simp
       with_reducible rfl
      rotate_left
      ·simp only [Act.put, sA_, sZ_, sS_, i64_w, i32_w]
       rfl
      refine one_ (i := 5) (N := some 17) #[true, true, true, true, true, true, false] rfl rfl (by kernel_rfl) (by decide) (fun K hK => ?_); refine gO_ Try.func91 #[.int .i64 x1_1] ?_; with_reducible refine (laws_markText.calls k1 x1_1 t646 _ A5.out).mono ?_
      rintro e w10 ⟨rfl, hb⟩; refine ⟨_, rfl, ?_⟩; replace HB := bs0_ HB hb; try clear hb
      refine hK.out _ _ ((hc_ HB hw645_0)) (fun hHeld => ?_); clear hK K; refine nm_ 17 (h := ?_); refine pure_ (i := 6) (N := some 18) (v := ?_) (a' := ?_) #[true, true, true, true, true, true, true] rfl rfl (by kernel_rfl) (fun _ _ _ h => h) (Or.inl ⟨by rfl, ?_⟩) ?_ ?_; rotate_left
      ·intro w'; go_simp
       with_reducible rfl
      rotate_left
      ·simp only [Act.put, sA_, sZ_, sS_, i64_w, i32_w]
       rfl
      refine done_ (by kernel_rfl) ?_; try go_wp2
      go_ret; exact ⟨er_, bx0 HB.out⟩
    ·rw [if_neg c4] at H; exact absurd H (by simp)
   ·rw [if_neg c3] at H; have c3b0 := decide_eq_false c3; clear c3; obtain rfl := Option.some.inj H; go_wp2; go_ret; exact ⟨er_, bx0 HB.out⟩
def spec_l14Less.l0 : Nat → List Int → List Int → Int → Option (Bool)
 | 0, _, _, _ => none
 | k + 1, x0, x1, x5 => if x5 < (x0.length : Int) then (if 0 ≤ x5 then (if x5 < (x1.length : Int) then (if (rd x0 x5) = (rd x1 x5) then (spec_l14Less.l0 k x0 x1 (wrap64 (x5 + 1))) else (some (decide ((rd x0 x5) < (rd x1 x5))))) else (none)) else (none)) else (some false)
def spec_l14Less.f (k : Nat) (l0 : List Int) (l1 : List Int) : Option (Bool) := spec_l14Less.l0 k l0 l1 0
theorem spec_l14Less.mono_l : ∀ k, (∀ y0 y1 y2, LeO (spec_l14Less.l0 k y0 y1 y2) (spec_l14Less.l0 (k + 1) y0 y1 y2))
 | 0 => fun _ _ _ r h => by simp [spec_l14Less.l0] at h
 | k + 1 => by
  have ih0 := spec_l14Less.mono_l k
  ·intro y0 y1 y2; unfold spec_l14Less.l0
   repeat' first | (with_reducible first | apply ih0 | exact LeO.refl _ | exact LeO.none _ | refine LeO.ite ?_ ?_ | refine LeO.bind ?_ (fun _ => ?_)) | exact LeO.none _
theorem spec_l14Less.mono : ∀ a0 a1 k, LeO (spec_l14Less.f k a0 a1) (spec_l14Less.f (k + 1) a0 a1) := by
 intro a0 a1 k; have ih0 := spec_l14Less.mono_l k; unfold spec_l14Less.f
 repeat' first | (with_reducible first | apply ih0 | exact LeO.refl _ | exact LeO.none _ | refine LeO.ite ?_ ?_ | refine LeO.bind ?_ (fun _ => ?_)) | exact LeO.none _
set_option maxHeartbeats 8000000 in
set_option maxRecDepth 100000 in
theorem spec_l14Less.calls (k : Nat) (A0 : Option Addr) (c0 : Nat) (l0 : List Int) (A1 : Option Addr) (c1 : Nat) (l1 : List Int) (r : Bool) (w : World) (hr0 : Kd.C (Kd.int .i64) w A0 l0.length l0) (hc0 : l0.length ≤ c0) (hr1 : Kd.C (Kd.int .i64) w A1 l1.length l1) (hc1 : l1.length ≤ c1) (h : spec_l14Less.f k l0 l1 = some r) :
  Calls Try.prog 195 #[.slice A0 l0.length c0, .slice A1 l1.length c1] w fun e w' => e = .returned (.bool r) ∧ Drawn0 w w' := by
 have HR0 := am_ hr0; have HC0 := am_ hc0; clear hr0 hc0; have HR1 := am_ hr1; have HC1 := am_ hc1; clear hr1 hc1; have H : (spec_l14Less.l0 k l0 l1 0) = some r := h; clear h; have H' := am_ H; clear H; go_enter Try.func195, Try.ntmps195
 go_wp2; repeat (go_quiet (fail); try go_wp2)
 go_loopg [5] k (fun kq v5 w' => ∃ (x5_1 : Int), v5 = .int .i64 x5_1 ∧ Aside0 (spec_l14Less.l0 kq l0 l1 x5_1 = some r) ∧ Aside0 (kq ≤ k) ∧ Drawn0 w w')
 case atStart => exact ⟨(0), vt_, H', ⟨Nat.le_refl _⟩, dr_⟩
 case round =>
  clear H'; obtain ⟨x5_1, rfl, HA, HK1, ⟨m1, rfl⟩⟩ := hrel; cases gk with
  | zero => exact absurd HA.out (by simp [spec_l14Less.l0])
  | succ k1 =>
   have H := HA.out; clear HA; simp only [spec_l14Less.l0] at H
   by_cases c3 : x5_1 < (l0.length : Int)
   ·rw [if_pos c3] at H; have c3b0 := decide_eq_true c3; clear c3; by_cases c4 : 0 ≤ x5_1
    ·rw [if_pos c4] at H; have c4b0 := decide_eq_true c4; clear c4; by_cases c5 : x5_1 < (l1.length : Int)
     ·rw [if_pos c5] at H; have c5b0 := decide_eq_true c5; clear c5; by_cases c6 : (rd l0 x5_1) = (rd l1 x5_1)
      ·rw [if_pos c6] at H; obtain ⟨c6b0, c6b1⟩ := eqT_ c6; clear c6; have H' := am_ H; clear H; have p226 : 0 ≤ (x5_1 : Int) := oda_; have q226 : x5_1 < (l0.length : Int) := oda_; obtain ⟨ad226, e226, hx226_0⟩ := Kd.at_int HR0.out x5_1 p226 q226; cases e226; replace p226 := eq_true p226; replace q226 := eq_true q226; have p227 : 0 ≤ (x5_1 : Int) := oda_; have q227 : x5_1 < (l1.length : Int) := oda_; obtain ⟨ad227, e227, hx227_0⟩ := Kd.at_int HR1.out x5_1 p227 q227; cases e227; replace p227 := eq_true p227; replace q227 := eq_true q227; go_wp2; repeat (go_quiet (fail); try go_wp2)
       go_roundg k1
       case measure => have := HK1.out; omega
       case rel => exact ⟨(wrap64 (x5_1 + 1)), vt_, H', hl_ HK1, dr_⟩
      ·rw [if_neg c6] at H; obtain ⟨c6b0, c6b1⟩ := eqF_ c6; obtain rfl := Option.some.inj H; have p226 : 0 ≤ (x5_1 : Int) := oda_; have q226 : x5_1 < (l0.length : Int) := oda_; obtain ⟨ad226, e226, hx226_0⟩ := Kd.at_int HR0.out x5_1 p226 q226; cases e226; replace p226 := eq_true p226; replace q226 := eq_true q226; have p227 : 0 ≤ (x5_1 : Int) := oda_; have q227 : x5_1 < (l1.length : Int) := oda_; obtain ⟨ad227, e227, hx227_0⟩ := Kd.at_int HR1.out x5_1 p227 q227; cases e227; replace p227 := eq_true p227; replace q227 := eq_true q227; have p228 : 0 ≤ (x5_1 : Int) := oda_; have q228 : x5_1 < (l0.length : Int) := oda_; obtain ⟨ad228, e228, hx228_0⟩ := Kd.at_int HR0.out x5_1 p228 q228; obtain rfl : ad226 = ad228 := (by injection e228); replace p228 := eq_true p228; replace q228 := eq_true q228; have p229 : 0 ≤ (x5_1 : Int) := oda_; have q229 : x5_1 < (l1.length : Int) := oda_; obtain ⟨ad229, e229, hx229_0⟩ := Kd.at_int HR1.out x5_1 p229 q229; obtain rfl : ad227 = ad229 := (by injection e229); replace p229 := eq_true p229; replace q229 := eq_true q229; go_wp2; repeat (go_quiet (fail); try go_wp2)
       go_ret; exact ⟨by first | rfl | (simp; done) | (simp [*]; done), dr_⟩
     ·rw [if_neg c5] at H; exact absurd H (by simp)
    ·rw [if_neg c4] at H; exact absurd H (by simp)
   ·rw [if_neg c3] at H; have c3b0 := decide_eq_false c3; clear c3; obtain rfl := Option.some.inj H; go_wp2; repeat (go_quiet (fail); try go_wp2)
    go_ret; exact ⟨by first | rfl | (simp; done) | (simp [*]; done), dr_⟩
end Go.Proofs.Ytoajlmlobaccdaa.P
namespace Go.Proofs.Ytoajlmlobaccdaa.P
open Go.RowKit Go.Proofs.YtoajlmlobaccdaaW.PrintWords Go.Proofs.YtoajlmlobaccdaaW.PrintLast Go.Proofs.YtoajlmlobaccdaaW.PrintMore
attribute [local go_sem] ptrOf_slice
set_option linter.unusedVariables false
set_option linter.unusedSimpArgs false
abbrev Hd := Option Addr × Nat × Nat
abbrev encH (h : Hd) : Value := .slice h.1 h.2.1 h.2.2
def hdrK : Kd Hd := Kd.scalar encH (fun _ => rfl)
def Fr35 (w w1 : World) : Prop := ∀ (g : Nat) (o : Obj), w.heap[g]? = some o → (∀ cells, o ≠ .cells cells 34 (0, 0)) → w1.heap[g]? = some o
theorem Fr35.refl (w : World) : Fr35 w w := fun _ _ h _ => h
theorem Fr35.trans {w w1 w2 : World} (h : Fr35 w w1) (h2 : Fr35 w1 w2) : Fr35 w w2 := fun g o ho hn => h2 g o (h g o ho hn) hn
theorem Fr35.below {w w1 : World} (h : Below w.heap.size w w1) : Fr35 w w1 := fun g o ho _ => (h.block g (Array.getElem?_eq_some_iff.1 ho).1).trans ho
theorem Fr35.grown {w w1 : World} {row : Option Nat} (hg : w.grownBy w1 row) (hr : ∀ k, row = some k → ∃ cells, w.heap[k]? = some (.cells cells 34 (0, 0))) : Fr35 w w1 := fun g o ho hn => by
  refine (hg.block g (Array.getElem?_eq_some_iff.1 ho).1 (fun e => ?_)).trans ho; obtain ⟨cells, hc⟩ := hr g e.symm; rw [hc] at ho; exact hn cells (Option.some.inj ho).symm
def Row3 (w : World) (okI : Nat → Prop) (h : Hd) (x : List Int) : Prop := Kd.R (Kd.int .i64) 3 w 0 okI (encH h) x
theorem Row3.fr {w w1 : World} {okI : Nat → Prop} {h : Hd} {x : List Int} (hr : Row3 w okI h x) (hf : Fr35 w w1) : Row3 w1 okI h x := by
  refine Kd.R_mono (Kd.R_move (Kd.R_bound hr) (fun k hk => ?_)) (fun _ hk => hk.1); obtain ⟨_, _, hlt, q, hq, cells, hc⟩ := hk; rw [hc]; refine hf k _ hc (fun c2 e => ?_); have hq3 : q = 3 := by
    rcases List.mem_cons.1 hq with e | e
    · exact e
    · cases (show q ∈ ([] : List TypeId) from e)
  subst hq3; injection e with _ e
  exact absurd e (by decide)
structure LL (w : World) (base : Nat) (ok okI : Nat → Prop) (v : Value) (hs : List Hd) (xs : List (List Int)) : Prop where
  own : Kd.R hdrK 34 w base ok v hs
  len : hs.length = xs.length
  row : ∀ (j : Nat) (h : Hd) (x : List Int), hs[j]? = some h → xs[j]? = some x → Row3 w okI h x
theorem Row3.read {w : World} {okI : Nat → Prop} {h : Hd} {x : List Int} (hr : Row3 w okI h x) : encH h = .slice h.1 x.length h.2.2 ∧ Kd.C (Kd.int .i64) w h.1 x.length x ∧ x.length ≤ h.2.2 := by
  obtain ⟨e, h1, h2⟩ := Kd.R_reads' hr; exact ⟨by unfold encH; rw [e], h2, by rw [← e]; exact h1⟩
theorem own_same (A : Option Addr) (n m c : Nat) : (Value.slice A n c).ownBlock = (Value.slice A m c).ownBlock := by cases A <;> rfl
def scanL (k : Nat) (x : List Int) (xs : List (List Int)) : Nat → Option Nat
  | 0 => some 0
  | i + 1 => (spec_l14Less.f k x (xs.getD i [])).bind fun b => if b = true then scanL k x xs i else some (i + 1)
theorem scanL_mono (k : Nat) (x : List Int) (xs : List (List Int)) : ∀ i, LeO (scanL k x xs i) (scanL (k + 1) x xs i)
  | 0 => LeO.refl _
  | i + 1 => LeO.bind (spec_l14Less.mono _ _ _) (fun _ => LeO.ite (scanL_mono k x xs i) (LeO.refl _))
def spec_l14Put.f (k : Nat) (xs : List (List Int)) (x : List Int) : Option (List (List Int)) := if xs.length ≤ 1000000 then (scanL k x xs xs.length).bind fun a => some (xs.take a ++ x :: xs.drop a) else none
theorem spec_l14Put.mono : ∀ a0 a1 k, LeO (spec_l14Put.f k a0 a1) (spec_l14Put.f (k + 1) a0 a1) := fun a0 a1 k => LeO.ite (LeO.bind (scanL_mono _ _ _ _) (fun _ => LeO.refl _)) (LeO.refl _)
theorem LL.insert {w : World} {base : Nat} {ok okI : Nat → Prop} {v : Value} {hs : List Hd} {xs : List (List Int)} {hx : Hd} {x : List Int} {a : Nat} (hlen : hs.length = xs.length) (hrow : ∀ (j : Nat) (h : Hd) (x : List Int), hs[j]? = some h → xs[j]? = some x → Row3 w okI h x) (hX : Row3 w okI hx x) (ha : a ≤ hs.length) (ho : Kd.R hdrK 34 w base ok v (hs.take a ++ hx :: hs.drop a)) : LL w base ok okI v (hs.take a ++ hx :: hs.drop a) (xs.take a ++ x :: xs.drop a) := by
  have l1 : (hs.take a).length = a := by rw [List.length_take]; omega
  have l2 : (xs.take a).length = a := by rw [List.length_take]; omega
  refine ⟨ho, by simp only [List.length_append, List.length_cons, List.length_drop, l1, l2]; omega, fun j h y hj hy => ?_⟩; rcases Nat.lt_trichotomy j a with hlt | rfl | hgt
  · rw [List.getElem?_append_left (by omega), List.getElem?_take_of_lt hlt] at hj hy; exact hrow j h y hj hy
  · rw [List.getElem?_append_right (by omega), l1, Nat.sub_self, List.getElem?_cons_zero] at hj; rw [List.getElem?_append_right (by omega), l2, Nat.sub_self, List.getElem?_cons_zero] at hy; obtain rfl := Option.some.inj hj; obtain rfl := Option.some.inj hy; exact hX
  · rw [List.getElem?_append_right (by omega), l1, show j - a = (j - a - 1) + 1 by omega, List.getElem?_cons_succ, List.getElem?_drop] at hj; rw [List.getElem?_append_right (by omega), l2, show j - a = (j - a - 1) + 1 by omega, List.getElem?_cons_succ, List.getElem?_drop] at hy; exact hrow _ h y hj hy
theorem at_hd {w : World} {A : Option Addr} {n : Nat} {hs : List Hd} (h : Kd.C hdrK w A n hs) (i : Int) (h0 : 0 ≤ i) (h1 : i < n) : ∃ ad, A = some ad ∧ w.cell? (ad.add i.toNat) = some (encH (rdOf (none, 0, 0) hs i)) :=
  ReadsOf.at_ (Kd.reads_of_C (enc := encH) (d := (none, 0, 0)) (h1 := fun _ => rfl) h) i h0 h1
set_option maxHeartbeats 8000000 in
set_option maxRecDepth 100000 in
theorem spec_l14Put.calls (k : Nat) (P0_ okI : Nat → Prop) (u : Value) (hx : Hd) (hs : List Hd) (xs : List (List Int)) (x : List Int) (r : List (List Int)) (w0 w : World) (hB : Below w0.heap.size w0 w) (hL : LL w w0.heap.size P0_ okI u hs xs) (hX : Row3 w okI hx x) (h : spec_l14Put.f k xs x = some r) :
    Calls Try.prog 151 #[u, encH hx] w fun e w' => ∃ (v : Value) (hs' : List Hd), e = .returned v ∧ LL w' w0.heap.size (fun k_ => P0_ k_ ∨ w.heap.size ≤ k_) okI v hs' r ∧ Below w0.heap.size w0 w' ∧ Kept w w' (fun k_ => P0_ k_) ∧ Fr35 w w' := by
  unfold spec_l14Put.f at h
  by_cases hz : xs.length ≤ 1000000
  case neg => rw [if_neg hz] at h; cases h
  rw [if_pos hz] at h; obtain ⟨a, hsc, h⟩ := Option.bind_eq_some_iff.mp h; obtain rfl := Option.some.inj h; clear h; have HLN := am_ hL.len; have HRW := am_ hL.row; have HX := am_ hX; have HSZ := am_ (show hs.length ≤ 1000000 by rw [hL.len]; exact hz); obtain ⟨A, c, rfl⟩ := Kd.R_slice hL.own; have HCAP := am_ (Kd.R_reads' hL.own).2.1; have HO0 := am_ hL.own; have HB0 := am_ hB; have HSC := am_ (show scanL k x xs hs.length = some a from by rw [hL.len]; exact hsc); have hxe := hX.read.1; obtain ⟨hA, hn, hc⟩ := hx; obtain rfl : hn = x.length := by unfold encH at hxe; injection hxe
  clear hB hL hX hz hsc hxe; show Calls Try.prog 151 #[.slice A hs.length c, .slice hA x.length hc] w _
  go_enter Try.func151, Try.ntmps151
  go_wp2; go_loopg [5] (hs.length + 1) (fun kq v5 w' => ∃ (i : Nat) (x5 : Int), v5 = .int .i64 x5 ∧ Aside0 (x5 = (i : Int) ∧ i ≤ hs.length ∧ kq = i + 1) ∧ Aside0 (scanL k x xs i = some a) ∧ Aside0 (Kd.R hdrK 34 w' w0.heap.size P0_ (.slice A hs.length c) hs) ∧ Aside0 (Below w0.heap.size w0 w') ∧ Aside0 (Kept w w' (fun k_ => P0_ k_)) ∧ Aside0 (Fr35 w w'))
  case atStart => exact ⟨hs.length, _, rfl, ⟨rfl, Nat.le_refl _, rfl⟩, HSC, HO0, HB0, ⟨Kept.refl _ _⟩, ⟨Fr35.refl _⟩⟩
  case round =>
    clear HSC HO0 HB0; obtain ⟨i, x5, rfl, HI, HS, HO, HB, HK, HF⟩ := hrel; obtain ⟨hi0, hi1, hi2⟩ := HI.out; cases i with
    | zero =>
      obtain rfl := Option.some.inj (show some 0 = some a from HS.out); have X0 : decide (x5 > 0) = false := decide_eq_false (by omega); have X1 := eq_false (show ¬ x5 > 0 by omega); have X2 := eq_false (show ¬ 0 < x5 by omega); have X3 : decide (0 < x5) = false := decide_eq_false (by omega); have HN := am_ (show x5.toNat = 0 ∧ 0 ≤ hs.length from ⟨by omega, by omega⟩); have q0 : (0 : Int) ≤ x5 := by omega
      have q1 : x5 ≤ (hs.length : Int) := by omega
      obtain ⟨i0, hi0_, _, hsz0, _⟩ := info_parts info34; have hcut0 := cut_from (P := Try.prog) 39 34 .i64 Try.underlying39 hi0_ 1 hsz0 A hs.length c x5 q0 q1; have hcut1 := cut_to (P := Try.prog) 39 34 .i64 Try.underlying39 hi0_ A hs.length c x5 q0 q1 HCAP.out; obtain ⟨A2, hA2⟩ : ∃ A2, A2 = (if c = x5.toNat then A else A.map (·.add (x5.toNat * 1))) := ⟨_, rfl⟩; obtain ⟨c2, hc2⟩ : ∃ c2, c2 = c - x5.toNat := ⟨_, rfl⟩; obtain ⟨n2, hn2⟩ : ∃ n2, n2 = (hs.drop 0).length := ⟨_, rfl⟩; rw [show hs.length - x5.toNat = n2 from by rw [hn2, List.length_drop]; omega, ← hA2, ← hc2] at hcut0; obtain ⟨n1, hn1⟩ : ∃ n1, n1 = (hs.take 0).length := ⟨_, rfl⟩; rw [show x5.toNat = n1 from by rw [hn1, List.length_take]; omega] at hcut1; have HA2 := am_ (show A2 = (if c = 0 then A else A.map (·.add (0 * 1))) ∧ n2 = (hs.drop 0).length ∧ n2 ≤ c2 ∧ n1 = (hs.take 0).length ∧ n2 ≤ 1000000 ∧ n1 ≤ 1000000 from ⟨by rw [hA2, show x5.toNat = 0 from by omega], hn2, by rw [hn2, hc2, List.length_drop]; have := HCAP.out; omega, hn1, by rw [hn2, List.length_drop]; have := HSZ.out; omega, by rw [hn1, List.length_take]; have := HSZ.out; omega⟩); clear q0 q1 hA2 hc2 hn2 hn1 hi0_ hsz0 hi0 hi1 hi2; go_wp2_with (first
        | ((with_reducible refine gd_ 22 rfl ?_); refine Kd.R_lit hdrK _ 34 ?hg (N := 22) ?hd (xs := ([] : List Hd)) (inner := []) (ok := fun _ => True) (okp := fun _ => True) ?hr ?hp (fun _ hk => hk) trivial (Below.refl _ _) (Nat.le_refl _) (by simp) ?_; (case hd => rfl); (case hg => rfl); (case hr => first | (go_simp; done) | (go_simp; rfl)); (case hp => exact (Reps.none _ _)); intro v1 w16 ho hb hg_ hnew_; clear hg_ hnew_
           have HOu := am_ (Kd.R_elder' HO.out (Kd.R_base ho) hb); have HOr := am_ (Kd.R_lower (Kd.R_mono (Kd.R_bound (Kd.R_new' ho (Kd.R_lt HO.out))) (fun k_ hk => (⟨Nat.le_trans HK.out.1 hk.2.1, hk.1.2⟩ : w.heap.size ≤ k_ ∧ some k_ ≠ (Value.slice A hs.length c).ownBlock))) HB.out.size); have HB1 := am_ (below_step HB.out hb); have HK1 := am_ (Kept.below HK.out hb); have HF1 := am_ (HF.out.trans (Fr35.below hb)); clear ho hb HO HB HK HF)
        | ((with_reducible refine gate_builtin (b := .append) (xs := #[.tmp 22, .tmp 25]) rfl ?_); at_builtin
           have hrd : Kd.C hdrK w16 A2 n2 (hs.drop 0) := by
             have h1 := Kd.C_drop (m := 0) (c := c) (Kd.R_reads' HOu.out).2.2 HN.out.2 HCAP.out; rw [HA2.out.1, HA2.out.2.1]; exact h1
           refine Kd.R_append_rows hdrK (w0 := w0) w0.heap.size rfl (.tmp 22) (.tmp 25) 39 34 (.slice none 0 0) 24 rfl Try.underlying39 info34 rfl (by decide) (by omega) v1 [] (hs.drop 0) A2 n2 c2 (fun k_ => w.heap.size ≤ k_ ∧ some k_ ≠ (Value.slice A hs.length c).ownBlock) (fun _ => False) rfl rfl HOr.out hrd (fun _ _ h => h) (fun _ h => h.elim) (fun k_ hk => ⟨Nat.le_trans HK1.out.1 hk, Kd.fresh' (Kd.R_lt HOu.out) k_ hk⟩) HB1.out HB1.out.size (by have := HA2.out; simp only [List.length_nil]; omega) ?_; intro v2 w19 ho hb hg hat; have HOu2 := am_ (Kd.R_after (ok := P0_) HOu.out hg hat); have HB2 := am_ hb; have HK2 := am_ (Kept.of_grown (S := P0_) hg HK1.out (fun k_ e_ => .inr (HOr.out.1 k_ e_).1)); have HF2 := am_ (HF1.out.trans (Fr35.grown hg (Kd.R_typed HOr.out))); have HOr2 := am_ ho; have HOt := am_ (show Kd.R hdrK 34 w19 w0.heap.size (fun k_ => P0_ k_ ∧ some k_ ≠ v2.ownBlock) (.slice A n1 c) (hs.take 0) from by have h1 := Kd.R_take (m := 0) HOu2.out HN.out.2; have e := HA2.out.2.2.2.1; have e2 : 0 = n1 := (by rw [e, List.length_take]; have := HN.out.2; omega); rw [← e2]; exact h1); clear ho hb hg hat hrd HOu HOr HB1 HK1 HF1)
        | ((with_reducible refine gate_builtin (b := .append) (xs := #[.tmp 29, .tmp 31]) rfl ?_); at_builtin
           refine Kd.R_append hdrK (w0 := w0) w0.heap.size rfl (.tmp 29) (.tmp 31) 39 34 (.slice none 0 0) 24 rfl Try.underlying39 info34 rfl (by decide) (by omega) (.slice A n1 c) (hs.take 0) ((hA, x.length, hc) : Hd) [.slice hA x.length hc] (fun k_ => (P0_ k_ ∨ w.heap.size ≤ k_) ∧ some k_ ≠ v2.ownBlock) (fun _ => False) rfl rfl rfl (fun _ h => h.elim) (fun k_ hk => ⟨.inr (Nat.le_trans HK2.out.1 hk), Kd.fresh' (Kd.R_lt HOr2.out) k_ hk⟩) (Kd.R_mono HOt.out (fun k_ hk => ⟨.inl hk.1, hk.2⟩)) HB2.out HB2.out.size (by have := HA2.out; omega) ?_; intro v3 w21 ho hb hg hat; have HOr3 := am_ (Kd.R_after (ok := fun k_ => w.heap.size ≤ k_) (v := .slice A n1 c) (Kd.R_mono HOr2.out (fun k_ hk => ⟨hk.1, by rw [own_same A _ hs.length c]; exact hk.2⟩)) hg hat); have HB3 := am_ hb; have HK3 := am_ (Kept.of_grown (S := P0_) hg HK2.out (fun k_ e_ => .inl (HOt.out.1 k_ e_).1)); have HF3 := am_ (HF2.out.trans (Fr35.grown hg (Kd.R_typed HOt.out))); have HO3 := am_ ho; obtain ⟨A3, c3, hv2⟩ := Kd.R_slice HOr3.out; replace hv2 : v2 = .slice A3 n2 c3 := hv2.trans (congrArg (fun n_ => Value.slice A3 n_ c3) (show (([] : List Hd) ++ hs.drop 0).length = n2 from HA2.out.2.1.symm)); subst hv2; clear ho hb hg hat HOu2 HOr2 HOt HB2 HK2 HF2)
        | ((with_reducible refine gate_builtin (b := .append) (xs := #[.tmp 32, .tmp 33]) rfl ?_); at_builtin
           refine Kd.R_append_rows hdrK (w0 := w0) w0.heap.size rfl (.tmp 32) (.tmp 33) 39 34 (.slice none 0 0) 24 rfl Try.underlying39 info34 rfl (by decide) (by omega) v3 (hs.take 0 ++ [((hA, x.length, hc) : Hd)]) (hs.drop 0) A3 n2 c3 (fun k_ => (P0_ k_ ∨ w.heap.size ≤ k_) ∧ some k_ ≠ (Value.slice A3 n2 c3).ownBlock) (fun _ => False) rfl rfl HO3.out (by rw [HA2.out.2.1]; exact (Kd.R_reads' HOr3.out).2.2) (fun _ _ h => h) (fun _ h => h.elim) (fun k_ hk => ⟨.inr (Nat.le_trans HK3.out.1 hk), Kd.fresh' (Kd.R_lt HOr3.out) k_ hk⟩) HB3.out HB3.out.size (by have := HA2.out; rw [List.length_append, List.length_singleton]; omega) ?_; intro v4 w22 ho hb hg hat; have HB4 := am_ hb; have HK4 := am_ (Kept.of_grown (S := P0_) hg HK3.out (fun k_ e_ => (HO3.out.1 k_ e_).1)); have HF4 := am_ (HF3.out.trans (Fr35.grown hg (Kd.R_typed HO3.out))); have HO4 := am_ (show Kd.R hdrK 34 w22 w0.heap.size (fun k_ => P0_ k_ ∨ w.heap.size ≤ k_) v4 (hs.take 0 ++ ((hA, x.length, hc) : Hd) :: hs.drop 0) from by rw [show hs.take 0 ++ ((hA, x.length, hc) : Hd) :: hs.drop 0 = (hs.take 0 ++ [((hA, x.length, hc) : Hd)]) ++ hs.drop 0 from by simp]; exact Kd.R_mono ho (fun k_ hk => hk.1)); clear ho hb hg hat HO3 HOr3 HB3 HK3 HF3))
      go_ret; exact ⟨_, _, rfl, LL.insert HLN.out (fun j h y hj hy => (HRW.out j h y hj hy).fr HF4.out) (HX.out.fr HF4.out) HN.out.2 HO4.out, HB4.out, HK4.out, HF4.out⟩
    | succ i =>
      obtain ⟨b, hb, hsc⟩ := Option.bind_eq_some_iff.mp HS.out; have X0 : decide (x5 > 0) = true := decide_eq_true (by omega); have X1 := eq_true (show x5 > 0 by omega); have X2 := eq_true (show 0 < x5 by omega); have X3 : decide (0 < x5) = true := decide_eq_true (by omega); obtain ⟨y, hy⟩ : ∃ y : Int, wrap64 (x5 - 1) = y := ⟨_, rfl⟩; have hyi : (IntKind.i64.wrap (x5 - 1)) = y := (i64_w _).trans hy; have hyp : y = (i : Int) := by rw [← hy, hi0]; have := HSZ.out; unfold wrap64; omega
      obtain ⟨ad, e0, z0⟩ := at_hd (Kd.R_reads' HO.out).2.2 y (by omega) (by omega); subst e0; have hil : i < hs.length := by omega
      have hix : i < xs.length := by rw [← HLN.out]; exact hil
      obtain ⟨h0, hh0⟩ : ∃ h0, h0 = rdOf (none, 0, 0) hs y := ⟨_, rfl⟩; rw [← hh0] at z0; have hg0 : hs[i]? = some h0 := by
        rw [hh0, hyp]; unfold rdOf
        rw [Int.toNat_natCast, List.getD_eq_getElem?_getD, List.getElem?_eq_getElem hil]; rfl
      obtain ⟨x0, hx0⟩ : ∃ x0, x0 = xs.getD i [] := ⟨_, rfl⟩; have hg1 : xs[i]? = some x0 := by
        rw [hx0, List.getD_eq_getElem?_getD, List.getElem?_eq_getElem hix]; rfl
      rw [← hx0] at hb; have HR0 := am_ (HRW.out i h0 x0 hg0 hg1); have hre := HR0.out.read.1; obtain ⟨hA0, hn0, hc0⟩ := h0; obtain rfl : hn0 = x0.length := by unfold encH at hre; injection hre
      replace z0 : _ = some (Value.slice hA0 x0.length hc0) := z0; have Y0 := eq_true (show 0 ≤ y by omega); have Y1 := eq_true (show y < (hs.length : Int) by omega); have Y0b : decide (0 ≤ y) = true := decide_eq_true (by omega); have Y1b : decide (y < (hs.length : Int)) = true := decide_eq_true (by omega); have HLS := am_ hb; have HSC := am_ hsc; have HY := am_ (show y = (i : Int) ∧ i + 1 ≤ hs.length ∧ gk = i + 2 from ⟨hyp, by omega, by omega⟩); have HXC := am_ ((HX.out.fr HF.out).read); have HRC := am_ ((HR0.out.fr HF.out).read); clear hb hsc hyp hil hix hh0 hg0 hx0 hg1 hre HS HR0; cases b with
      | true =>
        clear hi0 hi1 hi2 HI; go_wp2_with (first | (go_at_call 195; refine (spec_l14Less.calls k hA hc x hA0 hc0 x0 true _ HXC.out.2.1 HXC.out.2.2 HRC.out.2.1 HRC.out.2.2 HLS.out).mono ?_; rintro e w5 ⟨rfl, ⟨nd, hw5⟩⟩; have BL := am_ (show Below wr.heap.size wr w5 from by rw [hw5]; exact pw_below_drewN (Below.refl _ _) nd); clear hw5))
        go_roundg (i + 1)
        case measure => have := HY.out; omega
        case rel => exact ⟨i, y, by first | rfl | (simp; done), ⟨HY.out.1, by have := HY.out; omega, rfl⟩, ⟨by have h := HSC.out; simpa using h⟩, ⟨Kd.R_below HO.out BL.out⟩, ⟨below_step HB.out BL.out⟩, ⟨Kept.below HK.out BL.out⟩, ⟨HF.out.trans (Fr35.below BL.out)⟩⟩
      | false =>
        obtain rfl := Option.some.inj (show some (i + 1) = some a from by have h := HSC.out; simpa using h); have HN := am_ (show x5.toNat = (i + 1) ∧ (i + 1) ≤ hs.length from ⟨by omega, by omega⟩); have q0 : (0 : Int) ≤ x5 := by omega
        have q1 : x5 ≤ (hs.length : Int) := by omega
        obtain ⟨i0, hi0_, _, hsz0, _⟩ := info_parts info34; have hcut0 := cut_from (P := Try.prog) 39 34 .i64 Try.underlying39 hi0_ 1 hsz0 (some ad) hs.length c x5 q0 q1; have hcut1 := cut_to (P := Try.prog) 39 34 .i64 Try.underlying39 hi0_ (some ad) hs.length c x5 q0 q1 HCAP.out; obtain ⟨A2, hA2⟩ : ∃ A2, A2 = (if c = x5.toNat then (some ad) else (some ad : Option Addr).map (·.add (x5.toNat * 1))) := ⟨_, rfl⟩; obtain ⟨c2, hc2⟩ : ∃ c2, c2 = c - x5.toNat := ⟨_, rfl⟩; obtain ⟨n2, hn2⟩ : ∃ n2, n2 = (hs.drop (i + 1)).length := ⟨_, rfl⟩; rw [show hs.length - x5.toNat = n2 from by rw [hn2, List.length_drop]; omega, ← hA2, ← hc2] at hcut0; obtain ⟨n1, hn1⟩ : ∃ n1, n1 = (hs.take (i + 1)).length := ⟨_, rfl⟩; rw [show x5.toNat = n1 from by rw [hn1, List.length_take]; omega] at hcut1; have HA2 := am_ (show A2 = (if c = (i + 1) then (some ad) else (some ad : Option Addr).map (·.add ((i + 1) * 1))) ∧ n2 = (hs.drop (i + 1)).length ∧ n2 ≤ c2 ∧ n1 = (hs.take (i + 1)).length ∧ n2 ≤ 1000000 ∧ n1 ≤ 1000000 from ⟨by rw [hA2, show x5.toNat = (i + 1) from by omega], hn2, by rw [hn2, hc2, List.length_drop]; have := HCAP.out; omega, hn1, by rw [hn2, List.length_drop]; have := HSZ.out; omega, by rw [hn1, List.length_take]; have := HSZ.out; omega⟩); clear q0 q1 hA2 hc2 hn2 hn1 hi0_ hsz0 hi0 hi1 hi2; go_wp2_with (first
          | (go_at_call 195; refine (spec_l14Less.calls k hA hc x hA0 hc0 x0 false _ HXC.out.2.1 HXC.out.2.2 HRC.out.2.1 HRC.out.2.2 HLS.out).mono ?_; rintro e w5 ⟨rfl, ⟨nd, hw5⟩⟩; have BL := am_ (show Below wr.heap.size wr w5 from by rw [hw5]; exact pw_below_drewN (Below.refl _ _) nd); clear hw5
             have HB_ := am_ (below_step HB.out BL.out); have HO_ := am_ (Kd.R_below HO.out BL.out); have HK_ := am_ (Kept.below HK.out BL.out); have HF_ := am_ (HF.out.trans (Fr35.below BL.out)); clear HB HO HK HF BL; have HB := HB_; have HO := HO_; have HK := HK_; have HF := HF_; clear HB_ HO_ HK_ HF_)
          | ((with_reducible refine gd_ 22 rfl ?_); refine Kd.R_lit hdrK _ 34 ?hg (N := 22) ?hd (xs := ([] : List Hd)) (inner := []) (ok := fun _ => True) (okp := fun _ => True) ?hr ?hp (fun _ hk => hk) trivial (Below.refl _ _) (Nat.le_refl _) (by simp) ?_; (case hd => rfl); (case hg => rfl); (case hr => first | (go_simp; done) | (go_simp; rfl)); (case hp => exact (Reps.none _ _)); intro v1 w16 ho hb hg_ hnew_; clear hg_ hnew_
             have HOu := am_ (Kd.R_elder' HO.out (Kd.R_base ho) hb); have HOr := am_ (Kd.R_lower (Kd.R_mono (Kd.R_bound (Kd.R_new' ho (Kd.R_lt HO.out))) (fun k_ hk => (⟨Nat.le_trans HK.out.1 hk.2.1, hk.1.2⟩ : w.heap.size ≤ k_ ∧ some k_ ≠ (Value.slice (some ad) hs.length c).ownBlock))) HB.out.size); have HB1 := am_ (below_step HB.out hb); have HK1 := am_ (Kept.below HK.out hb); have HF1 := am_ (HF.out.trans (Fr35.below hb)); clear ho hb HO HB HK HF)
          | ((with_reducible refine gate_builtin (b := .append) (xs := #[.tmp 22, .tmp 25]) rfl ?_); at_builtin
             have hrd : Kd.C hdrK w16 A2 n2 (hs.drop (i + 1)) := by
               have h1 := Kd.C_drop (m := i + 1) (c := c) (Kd.R_reads' HOu.out).2.2 HN.out.2 HCAP.out; rw [HA2.out.1, HA2.out.2.1]; exact h1
             refine Kd.R_append_rows hdrK (w0 := w0) w0.heap.size rfl (.tmp 22) (.tmp 25) 39 34 (.slice none 0 0) 24 rfl Try.underlying39 info34 rfl (by decide) (by omega) v1 [] (hs.drop (i + 1)) A2 n2 c2 (fun k_ => w.heap.size ≤ k_ ∧ some k_ ≠ (Value.slice (some ad) hs.length c).ownBlock) (fun _ => False) rfl rfl HOr.out hrd (fun _ _ h => h) (fun _ h => h.elim) (fun k_ hk => ⟨Nat.le_trans HK1.out.1 hk, Kd.fresh' (Kd.R_lt HOu.out) k_ hk⟩) HB1.out HB1.out.size (by have := HA2.out; simp only [List.length_nil]; omega) ?_; intro v2 w19 ho hb hg hat; have HOu2 := am_ (Kd.R_after (ok := P0_) HOu.out hg hat); have HB2 := am_ hb; have HK2 := am_ (Kept.of_grown (S := P0_) hg HK1.out (fun k_ e_ => .inr (HOr.out.1 k_ e_).1)); have HF2 := am_ (HF1.out.trans (Fr35.grown hg (Kd.R_typed HOr.out))); have HOr2 := am_ ho; have HOt := am_ (show Kd.R hdrK 34 w19 w0.heap.size (fun k_ => P0_ k_ ∧ some k_ ≠ v2.ownBlock) (.slice (some ad) n1 c) (hs.take (i + 1)) from by have h1 := Kd.R_take (m := i + 1) HOu2.out HN.out.2; have e := HA2.out.2.2.2.1; have e2 : (i + 1) = n1 := (by rw [e, List.length_take]; have := HN.out.2; omega); rw [← e2]; exact h1); clear ho hb hg hat hrd HOu HOr HB1 HK1 HF1)
          | ((with_reducible refine gate_builtin (b := .append) (xs := #[.tmp 29, .tmp 31]) rfl ?_); at_builtin
             refine Kd.R_append hdrK (w0 := w0) w0.heap.size rfl (.tmp 29) (.tmp 31) 39 34 (.slice none 0 0) 24 rfl Try.underlying39 info34 rfl (by decide) (by omega) (.slice (some ad) n1 c) (hs.take (i + 1)) ((hA, x.length, hc) : Hd) [.slice hA x.length hc] (fun k_ => (P0_ k_ ∨ w.heap.size ≤ k_) ∧ some k_ ≠ v2.ownBlock) (fun _ => False) rfl rfl rfl (fun _ h => h.elim) (fun k_ hk => ⟨.inr (Nat.le_trans HK2.out.1 hk), Kd.fresh' (Kd.R_lt HOr2.out) k_ hk⟩) (Kd.R_mono HOt.out (fun k_ hk => ⟨.inl hk.1, hk.2⟩)) HB2.out HB2.out.size (by have := HA2.out; omega) ?_; intro v3 w21 ho hb hg hat; have HOr3 := am_ (Kd.R_after (ok := fun k_ => w.heap.size ≤ k_) (v := .slice (some ad) n1 c) (Kd.R_mono HOr2.out (fun k_ hk => ⟨hk.1, by rw [own_same (some ad) _ hs.length c]; exact hk.2⟩)) hg hat); have HB3 := am_ hb; have HK3 := am_ (Kept.of_grown (S := P0_) hg HK2.out (fun k_ e_ => .inl (HOt.out.1 k_ e_).1)); have HF3 := am_ (HF2.out.trans (Fr35.grown hg (Kd.R_typed HOt.out))); have HO3 := am_ ho; obtain ⟨A3, c3, hv2⟩ := Kd.R_slice HOr3.out; replace hv2 : v2 = .slice A3 n2 c3 := hv2.trans (congrArg (fun n_ => Value.slice A3 n_ c3) (show (([] : List Hd) ++ hs.drop (i + 1)).length = n2 from HA2.out.2.1.symm)); subst hv2; clear ho hb hg hat HOu2 HOr2 HOt HB2 HK2 HF2)
          | ((with_reducible refine gate_builtin (b := .append) (xs := #[.tmp 32, .tmp 33]) rfl ?_); at_builtin
             refine Kd.R_append_rows hdrK (w0 := w0) w0.heap.size rfl (.tmp 32) (.tmp 33) 39 34 (.slice none 0 0) 24 rfl Try.underlying39 info34 rfl (by decide) (by omega) v3 (hs.take (i + 1) ++ [((hA, x.length, hc) : Hd)]) (hs.drop (i + 1)) A3 n2 c3 (fun k_ => (P0_ k_ ∨ w.heap.size ≤ k_) ∧ some k_ ≠ (Value.slice A3 n2 c3).ownBlock) (fun _ => False) rfl rfl HO3.out (by rw [HA2.out.2.1]; exact (Kd.R_reads' HOr3.out).2.2) (fun _ _ h => h) (fun _ h => h.elim) (fun k_ hk => ⟨.inr (Nat.le_trans HK3.out.1 hk), Kd.fresh' (Kd.R_lt HOr3.out) k_ hk⟩) HB3.out HB3.out.size (by have := HA2.out; rw [List.length_append, List.length_singleton]; omega) ?_; intro v4 w22 ho hb hg hat; have HB4 := am_ hb; have HK4 := am_ (Kept.of_grown (S := P0_) hg HK3.out (fun k_ e_ => (HO3.out.1 k_ e_).1)); have HF4 := am_ (HF3.out.trans (Fr35.grown hg (Kd.R_typed HO3.out))); have HO4 := am_ (show Kd.R hdrK 34 w22 w0.heap.size (fun k_ => P0_ k_ ∨ w.heap.size ≤ k_) v4 (hs.take (i + 1) ++ ((hA, x.length, hc) : Hd) :: hs.drop (i + 1)) from by rw [show hs.take (i + 1) ++ ((hA, x.length, hc) : Hd) :: hs.drop (i + 1) = (hs.take (i + 1) ++ [((hA, x.length, hc) : Hd)]) ++ hs.drop (i + 1) from by simp]; exact Kd.R_mono ho (fun k_ hk => hk.1)); clear ho hb hg hat HO3 HOr3 HB3 HK3 HF3))
        go_ret; exact ⟨_, _, rfl, LL.insert HLN.out (fun j h y hj hy => (HRW.out j h y hj hy).fr HF4.out) (HX.out.fr HF4.out) HN.out.2 HO4.out, HB4.out, HK4.out, HF4.out⟩
end Go.Proofs.Ytoajlmlobaccdaa.P
namespace Go.Proofs.Ytoajlmlobaccdaa.P
open Go.RowKit Go.Proofs.YtoajlmlobaccdaaW.PrintWords Go.Proofs.YtoajlmlobaccdaaW.PrintLast Go.Proofs.YtoajlmlobaccdaaW.PrintMore
attribute [local go_sem] ptrOf_slice
attribute [local go_sem] min2_str max2_int min2_int max_two min_two max_three min_three max_four min_four
set_option linter.unusedVariables false
set_option linter.unusedSimpArgs false
def spec_l1In.f (a0 : Int) (a1 : Int) (a2 : Int) : Option (Bool) := if a0 ≥ a1 then (some (decide (a0 ≤ a2))) else (some false)
set_option maxHeartbeats 8000000 in
set_option maxRecDepth 100000 in
theorem spec_l1In.calls (a0 : Int) (a1 : Int) (a2 : Int) (r : Bool) (w : World) (h : spec_l1In.f a0 a1 a2 = some r) :
  Calls Try.prog 79 #[.int .i64 a0, .int .i64 a1, .int .i64 a2] w fun e w' => e = .returned (.bool r) ∧ Drawn0 w w' := by
 have H : (if a0 ≥ a1 then (some (decide (a0 ≤ a2))) else (some false)) = some r := h; clear h; by_cases c4 : a0 ≥ a1
 ·rw [if_pos c4] at H; have c4b0 := decide_eq_true c4; clear c4; obtain rfl := Option.some.inj H; go_enter Try.func79, Try.ntmps79
  go_wp2; go_ret; exact ⟨by first | rfl | (simp; done) | (simp [*]; done), dr_⟩
 ·rw [if_neg c4] at H; have c4b0 := decide_eq_false c4; clear c4; obtain rfl := Option.some.inj H; go_enter Try.func79, Try.ntmps79
  go_wp2; go_ret; exact ⟨by first | rfl | (simp; done) | (simp [*]; done), dr_⟩
def spec_l12Start.l0 : Nat → Int → List Int → Int → Option (List Int)
 | 0, _, _, _ => none
 | k + 1, x0, x3, x4 => if x4 < x0 then (if x3.length < 17592186044416 then (spec_l12Start.l0 k x0 (x3 ++ [x4]) (wrap64 (x4 + 1))) else (none)) else (some x3)
def spec_l12Start.f (k : Nat) (a0 : Int) : Option (List Int) := spec_l12Start.l0 k a0 (([] : List Int)) 0
theorem spec_l12Start.mono_l : ∀ k, (∀ y0 y1 y2, LeO (spec_l12Start.l0 k y0 y1 y2) (spec_l12Start.l0 (k + 1) y0 y1 y2))
 | 0 => fun _ _ _ r h => by simp [spec_l12Start.l0] at h
 | k + 1 => by
  have ih0 := spec_l12Start.mono_l k
  ·intro y0 y1 y2; unfold spec_l12Start.l0
   repeat' first | (with_reducible first | apply ih0 | exact LeO.refl _ | exact LeO.none _ | refine LeO.ite ?_ ?_ | refine LeO.bind ?_ (fun _ => ?_)) | exact LeO.none _
theorem spec_l12Start.mono : ∀ a0 k, LeO (spec_l12Start.f k a0) (spec_l12Start.f (k + 1) a0) := by
 intro a0 k; have ih0 := spec_l12Start.mono_l k; unfold spec_l12Start.f
 repeat' first | (with_reducible first | apply ih0 | exact LeO.refl _ | exact LeO.none _ | refine LeO.ite ?_ ?_ | refine LeO.bind ?_ (fun _ => ?_)) | exact LeO.none _
set_option maxHeartbeats 8000000 in
set_option maxRecDepth 100000 in
theorem spec_l12Start.calls (k : Nat) (a0 : Int) (r : List Int) (w : World) (h : spec_l12Start.f k a0 = some r) :
  Calls Try.prog 145 #[.int .i64 a0] w fun e w' => ∃ v0_ : Value, e = .returned (v0_) ∧ Kd.R (Kd.int .i64) 3 w' w.heap.size (fun _ => True) v0_ r ∧ Below w.heap.size w w' := by
 have HB := am_ (Below.refl w.heap.size w); have H : (spec_l12Start.l0 k a0 (([] : List Int)) 0) = some r := h; clear h; obtain ⟨y101, hy101⟩ : ∃ y_ : List Int, y_ = (([] : List Int)) := ⟨_, rfl⟩; replace H : (spec_l12Start.l0 k a0 y101 0) = some r := yH_ hy101 H; have Ny101 := am_ hy101; clear hy101; have H' := am_ H; clear H; go_enter Try.func145, Try.ntmps145
 go_wp2_with (first | ((with_reducible refine gd_ 5 rfl ?_); refine Kd.R_lit (Kd.int .i64) _ 3 ?hg (N := 5) ?hd (xs := ([] : List Int)) (inner := []) (ok := fun _ => True) (okp := fun _ => True) ?hr ?hp (fun _ hk => hk) trivial (Below.refl _ _) (Nat.le_refl _) (by simp) ?_; (case hd => rfl); (case hg => rfl); (case hr => first | (go_simp; done) | (go_simp; rfl)); (case hp => exact (Reps.none _ _)); intro v102 w2 ho3 hb hg_ hnew_; clear hg_ hnew_; (first | rw [← Ny101.out] at ho3 | (simp only [Int.reduceToNat] at ho3; rw [← Ny101.out] at ho3)); have HO103 := rl0_ ho3 HB; replace HB := bs0_ HB hb; clear hb ho3))
 go_loopg [3, 4] k (fun kq v3 v4 w' => ∃ (x3_1 : List Int) (x4_1 : Int), v4 = .int .i64 x4_1 ∧ Aside0 (spec_l12Start.l0 kq a0 x3_1 x4_1 = some r) ∧ Aside0 (kq ≤ k) ∧ Aside0 (Kd.R (Kd.int .i64) 3 w' w.heap.size (fun _ => True) v3 x3_1) ∧ Aside0 (Below w.heap.size w w'))
 case atStart => exact ⟨(y101), (0), vt_, H', ⟨Nat.le_refl _⟩, rX_ HO103, bX0_ HB⟩
 case round =>
  clear H'; obtain ⟨x3_1, x4_1, rfl, HA, HK1, HO_3, HB⟩ := hrel; cases gk with
  | zero => exact absurd HA.out (by simp [spec_l12Start.l0])
  | succ k1 =>
   have H := HA.out; clear HA; simp only [spec_l12Start.l0] at H
   by_cases c4 : x4_1 < a0
   ·rw [if_pos c4] at H; have c4b0 := decide_eq_true c4; clear c4; by_cases c5 : x3_1.length < 17592186044416
    ·rw [if_pos c5] at H; have LMc5 := am_ c5; clear c5; obtain ⟨y104, hy104⟩ : ∃ y_ : List Int, y_ = (x3_1 ++ [x4_1]) := ⟨_, rfl⟩; replace H : (spec_l12Start.l0 k1 a0 y104 (wrap64 (x4_1 + 1))) = some r := yH_ hy104 H; have Ny104 := am_ hy104; clear hy104; have H' := am_ H; clear H; go_wp2_with (first | ((with_reducible refine gate_builtin (b := .append) (xs := #[.tmp 11, .tmp 13]) rfl ?_); at_builtin; refine Kd.R_append (Kd.int .i64) (w0 := w) w.heap.size rfl (.tmp 11) (.tmp 13) 34 3 (.int .i64 0) 8 rfl Try.underlying34 info3 rfl (by decide) (by omega) u3 x3_1 x4_1 [.int .i64 x4_1] (fun _ => True) (fun _ => False) rfl rfl ?aP (fun _ hk => hk.elim) ?aF ?aO ?aB ?aS ?aL ?_; (case aP => exact rfl); (case aB => exact (bx0 HB.out)); (case aF => exact (fun _ _ => trivial)); (case aO => exact (rx_ HO_3.out)); (case aS => exact (below_size (bx0 HB.out))); (case aL => have := LMc5.out; omega); intro v105 w6 ho hb hg hat; rw [← Ny104.out] at ho; replace HB := am_ hb; have HO106 := am_ ho; clear HO_3; clear ho hb hg hat))
     go_roundg k1
     case measure => have := HK1.out; omega
     case rel => exact ⟨(y104), (wrap64 (x4_1 + 1)), vt_, H', hl_ HK1, rX_ HO106, bX0_ HB⟩
    ·rw [if_neg c5] at H; exact absurd H (by simp)
   ·rw [if_neg c4] at H; have c4b0 := decide_eq_false c4; clear c4; obtain rfl := Option.some.inj H; go_wp2; go_ret; exact ⟨_, by first | rfl | (simp [errW_none, errW_some] <;> rfl) | (simp [*, errW_none, errW_some] <;> rfl), rx_ HO_3.out, bx0 HB.out⟩
end Go.Proofs.Ytoajlmlobaccdaa.P
