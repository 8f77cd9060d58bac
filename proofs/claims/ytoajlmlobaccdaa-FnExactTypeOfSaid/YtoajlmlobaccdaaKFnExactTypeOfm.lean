/- What the law FnExactTypeOf reaches, part 13: functions as plain Lean functions with the proofs that their calls come to them, and plain lemmas over these. Put together by a program (wip/pack.py). -/
import Derived.Test.YtoajlmlobaccdaaKFnExactTypeOfd
import Derived.Test.YtoajlmlobaccdaaKFnExactTypeOfc
import Derived.Test.YtoajlmlobaccdaaKFnExactTypeOfj
import Derived.Test.YtoajlmlobaccdaaKFnExactTypeOfl
import Derived.Test.YtoajlmlobaccdaaKFnExactTypeOfk
import Derived.Test.YtoajlmlobaccdaaKFnExactTypeOfa
import Derived.ChangeArms
import Derived.Deep.Slices
import Derived.Deep.Fields
import Derived.WideShapes
import Derived.KernelRfl
import Derived.Test.YtoajlmlobaccdaaKFnExactTypeOfe
namespace Go.Proofs.Ytoajlmlobaccdaa.P
open Go.RowKit Go.Proofs.YtoajlmlobaccdaaW.PrintWords Go.Proofs.YtoajlmlobaccdaaW.PrintLast Go.Proofs.YtoajlmlobaccdaaW.PrintMore
attribute [local go_sem] ptrOf_slice
attribute [local go_sem] min2_str max2_int min2_int max_two min_two max_three min_three max_four min_four
set_option linter.unusedVariables false
set_option linter.unusedSimpArgs false
mutual
def impl_TypesOf.j0 : Nat → Int → Bool → Option (List ByteArray)
 | 0, _, _ => none
 | k + 1, x0, x17 => if x17 = true then (some ([] : List ByteArray)) else ((impl_triplesOf.f k x0).bind fun t614 => (impl_TypesOf.l0 k x0 t614 ([] : List ByteArray) 0))
def impl_TypesOf.l0 : Nat → Int → List (S89) → List ByteArray → Int → Option (List ByteArray)
 | 0, _, _, _, _ => none
 | k + 1, x0, x3, x4, x5 => if x5 < (shl .i64 1 (x3.length : Int)) then (impl_TypesOf.l1 k x0 x3 x4 x5 (chiNew x0) x3 (x3.length : Int) 0) else ((slices_Sort_Sstring_string.f x4).bind fun t617 => ((slices_Compact_Sstring_string.f t617).bind fun t618 => (some t618)))
def impl_TypesOf.l1 : Nat → Int → List (S89) → List ByteArray → Int → List Int → List (S89) → Int → Int → Option (List ByteArray)
 | 0, _, _, _, _, _, _, _, _ => none
 | k + 1, x0, x3, x4, x5, x6, x30, x31, x32 => if x32 < x31 then (if 0 ≤ x32 then (if x32 < (x30.length : Int) then ((impl_chi_set.f x6 ((rd_T89 x30 x32).f0) ((rd_T89 x30 x32).f1) ((rd_T89 x30 x32).f2) (wrap64 ((wrap64 (2 * (Go.bits .and .i64 (shr .i64 x5 x32) 1))) - 1))).bind fun t626 => (impl_TypesOf.l1 k x0 x3 x4 x5 t626 x30 x31 (wrap64 (x32 + 1)))) else (none)) else (none)) else ((impl_chi_signs.f k x6).bind fun bt627 => ((impl_IsAcyclic.f k bt627.1 bt627.2).bind fun t630 => (if t630 = true then ((impl_LeastSigns.f k bt627.1 bt627.2).bind fun bt631 => (if x4.length < 8796093022208 then (impl_TypesOf.l0 k x0 x3 (x4 ++ [bt631.2.1]) (wrap64 (x5 + 1))) else (none))) else (impl_TypesOf.l0 k x0 x3 x4 (wrap64 (x5 + 1))))))
end
def impl_TypesOf.f (k : Nat) (a0 : Int) : Option (List ByteArray) := if a0 < 3 then (impl_TypesOf.j0 k a0 true) else (impl_TypesOf.j0 k a0 (decide (a0 > 5)))
def impl_TypesOf.T12 : Bool × List (List Nat × List Nat) := (true, [([], []), ([], []), ([1], [1]), ([], []), ([3], [3]), ([], []), ([5], [5]), ([], []), ([], []), ([7, 8], [7, 8]), ([9], [9]), ([10], [10]), ([11], [11]), ([0, 2, 4, 6, 12], [0, 2, 4, 6, 12])])
def impl_TypesOf.B12 : List Nat := [0, 0, 2, 0, 8, 0, 32, 0, 0, 384, 896, 1920, 3968, 8191]
theorem impl_TypesOf.tab12 : rtab .any (opsOf Try.f12 12) = impl_TypesOf.T12 := by kernel_rfl
theorem impl_TypesOf.bits12 : waitsOk impl_TypesOf.T12.2 impl_TypesOf.B12 = true := by kernel_rfl
set_option maxHeartbeats 8000000 in
set_option maxRecDepth 100000 in
theorem impl_TypesOf.calls (k : Nat) (a0 : Int) (r : List ByteArray) (w : World) (h : impl_TypesOf.f k a0 = some r) :
  Calls Try.prog 12 #[.int .i64 a0] w fun e w' => ∃ v0_ : Value, e = .returned (v0_) ∧ Kd.R Kd.string 9 w' w.heap.size (fun _ => True) v0_ r ∧ Below w.heap.size w w' := by
 have hu89 := Try.underlying89; have hu31 := Try.underlying31; have HB := am_ (Below.refl w.heap.size w); have H : (if a0 < 3 then (impl_TypesOf.j0 k a0 true) else (impl_TypesOf.j0 k a0 (decide (a0 > 5)))) = some r := h; clear h; have HC2 := am_ H; clear H; go_enter Try.func12, Try.ntmps12
 go_upto_region 1 with (fail)
 go_cut [17] (fun v17 wc => ∃ (kq : Nat) (x17_1 : Bool), v17 = .bool x17_1 ∧ Aside0 (impl_TypesOf.j0 kq a0 x17_1 = some r) ∧ Aside0 (kq ≤ k) ∧ Aside0 (Below w.heap.size w wc))
 case first =>
  have H := HC2.out; clear HC2; by_cases c3 : a0 < 3
  ·rw [if_pos c3] at H; have c3b0 := decide_eq_true c3; clear c3; (first | rw [c3b0] | (simp only [i64_w, i32_w]; rw [c3b0]) | skip)
   have H' := am_ H; clear H; go_wp2; go_meet
   case rel => exact ⟨_, (true), vt_, H', le_, bX0_ HB⟩
  ·rw [if_neg c3] at H; have c3b0 := decide_eq_false c3; clear c3; (first | rw [c3b0] | (simp only [i64_w, i32_w]; rw [c3b0]) | skip)
   have H' := am_ H; clear H; go_wp2; go_meet
   case rel => exact ⟨_, (decide (a0 > 5)), vt_, H', le_, bX0_ HB⟩
 case rest =>
  clear HC2; obtain ⟨kq, x17_1, rfl, HA, HJ1, HB⟩ := hcut; cases kq with
  | zero => exact absurd HA.out (by simp [impl_TypesOf.j0])
  | succ kj1 =>
   have H := HA.out; clear HA; simp only [impl_TypesOf.j0] at H
   by_cases c4 : x17_1 = true
   ·subst c4; replace H := ifT_ H; obtain rfl := Option.some.inj H; go_wp2; go_ret; exact ⟨_, by first | rfl | (simp [errW_none, errW_some] <;> rfl) | (simp [*, errW_none, errW_some] <;> rfl), by first | exact Kd.R_nil _ _ _ _ _ | exact Kd.N_nil _ _ _ _ _ | exact Kd.V_nil _ _ _ _ _ | exact Kd.Q_nil _ _ _ _ _ | exact Kd.S_nil _ _ _ _ _, bx0 HB.out⟩
   ·replace c4 := Bool.eq_false_iff.mpr c4; subst c4; replace H := ifF_ H; obtain ⟨t614, A5, H⟩ := bnd_ H; have H' := am_ H; clear H; go_wp2_with (first | ((with_reducible refine gc_ 84 rfl ?_); refine gR_ (some 19) Try.func84 #[.int .i64 a0] (impl_triplesOf.calls kj1 a0 t614 _ A5.out) ?_; intro w6 v615 ho0 hb; have HO616 := rl0_ ho0 HB; replace HB := bs0_ HB hb; try clear hb; (try clear ho0)))
    go_loopg [4, 5] kj1 (fun kq v4 v5 w' => ∃ (x4_2 : List ByteArray) (x5_2 : Int), v5 = .int .i64 x5_2 ∧ Aside0 (impl_TypesOf.l0 kq a0 t614 x4_2 x5_2 = some r) ∧ Aside0 (kq ≤ kj1) ∧ Aside0 (Kd.R k89 89 w' w.heap.size (fun _ => True) v615 t614) ∧ Aside0 (Kd.R Kd.string 9 w' w.heap.size (fun _ => True) v4 x4_2) ∧ Aside0 (Below w.heap.size w w'))
    case atStart => exact ⟨(([] : List ByteArray)), (0), vt_, H', ⟨Nat.le_refl _⟩, rX_ HO616, ⟨by first | exact Kd.R_nil _ _ _ _ _ | exact Kd.N_nil _ _ _ _ _ | exact Kd.V_nil _ _ _ _ _ | exact Kd.Q_nil _ _ _ _ _ | exact Kd.S_nil _ _ _ _ _⟩, bX0_ HB⟩
    case round =>
     clear H'; try clear c4
     obtain ⟨x4_2, x5_2, rfl, HA, HK2, HO_3, HO_4, HB⟩ := hrel; cases gk with
     | zero => exact absurd HA.out (by simp [impl_TypesOf.l0])
     | succ k2 =>
      have H := HA.out; clear HA; simp only [impl_TypesOf.l0] at H
      obtain ⟨ji7, hji7⟩ : ∃ j_ : Int, (shl .i64 1 (t614.length : Int)) = j_ := ⟨_, rfl⟩; first | rw [hji7] at H | simp only [hji7] at H
      have hji7_ : (IntKind.i64.wrap (1 * 2 ^ min (t614.length : Int).toNat 64)) = ji7 := hji7; have hji7z : (t614.length : Int) ≤ 64 → (IntKind.i64.wrap (1 * 2 ^ (t614.length : Int).toNat)) = ji7 := shl_small hji7; have hji7p : (IntKind.i64.wrap (1 * 2 ^ min t614.length 64)) = ji7 := hji7_; have hji7q : (t614.length : Int) ≤ 64 → (IntKind.i64.wrap (1 * 2 ^ t614.length)) = ji7 := hji7z; have hji7r : (IntKind.i64.wrap (2 ^ min t614.length 64)) = ji7 := by have h_ := hji7p; rw [Int.one_mul] at h_; exact h_
      have hji7s : (t614.length : Int) ≤ 64 → (IntKind.i64.wrap (2 ^ t614.length)) = ji7 := fun hle_ => by have h_ := hji7q hle_; rw [Int.one_mul] at h_; exact h_
      have hji7u : (IntKind.i64.wrap (2 ^ min (t614.length : Int).toNat 64)) = ji7 := by have h_ := hji7_; rw [Int.one_mul] at h_; exact h_
      have hji7v : (t614.length : Int) ≤ 64 → (IntKind.i64.wrap (2 ^ (t614.length : Int).toNat)) = ji7 := fun hle_ => by have h_ := hji7z hle_; rw [Int.one_mul] at h_; exact h_
      have hji7y : (wrap64 (1 * 2 ^ min (t614.length : Int).toNat 64)) = ji7 := (i64_w _).symm.trans hji7_; have hji7x : (t614.length : Int) ≤ 64 → (wrap64 (1 * 2 ^ (t614.length : Int).toNat)) = ji7 := fun h_ => (i64_w _).symm.trans (hji7z h_)
      by_cases c8 : x5_2 < (ji7)
      ·rw [if_pos c8] at H; have c8b0 := decide_eq_true c8; clear c8; obtain ⟨y621, hy621⟩ : ∃ y_ : List Int, y_ = (chiNew a0) := ⟨_, rfl⟩; replace H : (impl_TypesOf.l1 k2 a0 t614 x4_2 x5_2 y621 t614 (t614.length : Int) 0) = some r := yH_ hy621 H; have Ny621 := am_ hy621; clear hy621; have H' := am_ H; clear H; obtain ⟨Ao9, co9, eo9⟩ := Kd.R_slice HO_3.out; subst eo9; go_wp2_with (first | ((with_reducible refine gd_ 28 rfl ?_); refine chi_build (N := 28) ?hg ?hd (n := a0) ?hr ?_; (case hd => rfl); (case hg => rfl); (case hr => first | (go_simp; done) | (go_simp; rfl))) | ((with_reducible refine gd_ 29 rfl ?_); refine chi_make _ 88 ?hg (N := 29) ?hd (n := a0) (ok := fun _ => True) ?hr trivial (Below.refl _ _) (Nat.le_refl _) ?_; (case hd => rfl); (case hg => rfl); (case hr => first | (go_simp; done) | (go_simp; rfl)); intro v622 w10 ho11 hb hg_ hnew_; clear hg_ hnew_; (first | rw [← Ny621.out] at ho11 | (simp only [Int.reduceToNat] at ho11; rw [← Ny621.out] at ho11)); replace HO_3 := rb_ HO_3 hb; replace HO_4 := rb_ HO_4 hb; have HO623 := rl0_ ho11 HB; replace HB := bs0_ HB hb; clear hb ho11))
       go_loopg [32] k2 (fun kq v32 w' => ∃ (x6_3 : List Int) (x32_3 : Int), v32 = .int .i64 x32_3 ∧ Aside0 (impl_TypesOf.l1 kq a0 t614 x4_2 x5_2 x6_3 t614 (t614.length : Int) x32_3 = some r) ∧ Aside0 (kq ≤ k2) ∧ Aside0 (Kd.R k89 89 w' w.heap.size (fun _ => True) (.slice Ao9 t614.length co9) t614) ∧ Aside0 (Kd.R Kd.string 9 w' w.heap.size (fun _ => True) u4 x4_2) ∧ Aside0 (Kd.R (Kd.int .i64) 88 w' w.heap.size (fun _ => True) v622 x6_3) ∧ Aside0 (Kd.R k89 89 w' w.heap.size (fun _ => True) (.slice Ao9 t614.length co9) t614) ∧ Aside0 (Below w.heap.size w w'))
       case atStart => exact ⟨(y621), (0), vt_, H', ⟨Nat.le_refl _⟩, rX_ HO_3, rX_ HO_4, rX_ HO623, rX_ HO_3, bX0_ HB⟩
       case round =>
        clear H'; try clear c4 c8b0
        obtain ⟨x6_3, x32_3, rfl, HA, HK3, HO_3, HO_4, HO_6, HO_30, HB⟩ := hrel; cases gk with
        | zero => exact absurd HA.out (by simp [impl_TypesOf.l1])
        | succ k3 =>
         have H := HA.out; clear HA; simp only [impl_TypesOf.l1] at H
         by_cases c12 : x32_3 < (t614.length : Int)
         ·rw [if_pos c12] at H; have c12b0 := decide_eq_true c12; clear c12; by_cases c13 : 0 ≤ x32_3
          ·rw [if_pos c13] at H; have c13b0 := decide_eq_true c13; clear c13; by_cases c14 : x32_3 < (t614.length : Int)
           ·rw [if_pos c14] at H; have c14b0 := decide_eq_true c14; clear c14; have c15b0 := eq_true (oda_ : 0 ≤ x32_3); obtain ⟨ji16, hji16⟩ : ∃ j_ : Int, (shr .i64 x5_2 x32_3) = j_ := ⟨_, rfl⟩; first | rw [hji16] at H | simp only [hji16] at H
            have hji16_ : (x5_2 / 2 ^ min x32_3.toNat 64) = ji16 := hji16; have hji16z : x32_3 ≤ 64 → (x5_2 / 2 ^ x32_3.toNat) = ji16 := shr_small hji16; obtain ⟨t626, A17, H⟩ := bnd_ H; have H' := am_ H; clear H; have p624 : 0 ≤ (x32_3 : Int) := oda_; have q624 : x32_3 < (t614.length : Int) := oda_; obtain ⟨ad624, e624, hx624_0, hx624_1, hx624_2⟩ := at_T89 (Kd.R_reads' HO_30.out).2.2 x32_3 p624 q624; cases e624; replace p624 := eq_true p624; replace q624 := eq_true q624; try go_wp2_with (first | ((with_reducible refine gd_ 8 rfl ?_); refine be_ 8 #[.int .i64 0, .int .i64 0, .int .i64 0] 89 ?_; intro gb625 hg w18 hbox hb; replace HO_3 := am_ (Kd.R_below (Kd.R_elderB (rx_ HO_3.out) gb625 (Nat.le_of_eq hg.symm)) hb); replace HO_4 := rb_ HO_4 hb; replace HO_6 := rb_ HO_6 hb; replace HO_30 := am_ (Kd.R_below (Kd.R_elderB (rx_ HO_30.out) gb625 (Nat.le_of_eq hg.symm)) hb); have BK625 := am_ hbox; have GW625 := gw0_ HB hg; have GE625 := GW625; replace HB := bs0_ HB hb; clear hb hbox hg; obtain ⟨hcz19_0, hfz19_0, hcz19_1, hfz19_1, hcz19_2, hfz19_2⟩ := bk3_ BK625))
            have n0_ : Aside0 (Kd.R k89 89 (((w18.setCell ⟨gb625, 0, none⟩ (.int .i64 ((rd_T89 t614 x32_3).f0))).setCell ⟨gb625, 1, none⟩ (.int .i64 ((rd_T89 t614 x32_3).f1))).setCell ⟨gb625, 2, none⟩ (.int .i64 ((rd_T89 t614 x32_3).f2))) w.heap.size (fun k_ => k_ ≠ gb625) (.slice (some ad624) t614.length co9) t614) := ⟨by refine rx_ ?_; exact Kd.R_mono (Kd.R_far (p := ⟨gb625, 2, none⟩) (Kd.R_far (p := ⟨gb625, 1, none⟩) (Kd.R_far (p := ⟨gb625, 0, none⟩) (Kd.R_mono HO_3.out (fun k_ hk => (⟨hk, hk.2⟩ : _ ∧ k_ ≠ gb625))) (fun _ hk => hk.2) (.int .i64 ((rd_T89 t614 x32_3).f0))) (fun _ hk => hk.2) (.int .i64 ((rd_T89 t614 x32_3).f1))) (fun _ hk => hk.2) (.int .i64 ((rd_T89 t614 x32_3).f2))) (fun _ hk => hk.1.2)⟩; have n1_ : Aside0 (Kd.R Kd.string 9 (((w18.setCell ⟨gb625, 0, none⟩ (.int .i64 ((rd_T89 t614 x32_3).f0))).setCell ⟨gb625, 1, none⟩ (.int .i64 ((rd_T89 t614 x32_3).f1))).setCell ⟨gb625, 2, none⟩ (.int .i64 ((rd_T89 t614 x32_3).f2))) w.heap.size (fun _ => True) u4 x4_2) := ⟨by refine rx_ ?_; exact Kd.R_mono (Kd.R_far (p := ⟨gb625, 2, none⟩) (Kd.R_far (p := ⟨gb625, 1, none⟩) (Kd.R_far (p := ⟨gb625, 0, none⟩) (Kd.R_types HO_4.out BK625.out (by decide)) (fun _ hk => hk.2) (.int .i64 ((rd_T89 t614 x32_3).f0))) (fun _ hk => hk.2) (.int .i64 ((rd_T89 t614 x32_3).f1))) (fun _ hk => hk.2) (.int .i64 ((rd_T89 t614 x32_3).f2))) (fun _ hk => trivial)⟩; have n2_ : Aside0 (Kd.R (Kd.int .i64) 88 (((w18.setCell ⟨gb625, 0, none⟩ (.int .i64 ((rd_T89 t614 x32_3).f0))).setCell ⟨gb625, 1, none⟩ (.int .i64 ((rd_T89 t614 x32_3).f1))).setCell ⟨gb625, 2, none⟩ (.int .i64 ((rd_T89 t614 x32_3).f2))) w.heap.size (fun _ => True) v622 x6_3) := ⟨by refine rx_ ?_; exact Kd.R_mono (Kd.R_far (p := ⟨gb625, 2, none⟩) (Kd.R_far (p := ⟨gb625, 1, none⟩) (Kd.R_far (p := ⟨gb625, 0, none⟩) (Kd.R_types HO_6.out BK625.out (by decide)) (fun _ hk => hk.2) (.int .i64 ((rd_T89 t614 x32_3).f0))) (fun _ hk => hk.2) (.int .i64 ((rd_T89 t614 x32_3).f1))) (fun _ hk => hk.2) (.int .i64 ((rd_T89 t614 x32_3).f2))) (fun _ hk => trivial)⟩
            have n3_ : Aside0 (Kd.R k89 89 (((w18.setCell ⟨gb625, 0, none⟩ (.int .i64 ((rd_T89 t614 x32_3).f0))).setCell ⟨gb625, 1, none⟩ (.int .i64 ((rd_T89 t614 x32_3).f1))).setCell ⟨gb625, 2, none⟩ (.int .i64 ((rd_T89 t614 x32_3).f2))) w.heap.size (fun k_ => k_ ≠ gb625) (.slice (some ad624) t614.length co9) t614) := ⟨by refine rx_ ?_; exact Kd.R_mono (Kd.R_far (p := ⟨gb625, 2, none⟩) (Kd.R_far (p := ⟨gb625, 1, none⟩) (Kd.R_far (p := ⟨gb625, 0, none⟩) (Kd.R_mono HO_30.out (fun k_ hk => (⟨hk, hk.2⟩ : _ ∧ k_ ≠ gb625))) (fun _ hk => hk.2) (.int .i64 ((rd_T89 t614 x32_3).f0))) (fun _ hk => hk.2) (.int .i64 ((rd_T89 t614 x32_3).f1))) (fun _ hk => hk.2) (.int .i64 ((rd_T89 t614 x32_3).f2))) (fun _ hk => hk.1.2)⟩; have n4_ : Aside0 ((((w18.setCell ⟨gb625, 0, none⟩ (.int .i64 ((rd_T89 t614 x32_3).f0))).setCell ⟨gb625, 1, none⟩ (.int .i64 ((rd_T89 t614 x32_3).f1))).setCell ⟨gb625, 2, none⟩ (.int .i64 ((rd_T89 t614 x32_3).f2))).heap[gb625]? = some (.cells #[.int .i64 ((rd_T89 t614 x32_3).f0), .int .i64 ((rd_T89 t614 x32_3).f1), .int .i64 ((rd_T89 t614 x32_3).f2)] 89 (0, 0))) := ⟨by refine kx_ ?_; refine blk_put (cs := #[.int .i64 ((rd_T89 t614 x32_3).f0), .int .i64 ((rd_T89 t614 x32_3).f1), .int .i64 0]) ?_ 2 _ rfl; refine kx_ ?_; refine blk_put (cs := #[.int .i64 ((rd_T89 t614 x32_3).f0), .int .i64 0, .int .i64 0]) ?_ 1 _ rfl; refine kx_ ?_; refine blk_put (cs := #[.int .i64 0, .int .i64 0, .int .i64 0]) ?_ 0 _ rfl; refine kx_ ?_; exact BK625.out⟩; have n5_ : Aside0 (Below w.heap.size w (((w18.setCell ⟨gb625, 0, none⟩ (.int .i64 ((rd_T89 t614 x32_3).f0))).setCell ⟨gb625, 1, none⟩ (.int .i64 ((rd_T89 t614 x32_3).f1))).setCell ⟨gb625, 2, none⟩ (.int .i64 ((rd_T89 t614 x32_3).f2)))) := bX1_ HB GE625; (try clear HO_3)
            (try clear HO_4)
            (try clear HO_6)
            (try clear HO_30)
            (try clear BK625)
            (try clear HB)
            generalize (((w18.setCell ⟨gb625, 0, none⟩ (.int .i64 ((rd_T89 t614 x32_3).f0))).setCell ⟨gb625, 1, none⟩ (.int .i64 ((rd_T89 t614 x32_3).f1))).setCell ⟨gb625, 2, none⟩ (.int .i64 ((rd_T89 t614 x32_3).f2))) = w20 at n0_ n1_ n2_ n3_ n4_ n5_ ⊢
            have HO_3 := n0_; have HO_4 := n1_; have HO_6 := n2_; have HO_30 := n3_; have BK625 := n4_; have HB := n5_; clear n0_ n1_ n2_ n3_ n4_ n5_; replace HO_3 := am_ (Kd.R_drew HO_3.out); replace HO_4 := am_ (Kd.R_drew HO_4.out); replace HO_6 := am_ (Kd.R_drew HO_6.out); replace HO_30 := am_ (Kd.R_drew HO_30.out); replace BK625 := am_ (blk_drew BK625.out); replace HB := bd_ HB; obtain ⟨Ao22, co22, eo22⟩ := Kd.R_slice HO_6.out; (first | subst eo22 | (injection eo22 with f1_ f2_ f3_; have f4_ := f1_.symm; have f5_ := f3_.symm; clear f1_ f2_ f3_; subst f4_; subst f5_))
            refine start_ (n := 14) (S := fun w' => w'.cell? ⟨gb625, 0, none⟩ = some (.int .i64 ((rd_T89 t614 x32_3).f0)) ∧ w'.cell? ⟨gb625, 1, none⟩ = some (.int .i64 ((rd_T89 t614 x32_3).f1)) ∧ w'.cell? ⟨gb625, 2, none⟩ = some (.int .i64 ((rd_T89 t614 x32_3).f2))) (ds := []) #[false, false, false, false, false, false, false, false, false, false, false, false, false, false] (by kernel_rfl) rfl rfl ⟨c0_ BK625, c1_ BK625, c2_ BK625⟩ (fun hHeld => ?_); refine with_tabW impl_TypesOf.tab12 impl_TypesOf.bits12 (fun HT_ HW_ => ?_); generalize w20.drew = w21 at HO_3 HO_4 HO_6 HO_30 BK625 HB hHeld ⊢
            refine pD_ 0 (some 37) HT_ (h := ?_); refine pD_ 1 (some 38) HT_ (h := ?_); refine pD_ 3 (some 40) HT_ (h := ?_); refine pD_ 5 (some 42) HT_ (h := ?_); refine pD_ 7 (some 44) HT_ (h := ?_); refine pD_ 8 (some 45) HT_ (h := ?_); refine pD_ 9 (some 46) HT_ (h := ?_); refine pD_ 10 (some 47) HT_ (h := ?_); refine pD_ 11 (some 48) HT_ (h := ?_); refine pD_ 12 (some 49) HT_ (h := ?_); refine tD3_ 2 (some 39) HT_ HW_ hHeld (h := ?_); refine tD3_ 4 (some 41) HT_ HW_ hHeld (h := ?_); refine tD3_ 6 (some 43) HT_ HW_ hHeld (h := ?_); refine oN_ 13 (some 50) HT_ (fun K hK => ?_); refine goes_ Try.func85 (by kernel_rfl) rfl #[.pointer Ao22, .int .i64 ((rd_T89 t614 x32_3).f0), .int .i64 ((rd_T89 t614 x32_3).f1), .int .i64 ((rd_T89 t614 x32_3).f2), .int .i64 (wrap64 ((wrap64 (2 * (Go.bits .and .i64 (ji16) 1))) - 1))] (by rfl) rfl rfl (by (try simp only [List.map_toArray, List.map_cons, List.map_nil]); first | done | (simp only [hji16]; rfl) | rfl | (simp only [List.length_drop, List.length_take]; rfl)) ?_; refine (impl_chi_set.calls (fun k_ => some k_ = (.slice Ao22 x6_3.length co22 : Value).ownBlock) (.slice Ao22 x6_3.length co22) x6_3 ((rd_T89 t614 x32_3).f0) ((rd_T89 t614 x32_3).f1) ((rd_T89 t614 x32_3).f2) (wrap64 ((wrap64 (2 * (Go.bits .and .i64 (ji16) 1))) - 1)) t626 w _ ?side1 ?side2 A17.out).mono ?_; (case side1 => exact bx1 HB.out GE625.out)
            (case side2 => exact Kd.R_tight rfl HO_6.out)
            rintro e w23 ⟨rfl, hy0, hb, hkp⟩; refine ⟨_, rfl, ?_⟩; replace HO_3 := am_ (Kd.R_mono (ok' := fun k_ => k_ ≠ gb625) (Kd.R_keptB ((Kd.R_apart' HO_3.out (Kd.R_typed HO_6.out) (by decide))) hkp (fun k_ hk_ hs_ => (hk_.2) hs_)) (fun k_ hk_ => hk_.1.1)); replace HO_4 := am_ (Kd.R_mono (ok' := fun k_ => True) (Kd.R_keptB ((Kd.R_apart' HO_4.out (Kd.R_typed HO_6.out) (by decide))) hkp (fun k_ hk_ hs_ => (hk_.2) hs_)) (fun k_ hk_ => trivial)); replace HO_30 := am_ (Kd.R_mono (ok' := fun k_ => k_ ≠ gb625) (Kd.R_keptB ((Kd.R_apart' HO_30.out (Kd.R_typed HO_6.out) (by decide))) hkp (fun k_ hk_ hs_ => (hk_.2) hs_)) (fun k_ hk_ => hk_.1.1)); replace BK625 := am_ (blk_kept (kx_ BK625.out) hkp (fun hs_ => (fun e_ => (Kd.R_ne HO_6.out BK625.out (by decide)) e_) hs_)); replace HO_6 := am_ (Kd.R_reok rfl hy0 (fun k_ e_ => HO_6.out.1 k_ e_)); replace HB := am_ hb; (try clear hb)
            (try clear hkp)
            (try clear hy0)
            refine hK.out _ _ ⟨c0_ BK625, c1_ BK625, c2_ BK625⟩ (fun hHeld => ?_); clear hK K; refine nm_ 50 (h := ?_); refine done_ (done_of HT_.out (by kernel_rfl)) ?_; try go_wp2
            go_roundg k3
            case measure => have := HJ1.out; have := HK2.out; have := HK3.out; omega
            case rel => exact ⟨(t626), (wrap64 (x32_3 + 1)), vt_, H', hl3_ HJ1 HK2 HK3, ⟨by refine rx_ ?_; exact Kd.R_mono HO_3.out (fun _ hk => trivial)⟩, rX_ HO_4, rX_ HO_6, ⟨by refine rx_ ?_; exact Kd.R_mono HO_30.out (fun _ hk => trivial)⟩, bX1_ HB GE625⟩
           ·rw [if_neg c14] at H; exact absurd H (by simp)
          ·rw [if_neg c13] at H; exact absurd H (by simp)
         ·rw [if_neg c12] at H; have c12b0 := decide_eq_false c12; clear c12; replace H := Option.bind_eq_some_iff.mp H; obtain ⟨⟨t627, t628⟩, A240, H⟩ := H; replace H : ((impl_IsAcyclic.f k3 t627 t628).bind fun t630 => (if t630 = true then ((impl_LeastSigns.f k3 t627 t628).bind fun bt631 => (if x4_2.length < 8796093022208 then (impl_TypesOf.l0 k3 a0 t614 (x4_2 ++ [bt631.2.1]) (wrap64 (x5_2 + 1))) else (none))) else (impl_TypesOf.l0 k3 a0 t614 x4_2 (wrap64 (x5_2 + 1))))) = some r := H; have A24 := am_ A240; clear A240; obtain ⟨t630, A25, H⟩ := bnd_ H; by_cases c26 : t630 = true
          ·subst c26; replace H := ifT_ H; replace H := Option.bind_eq_some_iff.mp H; obtain ⟨⟨t631, t632, t633⟩, A270, H⟩ := H; replace H : (if x4_2.length < 8796093022208 then (impl_TypesOf.l0 k3 a0 t614 (x4_2 ++ [t632]) (wrap64 (x5_2 + 1))) else (none)) = some r := H; have A27 := am_ A270; clear A270; by_cases c28 : x4_2.length < 8796093022208
           ·rw [if_pos c28] at H; have LMc28 := am_ c28; clear c28; obtain ⟨y635, hy635⟩ : ∃ y_ : List ByteArray, y_ = (x4_2 ++ [t632]) := ⟨_, rfl⟩; replace H : (impl_TypesOf.l0 k3 a0 t614 y635 (wrap64 (x5_2 + 1))) = some r := yH_ hy635 H; have Ny635 := am_ hy635; clear hy635; have H' := am_ H; clear H; obtain ⟨Ao29, co29, eo29⟩ := Kd.R_slice HO_6.out; subst eo29; go_wp2_with (first | ((with_reducible refine gc_ 86 rfl ?_); refine gL_ (some 53) Try.func86 #[.pointer Ao29] ?_; (refine (impl_chi_signs.calls k3 _ co29 x6_3 t627 t628 _ ?side1 ?side2 A24.out).mono ?_); (case side1 => exact cR_ HO_6); (case side2 => exact (Kd.R_reads' HO_6.out).2.1); rintro e w30 ⟨rfl, hb⟩; refine ⟨_, rfl, ?_⟩; replace HO_3 := rb_ HO_3 hb; replace HO_4 := rb_ HO_4 hb; replace HO_6 := rb_ HO_6 hb; replace HO_30 := rb_ HO_30 hb; replace HB := bs0_ HB hb; try clear hb) | ((with_reducible refine gd_ 9 rfl ?_); refine be_ 9 #[.int .i64 0, .string (⟨#[]⟩ : ByteArray)] 31 ?_; intro gb629 hg w31 hbox hb; replace HO_3 := rb_ HO_3 hb; replace HO_4 := rb_ HO_4 hb; replace HO_6 := rb_ HO_6 hb; replace HO_30 := rb_ HO_30 hb; have BK629 := am_ hbox; have GW629 := gw0_ HB hg; have GE629 := GW629; replace HB := bs0_ HB hb; clear hb hbox hg; obtain ⟨hcz32_0, hfz32_0, hcz32_1, hfz32_1⟩ := bk2_ BK629) | ((with_reducible refine gc_ 87 rfl ?_); refine gB_ (some 55) Try.func87 #[.agg #[.int .i64 t627, .string t628]] (impl_IsAcyclic.calls k3 t627 t628 true _ A25.out) ?_; intro w33 hb; replace HO_3 := am_ (Kd.R_below (by refine rx_ ?_; exact (Kd.R_mono (Kd.R_far (p := ⟨gb629, 1, none⟩) (Kd.R_far (p := ⟨gb629, 0, none⟩) (Kd.R_types HO_3.out BK629.out (by decide)) (fun _ hk => hk.2) (.int .i64 t627)) (fun _ hk => hk.2) (.string t628)) (fun _ h_ => h_.1))) hb); replace HO_4 := am_ (Kd.R_below (by refine rx_ ?_; exact (Kd.R_mono (Kd.R_far (p := ⟨gb629, 1, none⟩) (Kd.R_far (p := ⟨gb629, 0, none⟩) (Kd.R_types HO_4.out BK629.out (by decide)) (fun _ hk => hk.2) (.int .i64 t627)) (fun _ hk => hk.2) (.string t628)) (fun _ h_ => h_.1))) hb); replace HO_6 := am_ (Kd.R_below (by refine rx_ ?_; exact (Kd.R_mono (Kd.R_far (p := ⟨gb629, 1, none⟩) (Kd.R_far (p := ⟨gb629, 0, none⟩) (Kd.R_types HO_6.out BK629.out (by decide)) (fun _ hk => hk.2) (.int .i64 t627)) (fun _ hk => hk.2) (.string t628)) (fun _ h_ => h_.1))) hb); replace HO_30 := am_ (Kd.R_below (by refine rx_ ?_; exact (Kd.R_mono (Kd.R_far (p := ⟨gb629, 1, none⟩) (Kd.R_far (p := ⟨gb629, 0, none⟩) (Kd.R_types HO_30.out BK629.out (by decide)) (fun _ hk => hk.2) (.int .i64 t627)) (fun _ hk => hk.2) (.string t628)) (fun _ h_ => h_.1))) hb); replace BK629 := am_ (blk_below (g := gb629) (o := .cells #[.int .i64 t627, .string t628] 31 (0, 0)) (by refine kx_ ?_; refine blk_put (cs := #[.int .i64 t627, .string (⟨#[]⟩ : ByteArray)]) ?_ 1 _ rfl; refine kx_ ?_; refine blk_put (cs := #[.int .i64 0, .string (⟨#[]⟩ : ByteArray)]) ?_ 0 _ rfl; refine kx_ ?_; exact BK629.out) hb); replace HB := bs1_ HB hb GE629; try clear hb; obtain ⟨hcz34_0, hfz34_0, hcz34_1, hfz34_1⟩ := bk2_ BK629) | ((with_reducible refine gc_ 88 rfl ?_); refine gB_ (some 58) Try.func88 #[.agg #[.int .i64 t627, .string t628]] (impl_LeastSigns.calls k3 t627 t628 t631 t632 t633 _ A27.out) ?_; intro w35 hb; replace HO_3 := rb_ HO_3 hb; replace HO_4 := rb_ HO_4 hb; replace HO_6 := rb_ HO_6 hb; replace HO_30 := rb_ HO_30 hb; replace BK629 := bb_ BK629 hb; replace HB := bs1_ HB hb GE629; try clear hb) | ((with_reducible refine gd_ 10 rfl ?_); refine be_ 10 #[.int .i64 0, .string (⟨#[]⟩ : ByteArray)] 31 ?_; intro gb634 hg w36 hbox hb; replace HO_3 := rb_ HO_3 hb; replace HO_4 := rb_ HO_4 hb; replace HO_6 := rb_ HO_6 hb; replace HO_30 := rb_ HO_30 hb; have BK634 := am_ hbox; have GW634 := gw1_ HB hg GE629; have GE634 := GW634; replace HB := bs1_ HB hb GE629; have NB629_634 := nl_ BK629 hg; have NB634_629 := ng_ BK629 hg; replace BK629 := bb_ BK629 hb; clear hb hbox hg; have hnb37 := NB634_629.out; have hnc37 := NB629_634.out; obtain ⟨hcz38_0, hfz38_0, hcz38_1, hfz38_1⟩ := bk2_ BK634) | ((with_reducible refine gate_builtin (b := .append) (xs := #[.tmp 61, .tmp 64]) rfl ?_); at_builtin; refine Kd.R_append Kd.string (w0 := w) w.heap.size rfl (.tmp 61) (.tmp 64) 22 9 (.string ⟨#[]⟩) 16 rfl Try.underlying22 info9 rfl (by decide) (by omega) u4 x4_2 t632 [.string t632] (fun _ => True) (fun _ => False) rfl (by first | (go_simp; done) | (go_simp; rfl)) ?aP (fun _ hk => hk.elim) ?aF ?aO ?aB ?aS ?aL ?_; (case aP => exact rfl); (case aB => exact (bx2 HB.out GE629.out GE634.out)); (case aF => exact (fun _ _ => trivial)); (case aO => exact (by refine rx_ ?_; exact Kd.R_mono (Kd.R_far (p := ⟨gb634, 1, none⟩) (Kd.R_far (p := ⟨gb634, 0, none⟩) (Kd.R_types HO_4.out BK634.out (by decide)) (fun _ hk => hk.2) (.int .i64 t631)) (fun _ hk => hk.2) (.string t632)) (fun _ hk => trivial))); (case aS => exact (below_size (bx2 HB.out GE629.out GE634.out))); (case aL => have := LMc28.out; omega); intro v636 w39 ho hb hg hat; rw [← Ny635.out] at ho; replace HO_3 := am_ (Kd.R_over' (by refine rx_ ?_; exact (Kd.R_mono (Kd.R_far (p := ⟨gb634, 1, none⟩) (Kd.R_far (p := ⟨gb634, 0, none⟩) (Kd.R_types HO_3.out BK634.out (by decide)) (fun _ hk => hk.2) (.int .i64 t631)) (fun _ hk => hk.2) (.string t632)) (fun _ h_ => h_.1))) (Kd.R_typed (by refine rx_ ?_; exact (Kd.R_mono (Kd.R_far (p := ⟨gb634, 1, none⟩) (Kd.R_far (p := ⟨gb634, 0, none⟩) (Kd.R_types HO_4.out BK634.out (by decide)) (fun _ hk => hk.2) (.int .i64 t631)) (fun _ hk => hk.2) (.string t632)) (fun _ h_ => h_.1)))) (by decide) hg); replace HO_6 := am_ (Kd.R_over' (by refine rx_ ?_; exact (Kd.R_mono (Kd.R_far (p := ⟨gb634, 1, none⟩) (Kd.R_far (p := ⟨gb634, 0, none⟩) (Kd.R_types HO_6.out BK634.out (by decide)) (fun _ hk => hk.2) (.int .i64 t631)) (fun _ hk => hk.2) (.string t632)) (fun _ h_ => h_.1))) (Kd.R_typed (by refine rx_ ?_; exact (Kd.R_mono (Kd.R_far (p := ⟨gb634, 1, none⟩) (Kd.R_far (p := ⟨gb634, 0, none⟩) (Kd.R_types HO_4.out BK634.out (by decide)) (fun _ hk => hk.2) (.int .i64 t631)) (fun _ hk => hk.2) (.string t632)) (fun _ h_ => h_.1)))) (by decide) hg); replace HO_30 := am_ (Kd.R_over' (by refine rx_ ?_; exact (Kd.R_mono (Kd.R_far (p := ⟨gb634, 1, none⟩) (Kd.R_far (p := ⟨gb634, 0, none⟩) (Kd.R_types HO_30.out BK634.out (by decide)) (fun _ hk => hk.2) (.int .i64 t631)) (fun _ hk => hk.2) (.string t632)) (fun _ h_ => h_.1))) (Kd.R_typed (by refine rx_ ?_; exact (Kd.R_mono (Kd.R_far (p := ⟨gb634, 1, none⟩) (Kd.R_far (p := ⟨gb634, 0, none⟩) (Kd.R_types HO_4.out BK634.out (by decide)) (fun _ hk => hk.2) (.int .i64 t631)) (fun _ hk => hk.2) (.string t632)) (fun _ h_ => h_.1)))) (by decide) hg); replace BK629 := am_ (blk_grown (g := gb629) (o := .cells #[.int .i64 t627, .string t628] 31 (0, 0)) (by refine kx_ ?_; refine blk_far ?_ NB629_634.out _; refine kx_ ?_; refine blk_far ?_ NB629_634.out _; refine kx_ ?_; exact BK629.out) hg (Kd.R_ne HO_4.out BK629.out (by decide))); replace BK634 := am_ (blk_grown (g := gb634) (o := .cells #[.int .i64 t631, .string t632] 31 (0, 0)) (by refine kx_ ?_; refine blk_put (cs := #[.int .i64 t631, .string (⟨#[]⟩ : ByteArray)]) ?_ 1 _ rfl; refine kx_ ?_; refine blk_put (cs := #[.int .i64 0, .string (⟨#[]⟩ : ByteArray)]) ?_ 0 _ rfl; refine kx_ ?_; exact BK634.out) hg (Kd.R_ne HO_4.out BK634.out (by decide))); replace HB := am_ hb; have HO637 := am_ ho; clear HO_4; clear ho hb hg hat))
            go_roundg k3
            case measure => have := HJ1.out; have := HK2.out; have := HK3.out; omega
            case rel => exact ⟨(y635), (wrap64 (x5_2 + 1)), vt_, H', hl3_ HJ1 HK2 HK3, rX_ HO_3, rX_ HO637, bX2_ HB GE629 GE634⟩
           ·rw [if_neg c28] at H; exact absurd H (by simp)
          ·replace c26 := Bool.eq_false_iff.mpr c26; subst c26; replace H := ifF_ H; have H' := am_ H; clear H; obtain ⟨Ao40, co40, eo40⟩ := Kd.R_slice HO_6.out; subst eo40; go_wp2_with (first | ((with_reducible refine gc_ 86 rfl ?_); refine gL_ (some 53) Try.func86 #[.pointer Ao40] ?_; (refine (impl_chi_signs.calls k3 _ co40 x6_3 t627 t628 _ ?side1 ?side2 A24.out).mono ?_); (case side1 => exact cR_ HO_6); (case side2 => exact (Kd.R_reads' HO_6.out).2.1); rintro e w41 ⟨rfl, hb⟩; refine ⟨_, rfl, ?_⟩; replace HO_3 := rb_ HO_3 hb; replace HO_4 := rb_ HO_4 hb; replace HO_6 := rb_ HO_6 hb; replace HO_30 := rb_ HO_30 hb; replace HB := bs0_ HB hb; try clear hb) | ((with_reducible refine gd_ 9 rfl ?_); refine be_ 9 #[.int .i64 0, .string (⟨#[]⟩ : ByteArray)] 31 ?_; intro gb629 hg w42 hbox hb; replace HO_3 := rb_ HO_3 hb; replace HO_4 := rb_ HO_4 hb; replace HO_6 := rb_ HO_6 hb; replace HO_30 := rb_ HO_30 hb; have BK629 := am_ hbox; have GW629 := gw0_ HB hg; have GE629 := GW629; replace HB := bs0_ HB hb; clear hb hbox hg; obtain ⟨hcz43_0, hfz43_0, hcz43_1, hfz43_1⟩ := bk2_ BK629) | ((with_reducible refine gc_ 87 rfl ?_); refine gB_ (some 55) Try.func87 #[.agg #[.int .i64 t627, .string t628]] (impl_IsAcyclic.calls k3 t627 t628 false _ A25.out) ?_; intro w44 hb; replace HO_3 := am_ (Kd.R_below (by refine rx_ ?_; exact (Kd.R_mono (Kd.R_far (p := ⟨gb629, 1, none⟩) (Kd.R_far (p := ⟨gb629, 0, none⟩) (Kd.R_types HO_3.out BK629.out (by decide)) (fun _ hk => hk.2) (.int .i64 t627)) (fun _ hk => hk.2) (.string t628)) (fun _ h_ => h_.1))) hb); replace HO_4 := am_ (Kd.R_below (by refine rx_ ?_; exact (Kd.R_mono (Kd.R_far (p := ⟨gb629, 1, none⟩) (Kd.R_far (p := ⟨gb629, 0, none⟩) (Kd.R_types HO_4.out BK629.out (by decide)) (fun _ hk => hk.2) (.int .i64 t627)) (fun _ hk => hk.2) (.string t628)) (fun _ h_ => h_.1))) hb); replace HO_6 := am_ (Kd.R_below (by refine rx_ ?_; exact (Kd.R_mono (Kd.R_far (p := ⟨gb629, 1, none⟩) (Kd.R_far (p := ⟨gb629, 0, none⟩) (Kd.R_types HO_6.out BK629.out (by decide)) (fun _ hk => hk.2) (.int .i64 t627)) (fun _ hk => hk.2) (.string t628)) (fun _ h_ => h_.1))) hb); replace HO_30 := am_ (Kd.R_below (by refine rx_ ?_; exact (Kd.R_mono (Kd.R_far (p := ⟨gb629, 1, none⟩) (Kd.R_far (p := ⟨gb629, 0, none⟩) (Kd.R_types HO_30.out BK629.out (by decide)) (fun _ hk => hk.2) (.int .i64 t627)) (fun _ hk => hk.2) (.string t628)) (fun _ h_ => h_.1))) hb); replace BK629 := am_ (blk_below (g := gb629) (o := .cells #[.int .i64 t627, .string t628] 31 (0, 0)) (by refine kx_ ?_; refine blk_put (cs := #[.int .i64 t627, .string (⟨#[]⟩ : ByteArray)]) ?_ 1 _ rfl; refine kx_ ?_; refine blk_put (cs := #[.int .i64 0, .string (⟨#[]⟩ : ByteArray)]) ?_ 0 _ rfl; refine kx_ ?_; exact BK629.out) hb); replace HB := bs1_ HB hb GE629; try clear hb))
           go_roundg k3
           case measure => have := HJ1.out; have := HK2.out; have := HK3.out; omega
           case rel => exact ⟨(x4_2), (wrap64 (x5_2 + 1)), vt_, H', hl3_ HJ1 HK2 HK3, rX_ HO_3, rX_ HO_4, bX1_ HB GE629⟩
      ·rw [if_neg c8] at H; have c8b0 := decide_eq_false c8; clear c8; obtain ⟨t617, A45, H⟩ := bnd_ H; obtain ⟨t618, A46, H⟩ := bnd_ H; obtain rfl := Option.some.inj H; obtain ⟨Ao47, co47, eo47⟩ := Kd.R_slice HO_3.out; subst eo47; obtain ⟨Ao48, co48, eo48⟩ := Kd.R_slice HO_4.out; subst eo48; go_wp2_with (first | ((with_reducible refine gc_ 89 rfl ?_); refine gL_ (some 67) Try.func89 #[.slice Ao48 x4_2.length co48] ?_; (with_reducible refine (slices_Sort_Sstring_string.calls (fun k_ => some k_ = (.slice Ao48 x4_2.length co48 : Value).ownBlock) (.slice Ao48 x4_2.length co48) x4_2 t617 w _ ?side1 ?side2 A45.out).mono ?_); (case side1 => exact bx0 HB.out); (case side2 => exact Kd.R_tight rfl HO_4.out); rintro e w49 ⟨rfl, hy0, hb, hkp⟩; refine ⟨_, rfl, ?_⟩; replace HO_3 := am_ (Kd.R_mono (ok' := fun k_ => True) (Kd.R_keptB ((Kd.R_apart' HO_3.out (Kd.R_typed HO_4.out) (by decide))) hkp (fun k_ hk_ hs_ => (hk_.2) hs_)) (fun k_ hk_ => trivial)); replace HO_4 := am_ (Kd.R_reok rfl hy0 (fun k_ e_ => HO_4.out.1 k_ e_)); replace HB := am_ hb; (try clear hb); (try clear hkp); (try clear hy0)) | ((with_reducible refine gc_ 90 rfl ?_); refine gL_ (some 69) Try.func90 #[.slice Ao48 x4_2.length co48] ?_; (with_reducible refine (slices_Compact_Sstring_string.calls (fun k_ => some k_ = (.slice Ao48 x4_2.length co48 : Value).ownBlock) (.slice Ao48 x4_2.length co48) t617 t618 w _ ?side1 ?side2 A46.out).mono ?_); (case side1 => exact bx0 HB.out); (case side2 => exact Kd.R_tight rfl HO_4.out); rintro e w50 ⟨v619, rfl, ho0, hb, hkp⟩; refine ⟨_, rfl, ?_⟩; replace HO_3 := am_ (Kd.R_mono (ok' := fun k_ => True) (Kd.R_keptB ((Kd.R_apart' HO_3.out (Kd.R_typed HO_4.out) (by decide))) hkp (fun k_ hk_ hs_ => (hk_.2) hs_)) (fun k_ hk_ => trivial)); have HO620 := am_ (Kd.R_mono (ok' := fun k_ => True) ho0 (fun k_ hk_ => trivial)); replace HB := am_ hb; clear HO_4; (try clear hb); (try clear hkp); (try clear ho0)))
       go_ret; exact ⟨_, by first | rfl | (simp [errW_none, errW_some] <;> rfl) | (simp only [← hji7]; first | rfl | (simp [errW_none, errW_some] <;> rfl)) | (simp [*, errW_none, errW_some] <;> rfl), rx_ HO620.out, bx0 HB.out⟩
def slices_Index_Sstring_string.l0 : Nat → List ByteArray → ByteArray → Int → Int → Option (Int)
 | 0, _, _, _, _ => none
 | k + 1, x0, x1, x7, x8 => if x8 < x7 then (if 0 ≤ x8 then (if x8 < (x0.length : Int) then (if x1.toList = (rdOf ByteArray.empty x0 x8).toList then (some x8) else (slices_Index_Sstring_string.l0 k x0 x1 x7 (wrap64 (x8 + 1)))) else (none)) else (none)) else (some (-1))
def slices_Index_Sstring_string.f (k : Nat) (l0 : List ByteArray) (a1 : ByteArray) : Option (Int) := slices_Index_Sstring_string.l0 k l0 a1 (l0.length : Int) 0
set_option maxHeartbeats 8000000 in
set_option maxRecDepth 100000 in
theorem slices_Index_Sstring_string.calls (k : Nat) (A0 : Option Addr) (c0 : Nat) (l0 : List ByteArray) (a1 : ByteArray) (r : Int) (w : World) (hr0 : Kd.C Kd.string w A0 l0.length l0) (hc0 : l0.length ≤ c0) (h : slices_Index_Sstring_string.f k l0 a1 = some r) :
  Calls Try.prog 92 #[.slice A0 l0.length c0, .string a1] w fun e w' => e = .returned (.int .i64 r) ∧ Drawn0 w w' := by
 have HR0 := am_ hr0; have HC0 := am_ hc0; clear hr0 hc0; have H : (slices_Index_Sstring_string.l0 k l0 a1 (l0.length : Int) 0) = some r := h; clear h; have H' := am_ H; clear H; go_enter Try.func92, Try.ntmps92
 go_wp2; go_loopg [8] k (fun kq v8 w' => ∃ (x8_1 : Int), v8 = .int .i64 x8_1 ∧ Aside0 (slices_Index_Sstring_string.l0 kq l0 a1 (l0.length : Int) x8_1 = some r) ∧ Aside0 (kq ≤ k) ∧ Drawn0 w w')
 case atStart => exact ⟨(0), vt_, H', ⟨Nat.le_refl _⟩, dr_⟩
 case round =>
  clear H'; obtain ⟨x8_1, rfl, HA, HK1, ⟨m1, rfl⟩⟩ := hrel; cases gk with
  | zero => exact absurd HA.out (by simp [slices_Index_Sstring_string.l0])
  | succ k1 =>
   have H := HA.out; clear HA; simp only [slices_Index_Sstring_string.l0] at H
   by_cases c3 : x8_1 < (l0.length : Int)
   ·rw [if_pos c3] at H; have c3b0 := decide_eq_true c3; clear c3; by_cases c4 : 0 ≤ x8_1
    ·rw [if_pos c4] at H; have c4b0 := decide_eq_true c4; clear c4; by_cases c5 : x8_1 < (l0.length : Int)
     ·rw [if_pos c5] at H; have c5b0 := decide_eq_true c5; clear c5; by_cases c6 : a1.toList = (rdOf ByteArray.empty l0 x8_1).toList
      ·rw [if_pos c6] at H; obtain ⟨c6b0, c6b1⟩ := eqT_ c6; clear c6; obtain rfl := Option.some.inj H; have p727 : 0 ≤ (x8_1 : Int) := oda_; have q727 : x8_1 < (l0.length : Int) := oda_; obtain ⟨ad727, e727, hx727_0⟩ := Kd.at_string HR0.out x8_1 p727 q727; cases e727; replace p727 := eq_true p727; replace q727 := eq_true q727; go_wp2; go_ret; exact ⟨by first | rfl | (simp; done) | (simp [*]; done), dr_⟩
      ·rw [if_neg c6] at H; obtain ⟨c6b0, c6b1⟩ := eqF_ c6; have H' := am_ H; clear H; have p727 : 0 ≤ (x8_1 : Int) := oda_; have q727 : x8_1 < (l0.length : Int) := oda_; obtain ⟨ad727, e727, hx727_0⟩ := Kd.at_string HR0.out x8_1 p727 q727; cases e727; replace p727 := eq_true p727; replace q727 := eq_true q727; go_wp2; go_roundg k1
       case measure => have := HK1.out; omega
       case rel => exact ⟨(wrap64 (x8_1 + 1)), vt_, H', hl_ HK1, dr_⟩
     ·rw [if_neg c5] at H; exact absurd H (by simp)
    ·rw [if_neg c4] at H; exact absurd H (by simp)
   ·rw [if_neg c3] at H; have c3b0 := decide_eq_false c3; clear c3; obtain rfl := Option.some.inj H; go_wp2; go_ret; exact ⟨by first | rfl | (simp; done) | (simp [*]; done), dr_⟩
def impl_TypeOf.j0 : Nat → Bool → Int → ByteArray → Option (Int)
 | 0, _, _, _ => none
 | k + 1, x12, x729000, x729001 => if x12 = true then (some (-1)) else ((impl_LeastSigns.f k x729000 x729001).bind fun bt730 => ((impl_TypesOf.f k x729000).bind fun t734 => ((slices_Index_Sstring_string.f k t734 bt730.2.1).bind fun t737 => (some t737))))
def impl_TypeOf.f (k : Nat) (a0_0 : Int) (a0_1 : ByteArray) : Option (Int) := (impl_IsAcyclic.f k a0_0 a0_1).bind fun t729 => (if t729 = true then (impl_TypeOf.j0 k (decide (a0_0 > 5)) a0_0 a0_1) else (impl_TypeOf.j0 k true a0_0 a0_1))
set_option maxHeartbeats 8000000 in
set_option maxRecDepth 100000 in
theorem impl_TypeOf.calls (k : Nat) (a0_0 : Int) (a0_1 : ByteArray) (r : Int) (w : World) (h : impl_TypeOf.f k a0_0 a0_1 = some r) :
  Calls Try.prog 19 #[.agg #[.int .i64 a0_0, .string a0_1]] w fun e w' => e = .returned (.int .i64 r) ∧ Below w.heap.size w w' := by
 have hu31 := Try.underlying31; have HB := am_ (Below.refl w.heap.size w); have H : ((impl_IsAcyclic.f k a0_0 a0_1).bind fun t729 => (if t729 = true then (impl_TypeOf.j0 k (decide (a0_0 > 5)) a0_0 a0_1) else (impl_TypeOf.j0 k true a0_0 a0_1))) = some r := h; clear h; have HC2 := am_ H; clear H; go_enter Try.func19, Try.ntmps19
 go_upto_region 1 with (first | ((with_reducible refine gd_ 1 rfl ?_); refine be_ 1 #[.int .i64 a0_0, .string a0_1] 31 ?_; intro gb728 hg w3 hbox hb; have BK728 := am_ hbox; have GW728 := gw0_ HB hg; have GE728 := GW728; replace HB := bs0_ HB hb; clear hb hbox hg))
 (try simp only [Act.put, sA_, sZ_, sS_])
 go_cut [12] (fun v12 wc => ∃ (kq : Nat) (x12_1 : Bool), v12 = .bool x12_1 ∧ Aside0 (impl_TypeOf.j0 kq x12_1 a0_0 a0_1 = some r) ∧ Aside0 (kq ≤ k) ∧ Aside0 (wc.heap[gb728]? = some (.cells #[.int .i64 a0_0, .string a0_1] 31 (0, 0))) ∧ Aside0 (Below w.heap.size w wc))
 case first =>
  have H := HC2.out; clear HC2; obtain ⟨t729, A4, H⟩ := bnd_ H; by_cases c5 : t729 = true
  ·subst c5; replace H := ifT_ H; have H' := am_ H; clear H; obtain ⟨hcz6_0, hfz6_0, hcz6_1, hfz6_1⟩ := bk2_ BK728; go_wp2_with (first | ((with_reducible refine gc_ 87 rfl ?_); refine gB_ (some 6) Try.func87 #[.agg #[.int .i64 a0_0, .string a0_1]] (impl_IsAcyclic.calls k a0_0 a0_1 true _ A4.out) ?_; intro w7 hb; replace BK728 := bb_ BK728 hb; replace HB := bs1_ HB hb GE728; try clear hb; obtain ⟨hcz8_0, hfz8_0, hcz8_1, hfz8_1⟩ := bk2_ BK728))
   go_meet
   case rel => exact ⟨_, (decide (a0_0 > 5)), vt_, H', le_, kX_ BK728, bX1_ HB GE728⟩
  ·replace c5 := Bool.eq_false_iff.mpr c5; subst c5; replace H := ifF_ H; have H' := am_ H; clear H; obtain ⟨hcz9_0, hfz9_0, hcz9_1, hfz9_1⟩ := bk2_ BK728; go_wp2_with (first | ((with_reducible refine gc_ 87 rfl ?_); refine gB_ (some 6) Try.func87 #[.agg #[.int .i64 a0_0, .string a0_1]] (impl_IsAcyclic.calls k a0_0 a0_1 false _ A4.out) ?_; intro w10 hb; replace BK728 := bb_ BK728 hb; replace HB := bs1_ HB hb GE728; try clear hb))
   go_meet
   case rel => exact ⟨_, (true), vt_, H', le_, kX_ BK728, bX1_ HB GE728⟩
 case rest =>
  clear HC2; obtain ⟨kq, x12_1, rfl, HA, HJ1, BK728, HB⟩ := hcut; cases kq with
  | zero => exact absurd HA.out (by simp [impl_TypeOf.j0])
  | succ kj1 =>
   have H := HA.out; clear HA; simp only [impl_TypeOf.j0] at H
   by_cases c11 : x12_1 = true
   ·subst c11; replace H := ifT_ H; obtain rfl := Option.some.inj H; go_wp2; go_ret; exact ⟨er_, bx1 HB.out GE728.out⟩
   ·replace c11 := Bool.eq_false_iff.mpr c11; subst c11; replace H := ifF_ H; replace H := Option.bind_eq_some_iff.mp H; obtain ⟨⟨t730, t731, t732⟩, A120, H⟩ := H; replace H : ((impl_TypesOf.f kj1 a0_0).bind fun t734 => ((slices_Index_Sstring_string.f kj1 t734 t731).bind fun t737 => (some t737))) = some r := H; have A12 := am_ A120; clear A120; obtain ⟨t734, A13, H⟩ := bnd_ H; obtain ⟨t737, A14, H⟩ := bnd_ H; obtain rfl := Option.some.inj H; obtain ⟨hcz15_0, hfz15_0, hcz15_1, hfz15_1⟩ := bk2_ BK728; try go_wp2_with (first | ((with_reducible refine gc_ 88 rfl ?_); refine gB_ (some 15) Try.func88 #[.agg #[.int .i64 a0_0, .string a0_1]] (impl_LeastSigns.calls kj1 a0_0 a0_1 t730 t731 t732 _ A12.out) ?_; intro w16 hb; replace BK728 := bb_ BK728 hb; replace HB := bs1_ HB hb GE728; try clear hb) | ((with_reducible refine gd_ 3 rfl ?_); refine be_ 3 #[.int .i64 0, .string (⟨#[]⟩ : ByteArray)] 31 ?_; intro gb733 hg w17 hbox hb; have BK733 := am_ hbox; have GW733 := gw1_ HB hg GE728; have GE733 := GW733; replace HB := bs1_ HB hb GE728; have NB728_733 := nl_ BK728 hg; have NB733_728 := ng_ BK728 hg; replace BK728 := bb_ BK728 hb; clear hb hbox hg; have hnb18 := NB733_728.out; have hnc18 := NB728_733.out; obtain ⟨hcz19_0, hfz19_0, hcz19_1, hfz19_1⟩ := bk2_ BK733))
    have n0_ : Aside0 (((w17.setCell ⟨gb733, 0, none⟩ (.int .i64 t730)).setCell ⟨gb733, 1, none⟩ (.string t731)).heap[gb728]? = some (.cells #[.int .i64 a0_0, .string a0_1] 31 (0, 0))) := ⟨by refine kx_ ?_; refine blk_far ?_ NB728_733.out _; refine kx_ ?_; refine blk_far ?_ NB728_733.out _; refine kx_ ?_; exact BK728.out⟩; have n1_ : Aside0 (((w17.setCell ⟨gb733, 0, none⟩ (.int .i64 t730)).setCell ⟨gb733, 1, none⟩ (.string t731)).heap[gb733]? = some (.cells #[.int .i64 t730, .string t731] 31 (0, 0))) := ⟨by refine kx_ ?_; refine blk_put (cs := #[.int .i64 t730, .string (⟨#[]⟩ : ByteArray)]) ?_ 1 _ rfl; refine kx_ ?_; refine blk_put (cs := #[.int .i64 0, .string (⟨#[]⟩ : ByteArray)]) ?_ 0 _ rfl; refine kx_ ?_; exact BK733.out⟩; have n2_ : Aside0 (Below w.heap.size w ((w17.setCell ⟨gb733, 0, none⟩ (.int .i64 t730)).setCell ⟨gb733, 1, none⟩ (.string t731))) := bX2_ HB GE728 GE733; (try clear BK728)
    (try clear BK733)
    (try clear HB)
    generalize ((w17.setCell ⟨gb733, 0, none⟩ (.int .i64 t730)).setCell ⟨gb733, 1, none⟩ (.string t731)) = w20 at n0_ n1_ n2_ ⊢
    have BK728 := n0_; have BK733 := n1_; have HB := n2_; clear n0_ n1_ n2_; replace BK728 := am_ (blk_drew BK728.out); replace BK733 := am_ (blk_drew BK733.out); replace HB := bd_ HB; refine start_ (n := 7) (S := fun w' => w'.cell? ⟨gb728, 0, none⟩ = some (.int .i64 a0_0) ∧ w'.cell? ⟨gb728, 1, none⟩ = some (.string a0_1) ∧ w'.cell? ⟨gb733, 0, none⟩ = some (.int .i64 t730) ∧ w'.cell? ⟨gb733, 1, none⟩ = some (.string t731)) (ds := []) #[false, false, false, false, false, false, false] (by kernel_rfl) rfl rfl ⟨c0_ BK728, c1_ BK728, c0_ BK733, c1_ BK733⟩ (fun hHeld => ?_); generalize w20.drew = w21 at BK728 BK733 HB hHeld ⊢
    refine pure_ (i := 0) (N := some 18) (v := ?_) (a' := ?_) #[true, false, false, false, false, false, false] rfl rfl (by kernel_rfl) (fun _ _ _ h => h) (Or.inl ⟨by rfl, ?_⟩) ?_ ?_; rotate_left
    ·intro w'; go_simp
     with_reducible rfl
    rotate_left
    ·simp only [Act.put, sA_, sZ_, sS_, i64_w, i32_w]
     rfl
    refine pure_ (i := 3) (N := some 21) (v := ?_) (a' := ?_) #[true, false, false, true, false, false, false] rfl rfl (by kernel_rfl) (fun _ _ _ h => h) (Or.inl ⟨by rfl, ?_⟩) ?_ ?_; rotate_left
    ·intro w'; go_simp
     with_reducible rfl
    rotate_left
    ·simp only [Act.put, sA_, sZ_, sS_, i64_w, i32_w]
     rfl
    refine take_ (i := 1) (N := some 19) (v := ?_) (a' := ?_) #[true, true, false, true, false, false, false] rfl rfl (by kernel_rfl) (fun _ _ _ h => h) (Or.inl ⟨by rfl, ?_⟩) hHeld ?_ ?_; rotate_left
    ·rintro w' ⟨s0, s1, s2, s3⟩; go_simp
     with_reducible rfl
    rotate_left
    ·simp only [Act.put, sA_, sZ_, sS_, i64_w, i32_w]
     rfl
    refine take_ (i := 4) (N := some 22) (v := ?_) (a' := ?_) #[true, true, false, true, true, false, false] rfl rfl (by kernel_rfl) (fun _ _ _ h => h) (Or.inl ⟨by rfl, ?_⟩) hHeld ?_ ?_; rotate_left
    ·rintro w' ⟨s0, s1, s2, s3⟩; go_simp
     with_reducible rfl
    rotate_left
    ·simp only [Act.put, sA_, sZ_, sS_, i64_w, i32_w]
     rfl
    refine one_ (i := 2) (N := some 20) #[true, true, true, true, true, false, false] rfl rfl (by kernel_rfl) (by decide) (fun K hK => ?_); refine gO_ Try.func12 #[.int .i64 a0_0] ?_; with_reducible refine (impl_TypesOf.calls kj1 a0_0 t734 _ A13.out).mono ?_
    rintro e w22 ⟨v735, rfl, ho0, hb⟩; refine ⟨_, rfl, ?_⟩; have HO736 := rl2_ ho0 HB GE728 GE733; replace BK728 := bb_ BK728 hb; replace BK733 := bb_ BK733 hb; replace HB := bs2_ HB hb GE728 GE733; try clear hb
    (try clear ho0)
    obtain ⟨Ao23, co23, eo23⟩ := Kd.R_slice HO736.out; (first | subst eo23 | (injection eo23 with f1_ f2_ f3_; have f4_ := f1_.symm; have f5_ := f3_.symm; clear f1_ f2_ f3_; subst f4_; subst f5_))
    refine hK.out _ _ ⟨c0_ BK728, c1_ BK728, c0_ BK733, c1_ BK733⟩ (fun hHeld => ?_); clear hK K; refine nm_ 20 (h := ?_); refine one_ (i := 5) (N := some 23) #[true, true, true, true, true, true, false] rfl rfl (by kernel_rfl) (by decide) (fun K hK => ?_); refine gO_ Try.func92 #[.slice Ao23 t734.length co23, .string t731] ?_; with_reducible refine (slices_Index_Sstring_string.calls kj1 _ _ t734 t731 t737 _ ?side1 ?side2 A14.out).mono ?_
    (case side1 => exact cR_ HO736)
    (case side2 => exact (Kd.R_reads' HO736.out).2.1)
    rintro e w' ⟨rfl, ⟨nd, rfl⟩⟩; refine ⟨_, rfl, ?_⟩; refine hK.out _ _ ⟨c0_ BK728, c1_ BK728, c0_ BK733, c1_ BK733⟩ (fun hHeld => ?_); clear hK K; refine nm_ 23 (h := ?_); refine pure_ (i := 6) (N := some 2) (v := ?_) (a' := ?_) #[true, true, true, true, true, true, true] rfl rfl (by kernel_rfl) (fun _ _ _ h => h) (Or.inl ⟨by rfl, ?_⟩) ?_ ?_; rotate_left
    ·intro w'; go_simp
     with_reducible rfl
    rotate_left
    ·simp only [Act.put, sA_, sZ_, sS_, i64_w, i32_w]
     rfl
    refine done_ (by kernel_rfl) ?_; try go_wp2
    go_ret; exact ⟨er_, bx2 HB.out GE728.out GE733.out⟩
def laws_FnExactTypeOf.f (k : Nat) (a0_0 : Int) (a0_1 : ByteArray) : Option (Bool) := (laws_szSigns.f a0_0 a0_1 1048576).bind fun t739 => (if t739 < 0 then (some true) else ((laws_toSigns.f a0_0 a0_1).bind fun bt740 => ((spec_TypeOf.f k bt740.1 bt740.2).bind fun t742 => ((laws_toSigns.f a0_0 a0_1).bind fun bt743 => ((impl_TypeOf.f k bt743.1 bt743.2).bind fun t745 => (if t745 = t742 then (some true) else (some false)))))))
set_option maxHeartbeats 8000000 in
set_option maxRecDepth 100000 in
theorem laws_FnExactTypeOf.calls (k : Nat) (a0_0 : Int) (a0_1 : ByteArray) (r : Bool) (w : World) (h : laws_FnExactTypeOf.f k a0_0 a0_1 = some r) :
  Calls Try.prog 4 #[.agg #[.int .i64 a0_0, .string a0_1]] w fun e w' => e = .returned (.bool r) ∧ Below w.heap.size w w' := by
 have hu28 := Try.underlying28; have HB := am_ (Below.refl w.heap.size w); have H : ((laws_szSigns.f a0_0 a0_1 1048576).bind fun t739 => (if t739 < 0 then (some true) else ((laws_toSigns.f a0_0 a0_1).bind fun bt740 => ((spec_TypeOf.f k bt740.1 bt740.2).bind fun t742 => ((laws_toSigns.f a0_0 a0_1).bind fun bt743 => ((impl_TypeOf.f k bt743.1 bt743.2).bind fun t745 => (if t745 = t742 then (some true) else (some false)))))))) = some r := h; clear h; obtain ⟨t739, A2, H⟩ := bnd_ H; by_cases c3 : t739 < 0
 ·rw [if_pos c3] at H; have c3b0 := decide_eq_true c3; clear c3; obtain rfl := Option.some.inj H; go_enter Try.func4, Try.ntmps4
  go_wp2_with (first | ((with_reducible refine gd_ 1 rfl ?_); refine be_ 1 #[.int .i64 a0_0, .string a0_1] 28 ?_; intro gb738 hg w4 hbox hb; have BK738 := am_ hbox; have GW738 := gw0_ HB hg; have GE738 := GW738; replace HB := bs0_ HB hb; clear hb hbox hg; obtain ⟨hcz5_0, hfz5_0, hcz5_1, hfz5_1⟩ := bk2_ BK738) | ((with_reducible refine gc_ 16 rfl ?_); refine gB_ (some 8) Try.func16 #[.agg #[.int .i64 a0_0, .string a0_1], .int .i64 1048576] (laws_szSigns.calls a0_0 a0_1 1048576 t739 _ A2.out) ?_; intro w6 hb; replace BK738 := bb_ BK738 hb; replace HB := bs1_ HB hb GE738; try clear hb))
  go_ret; exact ⟨er_, bx1 HB.out GE738.out⟩
 ·rw [if_neg c3] at H; have c3b0 := decide_eq_false c3; clear c3; replace H := Option.bind_eq_some_iff.mp H; obtain ⟨⟨t740, t741⟩, A70, H⟩ := H; replace H : ((spec_TypeOf.f k t740 t741).bind fun t742 => ((laws_toSigns.f a0_0 a0_1).bind fun bt743 => ((impl_TypeOf.f k bt743.1 bt743.2).bind fun t745 => (if t745 = t742 then (some true) else (some false))))) = some r := H; have A7 := am_ A70; clear A70; obtain ⟨t742, A8, H⟩ := bnd_ H; replace H := Option.bind_eq_some_iff.mp H; obtain ⟨⟨t743, t744⟩, A90, H⟩ := H; replace H : ((impl_TypeOf.f k t743 t744).bind fun t745 => (if t745 = t742 then (some true) else (some false))) = some r := H; have A9 := am_ A90; clear A90; obtain ⟨t745, A10, H⟩ := bnd_ H; by_cases c11 : t745 = t742
  ·rw [if_pos c11] at H; obtain ⟨c11b0, c11b1⟩ := eqT_ c11; clear c11; obtain rfl := Option.some.inj H; go_enter Try.func4, Try.ntmps4
   go_wp2_with (first | ((with_reducible refine gd_ 1 rfl ?_); refine be_ 1 #[.int .i64 a0_0, .string a0_1] 28 ?_; intro gb738 hg w12 hbox hb; have BK738 := am_ hbox; have GW738 := gw0_ HB hg; have GE738 := GW738; replace HB := bs0_ HB hb; clear hb hbox hg; obtain ⟨hcz13_0, hfz13_0, hcz13_1, hfz13_1⟩ := bk2_ BK738) | ((with_reducible refine gc_ 16 rfl ?_); refine gB_ (some 8) Try.func16 #[.agg #[.int .i64 a0_0, .string a0_1], .int .i64 1048576] (laws_szSigns.calls a0_0 a0_1 1048576 t739 _ A2.out) ?_; intro w14 hb; replace BK738 := bb_ BK738 hb; replace HB := bs1_ HB hb GE738; try clear hb; obtain ⟨hcz15_0, hfz15_0, hcz15_1, hfz15_1⟩ := bk2_ BK738) | ((with_reducible refine gc_ 18 rfl ?_); refine gB_ (some 12) Try.func18 #[.agg #[.int .i64 a0_0, .string a0_1]] (laws_toSigns.calls a0_0 a0_1 t740 t741 _ A7.out) ?_; intro w16 hb; replace BK738 := bb_ BK738 hb; replace HB := bs1_ HB hb GE738; try clear hb) | ((with_reducible refine gc_ 17 rfl ?_); refine gB_ (some 13) Try.func17 #[.agg #[.int .i64 t740, .string t741]] (spec_TypeOf.calls k t740 t741 t742 _ A8.out) ?_; intro w17 hb; replace BK738 := bb_ BK738 hb; replace HB := bs1_ HB hb GE738; try clear hb; obtain ⟨hcz18_0, hfz18_0, hcz18_1, hfz18_1⟩ := bk2_ BK738) | ((with_reducible refine gc_ 18 rfl ?_); refine gB_ (some 15) Try.func18 #[.agg #[.int .i64 a0_0, .string a0_1]] (laws_toSigns.calls a0_0 a0_1 t743 t744 _ A9.out) ?_; intro w19 hb; replace BK738 := bb_ BK738 hb; replace HB := bs1_ HB hb GE738; try clear hb) | ((with_reducible refine gc_ 19 rfl ?_); refine gB_ (some 16) Try.func19 #[.agg #[.int .i64 t743, .string t744]] (impl_TypeOf.calls k t743 t744 t745 _ A10.out) ?_; intro w20 hb; replace BK738 := bb_ BK738 hb; replace HB := bs1_ HB hb GE738; try clear hb))
   go_ret; exact ⟨er_, bx1 HB.out GE738.out⟩
  ·rw [if_neg c11] at H; obtain ⟨c11b0, c11b1⟩ := eqF_ c11; obtain rfl := Option.some.inj H; go_enter Try.func4, Try.ntmps4
   go_wp2_with (first | ((with_reducible refine gd_ 1 rfl ?_); refine be_ 1 #[.int .i64 a0_0, .string a0_1] 28 ?_; intro gb738 hg w21 hbox hb; have BK738 := am_ hbox; have GW738 := gw0_ HB hg; have GE738 := GW738; replace HB := bs0_ HB hb; clear hb hbox hg; obtain ⟨hcz22_0, hfz22_0, hcz22_1, hfz22_1⟩ := bk2_ BK738) | ((with_reducible refine gc_ 16 rfl ?_); refine gB_ (some 8) Try.func16 #[.agg #[.int .i64 a0_0, .string a0_1], .int .i64 1048576] (laws_szSigns.calls a0_0 a0_1 1048576 t739 _ A2.out) ?_; intro w23 hb; replace BK738 := bb_ BK738 hb; replace HB := bs1_ HB hb GE738; try clear hb; obtain ⟨hcz24_0, hfz24_0, hcz24_1, hfz24_1⟩ := bk2_ BK738) | ((with_reducible refine gc_ 18 rfl ?_); refine gB_ (some 12) Try.func18 #[.agg #[.int .i64 a0_0, .string a0_1]] (laws_toSigns.calls a0_0 a0_1 t740 t741 _ A7.out) ?_; intro w25 hb; replace BK738 := bb_ BK738 hb; replace HB := bs1_ HB hb GE738; try clear hb) | ((with_reducible refine gc_ 17 rfl ?_); refine gB_ (some 13) Try.func17 #[.agg #[.int .i64 t740, .string t741]] (spec_TypeOf.calls k t740 t741 t742 _ A8.out) ?_; intro w26 hb; replace BK738 := bb_ BK738 hb; replace HB := bs1_ HB hb GE738; try clear hb; obtain ⟨hcz27_0, hfz27_0, hcz27_1, hfz27_1⟩ := bk2_ BK738) | ((with_reducible refine gc_ 18 rfl ?_); refine gB_ (some 15) Try.func18 #[.agg #[.int .i64 a0_0, .string a0_1]] (laws_toSigns.calls a0_0 a0_1 t743 t744 _ A9.out) ?_; intro w28 hb; replace BK738 := bb_ BK738 hb; replace HB := bs1_ HB hb GE738; try clear hb) | ((with_reducible refine gc_ 19 rfl ?_); refine gB_ (some 16) Try.func19 #[.agg #[.int .i64 t743, .string t744]] (impl_TypeOf.calls k t743 t744 t745 _ A10.out) ?_; intro w29 hb; replace BK738 := bb_ BK738 hb; replace HB := bs1_ HB hb GE738; try clear hb))
   go_ret; exact ⟨er_, bx1 HB.out GE738.out⟩
end Go.Proofs.Ytoajlmlobaccdaa.P
namespace Go.Proofs.Ytoajlmlobaccdaa.Rk
open Go.RowKit Go.ChangeShapes Go.WideShapes Go.Deep Go.Proofs.YtoajlmlobaccdaaW.PrintWords
def I64 (n : Int) : Prop := -9223372036854775808 ≤ n ∧ n ≤ 9223372036854775807
theorem I64_of {n : Int} (h : (Lit.int .i64 n).wf = true) : I64 n := by
  have e1 : IntKind.i64.min = -9223372036854775808 := by decide
  have e2 : IntKind.i64.max = 9223372036854775807 := by decide
  simp [Lit.wf, e1, e2] at h
  unfold I64
  omega
section
variable {H : Type} {enc : TypeId × Value → H} {P : Program} {w : World} {base : Nat} {spare : Nat → Bool} {held : Bool} {α : Type}
def Elem (enc : TypeId × Value → H) (P : Program) (w : World) (base : Nat) (spare : Nat → Bool) (held : Bool) (e : TypeId) (d : Kd α) (Q : α → Prop) : Prop :=
  ∀ (fuel : Nat) (cs : List Value) (x : DataW H × List MemPlace), DataW.trod enc P w base spare held fuel e cs = some x → ∃ y, d.K w y cs ∧ Q y
end
end Go.Proofs.Ytoajlmlobaccdaa.Rk
namespace Go.Proofs.Ytoajlmlobaccdaa.P
open Go.RowKit Go.ChangeShapes Go.WideShapes Go.Deep Go.Proofs.Ytoajlmlobaccdaa.Rk Go.Proofs.YtoajlmlobaccdaaW.PrintWords
theorem cells_3 : Try.prog.cellsOf 3 = 1 := by kernel_rfl
theorem cells_9 : Try.prog.cellsOf 9 = 1 := by kernel_rfl
def Q101 (x : S101) : Prop := I64 x.f0 ∧ I64 x.f1 ∧ I64 x.f2 ∧ I64 x.f3 ∧ I64 x.f4
instance : Inhabited S101 := ⟨z101⟩
def Q31 (x : S31) : Prop := I64 x.f0 ∧ x.f1.size ≤ 9223372036854775807
instance : Inhabited S31 := ⟨z31⟩
def Q56 (x : S56) : Prop := I64 x.f0 ∧ I64 x.f1
instance : Inhabited S56 := ⟨z56⟩
def Q28 (x : S28) : Prop := I64 x.f0 ∧ x.f1.size ≤ 9223372036854775807
instance : Inhabited S28 := ⟨z28⟩
theorem cells_28 : Try.prog.cellsOf 28 = 2 := by kernel_rfl
set_option maxRecDepth 100000 in
theorem elem28 {H : Type} {enc : TypeId × Value → H} {w : World} {base : Nat} {spare : Nat → Bool} {held : Bool} : Elem enc Try.prog w base spare held 28 k28 Q28 := by
  intro fuel cs x h
  obtain ⟨xs, n, _, _, hlen, hxl, hf⟩ := DataW.trod_struct Try.underlying28 h
  rw [cells_28] at hlen
  match cs, hlen with
  | [c0, c1], _ =>
    have h0 : DataW.trod enc Try.prog w base spare held n 3 (List.take (Try.prog.cellsOf 3) (List.drop 0 [c0, c1])) = xs[0]? := hf 0 _ rfl
    rw [cells_3] at h0
    have y0 : xs[0]? = some (xs[0]'(by rw [hxl]; decide)) := List.getElem?_eq_getElem _
    rw [y0] at h0
    obtain ⟨n0, e0, _, w0⟩ := DataW.trod_int Try.underlying3 h0
    have e0' : c0 = .int .i64 n0 := by simpa using e0
    have h1 : DataW.trod enc Try.prog w base spare held n 9 (List.take (Try.prog.cellsOf 9) (List.drop 1 [c0, c1])) = xs[1]? := hf 1 _ rfl
    rw [cells_9] at h1
    have y1 : xs[1]? = some (xs[1]'(by rw [hxl]; decide)) := List.getElem?_eq_getElem _
    rw [y1] at h1
    obtain ⟨n1, e1, _, w1⟩ := DataW.trod_string Try.underlying9 h1
    unfold maxLen at w1
    have e1' : c1 = .string n1 := by simpa using e1
    subst e0' e1'
    exact ⟨⟨n0, n1⟩, k28_mk w ⟨n0, n1⟩, I64_of w0, w1⟩
end Go.Proofs.Ytoajlmlobaccdaa.P
namespace Go.Proofs.Ytoajlmlobaccdaa.Pl
set_option linter.unusedSimpArgs false
set_option linter.unusedVariables false
open Go.RowKit Go.Proofs.YtoajlmlobaccdaaW.PrintWords
theorem wrap_in {n : Int} (h0 : -9223372036854775808 ≤ n) (h1 : n ≤ 9223372036854775807) : wrap64 n = n := by
  unfold wrap64
  omega
theorem wrap_nat (i : Nat) (h : i < 9223372036854775807) : wrap64 ((i : Int) + 1) = ((i + 1 : Nat) : Int) := by
  unfold wrap64
  omega
theorem Ev.uniq {α : Type} {g : Nat → Option α} {a b : α} (h : Ev g a) (k : Ev g b) : a = b := by
  obtain ⟨K, h⟩ := h
  obtain ⟨L, k⟩ := k
  have h1 := h (max K L) (by omega)
  have h2 := k (max K L) (by omega)
  rw [h1] at h2
  exact Option.some.inj h2
theorem Ev.const {α : Type} {x : Option α} {r : α} (h : x = some r) : Ev (fun _ => x) r := ⟨0, fun _ _ => h⟩
theorem Ev.ite_pos {α : Type} {c : Prop} [Decidable c] {g f : Nat → Option α} {r : α} (h : c) (k : Ev g r) : Ev (fun n => if c then g n else f n) r := by
  simpa only [if_pos h] using k
theorem Ev.ite_neg {α : Type} {c : Prop} [Decidable c] {g f : Nat → Option α} {r : α} (h : ¬ c) (k : Ev f r) : Ev (fun n => if c then g n else f n) r := by
  simpa only [if_neg h] using k
theorem Ev.bind0 {α β : Type} {x : Option α} {f : Nat → α → Option β} {a : α} {r : β} (h : x = some a) (k : Ev (fun n => f n a) r) : Ev (fun n => x.bind (f n)) r := by
  subst h
  exact k
theorem Ev.loop {ρ : Type} (g : Nat → Nat → Option ρ) (n : Nat) (r : ρ) (hend : Ev (g n) r) (hstep : ∀ i, i < n → Ev (g (i + 1)) r → Ev (g i) r) : ∀ i, i ≤ n → Ev (g i) r := by
  have key : ∀ d i, i + d = n → Ev (g i) r := by
    intro d
    induction d with
    | zero => intro i hi; obtain rfl : i = n := by omega
              exact hend
    | succ d ih => intro i hi; exact hstep i (by omega) (ih (i + 1) (by omega))
  intro i hi
  exact key (n - i) i (by omega)
theorem Ev.loop_to {ρ : Type} (g : Nat → Nat → Option ρ) (n : Nat) (R : Nat → ρ) (hend : Ev (g n) (R n)) (hstep : ∀ i, i < n → Ev (g (i + 1)) (R (i + 1)) → Ev (g i) (R i)) : ∀ i, i ≤ n → Ev (g i) (R i) := by
  have key : ∀ d i, i + d = n → Ev (g i) (R i) := by
    intro d
    induction d with
    | zero => intro i hi; obtain rfl : i = n := by omega
              exact hend
    | succ d ih => intro i hi; exact hstep i (by omega) (ih (i + 1) (by omega))
  intro i hi
  exact key (n - i) i (by omega)
theorem getD_lt {α : Type} (l : List α) (d : α) (i : Nat) (h : i < l.length) : l.getD i d = l[i] := by
  rw [List.getD_eq_getElem?_getD, List.getElem?_eq_getElem h]
  rfl
end Go.Proofs.Ytoajlmlobaccdaa.Pl
namespace Go.Proofs.Ytoajlmlobaccdaa.Pure
set_option linter.unusedSimpArgs false
set_option linter.unusedVariables false
open Go.RowKit Go.Proofs.YtoajlmlobaccdaaW.PrintWords Go.Proofs.Ytoajlmlobaccdaa.P Go.Proofs.Ytoajlmlobaccdaa.Pl
abbrev T3 := S89
def tri : Nat → List T3
  | 3 => [⟨0, 1, 2⟩]
  | 4 => [⟨0, 1, 2⟩, ⟨0, 1, 3⟩, ⟨0, 2, 3⟩, ⟨1, 2, 3⟩]
  | 5 => [⟨0, 1, 2⟩, ⟨0, 1, 3⟩, ⟨0, 1, 4⟩, ⟨0, 2, 3⟩, ⟨0, 2, 4⟩, ⟨0, 3, 4⟩, ⟨1, 2, 3⟩, ⟨1, 2, 4⟩, ⟨1, 3, 4⟩, ⟨2, 3, 4⟩]
  | 6 => [⟨0, 1, 2⟩, ⟨0, 1, 3⟩, ⟨0, 1, 4⟩, ⟨0, 1, 5⟩, ⟨0, 2, 3⟩, ⟨0, 2, 4⟩, ⟨0, 2, 5⟩, ⟨0, 3, 4⟩, ⟨0, 3, 5⟩, ⟨0, 4, 5⟩, ⟨1, 2, 3⟩, ⟨1, 2, 4⟩, ⟨1, 2, 5⟩, ⟨1, 3, 4⟩, ⟨1, 3, 5⟩, ⟨1, 4, 5⟩, ⟨2, 3, 4⟩, ⟨2, 3, 5⟩, ⟨2, 4, 5⟩, ⟨3, 4, 5⟩]
  | 7 => [⟨0, 1, 2⟩, ⟨0, 1, 3⟩, ⟨0, 1, 4⟩, ⟨0, 1, 5⟩, ⟨0, 1, 6⟩, ⟨0, 2, 3⟩, ⟨0, 2, 4⟩, ⟨0, 2, 5⟩, ⟨0, 2, 6⟩, ⟨0, 3, 4⟩, ⟨0, 3, 5⟩, ⟨0, 3, 6⟩, ⟨0, 4, 5⟩, ⟨0, 4, 6⟩, ⟨0, 5, 6⟩, ⟨1, 2, 3⟩, ⟨1, 2, 4⟩, ⟨1, 2, 5⟩, ⟨1, 2, 6⟩, ⟨1, 3, 4⟩, ⟨1, 3, 5⟩, ⟨1, 3, 6⟩, ⟨1, 4, 5⟩, ⟨1, 4, 6⟩, ⟨1, 5, 6⟩, ⟨2, 3, 4⟩, ⟨2, 3, 5⟩, ⟨2, 3, 6⟩, ⟨2, 4, 5⟩, ⟨2, 4, 6⟩, ⟨2, 5, 6⟩, ⟨3, 4, 5⟩, ⟨3, 4, 6⟩, ⟨3, 5, 6⟩, ⟨4, 5, 6⟩]
  | _ => []
theorem tri_some : ∀ n : Nat, n ≤ 7 → impl_triplesOf.f 500 n = some (tri n)
  | 0, _ => by kernel_rfl
  | 1, _ => by kernel_rfl
  | 2, _ => by kernel_rfl
  | 3, _ => by kernel_rfl
  | 4, _ => by kernel_rfl
  | 5, _ => by kernel_rfl
  | 6, _ => by kernel_rfl
  | 7, _ => by kernel_rfl
  | n + 8, h => absurd h (by omega)
theorem triplesOf_ev (n : Nat) (h : n ≤ 7) : Ev (fun k => impl_triplesOf.f k n) (tri n) := Ev.of (impl_triplesOf.mono _) (tri_some n h)
theorem tri_length (n : Nat) (h : n ≤ 7) : ((tri n).length : Int) = Int.tdiv ((n : Int) * (n - 1) * (n - 2)) 6 := by
  have : (List.range 8).all (fun n => ((tri n).length : Int) == Int.tdiv ((n : Int) * ((n : Int) - 1) * ((n : Int) - 2)) 6) = true := by decide +kernel
  rw [List.all_eq_true] at this
  simpa using this n (by simp; omega)
def okT (n : Nat) (t : T3) : Bool := decide (0 ≤ t.f0 ∧ t.f0 < t.f1 ∧ t.f1 < t.f2 ∧ t.f2 < n)
theorem tri_ok (n : Nat) (h : n ≤ 7) : (tri n).all (okT n) = true := by
  have : (List.range 8).all (fun n => (tri n).all (okT n)) = true := by decide +kernel
  rw [List.all_eq_true] at this
  exact this n (by simp; omega)
def put3 (l : List Int) (t : T3) (v : Int) : List Int := chiSet l t.f0 t.f1 t.f2 v
def fill (v : Nat → Int) : List T3 → Nat → List Int → List Int
  | [], _, l => l
  | t :: ts, m, l => fill v ts (m + 1) (put3 l t (v m))
theorem fill_length (v : Nat → Int) : ∀ ts m l, (fill v ts m l).length = l.length := by
  intro ts
  induction ts with
  | nil => intro m l; rfl
  | cons t ts ih => intro m l; rw [fill, ih]; exact chiSet_length ..
theorem fill_append (v : Nat → Int) : ∀ ts us m l, fill v (ts ++ us) m l = fill v us (m + ts.length) (fill v ts m l) := by
  intro ts
  induction ts with
  | nil => intro us m l; rfl
  | cons t ts ih => intro us m l; rw [List.cons_append, fill, ih, fill, List.length_cons]; congr 1; omega
def par (t : T3) (x y z : Int) : Option Bool :=
  if (x = t.f0 ∧ y = t.f1 ∧ z = t.f2) ∨ (x = t.f1 ∧ y = t.f2 ∧ z = t.f0) ∨ (x = t.f2 ∧ y = t.f0 ∧ z = t.f1) then some true
  else if (x = t.f0 ∧ y = t.f2 ∧ z = t.f1) ∨ (x = t.f2 ∧ y = t.f1 ∧ z = t.f0) ∨ (x = t.f1 ∧ y = t.f0 ∧ z = t.f2) then some false else none
theorem rd_set (l : List Int) (p q : Nat) (v : Int) (h : p < l.length) : rd (l.set p v) q = if p = q then v else rd l q := by
  unfold rd
  rw [Int.toNat_natCast, List.getD_eq_getElem?_getD, List.getD_eq_getElem?_getD, List.getElem?_set]
  by_cases e : p = q
  · subst e
    simp [h]
  · simp [e]
theorem chiA_nat (l : List Int) (x y z : Nat) : chiA l x y z = rd l ((1 + x * 49 + y * 7 + z : Nat) : Int) := by
  unfold chiA
  congr 1
  omega
theorem pos_iff (a b c x y z : Nat) (ha : a < 7) (hb : b < 7) (hc : c < 7) (hx : x < 7) (hy : y < 7) (hz : z < 7) : (1 + a * 49 + b * 7 + c = 1 + x * 49 + y * 7 + z) ↔ (x = a ∧ y = b ∧ z = c) := by
  constructor
  · intro h
    have h1 : c = z := by have := congrArg (· % 7) (show a * 49 + b * 7 + c + 1 = x * 49 + y * 7 + z + 1 by omega); omega
    have h2 : b = y := by subst h1; omega
    exact ⟨by omega, h2.symm, h1.symm⟩
  · rintro ⟨rfl, rfl, rfl⟩
    rfl
theorem chiA_set (l : List Int) (hl : l.length = 344) (a b c : Nat) (ha : a < 7) (hb : b < 7) (hc : c < 7) (ab : a ≠ b) (bc : b ≠ c) (ac : a ≠ c) (v : Int) (x y z : Nat) (hx : x < 7) (hy : y < 7) (hz : z < 7) :
    chiA (chiSet l a b c v) x y z = match par ⟨a, b, c⟩ x y z with | some true => v | some false => wrap64 (-v) | none => chiA l x y z := by
  rw [chiA_nat, chiA_nat]
  unfold chiSet setL par
  simp only [Int.toNat_natCast]
  rw [rd_set _ _ _ _ (by first | (simp only [List.length_set]; omega) | omega), rd_set _ _ _ _ (by first | (simp only [List.length_set]; omega) | omega), rd_set _ _ _ _ (by first | (simp only [List.length_set]; omega) | omega), rd_set _ _ _ _ (by first | (simp only [List.length_set]; omega) | omega), rd_set _ _ _ _ (by first | (simp only [List.length_set]; omega) | omega), rd_set _ _ _ _ (by first | (simp only [List.length_set]; omega) | omega)]
  simp only [pos_iff a b c x y z (by omega) (by omega) (by omega) hx hy hz, pos_iff b c a x y z (by omega) (by omega) (by omega) hx hy hz, pos_iff c a b x y z (by omega) (by omega) (by omega) hx hy hz, pos_iff a c b x y z (by omega) (by omega) (by omega) hx hy hz, pos_iff c b a x y z (by omega) (by omega) (by omega) hx hy hz, pos_iff b a c x y z (by omega) (by omega) (by omega) hx hy hz]
  simp only [Int.natCast_inj]
  clear hl
  generalize rd l ((1 + x * 49 + y * 7 + z : Nat) : Int) = o
  by_cases k0 : x = a ∧ y = b ∧ z = c
  · have := k0
    have n1 : ¬ (x = b ∧ y = c ∧ z = a) := by omega
    have n2 : ¬ (x = c ∧ y = a ∧ z = b) := by omega
    have n3 : ¬ (x = a ∧ y = c ∧ z = b) := by omega
    have n4 : ¬ (x = c ∧ y = b ∧ z = a) := by omega
    have n5 : ¬ (x = b ∧ y = a ∧ z = c) := by omega
    clear this
    simp only [(eq_true k0), (eq_false n1), (eq_false n2), (eq_false n3), (eq_false n4), (eq_false n5), if_true, if_false, or_true, true_or, or_false, false_or]
  by_cases k1 : x = b ∧ y = c ∧ z = a
  · have := k1
    have n2 : ¬ (x = c ∧ y = a ∧ z = b) := by omega
    have n3 : ¬ (x = a ∧ y = c ∧ z = b) := by omega
    have n4 : ¬ (x = c ∧ y = b ∧ z = a) := by omega
    have n5 : ¬ (x = b ∧ y = a ∧ z = c) := by omega
    clear this
    simp only [(eq_false k0), (eq_true k1), (eq_false n2), (eq_false n3), (eq_false n4), (eq_false n5), if_true, if_false, or_true, true_or, or_false, false_or]
  by_cases k2 : x = c ∧ y = a ∧ z = b
  · have := k2
    have n3 : ¬ (x = a ∧ y = c ∧ z = b) := by omega
    have n4 : ¬ (x = c ∧ y = b ∧ z = a) := by omega
    have n5 : ¬ (x = b ∧ y = a ∧ z = c) := by omega
    clear this
    simp only [(eq_false k0), (eq_false k1), (eq_true k2), (eq_false n3), (eq_false n4), (eq_false n5), if_true, if_false, or_true, true_or, or_false, false_or]
  by_cases k3 : x = a ∧ y = c ∧ z = b
  · have := k3
    have n4 : ¬ (x = c ∧ y = b ∧ z = a) := by omega
    have n5 : ¬ (x = b ∧ y = a ∧ z = c) := by omega
    clear this
    simp only [(eq_false k0), (eq_false k1), (eq_false k2), (eq_true k3), (eq_false n4), (eq_false n5), if_true, if_false, or_true, true_or, or_false, false_or]
  by_cases k4 : x = c ∧ y = b ∧ z = a
  · have := k4
    have n5 : ¬ (x = b ∧ y = a ∧ z = c) := by omega
    clear this
    simp only [(eq_false k0), (eq_false k1), (eq_false k2), (eq_false k3), (eq_true k4), (eq_false n5), if_true, if_false, or_true, true_or, or_false, false_or]
  by_cases k5 : x = b ∧ y = a ∧ z = c
  · have := k5
    clear this
    simp only [(eq_false k0), (eq_false k1), (eq_false k2), (eq_false k3), (eq_false k4), (eq_true k5), if_true, if_false, or_true, true_or, or_false, false_or]
  simp only [(eq_false k0), (eq_false k1), (eq_false k2), (eq_false k3), (eq_false k4), (eq_false k5), if_true, if_false, or_true, true_or, or_false, false_or]
theorem chiA_put3 (l : List Int) (hl : l.length = 344) (t : T3) (ht : okT 7 t = true) (v : Int) (x y z : Nat) (hx : x < 7) (hy : y < 7) (hz : z < 7) :
    chiA (put3 l t v) x y z = match par t x y z with | some true => v | some false => wrap64 (-v) | none => chiA l x y z := by
  obtain ⟨a, b, c⟩ := t
  unfold okT at ht
  rw [decide_eq_true_eq] at ht
  obtain ⟨h0, h1, h2, h3⟩ := ht
  dsimp only at h0 h1 h2 h3
  obtain ⟨a, rfl⟩ := Int.eq_ofNat_of_zero_le h0
  obtain ⟨b, rfl⟩ := Int.eq_ofNat_of_zero_le (show 0 ≤ b by omega)
  obtain ⟨c, rfl⟩ := Int.eq_ofNat_of_zero_le (show 0 ≤ c by omega)
  exact chiA_set l hl a b c (by omega) (by omega) (by omega) (by omega) (by omega) (by omega) v x y z hx hy hz
theorem chiN_put3 (l : List Int) (hl : l.length = 344) (t : T3) (v : Int) : chiN (put3 l t v) = chiN l := by
  have h : ∀ (l : List Int) (p : Nat) (u : Int), rd (l.set (1 + p) u) 0 = rd l 0 := by
    intro l p u
    unfold rd
    simp [List.getD_eq_getElem?_getD, List.getElem?_set, show ¬ (1 + p = 0) by omega]
  unfold put3 chiSet setL chiN
  simp only [Nat.add_assoc, h]
def src : List T3 → Nat → Int → Int → Int → Option (Nat × Bool)
  | [], _, _, _, _ => none
  | t :: ts, m, x, y, z => (src ts (m + 1) x y z).or ((par t x y z).map fun b => (m, b))
def sval (v : Nat → Int) (o : Int) : Option (Nat × Bool) → Int
  | some (m, true) => v m
  | some (m, false) => wrap64 (-v m)
  | none => o
theorem chiA_fill (v : Nat → Int) (x y z : Nat) (hx : x < 7) (hy : y < 7) (hz : z < 7) : ∀ (ts : List T3), ts.all (okT 7) = true → ∀ m l, l.length = 344 → chiA (fill v ts m l) x y z = sval v (chiA l x y z) (src ts m x y z) := by
  intro ts
  induction ts with
  | nil => intro _ m l _; rfl
  | cons t ts ih =>
    intro h m l hl
    rw [List.all_cons, Bool.and_eq_true] at h
    rw [fill, ih h.2 (m + 1) _ (by unfold put3; rw [chiSet_length]; exact hl), chiA_put3 l hl t h.1 (v m) x y z hx hy hz, src]
    cases hs : src ts (m + 1) x y z with
    | some p => obtain ⟨q, b⟩ := p; cases b <;> rfl
    | none =>
      cases hp : par t x y z with
      | none => rfl
      | some b => cases b <;> rfl
theorem chiN_fill (v : Nat → Int) : ∀ (ts : List T3) m l, l.length = 344 → chiN (fill v ts m l) = chiN l := by
  intro ts
  induction ts with
  | nil => intro m l _; rfl
  | cons t ts ih => intro m l hl; rw [fill, ih _ _ (by unfold put3; rw [chiSet_length]; exact hl), chiN_put3 l hl]
theorem okT_mono {n : Nat} (h : n ≤ 7) (t : T3) (ht : okT n t = true) : okT 7 t = true := by
  unfold okT at ht ⊢
  rw [decide_eq_true_eq] at ht ⊢
  omega
theorem tri_ok7 (n : Nat) (h : n ≤ 7) : (tri n).all (okT 7) = true := by
  have := tri_ok n h
  rw [List.all_eq_true] at this ⊢
  exact fun t ht => okT_mono h t (this t ht)
theorem chiA_new (n : Int) (x y z : Nat) (hx : x < 7) (hy : y < 7) (hz : z < 7) : chiA (chiNew n) x y z = 0 := by
  rw [chiA_nat, show 1 + x * 49 + y * 7 + z = (x * 49 + y * 7 + z) + 1 by omega]
  unfold rd chiNew
  rw [Int.toNat_natCast, List.getD_cons_succ, List.getD_eq_getElem?_getD, List.getElem?_replicate]
  rw [if_pos (by omega)]
  rfl
def isPM (s : ByteArray) (m : Nat) : Bool := bt s (m : Int) == 43 || bt s (m : Int) == 45
def isS (n : Int) (s : ByteArray) : Bool := decide (3 ≤ n ∧ n ≤ 7 ∧ (s.size : Int) = Int.tdiv (n * (n - 1) * (n - 2)) 6) && (List.range s.size).all (isPM s)
theorem count3 {n : Int} (h3 : 3 ≤ n) (h7 : n ≤ 7) : wrap64 (wrap64 (n * wrap64 (n - 1)) * wrap64 (n - 2)) = n * (n - 1) * (n - 2) ∧ wrap64 (Int.tdiv (n * (n - 1) * (n - 2)) 6) = Int.tdiv (n * (n - 1) * (n - 2)) 6 ∧ 0 ≤ Int.tdiv (n * (n - 1) * (n - 2)) 6 ∧ Int.tdiv (n * (n - 1) * (n - 2)) 6 ≤ 35 := by
  have : n = 3 ∨ n = 4 ∨ n = 5 ∨ n = 6 ∨ n = 7 := by omega
  obtain rfl | rfl | rfl | rfl | rfl := this <;> (unfold wrap64; decide)
theorem range_drop' (n i : Nat) (h : i < n) : (List.range n).drop i = i :: (List.range n).drop (i + 1) := by
  rw [List.drop_eq_getElem_cons (by simpa using h)]
  simp
theorem l1In_is (x a b : Int) : spec_l1In.f x a b = some (decide (a ≤ x ∧ x ≤ b)) := by
  unfold spec_l1In.f
  by_cases h : x ≥ a
  · rw [if_pos h]
    simp [h]
  · rw [if_neg h]
    simp [show ¬ a ≤ x by omega]
theorem spec_AreSigns_ev (n : Int) (s : ByteArray) : Ev (fun k => spec_AreSigns.f k n s) (isS n s) := by
  unfold spec_AreSigns.f isS
  have no : ∀ x, Ev (fun k => spec_AreSigns.j0 k true n x) false := fun x => Ev.step (fun k => spec_AreSigns.j0.eq_2 ..) (Ev.ite_pos rfl (Ev.now _))
  by_cases h : 3 ≤ n ∧ n ≤ 7
  · obtain ⟨e1, e2, e3, e4⟩ := count3 h.1 h.2
    refine Ev.bind0 (l1In_is ..) (Ev.ite_pos (decide_eq_true h) ?_)
    rw [e1, e2]
    by_cases hc : (s.size : Int) = Int.tdiv (n * (n - 1) * (n - 2)) 6
    · rw [show decide (3 ≤ n ∧ n ≤ 7 ∧ (s.size : Int) = Int.tdiv (n * (n - 1) * (n - 2)) 6) = true from decide_eq_true ⟨h.1, h.2, hc⟩, Bool.true_and]
      refine Ev.step (fun k => spec_AreSigns.j0.eq_2 ..) (Ev.ite_neg (by simp [hc]) ?_)
      have key := Ev.loop_to (fun i k => spec_AreSigns.l0 k i n s) s.size (fun i => ((List.range s.size).drop i).all (isPM s)) ?_ ?_ 0 (by omega)
      · simpa using key
      · refine Ev.step (fun k => spec_AreSigns.l0.eq_2 ..) (Ev.ite_neg (by omega) (Ev.const ?_))
        rw [List.drop_of_length_le (by simp)]
        rfl
      · intro i hi ih
        rw [range_drop' _ _ hi, List.all_cons]
        refine Ev.step (fun k => spec_AreSigns.l0.eq_2 ..) (Ev.ite_pos (by omega) (Ev.ite_pos (by omega) ?_))
        rw [wrap_nat i (by omega)]
        rw [show isPM s i = (bt s (i : Int) == 43 || bt s (i : Int) == 45) from rfl]
        by_cases h43 : bt s (i : Int) = 43
        · refine Ev.ite_pos h43 ?_
          simpa [h43] using ih
        · refine Ev.ite_neg h43 ?_
          by_cases h45 : bt s (i : Int) = 45
          · refine Ev.ite_pos h45 ?_
            simpa [h45] using ih
          · refine Ev.ite_neg h45 (Ev.const ?_)
            simp [h43, h45]
    · rw [show decide (3 ≤ n ∧ n ≤ 7 ∧ (s.size : Int) = Int.tdiv (n * (n - 1) * (n - 2)) 6) = false from decide_eq_false (fun q => hc q.2.2), Bool.false_and]
      rw [show ((s.size : Int) != Int.tdiv (n * (n - 1) * (n - 2)) 6) = true by simpa using hc]
      exact no s
  · rw [show decide (3 ≤ n ∧ n ≤ 7 ∧ (s.size : Int) = Int.tdiv (n * (n - 1) * (n - 2)) 6) = false from decide_eq_false (fun q => h ⟨q.1, q.2.1⟩), Bool.false_and]
    exact Ev.bind0 (l1In_is ..) (Ev.ite_neg (by simpa using h) (no s))
theorem impl_AreSigns_ev (n : Int) (s : ByteArray) : Ev (fun k => impl_AreSigns.f k n s) (isS n s) := by
  unfold impl_AreSigns.f isS
  have no : ∀ x, Ev (fun k => impl_AreSigns.j0 k true n x) false := fun x => Ev.step (fun k => impl_AreSigns.j0.eq_2 ..) (Ev.ite_pos rfl (Ev.now _))
  by_cases h3 : n < 3
  · rw [show decide (3 ≤ n ∧ n ≤ 7 ∧ (s.size : Int) = Int.tdiv (n * (n - 1) * (n - 2)) 6) = false from decide_eq_false (fun q => by omega), Bool.false_and]
    exact Ev.ite_pos h3 (no s)
  · refine Ev.ite_neg h3 ?_
    by_cases h7 : n > 7
    · rw [show decide (3 ≤ n ∧ n ≤ 7 ∧ (s.size : Int) = Int.tdiv (n * (n - 1) * (n - 2)) 6) = false from decide_eq_false (fun q => by omega), Bool.false_and]
      exact Ev.ite_pos h7 (no s)
    · refine Ev.ite_neg h7 ?_
      obtain ⟨e1, e2, e3, e4⟩ := count3 (n := n) (by omega) (by omega)
      rw [e1, e2]
      by_cases hc : (s.size : Int) = Int.tdiv (n * (n - 1) * (n - 2)) 6
      · rw [show decide (3 ≤ n ∧ n ≤ 7 ∧ (s.size : Int) = Int.tdiv (n * (n - 1) * (n - 2)) 6) = true from decide_eq_true ⟨by omega, by omega, hc⟩, Bool.true_and]
        refine Ev.step (fun k => impl_AreSigns.j0.eq_2 ..) (Ev.ite_neg (by simp [hc]) ?_)
        have key := Ev.loop_to (fun i k => impl_AreSigns.l0 k i n s) s.size (fun i => ((List.range s.size).drop i).all (isPM s)) ?_ ?_ 0 (by omega)
        · simpa using key
        · refine Ev.step (fun k => impl_AreSigns.l0.eq_2 ..) (Ev.ite_neg (by omega) (Ev.const ?_))
          rw [List.drop_of_length_le (by simp)]
          rfl
        · intro i hi ih
          rw [range_drop' _ _ hi, List.all_cons]
          refine Ev.step (fun k => impl_AreSigns.l0.eq_2 ..) (Ev.ite_pos (by omega) (Ev.ite_pos (by omega) ?_))
          rw [wrap_nat i (by omega)]
          rw [show isPM s i = (bt s (i : Int) == 43 || bt s (i : Int) == 45) from rfl]
          by_cases h43 : bt s (i : Int) = 43
          · refine Ev.ite_pos h43 ?_
            simpa [h43] using ih
          · refine Ev.ite_neg h43 ?_
            by_cases h45 : bt s (i : Int) = 45
            · refine Ev.ite_pos h45 ?_
              simpa [h45] using ih
            · refine Ev.ite_neg h45 (Ev.const ?_)
              simp [h43, h45]
      · rw [show decide (3 ≤ n ∧ n ≤ 7 ∧ (s.size : Int) = Int.tdiv (n * (n - 1) * (n - 2)) 6) = false from decide_eq_false (fun q => hc q.2.2), Bool.false_and]
        rw [show ((s.size : Int) != Int.tdiv (n * (n - 1) * (n - 2)) 6) = true by simpa using hc]
        exact no s
theorem isS_bounds {n : Int} {s : ByteArray} (h : isS n s = true) : 3 ≤ n ∧ n ≤ 7 ∧ s.size = (tri n.toNat).length ∧ s.size ≤ 35 := by
  unfold isS at h
  rw [Bool.and_eq_true, decide_eq_true_eq] at h
  obtain ⟨⟨h3, h7, hc⟩, _⟩ := h
  have hb := (count3 h3 h7).2.2.2
  obtain ⟨m, rfl⟩ := Int.eq_ofNat_of_zero_le (show 0 ≤ n by omega)
  have ht := tri_length m (by omega)
  rw [Int.toNat_natCast]
  exact ⟨h3, h7, by omega, by omega⟩
def sgAt (s : ByteArray) (m : Nat) : Int := if bt s (m : Int) = 45 then -1 else 1
def tab (n : Nat) (s : ByteArray) : List Int := fill (sgAt s) (tri n) 0 (chiNew n)
def sg (n : Nat) (s : ByteArray) (x y z : Int) : Int := sval (sgAt s) 0 (src (tri n) 0 x y z)
theorem tab_length (n : Nat) (s : ByteArray) : (tab n s).length = 344 := by
  unfold tab
  rw [fill_length, chiNew_length]
theorem tab_n (n : Nat) (s : ByteArray) : chiN (tab n s) = n := by
  unfold tab
  rw [chiN_fill _ _ _ _ (chiNew_length _)]
  rfl
theorem tab_at (n : Nat) (hn : n ≤ 7) (s : ByteArray) (x y z : Nat) (hx : x < 7) (hy : y < 7) (hz : z < 7) : chiA (tab n s) x y z = sg n s x y z := by
  unfold tab sg
  rw [chiA_fill _ x y z hx hy hz _ (tri_ok7 n hn) 0 _ (chiNew_length _), chiA_new _ x y z hx hy hz]
theorem tri_at (n : Nat) (hn : n ≤ 7) (i : Nat) (hi : i < (tri n).length) : okT 7 (tri n)[i] = true := by
  have := tri_ok7 n hn
  rw [List.all_eq_true] at this
  exact this _ (List.getElem_mem hi)
theorem rdT_lt (l : List T3) (i : Nat) (h : i < l.length) : rd_T89 l (i : Int) = l[i] := by
  unfold rd_T89
  rw [Int.toNat_natCast, getD_lt _ _ _ h]
theorem tableOf_ev (n : Nat) (hn : n ≤ 7) (s : ByteArray) (hs : s.size = (tri n).length) : Ev (fun k => impl_tableOf.f k n s) (tab n s) := by
  unfold impl_tableOf.f
  refine Ev.bind (triplesOf_ev n hn) ?_
  have h35 : (tri n).length ≤ 1000 := by
    have : (List.range 8).all (fun n => decide ((tri n).length ≤ 1000)) = true := by decide +kernel
    rw [List.all_eq_true] at this
    simpa using this n (by simp; omega)
  have key := Ev.loop (fun i k => impl_tableOf.l0 k (fill (sgAt s) ((tri n).take i) 0 (chiNew n)) (tri n) (tri n).length i n s) (tri n).length (tab n s) ?_ ?_ 0 (by omega)
  · simpa [fill] using key
  · refine Ev.step (fun k => impl_tableOf.l0.eq_2 ..) (Ev.ite_neg (by omega) (Ev.const ?_))
    rw [List.take_length]
    rfl
  · intro i hi ih
    refine Ev.step (fun k => impl_tableOf.l0.eq_2 ..) (Ev.ite_pos (by omega) (Ev.ite_pos (by omega) (Ev.ite_pos (by omega) (Ev.ite_pos (by omega) ?_))))
    have ht := tri_at n hn i hi
    rw [wrap_nat i (by omega), rdT_lt _ i hi]
    rw [List.take_succ_eq_append_getElem hi, fill_append, Nat.zero_add, List.length_take, Nat.min_eq_left (by omega)] at ih
    have hl : (fill (sgAt s) ((tri n).take i) 0 (chiNew n)).length = 344 := by rw [fill_length, chiNew_length]
    generalize fill (sgAt s) ((tri n).take i) 0 (chiNew n) = l at ih hl ⊢
    generalize (tri n)[i] = t at ih ht ⊢
    unfold okT at ht
    rw [decide_eq_true_eq] at ht
    have hset : ∀ v, impl_chi_set.f l t.f0 t.f1 t.f2 v = some (put3 l t v) := by
      intro v
      unfold impl_chi_set.f
      rw [if_pos ⟨hl, by omega, by omega, by omega⟩]
      rfl
    rw [fill, fill] at ih
    unfold sgAt at ih
    by_cases h45 : bt s (i : Int) = 45
    · rw [if_pos h45] at ih
      exact Ev.ite_pos h45 (Ev.bind0 (hset _) ih)
    · rw [if_neg h45] at ih
      exact Ev.ite_neg h45 (Ev.bind0 (hset _) ih)
def srt2 (n x y z p : Int) : Option (Int × Int) := if x > y then (spec_l3Index.f 60 n y x z).map fun m => (m, -p) else (spec_l3Index.f 60 n x y z).map fun m => (m, p)
def srt1 (n x y z p : Int) : Option (Int × Int) := if y > z then srt2 n x z y (-p) else srt2 n x y z p
def srt (n x y z : Int) : Option (Int × Int) := if x > y then srt1 n y x z (-1) else srt1 n x y z 1
def okSrt (n : Nat) (x y z : Nat) : Bool :=
  match srt n x y z, src (tri n) 0 x y z with
  | some (m, p), some (q, b) => m == (q : Int) && decide (q < (tri n).length) && (p == if b then 1 else -1)
  | _, _ => false
theorem all_srt : (List.range 8).all (fun n => (List.range n).all fun x => (List.range n).all fun y => (List.range n).all fun z => x == y || y == z || x == z || okSrt n x y z) = true := by decide +kernel
theorem srt_ok (n x y z : Nat) (hn : n ≤ 7) (hx : x < n) (hy : y < n) (hz : z < n) (h1 : x ≠ y) (h2 : y ≠ z) (h3 : x ≠ z) : okSrt n x y z = true := by
  have h := all_srt
  rw [List.all_eq_true] at h
  have h := h n (by simp; omega)
  rw [List.all_eq_true] at h
  have h := h x (by simpa using hx)
  rw [List.all_eq_true] at h
  have h := h y (by simpa using hy)
  rw [List.all_eq_true] at h
  have h := h z (by simpa using hz)
  simpa [h1, h2, h3] using h
theorem l3Index_ev {n x y z m : Int} (h : spec_l3Index.f 60 n x y z = some m) : Ev (fun k => spec_l3Index.f k n x y z) m := Ev.of (spec_l3Index.mono _ _ _ _) h
def look (s : ByteArray) (m p : Int) : Int := if bt s m = 45 then wrap64 (-p) else p
theorem j1_ev (n x y z p m q : Int) (s : ByteArray) (hp : p = 1 ∨ p = -1) (h : srt2 n x y z p = some (m, q)) (hm : 0 ≤ m) (hs : m < (s.size : Int)) : Ev (fun k => spec_l3At.j1 k x y z p n s) (look s m q) := by
  refine Ev.step (fun k => spec_l3At.j1.eq_2 ..) ?_
  have hw : wrap64 (-p) = -p := wrap_in (by omega) (by omega)
  unfold srt2 at h
  unfold look
  by_cases hxy : x > y
  · rw [if_pos hxy] at h
    obtain ⟨m', h1, h2⟩ := Option.map_eq_some_iff.mp h
    cases h2
    refine Ev.ite_pos hxy (Ev.bind (l3Index_ev h1) (Ev.ite_pos hm (Ev.ite_pos hs ?_)))
    rw [hw]
    by_cases h45 : bt s m = 45
    · exact Ev.ite_pos h45 (Ev.const (by rw [if_pos h45]))
    · exact Ev.ite_neg h45 (Ev.const (by rw [if_neg h45]))
  · rw [if_neg hxy] at h
    obtain ⟨m', h1, h2⟩ := Option.map_eq_some_iff.mp h
    cases h2
    refine Ev.ite_neg hxy (Ev.bind (l3Index_ev h1) (Ev.ite_pos hm (Ev.ite_pos hs ?_)))
    by_cases h45 : bt s m = 45
    · exact Ev.ite_pos h45 (Ev.const (by rw [if_pos h45]))
    · exact Ev.ite_neg h45 (Ev.const (by rw [if_neg h45]))
theorem j0_ev (n x y z p m q : Int) (s : ByteArray) (hp : p = 1 ∨ p = -1) (h : srt1 n x y z p = some (m, q)) (hm : 0 ≤ m) (hs : m < (s.size : Int)) : Ev (fun k => spec_l3At.j0 k x y z p n s) (look s m q) := by
  refine Ev.step (fun k => spec_l3At.j0.eq_2 ..) ?_
  have hw : wrap64 (-p) = -p := wrap_in (by omega) (by omega)
  unfold srt1 at h
  by_cases hyz : y > z
  · rw [if_pos hyz] at h
    rw [hw]
    exact Ev.ite_pos hyz (j1_ev n x z y (-p) m q s (by omega) h hm hs)
  · rw [if_neg hyz] at h
    exact Ev.ite_neg hyz (j1_ev n x y z p m q s hp h hm hs)
theorem l3At_ev (n : Nat) (hn : n ≤ 7) (s : ByteArray) (hs : s.size = (tri n).length) (x y z : Nat) (hx : x < n) (hy : y < n) (hz : z < n) (h1 : x ≠ y) (h2 : y ≠ z) (h3 : x ≠ z) :
    Ev (fun k => spec_l3At.f k n s x y z) (sg n s x y z) := by
  have h := srt_ok n x y z hn hx hy hz h1 h2 h3
  unfold okSrt at h
  unfold spec_l3At.f sg
  cases ha : srt n x y z with
  | none => rw [ha] at h; cases h
  | some mp =>
    obtain ⟨m, p⟩ := mp
    cases hb : src (tri n) 0 x y z with
    | none => rw [ha, hb] at h; cases h
    | some qb =>
      obtain ⟨q, b⟩ := qb
      rw [ha, hb] at h
      simp only [Bool.and_eq_true, beq_iff_eq, decide_eq_true_eq] at h
      obtain ⟨⟨rfl, hq⟩, hp⟩ := h
      have e : sval (sgAt s) 0 (some (q, b)) = look s q p := by
        subst hp
        unfold sval look sgAt
        cases b <;> by_cases h45 : bt s (q : Int) = 45 <;> simp [h45, wrap64]
      rw [e]
      unfold srt at ha
      by_cases hxy : (x : Int) > y
      · rw [if_pos hxy] at ha
        exact Ev.ite_pos hxy (j0_ev n y x z (-1) q p s (by omega) ha (by omega) (by omega))
      · rw [if_neg hxy] at ha
        exact Ev.ite_neg hxy (j0_ev n x y z 1 q p s (by omega) ha (by omega) (by omega))
theorem sg_pm (n : Nat) (hn : n ≤ 7) (s : ByteArray) (x y z : Nat) (hx : x < n) (hy : y < n) (hz : z < n) (h1 : x ≠ y) (h2 : y ≠ z) (h3 : x ≠ z) : sg n s x y z = 1 ∨ sg n s x y z = -1 := by
  have h := srt_ok n x y z hn hx hy hz h1 h2 h3
  unfold okSrt at h
  unfold sg
  cases ha : srt n x y z with
  | none => rw [ha] at h; cases h
  | some mp =>
    cases hb : src (tri n) 0 x y z with
    | none => rw [ha, hb] at h; cases h
    | some qb =>
      obtain ⟨q, b⟩ := qb
      unfold sval sgAt
      cases b <;> by_cases h45 : bt s (q : Int) = 45 <;> simp [h45, wrap64]
theorem rd_takeI (l : List Int) (n j : Nat) (h : j < n) : rd (l.take n) (j : Int) = rd l (j : Int) := by
  unfold rd
  rw [Int.toNat_natCast]
  simp [List.getD_eq_getElem?_getD, h]
theorem containsI_ev (l : List Int) (n : Nat) (hn : n ≤ l.length) (hl : l.length ≤ 1000000) (x : Int) :
    Ev (fun k => slices_Contains_Sint_int.f k (l.take n) x) ((List.range n).any fun j => x == rd l j) := by
  have hlen : (l.take n).length = n := by rw [List.length_take]; omega
  have key : ∀ d i, i + d = n → ∃ r, Ev (fun k => slices_Index_Sint_int.l0 k (l.take n) x n i) r ∧ decide (r ≥ 0) = ((List.range n).drop i).any fun j => x == rd l j := by
    intro d
    induction d with
    | zero =>
      intro i hi
      obtain rfl : i = n := by omega
      refine ⟨-1, Ev.step (fun k => slices_Index_Sint_int.l0.eq_2 ..) (Ev.ite_neg (by omega) (Ev.now _)), ?_⟩
      rw [List.drop_of_length_le (by simp)]
      rfl
    | succ d ih =>
      intro i hi
      obtain ⟨r, hr, he⟩ := ih (i + 1) (by omega)
      rw [range_drop' n i (by omega), List.any_cons]
      by_cases hb : x = rd l (i : Int)
      · refine ⟨i, Ev.step (fun k => slices_Index_Sint_int.l0.eq_2 ..) (Ev.ite_pos (by omega) (Ev.ite_pos (by omega) (Ev.ite_pos (by omega) (Ev.ite_pos (by rw [rd_takeI l n i (by omega)]; exact hb) (Ev.now _))))), ?_⟩
        rw [show (x == rd l (i : Int)) = true by simpa using hb]
        simp
      · refine ⟨r, Ev.step (fun k => slices_Index_Sint_int.l0.eq_2 ..) (Ev.ite_pos (by omega) (Ev.ite_pos (by omega) (Ev.ite_pos (by omega) (Ev.ite_neg (by rw [rd_takeI l n i (by omega)]; exact hb) ?_)))), ?_⟩
        · rw [wrap_nat i (by omega)]
          exact hr
        · rw [he, show (x == rd l (i : Int)) = false by simpa using hb, Bool.false_or]
  obtain ⟨r, hr, he⟩ := key n 0 (by omega)
  unfold slices_Contains_Sint_int.f slices_Index_Sint_int.f
  rw [hlen]
  refine Ev.bind hr (Ev.const ?_)
  rw [he, List.drop_zero]
end Go.Proofs.Ytoajlmlobaccdaa.Pure
namespace Go.Proofs.Ytoajlmlobaccdaa.Pl
set_option linter.unusedSimpArgs false
set_option linter.unusedVariables false
open Go.RowKit Go.Proofs.YtoajlmlobaccdaaW.PrintWords
theorem range_dropS (n i : Nat) (h : i < n) : (List.range n).drop i = i :: (List.range n).drop (i + 1) := by
  rw [List.drop_eq_getElem_cons (by simpa using h)]
  simp
def Srch {ρ : Type} (g : Nat → Nat → Option ρ) (m : Nat) (P : Nat → Bool) (v : ρ) (lo : Nat) : Prop :=
  ∀ r, (((List.range m).drop lo).any P = true → r = v) → (((List.range m).drop lo).any P = false → Ev (g m) r) → Ev (g lo) r
theorem Srch.of {ρ : Type} (g : Nat → Nat → Option ρ) (m : Nat) (P : Nat → Bool) (v : ρ) (lo : Nat) (hlo : lo ≤ m)
    (hstep : ∀ i, lo ≤ i → i < m → ∀ r, (P i = true → r = v) → (P i = false → Ev (g (i + 1)) r) → Ev (g i) r) : Srch g m P v lo := by
  have key : ∀ d i, lo ≤ i → i + d = m → Srch g m P v i := by
    intro d
    induction d with
    | zero =>
      intro i _ hi
      obtain rfl : i = m := by omega
      intro r _ h2
      exact h2 (by rw [List.drop_of_length_le (by simp)]; rfl)
    | succ d ih =>
      intro i hl hi r h1 h2
      rw [range_dropS m i (by omega), List.any_cons] at h1 h2
      refine hstep i hl (by omega) r (fun h => h1 (by rw [h, Bool.true_or])) (fun h => ih (i + 1) (by omega) (by omega) r (fun k => h1 (by rw [k, Bool.or_true])) (fun k => h2 (by rw [h, k]; rfl)))
  exact key (m - lo) lo (Nat.le_refl _) (by omega)
theorem Ev.up {ρ : Type} {f : Int → Nat → Option ρ} {i : Nat} {r : ρ} (hi : i < 1000000) (h : Ev (f ((i + 1 : Nat) : Int)) r) : Ev (f (wrap64 ((i : Int) + 1))) r := by
  rw [wrap_nat i (by omega)]
  exact h
end Go.Proofs.Ytoajlmlobaccdaa.Pl
namespace Go.Proofs.Ytoajlmlobaccdaa.Pure
set_option linter.unusedSimpArgs false
set_option linter.unusedVariables false
open Go.RowKit Go.Proofs.YtoajlmlobaccdaaW.PrintWords Go.Proofs.Ytoajlmlobaccdaa.P Go.Proofs.Ytoajlmlobaccdaa.Pl
def inL (l : List Int) (x : Int) : Bool := (List.range l.length).any fun j : Nat => x == rd l (j : Int)
def nxt (n : Nat) (l : List Int) : List (List Int) := ((List.range n).filter fun i : Nat => !inL l (i : Int)).map fun i : Nat => l ++ [(i : Int)]
def lev (n : Nat) : Nat → List (List Int)
  | 0 => [[]]
  | k + 1 => (lev n k).flatMap (nxt n)
def AN (n : Nat) : List (List Int) := lev n n
theorem nxt_len (n : Nat) (l : List Int) : (nxt n l).length ≤ n := by
  have := List.length_filter_le (fun i : Nat => !inL l (i : Int)) (List.range n)
  simpa [nxt] using this
theorem flat_len (n : Nat) : ∀ L : List (List Int), (L.flatMap (nxt n)).length ≤ L.length * n := by
  intro L
  induction L with
  | nil => simp
  | cons l L ih =>
    have := nxt_len n l
    rw [List.flatMap_cons, List.length_append, List.length_cons, Nat.succ_mul]
    omega
theorem lev_len (n : Nat) (hn : n ≤ 6) : ∀ k, k ≤ 6 → (lev n k).length ≤ 6 ^ k := by
  intro k
  induction k with
  | zero => intro _; simp [lev]
  | succ k ih =>
    intro hk
    have h1 := ih (by omega)
    have h2 := flat_len n (lev n k)
    rw [lev, Nat.pow_succ]
    exact Nat.le_trans h2 (Nat.mul_le_mul h1 hn)
theorem lev_len2 (n : Nat) (hn : n ≤ 6) (k : Nat) (hk : k ≤ 6) : (lev n k).length ≤ 46656 := Nat.le_trans (lev_len n hn k hk) (Nat.le_trans (Nat.pow_le_pow_right (by omega) hk) (by decide))
theorem lev_mem (n : Nat) : ∀ k l, l ∈ lev n k → l.length = k := by
  intro k
  induction k with
  | zero => intro l h; simp [lev] at h; rw [h]; rfl
  | succ k ih =>
    intro l h
    rw [lev, List.mem_flatMap] at h
    obtain ⟨p, hp, h⟩ := h
    unfold nxt at h
    rw [List.mem_map] at h
    obtain ⟨i, _, rfl⟩ := h
    rw [List.length_append, ih p hp]
    rfl
theorem containsAll_ev (l : List Int) (hl : l.length ≤ 1000000) (x : Int) : Ev (fun k => slices_Contains_Sint_int.f k l x) (inL l x) := by
  have h := containsI_ev l l.length (Nat.le_refl _) hl x
  rw [List.take_length] at h
  exact h
theorem rdL (L : List (List Int)) (j : Nat) (h : j < L.length) : rd_L1 L (j : Int) = L[j] := by
  unfold rd_L1
  rw [Int.toNat_natCast, getD_lt _ _ _ h]
theorem nxt_snoc (n i : Nat) (l : List Int) : (((List.range (i + 1)).filter fun i : Nat => !inL l (i : Int)).map fun i : Nat => l ++ [(i : Int)]) = (((List.range i).filter fun i : Nat => !inL l (i : Int)).map fun i : Nat => l ++ [(i : Int)]) ++ if inL l (i : Int) then [] else [l ++ [(i : Int)]] := by
  rw [List.range_succ, List.filter_append, List.map_append]
  congr 1
  cases h : inL l (i : Int) <;> simp [h]
theorem part_len (n i : Nat) (l : List Int) : (((List.range i).filter fun i : Nat => !inL l (i : Int)).map fun i : Nat => l ++ [(i : Int)]).length ≤ i := by
  have := List.length_filter_le (fun i : Nat => !inL l (i : Int)) (List.range i)
  simpa using this
theorem take_flat (n j : Nat) (L : List (List Int)) (h : j < L.length) : (L.take (j + 1)).flatMap (nxt n) = (L.take j).flatMap (nxt n) ++ nxt n L[j] := by
  rw [List.take_succ_eq_append_getElem h, List.flatMap_append]
  simp
theorem allNames_ev (n : Nat) (hn : n ≤ 6) : Ev (fun k => impl_allNames.f k n) (AN n) := by
  unfold impl_allNames.f
  have key := Ev.loop (fun m k => impl_allNames.l0 k n (lev n m) m) n (AN n) ?_ ?_ 0 (by omega)
  · exact key
  · exact Ev.step (fun k => impl_allNames.l0.eq_2 ..) (Ev.ite_neg (by omega) (Ev.now _))
  · intro m hm ih
    have hL := lev_len2 n hn m (by omega)
    have hmem := lev_mem n m
    refine Ev.step (fun k => impl_allNames.l0.eq_2 ..) (Ev.ite_pos (by omega) ?_)
    rw [lev] at ih
    generalize lev n m = L at ih hL hmem ⊢
    have key := Ev.loop (fun j k => impl_allNames.l1 k n m ((L.take j).flatMap (nxt n)) L L.length j) L.length (AN n) ?_ ?_ 0 (by omega)
    · simpa using key
    · refine Ev.step (fun k => impl_allNames.l1.eq_2 ..) (Ev.ite_neg (by omega) ?_)
      rw [List.take_length, wrap_nat m (by omega)]
      exact ih
    · intro j hj ihj
      have hl1 := hmem _ (List.getElem_mem hj)
      have hb := flat_len n (L.take j)
      have hb2 : (L.take j).length * n ≤ 46656 * 6 := Nat.mul_le_mul (by rw [List.length_take]; omega) hn
      refine Ev.step (fun k => impl_allNames.l1.eq_2 ..) (Ev.ite_pos (by omega) (Ev.ite_pos (by omega) (Ev.ite_pos (by omega) ?_)))
      rw [rdL L j hj]
      rw [take_flat n j L hj] at ihj
      generalize L[j] = l at ihj hl1 ⊢
      have key := Ev.loop (fun i k => impl_allNames.l2 k n m ((L.take j).flatMap (nxt n) ++ (((List.range i).filter fun i : Nat => !inL l (i : Int)).map fun i : Nat => l ++ [(i : Int)])) l i L L.length j) n (AN n) ?_ ?_ 0 (by omega)
      · simpa using key
      · refine Ev.step (fun k => impl_allNames.l2.eq_2 ..) (Ev.ite_neg (by omega) ?_)
        rw [wrap_nat j (by omega)]
        exact ihj
      · intro i hi ihi
        have hp := part_len n i l
        rw [nxt_snoc n i l] at ihi
        refine Ev.step (fun k => impl_allNames.l2.eq_2 ..) (Ev.ite_pos (by omega) (Ev.bind (containsAll_ev l (by omega) _) ?_))
        rw [wrap_nat i (by omega)]
        cases hc : inL l (i : Int) with
        | true =>
          rw [hc, if_pos rfl, List.append_nil] at ihi
          exact Ev.ite_pos rfl ihi
        | false =>
          rw [hc, if_neg (by simp), ← List.append_assoc] at ihi
          refine Ev.ite_neg (by simp) (Ev.bind0 (a := l) ?_ (Ev.ite_pos (by omega) (Ev.ite_pos (by rw [List.length_append]; omega) ihi)))
          unfold slices_Clone_Sint_int.f
          simp
          omega
theorem place_ev (l : List Int) (hl : l.length ≤ 1000000) (x : Int) : ∃ r, Ev (fun k => spec_l12Place.f k l x) r ∧ decide (r < 0) = !inL l x := by
  unfold spec_l12Place.f inL
  have key : ∀ d i, i + d = l.length → ∃ r, Ev (fun k => spec_l12Place.l0 k l x i) r ∧ decide (r < 0) = !((List.range l.length).drop i).any fun j : Nat => x == rd l (j : Int) := by
    intro d
    induction d with
    | zero =>
      intro i hi
      refine ⟨-1, Ev.step (fun k => spec_l12Place.l0.eq_2 ..) (Ev.ite_neg (by omega) (Ev.now _)), ?_⟩
      rw [List.drop_of_length_le (by simp; omega)]
      rfl
    | succ d ih =>
      intro i hi
      obtain ⟨r, hr, he⟩ := ih (i + 1) (by omega)
      rw [range_drop' _ i (by omega), List.any_cons]
      by_cases hb : rd l (i : Int) = x
      · refine ⟨i, Ev.step (fun k => spec_l12Place.l0.eq_2 ..) (Ev.ite_pos (by omega) (Ev.ite_pos (by omega) (Ev.ite_pos hb (Ev.now _)))), ?_⟩
        rw [show (x == rd l (i : Int)) = true by simpa using hb.symm]
        simp
      · refine ⟨r, Ev.step (fun k => spec_l12Place.l0.eq_2 ..) (Ev.ite_pos (by omega) (Ev.ite_pos (by omega) (Ev.ite_neg hb ?_))), ?_⟩
        · rw [wrap_nat i (by omega)]
          exact hr
        · rw [he, show (x == rd l (i : Int)) = false by simpa using fun e => hb e.symm, Bool.false_or]
  obtain ⟨r, h1, h2⟩ := key l.length 0 (by omega)
  exact ⟨r, h1, by simpa using h2⟩
theorem orders_ev (n : Nat) (hn : n ≤ 6) : Ev (fun k => spec_l19Orders.f k n) (AN n) := by
  unfold spec_l19Orders.f
  have key := Ev.loop (fun m k => spec_l19Orders.l0 k n (lev n m) m) n (AN n) ?_ ?_ 0 (by omega)
  · exact key
  · exact Ev.step (fun k => spec_l19Orders.l0.eq_2 ..) (Ev.ite_neg (by omega) (Ev.now _))
  · intro m hm ih
    have hL := lev_len2 n hn m (by omega)
    have hmem := lev_mem n m
    refine Ev.step (fun k => spec_l19Orders.l0.eq_2 ..) (Ev.ite_pos (by omega) ?_)
    rw [lev] at ih
    generalize lev n m = L at ih hL hmem ⊢
    have key := Ev.loop (fun j k => spec_l19Orders.l1 k n L m ((L.take j).flatMap (nxt n)) j) L.length (AN n) ?_ ?_ 0 (by omega)
    · simpa using key
    · refine Ev.step (fun k => spec_l19Orders.l1.eq_2 ..) (Ev.ite_neg (by omega) ?_)
      rw [List.take_length, wrap_nat m (by omega)]
      exact ih
    · intro j hj ihj
      have hl1 := hmem _ (List.getElem_mem hj)
      have hb := flat_len n (L.take j)
      have hb2 : (L.take j).length * n ≤ 46656 * 6 := Nat.mul_le_mul (by rw [List.length_take]; omega) hn
      refine Ev.step (fun k => spec_l19Orders.l1.eq_2 ..) (Ev.ite_pos (by omega) ?_)
      rw [take_flat n j L hj] at ihj
      have hrd := rdL L j hj
      generalize L[j] = l at ihj hl1 hrd
      have key := Ev.loop (fun i k => spec_l19Orders.l2 k n L m ((L.take j).flatMap (nxt n) ++ (((List.range i).filter fun i : Nat => !inL l (i : Int)).map fun i : Nat => l ++ [(i : Int)])) j i) n (AN n) ?_ ?_ 0 (by omega)
      · simpa using key
      · refine Ev.step (fun k => spec_l19Orders.l2.eq_2 ..) (Ev.ite_neg (by omega) ?_)
        rw [wrap_nat j (by omega)]
        exact ihj
      · intro i hi ihi
        have hp := part_len n i l
        rw [nxt_snoc n i l] at ihi
        obtain ⟨r, hr, hr2⟩ := place_ev l (by omega) (i : Int)
        refine Ev.step (fun k => spec_l19Orders.l2.eq_2 ..) (Ev.ite_pos (by omega) (Ev.ite_pos (by omega) (Ev.ite_pos (by omega) ?_)))
        rw [hrd, wrap_nat i (by omega)]
        refine Ev.bind hr ?_
        cases hc : inL l (i : Int) with
        | true =>
          rw [hc] at hr2
          rw [hc, if_pos rfl, List.append_nil] at ihi
          exact Ev.ite_neg (by simpa using hr2) ihi
        | false =>
          rw [hc] at hr2
          rw [hc, if_neg (by simp), ← List.append_assoc] at ihi
          refine Ev.ite_pos (by simpa using hr2) (Ev.bind0 rfl (Ev.ite_pos (by simp; omega) (Ev.bind0 rfl (Ev.ite_pos (by simp; omega) (Ev.ite_pos (by rw [List.length_append]; omega) ?_)))))
          rw [List.nil_append]
          exact ihi
def inv (p : List Int) : List Int := (List.range p.length).map fun j : Nat => (p.idxOf (j : Int) : Int)
def okP (n : Nat) (p : List Int) : Bool := (p.length == n && (inv p).length == n) && (List.range n).all fun a => decide (0 ≤ rd p (a : Int) ∧ rd p (a : Int) < n ∧ 0 ≤ rd (inv p) (a : Int) ∧ rd (inv p) (a : Int) < n) && (List.range n).all fun x => decide ((x : Int) = rd p (a : Int)) == decide (rd (inv p) (x : Int) = (a : Int))
theorem all_P : (List.range 7).all (fun n => (AN n).all (okP n)) = true := by decide +kernel
theorem P_at (n : Nat) (hn : n ≤ 6) (p : List Int) (h : p ∈ AN n) : p.length = n ∧ (inv p).length = n ∧ ∀ a, a < n → (0 ≤ rd p (a : Int) ∧ rd p (a : Int) < n ∧ 0 ≤ rd (inv p) (a : Int) ∧ rd (inv p) (a : Int) < n) ∧ ∀ x, x < n → ((x : Int) = rd p (a : Int) ↔ rd (inv p) (x : Int) = (a : Int)) := by
  have g := all_P
  rw [List.all_eq_true] at g
  have g := g n (by simp; omega)
  rw [List.all_eq_true] at g
  have g := g p h
  unfold okP at g
  rw [Bool.and_eq_true, Bool.and_eq_true, beq_iff_eq, beq_iff_eq, List.all_eq_true] at g
  refine ⟨g.1.1, g.1.2, fun a ha => ?_⟩
  have k := g.2 a (by simpa using ha)
  rw [Bool.and_eq_true, decide_eq_true_eq, List.all_eq_true] at k
  refine ⟨k.1, fun x hx => ?_⟩
  exact decide_eq_decide.mp (eq_of_beq (k.2 x (by simpa using hx)))
theorem inv_perm : (List.range 7).all (fun n => ((AN n).map inv).isPerm (AN n)) = true := by decide +kernel
theorem inv_all (n : Nat) (hn : n ≤ 6) : ((AN n).map inv).Perm (AN n) := by
  have g := inv_perm
  rw [List.all_eq_true] at g
  exact List.isPerm_iff.mp (g n (by simp; omega))
theorem inv_mem (n : Nat) (hn : n ≤ 6) (p : List Int) (h : p ∈ AN n) : inv p ∈ AN n := (inv_all n hn).mem_iff.mp (List.mem_map_of_mem h)
def listT (n : Nat) : List T3 :=
  ((List.range n).drop 0).flatMap fun a : Nat => ((List.range n).drop (a + 1)).flatMap fun b : Nat => ((List.range n).drop (b + 1)).map fun c : Nat => (⟨a, b, c⟩ : T3)
def tupT (q : T3) : Int × Int × Int := (q.f0, q.f1, q.f2)
def untupT (q : Int × Int × Int) : T3 := ⟨q.1, q.2.1, q.2.2⟩
theorem untupT_map (l : List T3) : (l.map tupT).map untupT = l := by
  rw [List.map_map]
  exact List.map_id' l
theorem all_t : (List.range 8).all (fun n => (listT n).map tupT == (tri n).map tupT) = true := by decide +kernel
theorem listT_eq (n : Nat) (hn : n ≤ 7) : listT n = tri n := by
  have h := all_t
  rw [List.all_eq_true] at h
  have h := congrArg (List.map untupT) (eq_of_beq (h n (by simp; omega)))
  rwa [untupT_map, untupT_map] at h
end Go.Proofs.Ytoajlmlobaccdaa.Pure
