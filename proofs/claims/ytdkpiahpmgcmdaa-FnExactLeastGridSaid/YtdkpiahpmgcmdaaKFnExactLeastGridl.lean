/- What the law FnExactLeastGrid reaches, part 12: functions as plain Lean functions with the proofs that their calls come to them, and plain lemmas over these. Put together by a program (wip/pack.py). -/
import Derived.Test.YtdkpiahpmgcmdaaKFnExactLeastGridc
import Derived.Test.YtdkpiahpmgcmdaaKFnExactLeastGridj
import Derived.Test.YtdkpiahpmgcmdaaKFnExactLeastGridk
namespace Go.Proofs.Ytdkpiahpmgcmdaa.P
open Go.RowKit Go.Proofs.YtdkpiahpmgcmdaaW.PrintWords Go.Proofs.YtdkpiahpmgcmdaaW.PrintLast Go.Proofs.YtdkpiahpmgcmdaaW.PrintMore
attribute [local go_sem] ptrOf_slice
attribute [local go_sem] min2_str max2_int min2_int max_two min_two max_three min_three max_four min_four
set_option linter.unusedVariables false
set_option linter.unusedSimpArgs false
theorem foot_chi {w : World} {ad : Addr} {n : Nat} {l : List Int} (h : (Kd.int .i64).C w (some ad) n l) (hl : 344 ≤ (n : Int)) {i j k : Int} (hi : 0 ≤ i) (hi7 : i < 7) (hj : 0 ≤ j) (hj7 : j < 7) (hk : 0 ≤ k) (hk7 : k < 7) :
  w.cell? ⟨ad.block, ad.off + 1 + i.toNat * 49 + j.toNat * 7 + k.toNat, none⟩ = some (.int .i64 (chiA l i j k)) := by
 obtain ⟨ad', e, hc⟩ := chi_at h hl hi hi7 hj hj7 hk hk7
 injection e with e
 subst e
 exact hc
mutual
def impl_chi_place.l0 : Nat → List Int → List (S54) → Int → Int → Int → Option ((List (S54)) × Bool)
 | 0, _, _, _, _, _ => none
 | k + 1, x0, x1, x2, x8, x9 => if x9 < (wrap64 ((wrap64 (x2 + 1)) * (wrap64 (x2 + 1)))) then (if (wrap64 (x2 + 1)) = 0 then (none) else ((impl_edgesOf.f k x8).bind fun t297 => (impl_chi_place.l1 k x0 x1 x2 x8 x9 true t297 (t297.length : Int) 0 (wrap64 (Int.tdiv x9 (wrap64 (x2 + 1)))) (Int.tmod x9 (wrap64 (x2 + 1)))))) else (some (([] : List (S54)), false))
def impl_chi_place.l1 : Nat → List Int → List (S54) → Int → Int → Int → Bool → List (S81) → Int → Int → Int → Int → Option ((List (S54)) × Bool)
 | 0, _, _, _, _, _, _, _, _, _, _, _ => none
 | k + 1, x0, x1, x2, x8, x9, x11, x44, x45, x46, x297000, x297001 => if x46 < x45 then (if 0 ≤ x46 then (if x46 < (x44.length : Int) then (if x11 = true then (if 0 ≤ ((rd_T81 x44 x46).f0) then (if ((rd_T81 x44 x46).f0) < (x1.length : Int) then (if 0 ≤ ((rd_T81 x44 x46).f1) then (if ((rd_T81 x44 x46).f1) < (x1.length : Int) then ((impl_TurnOf.f k ((rd_T54 x1 ((rd_T81 x44 x46).f0)).f0) ((rd_T54 x1 ((rd_T81 x44 x46).f0)).f1) ((rd_T54 x1 ((rd_T81 x44 x46).f1)).f0) ((rd_T54 x1 ((rd_T81 x44 x46).f1)).f1) x297000 x297001).bind fun t304 => (if 344 ≤ (x0.length : Int) then (if ((rd_T81 x44 x46).f0) < 7 then (if ((rd_T81 x44 x46).f1) < 7 then (if 0 ≤ x8 then (if x8 < 7 then (impl_chi_place.l1 k x0 x1 x2 x8 x9 (t304 == (chiA x0 ((rd_T81 x44 x46).f0) ((rd_T81 x44 x46).f1) x8)) x44 x45 (wrap64 (x46 + 1)) x297000 x297001) else (none)) else (none)) else (none)) else (none)) else (none))) else (none)) else (none)) else (none)) else (none)) else (impl_chi_place.l1 k x0 x1 x2 x8 x9 false x44 x45 (wrap64 (x46 + 1)) x297000 x297001)) else (none)) else (none)) else (if x11 = true then ((slices_Clone_Simpl_Point_impl_Point.f x1).bind fun t306 => ((some (([(⟨x297000, x297001⟩ : S54)] : List (S54)) : List (S54))).bind fun y309 => (if t306.length + y309.length < 8796093022208 then ((impl_chi_place.f k x0 (t306 ++ y309) x2).bind fun bt315 => (if bt315.2 = true then (some (bt315.1, true)) else (impl_chi_place.l0 k x0 x1 x2 x8 (wrap64 (x9 + 1))))) else (none)))) else (impl_chi_place.l0 k x0 x1 x2 x8 (wrap64 (x9 + 1))))
def impl_chi_place.f : Nat → List Int → List (S54) → Int → Option ((List (S54)) × Bool)
 | 0, _, _, _ => none
 | k + 1, l0, l1, a2 => if 344 ≤ (l0.length : Int) then (if (l1.length : Int) = (chiN l0) then (some (l1, true)) else (impl_chi_place.l0 k l0 l1 a2 (l1.length : Int) 0)) else (none)
end
def impl_chi_place.T7 : Bool × List (List Nat × List Nat) := (true, [([], []), ([], []), ([1], [1]), ([0, 2], [0, 2]), ([], []), ([], []), ([5], [5]), ([4, 6], [4, 6]), ([3, 7], [3, 7]), ([], []), ([9, 8, 0, 1, 2, 3, 4, 5, 6, 7, 8, 9], [8, 9])])
def impl_chi_place.B7 : List Nat := [0, 0, 2, 7, 0, 0, 32, 112, 255, 0, 1023]
theorem impl_chi_place.tab7 : rtab .any (opsOf Try.f34 7) = impl_chi_place.T7 := by kernel_rfl
theorem impl_chi_place.bits7 : waitsOk impl_chi_place.T7.2 impl_chi_place.B7 = true := by kernel_rfl
def impl_chi_place.T12 : Bool × List (List Nat × List Nat) := (true, [([], []), ([0], [0]), ([1], [1]), ([1], [1]), ([3, 1], [1, 3]), ([2, 4, 1], [1, 2, 4]), ([5, 1], [1, 5]), ([1], [1]), ([1], [1]), ([8, 1], [1, 8]), ([7, 9, 1], [1, 7, 9]), ([10, 1], [1, 10]), ([1], [1]), ([6, 11, 12, 1, 1], [1, 6, 11, 12]), ([1], [1]), ([1], [1]), ([15, 1], [1, 15]), ([1], [1]), ([17, 1], [1, 17]), ([1], [1]), ([14, 1], [1, 14]), ([20, 1], [1, 20]), ([21, 16, 1], [1, 16, 21]), ([22, 18, 1], [1, 18, 22]), ([23, 19, 1], [1, 19, 23]), ([24, 1], [1, 24]), ([13, 25, 1], [1, 13, 25]), ([1, 26], [1, 26]), ([27, 13, 0, 1, 2, 3, 4, 5, 6, 7, 8, 9, 10, 11, 12, 13, 14, 15, 16, 17, 18, 19, 20, 21, 22, 23, 24, 25, 26, 27], [0, 27])])
def impl_chi_place.B12 : List Nat := [0, 1, 3, 3, 11, 31, 63, 3, 3, 259, 899, 1923, 3, 8191, 3, 3, 32771, 3, 131075, 3, 16387, 1064963, 3260419, 7847939, 16760835, 33538051, 67108863, 134217727, 268435455]
theorem impl_chi_place.tab12 : rtab .any (opsOf Try.f34 12) = impl_chi_place.T12 := by kernel_rfl
theorem impl_chi_place.bits12 : waitsOk impl_chi_place.T12.2 impl_chi_place.B12 = true := by kernel_rfl
def impl_chi_place.T15 : Bool × List (List Nat × List Nat) := (true, [([], []), ([], []), ([1], [1]), ([], []), ([3], [3]), ([2, 4, 2], [2, 4]), ([], []), ([0, 5, 6, 5], [0, 5, 6]), ([7], [7]), ([8], [8]), ([8], [8]), ([9, 7, 0, 1, 2, 3, 4, 5, 6, 7, 8, 9], [9]), ([10, 11, 0, 1, 2, 3, 4, 5, 6, 7, 8, 9, 10, 11], [10])])
def impl_chi_place.B15 : List Nat := [0, 0, 2, 0, 8, 30, 0, 127, 255, 511, 511, 1023, 4095]
theorem impl_chi_place.tab15 : rtab .any (opsOf Try.f34 15) = impl_chi_place.T15 := by kernel_rfl
theorem impl_chi_place.bits15 : waitsOk impl_chi_place.T15.2 impl_chi_place.B15 = true := by kernel_rfl
set_option maxHeartbeats 8000000 in
set_option maxRecDepth 100000 in
theorem impl_chi_place.calls (k : Nat) : ∀ (A0 : Option Addr) (c0 : Nat) (l0 : List Int) (P1_ : Nat → Prop) (u9000_ : Value) (l1 : List (S54)) (a2 : Int) (r1 : List (S54)) (r2 : Bool) (w0 w : World) (hB : Below w0.heap.size w0 w) (hr0 : ∀ W_, Kept w W_ (fun k_ => P1_ k_) → Kd.C (Kd.int .i64) W_ A0 l0.length l0) (hc0 : l0.length ≤ c0) (ho1 : Kd.R k54 54 w w0.heap.size P1_ u9000_ l1) (h : impl_chi_place.f k l0 l1 a2 = some (r1, r2)),
  Calls Try.prog 34 #[.pointer A0, u9000_, .int .i64 a2] w fun e w' => ∃ v0_ : Value, e = .returned (.tuple #[v0_, .bool r2]) ∧ Kd.R k54 54 w' w0.heap.size (fun k_ => (P1_ k_ ∨ w.heap.size ≤ k_)) v0_ r1 ∧ Below w0.heap.size w0 w' ∧ Kept w w' (fun k_ => P1_ k_) := by
 induction k using Nat.strongRecOn with
 | _ k ih =>
 intro A0 c0 l0 P1_ u9000_ l1 a2 r1 r2 w0 w hB hr0 hc0 ho1 h
 cases k with
 | zero => exact absurd h (by simp [impl_chi_place.f])
 | succ k =>
 simp only [impl_chi_place.f] at h
 have hu54 := Try.underlying54
 have hu81 := Try.underlying81
 have HR0 := am_ hr0
 have HC0 := am_ hc0
 clear hr0 hc0
 have HO1 := am_ (show Kd.R k54 54 w w0.heap.size (fun k_ => (P1_ k_ ∨ w.heap.size ≤ k_)) u9000_ l1 from Kd.R_mono ho1 (fun k_ hk => (.inl hk)))
 have HK := am_ (Kept.refl w (fun k_ => P1_ k_))
 have HW0 := am_ hB.size
 have HB := am_ hB
 clear hB
 have H : (if 344 ≤ (l0.length : Int) then (if (l1.length : Int) = (chiN l0) then (some (l1, true)) else (impl_chi_place.l0 k l0 l1 a2 (l1.length : Int) 0)) else (none)) = some (r1, r2) := h
 clear h
 by_cases c4 : 344 ≤ (l0.length : Int)
 ·rw [if_pos c4] at H
  have c4b0 := eq_true c4
  have c4b1 : decide (344 ≤ (l0.length : Int)) = true := decide_eq_true c4
  clear c4
  by_cases c5 : (l1.length : Int) = (chiN l0)
  ·rw [if_pos c5] at H
   have c5b0 : ((l1.length : Int) == (chiN l0)) = true := beq_iff_eq.mpr c5
   have c5b1 : ((l1.length : Int) != (chiN l0)) = false := bne_eq_false_iff_eq.mpr c5
   clear c5
   simp only [Option.some.injEq, Prod.mk.injEq] at H
   obtain ⟨rfl, rfl⟩ := H
   obtain ⟨Ao6, co6, eo6⟩ := Kd.R_slice HO1.out
   subst eo6
   have q295 : 344 ≤ (l0.length : Int) := of_decide_eq_true (by first | (with_reducible assumption) | assumption)
   obtain ⟨ad295, e295, hx295_0⟩ := chi_n (HR0.out _ (Kept.refl w _)) q295
   cases e295
   go_enter Try.func34, Try.ntmps34
   go_wp2
   go_ret2
   exact ⟨_, by first | rfl | (simp [errW_none, errW_some] <;> rfl) | (simp [*, errW_none, errW_some] <;> rfl), rx_ HO1.out, bx0 HB.out, by repeat (first | (with_reducible first | exact HK.out | apply Kept.alloc | apply Kept.drewN | apply Kept.drew) | exact HK.out)⟩
  ·rw [if_neg c5] at H
   have c5b0 : ((l1.length : Int) == (chiN l0)) = false := beq_eq_false_iff_ne.mpr c5
   have c5b1 : ((l1.length : Int) != (chiN l0)) = true := bne_iff_ne.mpr c5
   have H' := am_ H
   clear H
   obtain ⟨Ao7, co7, eo7⟩ := Kd.R_slice HO1.out
   subst eo7
   have q295 : 344 ≤ (l0.length : Int) := of_decide_eq_true (by first | (with_reducible assumption) | assumption)
   obtain ⟨ad295, e295, hx295_0⟩ := chi_n (HR0.out _ (Kept.refl w _)) q295
   cases e295
   go_enter Try.func34, Try.ntmps34
   go_wp2
   go_loopg [9] k (fun kq v9 w' => ∃ (x9_1 : Int), v9 = .int .i64 x9_1 ∧ Aside0 (impl_chi_place.l0 kq l0 l1 a2 (l1.length : Int) x9_1 = some (r1, r2)) ∧ Aside0 (kq ≤ k) ∧ Aside0 (Kd.R k54 54 w' w0.heap.size (fun k_ => (P1_ k_ ∨ w.heap.size ≤ k_)) (.slice Ao7 l1.length co7) l1) ∧ Aside0 (Kept w w' (fun k_ => P1_ k_)) ∧ Aside0 (Below w0.heap.size w0 w'))
   case atStart => exact ⟨(0), (by first | rfl | (simp; done) | (simp [*]; done)), H', ⟨Nat.le_refl _⟩, ⟨rx_ HO1.out⟩, ⟨by repeat (first | (with_reducible first | exact HK.out | apply Kept.alloc | apply Kept.drewN | apply Kept.drew) | exact HK.out)⟩, ⟨bx0 HB.out⟩⟩
   case round =>
    clear H'
    try clear p2
    try clear q2
    try clear hx2
    try clear c3
    try clear c4
    try clear c4b0
    try clear c4b1
    try clear c5
    try clear c5b0
    try clear c5b1
    try clear hx295_0
    try clear q295
    obtain ⟨x9_1, rfl, HA, HK1, HO_1, HK, HB⟩ := hrel
    cases gk with
    | zero => exact absurd HA.out (by simp [impl_chi_place.l0])
    | succ k1 =>
     have H := HA.out
     clear HA
     simp only [impl_chi_place.l0] at H
     by_cases c8 : x9_1 < (wrap64 ((wrap64 (a2 + 1)) * (wrap64 (a2 + 1))))
     ·rw [if_pos c8] at H
      have c8b0 : decide (x9_1 < (wrap64 ((wrap64 (a2 + 1)) * (wrap64 (a2 + 1))))) = true := decide_eq_true c8
      clear c8
      by_cases c9 : (wrap64 (a2 + 1)) = 0
      ·rw [if_pos c9] at H
       exact absurd H (by simp)
      ·rw [if_neg c9] at H
       have c9b0 : ((wrap64 (a2 + 1)) == 0) = false := beq_eq_false_iff_ne.mpr c9
       have c9b1 : ((wrap64 (a2 + 1)) != 0) = true := bne_iff_ne.mpr c9
       replace H := Option.bind_eq_some_iff.mp H
       obtain ⟨t297, A100, H⟩ := H
       replace H : (impl_chi_place.l1 k1 l0 l1 a2 (l1.length : Int) x9_1 true t297 (t297.length : Int) 0 (wrap64 (Int.tdiv x9_1 (wrap64 (a2 + 1)))) (Int.tmod x9_1 (wrap64 (a2 + 1)))) = some (r1, r2) := H
       have A10 := am_ A100
       clear A100
       have H' := am_ H
       clear H
       try go_wp2
       have n0_ := am_ (Kd.R_drew HO_1.out)
       have n1_ := am_ (Kept.drew HK.out)
       have n2_ := am_ (below_drew1 HB.out)
       clear HO_1
       clear HK
       clear HB
       have HO_1 := n0_
       have HK := n1_
       have HB := n2_
       clear n0_ n1_ n2_
       refine start_ (n := 11) (S := fun w' => True) (ds := []) #[false, false, false, false, false, false, false, false, false, false, false] (by kernel_rfl) rfl rfl trivial (fun hHeld => ?_); refine with_tabW impl_chi_place.tab7 impl_chi_place.bits7 (fun HT_ HW_ => ?_)
       generalize wr.drew = w11 at HO_1 HK HB hHeld ⊢
       refine pure_ (i := 0) (N := some 34) (v := ?_) (a' := ?_) #[true, false, false, false, false, false, false, false, false, false, false] rfl rfl (any_of HT_.out (by kernel_rfl)) (fun _ _ _ h => h) (Or.inl ⟨by rfl, ?_⟩) ?_ ?_
       rotate_left
       ·intro w'
        go_simp
        with_reducible rfl
       rotate_left
       ·simp only [Act.put, sA_, sZ_, sS_, i64_w, i32_w]
        rfl
       refine pure_ (i := 1) (N := some 35) (v := ?_) (a' := ?_) #[true, true, false, false, false, false, false, false, false, false, false] rfl rfl (any_of HT_.out (by kernel_rfl)) (fun _ _ _ h => h) (Or.inl ⟨by rfl, ?_⟩) ?_ ?_
       rotate_left
       ·intro w'
        go_simp
        with_reducible rfl
       rotate_left
       ·simp only [Act.put, sA_, sZ_, sS_, i64_w, i32_w]
        rfl
       refine pure_ (i := 2) (N := some 36) (v := ?_) (a' := ?_) #[true, true, true, false, false, false, false, false, false, false, false] rfl rfl (any_of HT_.out (by kernel_rfl)) (fun _ _ _ h => h) (Or.inl ⟨by rfl, ?_⟩) ?_ ?_
       rotate_left
       ·intro w'
        go_simp
        with_reducible rfl
       rotate_left
       ·simp only [Act.put, sA_, sZ_, sS_, i64_w, i32_w]
        rfl
       refine pure_ (i := 3) (N := some 37) (v := ?_) (a' := ?_) #[true, true, true, true, false, false, false, false, false, false, false] rfl rfl (any_of HT_.out (by kernel_rfl)) (fun _ _ _ h => h) (Or.inl ⟨by rfl, ?_⟩) ?_ ?_
       rotate_left
       ·intro w'
        go_simp
        with_reducible rfl
       rotate_left
       ·simp only [Act.put, sA_, sZ_, sS_, i64_w, i32_w]
        rfl
       refine pure_ (i := 4) (N := some 38) (v := ?_) (a' := ?_) #[true, true, true, true, true, false, false, false, false, false, false] rfl rfl (any_of HT_.out (by kernel_rfl)) (fun _ _ _ h => h) (Or.inl ⟨by rfl, ?_⟩) ?_ ?_
       rotate_left
       ·intro w'
        go_simp
        with_reducible rfl
       rotate_left
       ·simp only [Act.put, sA_, sZ_, sS_, i64_w, i32_w]
        rfl
       refine pure_ (i := 5) (N := some 39) (v := ?_) (a' := ?_) #[true, true, true, true, true, true, false, false, false, false, false] rfl rfl (any_of HT_.out (by kernel_rfl)) (fun _ _ _ h => h) (Or.inl ⟨by rfl, ?_⟩) ?_ ?_
       rotate_left
       ·intro w'
        go_simp
        with_reducible rfl
       rotate_left
       ·simp only [Act.put, sA_, sZ_, sS_, i64_w, i32_w]
        rfl
       refine pure_ (i := 6) (N := some 40) (v := ?_) (a' := ?_) #[true, true, true, true, true, true, true, false, false, false, false] rfl rfl (any_of HT_.out (by kernel_rfl)) (fun _ _ _ h => h) (Or.inl ⟨by rfl, ?_⟩) ?_ ?_
       rotate_left
       ·intro w'
        go_simp
        with_reducible rfl
       rotate_left
       ·simp only [Act.put, sA_, sZ_, sS_, i64_w, i32_w]
        rfl
       refine pure_ (i := 7) (N := some 41) (v := ?_) (a' := ?_) #[true, true, true, true, true, true, true, true, false, false, false] rfl rfl (any_of HT_.out (by kernel_rfl)) (fun _ _ _ h => h) (Or.inl ⟨by rfl, ?_⟩) ?_ ?_
       rotate_left
       ·intro w'
        go_simp
        with_reducible rfl
       rotate_left
       ·simp only [Act.put, sA_, sZ_, sS_, i64_w, i32_w]
        rfl
       refine pure_ (i := 8) (N := some 42) (v := ?_) (a' := ?_) #[true, true, true, true, true, true, true, true, true, false, false] rfl rfl (any_of HT_.out (by kernel_rfl)) (fun _ _ _ h => h) (Or.inl ⟨by rfl, ?_⟩) ?_ ?_
       rotate_left
       ·intro w'
        go_simp
        with_reducible rfl
       rotate_left
       ·simp only [Act.put, sA_, sZ_, sS_, i64_w, i32_w]
        rfl
       refine one_ (i := 9) (N := some 10) #[true, true, true, true, true, true, true, true, true, true, false] rfl rfl (one_of HT_.out (by kernel_rfl)) (by decide) (fun K hK => ?_)
       refine box_step ?hg (N := 10) ?hd (cs := #[.int .i64 0, .int .i64 0]) (t := 54) ?hr ?_; (case hd => rfl); (case hg => rfl); (case hr => first | (go_simp; done) | (go_simp; rfl))
       intro gb296 hg w12 hbox hb
       have n0_ := am_ (Kd.R_below (Kd.R_elderB (rx_ HO_1.out) gb296 (Nat.le_of_eq hg.symm)) hb)
       have n1_ := am_ (Kept.below (S := (fun k_ => P1_ k_)) (by repeat (first | (with_reducible first | exact HK.out | apply Kept.alloc | apply Kept.drewN | apply Kept.drew) | exact HK.out)) hb)
       have n2_ := am_ (below_step (bx0 HB.out) hb)
       have n3_ := am_ (hbox)
       have n4_ := am_ ((by rw [hg]; exact (by first | exact HK.out.1 | exact (show Kept w _ (fun k_ => P1_ k_) from by repeat (first | (with_reducible first | exact HK.out | apply Kept.alloc | apply Kept.drewN | apply Kept.drew) | exact HK.out)).1) : w.heap.size ≤ gb296))
       have n5_ := am_ ((by rw [hg]; exact (below_size (bx0 HB.out)) : w0.heap.size ≤ gb296))
       clear HO_1
       clear HK
       clear HB
       have HO_1 := n0_
       have HK := n1_
       have HB := n2_
       have BK296 := n3_
       have GW296 := n4_
       have GE296 := n5_
       clear n0_ n1_ n2_ n3_ n4_ n5_
       clear hb hbox hg
       refine hK.out _ _ trivial (fun hHeld => ?_)
       clear hK K
       refine norm_ (a' := ?_) ?_ ?_
       rotate_left
       ·show Act.put _ (some 10) _ = _
        simp only [Act.put, sA_, sZ_, sS_, i64_w, i32_w]
        rfl
       refine one_ (i := 10) (N := none) #[true, true, true, true, true, true, true, true, true, true, true] rfl rfl (one_of HT_.out (by kernel_rfl)) (by decide) (fun K hK => ?_)
       have hs13 : w12.cell? ⟨gb296, 0, none⟩ = some (.int .i64 0) := (blk_cell BK296.out 0).trans rfl
       have hfs13 := blk_frozen BK296.out 0
       have hs14 : w12.cell? ⟨gb296, 1, none⟩ = some (.int .i64 0) := (blk_cell BK296.out 1).trans rfl
       have hfs14 := blk_frozen BK296.out 1
       refine skip_ (w1 := ?_) (by rfl) rfl ?_ ?_
       rotate_left
       ·go_simp
        rfl
       refine hK.out _ _ trivial (fun hHeld => ?_)
       clear hK K
       refine done_ (done_of HT_.out (by kernel_rfl)) ?_
       try go_wp2_with (first | ((with_reducible refine gate_callee (f := 54) rfl ?_); refine goesL_ (some 44) rfl rfl Try.func54 (by kernel_rfl) rfl #[.int .i64 (l1.length : Int)] rfl (by (try simp only [List.map_toArray, List.map_cons, List.map_nil]); first | done | rfl | (simp only [List.length_drop, List.length_take]; rfl)) ?_; (with_reducible refine (impl_edgesOf.calls k1 (l1.length : Int) t297 _ A10.out).mono ?_); rintro e w15 ⟨v298, rfl, ho0, hb⟩; refine ⟨_, rfl, ?_⟩; have n0_ := am_ (Kd.R_below (by (with_reducible repeat (first | apply Kd.R_alloc | apply Kd.R_drewN | apply Kd.R_drew)); exact (Kd.R_mono (Kd.R_far (p := ⟨gb296, 1, none⟩) (Kd.R_far (p := ⟨gb296, 0, none⟩) (Kd.R_mono HO_1.out (fun k_ hk => (⟨hk, hk.2⟩ : _ ∧ k_ ≠ gb296))) (fun _ hk => hk.2) (.int .i64 (wrap64 (Int.tdiv x9_1 (wrap64 (a2 + 1)))))) (fun _ hk => hk.2) (.int .i64 (Int.tmod x9_1 (wrap64 (a2 + 1))))) (fun _ h_ => h_.1))) hb); have n1_ := am_ (Kd.R_lower (Kd.R_newM (M := fun k_ => (P1_ k_ ∨ w.heap.size ≤ k_)) ho0 (show Kept w _ (fun k_ => P1_ k_) from by repeat (first | (with_reducible first | exact HK.out | apply Kept.alloc | apply Kept.drewN | apply Kept.drew | refine Kept.setCell ?_ (.inr GW296.out) _) | exact HK.out)).1 (fun k_ h_ => .inr h_)) (below_size (bx1 HB.out GE296.out))); have n2_ := am_ (blk_below (g := gb296) (o := .cells #[.int .i64 (wrap64 (Int.tdiv x9_1 (wrap64 (a2 + 1)))), .int .i64 (Int.tmod x9_1 (wrap64 (a2 + 1)))] 54 (0, 0)) (by (with_reducible repeat (first | refine blk_drewN ?_ _ | refine blk_drew ?_ | refine blk_alloc ?_ _)); refine blk_put (cs := #[.int .i64 (wrap64 (Int.tdiv x9_1 (wrap64 (a2 + 1)))), .int .i64 0]) ?_ 1 _ rfl; (with_reducible repeat (first | refine blk_drewN ?_ _ | refine blk_drew ?_ | refine blk_alloc ?_ _)); refine blk_put (cs := #[.int .i64 0, .int .i64 0]) ?_ 0 _ rfl; (with_reducible repeat (first | refine blk_drewN ?_ _ | refine blk_drew ?_ | refine blk_alloc ?_ _)); exact BK296.out) hb); have n3_ := am_ (Kept.below (S := (fun k_ => P1_ k_)) (by repeat (first | (with_reducible first | exact HK.out | apply Kept.alloc | apply Kept.drewN | apply Kept.drew | refine Kept.setCell ?_ (.inr GW296.out) _) | exact HK.out)) hb); have n4_ := am_ (below_step (bx1 HB.out GE296.out) hb); clear HO_1; clear BK296; clear HK; clear HB; have HO_1 := n0_; have HO299 := n1_; have BK296 := n2_; have HK := n3_; have HB := n4_; clear n0_ n1_ n2_ n3_ n4_; (try clear hb); (try clear hb2); (try clear hk); (try clear hi); (try clear ho0); obtain ⟨Ao16, co16, eo16⟩ := Kd.R_slice HO299.out; subst eo16))
       go_loopg [11, 46] k1 (fun kq v11 v46 w' => ∃ (x11_2 : Bool) (x46_2 : Int), v11 = .bool x11_2 ∧ v46 = .int .i64 x46_2 ∧ Aside0 (impl_chi_place.l1 kq l0 l1 a2 (l1.length : Int) x9_1 x11_2 t297 (t297.length : Int) x46_2 (wrap64 (Int.tdiv x9_1 (wrap64 (a2 + 1)))) (Int.tmod x9_1 (wrap64 (a2 + 1))) = some (r1, r2)) ∧ Aside0 (kq ≤ k1) ∧ Aside0 (Kd.R k54 54 w' w0.heap.size (fun k_ => (P1_ k_ ∨ w.heap.size ≤ k_) ∧ k_ ≠ gb296) (.slice Ao7 l1.length co7) l1) ∧ Aside0 (Kd.R k81 81 w' w0.heap.size (fun k_ => (P1_ k_ ∨ w.heap.size ≤ k_)) (.slice Ao16 t297.length co16) t297) ∧ Aside0 (w'.heap[gb296]? = some (.cells #[.int .i64 (wrap64 (Int.tdiv x9_1 (wrap64 (a2 + 1)))), .int .i64 (Int.tmod x9_1 (wrap64 (a2 + 1)))] 54 (0, 0))) ∧ Aside0 (Kept w w' (fun k_ => P1_ k_)) ∧ Aside0 (Below w0.heap.size w0 w'))
       case atStart => exact ⟨(true), (0), (by first | rfl | (simp; done) | (simp [*]; done)), (by first | rfl | (simp; done) | (simp [*]; done)), H', ⟨Nat.le_refl _⟩, ⟨rx_ HO_1.out⟩, ⟨by (with_reducible repeat (first | apply Kd.R_alloc | apply Kd.R_drewN | apply Kd.R_drew)); exact Kd.R_mono HO299.out (fun _ hk => hk.1)⟩, ⟨kx_ BK296.out⟩, ⟨by repeat (first | (with_reducible first | exact HK.out | apply Kept.alloc | apply Kept.drewN | apply Kept.drew | refine Kept.setCell ?_ (.inr GW296.out) _) | exact HK.out)⟩, ⟨bx1 HB.out GE296.out⟩⟩
       case round =>
        clear H'
        try clear p2
        try clear q2
        try clear hx2
        try clear c3
        try clear c4
        try clear c4b0
        try clear c4b1
        try clear c5
        try clear c5b0
        try clear c5b1
        try clear p6
        try clear c8
        try clear c8b0
        try clear c9
        try clear c9b0
        try clear c9b1
        try clear hx295_0
        try clear p2
        try clear q2
        try clear q295
        obtain ⟨x11_2, x46_2, rfl, rfl, HA, HK2, HO_1, HO_44, BK296, HK, HB⟩ := hrel
        cases gk with
        | zero => exact absurd HA.out (by simp [impl_chi_place.l1])
        | succ k2 =>
         have H := HA.out
         clear HA
         simp only [impl_chi_place.l1] at H
         by_cases c17 : x46_2 < (t297.length : Int)
         ·rw [if_pos c17] at H
          have c17b0 : decide (x46_2 < (t297.length : Int)) = true := decide_eq_true c17
          clear c17
          by_cases c18 : 0 ≤ x46_2
          ·rw [if_pos c18] at H
           have c18b0 : decide (0 ≤ x46_2) = true := decide_eq_true c18
           clear c18
           by_cases c19 : x46_2 < (t297.length : Int)
           ·rw [if_pos c19] at H
            have c19b0 : decide (x46_2 < (t297.length : Int)) = true := decide_eq_true c19
            clear c19
            by_cases c20 : x11_2 = true
            ·subst c20
             have H1 : (if 0 ≤ ((rd_T81 t297 x46_2).f0) then (if ((rd_T81 t297 x46_2).f0) < (l1.length : Int) then (if 0 ≤ ((rd_T81 t297 x46_2).f1) then (if ((rd_T81 t297 x46_2).f1) < (l1.length : Int) then ((impl_TurnOf.f k2 ((rd_T54 l1 ((rd_T81 t297 x46_2).f0)).f0) ((rd_T54 l1 ((rd_T81 t297 x46_2).f0)).f1) ((rd_T54 l1 ((rd_T81 t297 x46_2).f1)).f0) ((rd_T54 l1 ((rd_T81 t297 x46_2).f1)).f1) (wrap64 (Int.tdiv x9_1 (wrap64 (a2 + 1)))) (Int.tmod x9_1 (wrap64 (a2 + 1)))).bind fun t304 => (if 344 ≤ (l0.length : Int) then (if ((rd_T81 t297 x46_2).f0) < 7 then (if ((rd_T81 t297 x46_2).f1) < 7 then (if 0 ≤ (l1.length : Int) then (if (l1.length : Int) < 7 then (impl_chi_place.l1 k2 l0 l1 a2 (l1.length : Int) x9_1 (t304 == (chiA l0 ((rd_T81 t297 x46_2).f0) ((rd_T81 t297 x46_2).f1) (l1.length : Int))) t297 (t297.length : Int) (wrap64 (x46_2 + 1)) (wrap64 (Int.tdiv x9_1 (wrap64 (a2 + 1)))) (Int.tmod x9_1 (wrap64 (a2 + 1)))) else (none)) else (none)) else (none)) else (none)) else (none))) else (none)) else (none)) else (none)) else (none)) = some (r1, r2) := by rw [if_pos rfl] at H; exact H
             clear H
             have H := H1
             clear H1
             by_cases c21 : 0 ≤ ((rd_T81 t297 x46_2).f0)
             ·rw [if_pos c21] at H
              have c21b0 : decide (0 ≤ ((rd_T81 t297 x46_2).f0)) = true := decide_eq_true c21
              clear c21
              by_cases c22 : ((rd_T81 t297 x46_2).f0) < (l1.length : Int)
              ·rw [if_pos c22] at H
               have c22b0 : decide (((rd_T81 t297 x46_2).f0) < (l1.length : Int)) = true := decide_eq_true c22
               clear c22
               by_cases c23 : 0 ≤ ((rd_T81 t297 x46_2).f1)
               ·rw [if_pos c23] at H
                have c23b0 : decide (0 ≤ ((rd_T81 t297 x46_2).f1)) = true := decide_eq_true c23
                clear c23
                by_cases c24 : ((rd_T81 t297 x46_2).f1) < (l1.length : Int)
                ·rw [if_pos c24] at H
                 have c24b0 : decide (((rd_T81 t297 x46_2).f1) < (l1.length : Int)) = true := decide_eq_true c24
                 clear c24
                 replace H := Option.bind_eq_some_iff.mp H
                 obtain ⟨t304, A250, H⟩ := H
                 replace H : (if 344 ≤ (l0.length : Int) then (if ((rd_T81 t297 x46_2).f0) < 7 then (if ((rd_T81 t297 x46_2).f1) < 7 then (if 0 ≤ (l1.length : Int) then (if (l1.length : Int) < 7 then (impl_chi_place.l1 k2 l0 l1 a2 (l1.length : Int) x9_1 (t304 == (chiA l0 ((rd_T81 t297 x46_2).f0) ((rd_T81 t297 x46_2).f1) (l1.length : Int))) t297 (t297.length : Int) (wrap64 (x46_2 + 1)) (wrap64 (Int.tdiv x9_1 (wrap64 (a2 + 1)))) (Int.tmod x9_1 (wrap64 (a2 + 1)))) else (none)) else (none)) else (none)) else (none)) else (none)) = some (r1, r2) := H
                 have A25 := am_ A250
                 clear A250
                 by_cases c26 : 344 ≤ (l0.length : Int)
                 ·rw [if_pos c26] at H
                  have c26b0 := eq_true c26
                  have c26b1 : decide (344 ≤ (l0.length : Int)) = true := decide_eq_true c26
                  clear c26
                  by_cases c27 : ((rd_T81 t297 x46_2).f0) < 7
                  ·rw [if_pos c27] at H
                   have c27b0 : decide (((rd_T81 t297 x46_2).f0) < 7) = true := decide_eq_true c27
                   clear c27
                   by_cases c28 : ((rd_T81 t297 x46_2).f1) < 7
                   ·rw [if_pos c28] at H
                    have c28b0 : decide (((rd_T81 t297 x46_2).f1) < 7) = true := decide_eq_true c28
                    clear c28
                    by_cases c29 : 0 ≤ (l1.length : Int)
                    ·rw [if_pos c29] at H
                     have c29b0 : decide (0 ≤ (l1.length : Int)) = true := decide_eq_true c29
                     have c29b1 : decide (0 ≤ l1.length) = true := decide_eq_true (by omega)
                     clear c29
                     by_cases c30 : (l1.length : Int) < 7
                     ·rw [if_pos c30] at H
                      have c30b0 : decide ((l1.length : Int) < 7) = true := decide_eq_true c30
                      have c30b1 : decide (l1.length < 7) = true := decide_eq_true (by omega)
                      clear c30
                      have H' := am_ H
                      clear H
                      have p300 : 0 ≤ (x46_2 : Int) := of_decide_eq_true (by first | (with_reducible assumption) | assumption)
                      have q300 : x46_2 < (t297.length : Int) := of_decide_eq_true (by first | (with_reducible assumption) | assumption)
                      obtain ⟨ad300, e300, hx300_0, hx300_1⟩ := at_T81 (Kd.R_reads' HO_44.out).2.2 x46_2 p300 q300
                      cases e300
                      replace p300 := eq_true p300
                      replace q300 := eq_true q300
                      try go_wp2_with (first | ((with_reducible refine gate_dst (N := 13) rfl ?_); refine box_event ?hg (N := 13) ?hd (cs := #[.int .i64 0, .int .i64 0]) (t := 81) ?hr ?_; (case hd => rfl); (case hg => rfl); (case hr => first | (go_simp; done) | (go_simp; rfl)); intro gb301 hg w31 hbox hb; have n0_ := am_ (Kd.R_below (rx_ HO_1.out) hb); have n1_ := am_ (Kd.R_below (Kd.R_elderB (rx_ HO_44.out) gb301 (Nat.le_of_eq hg.symm)) hb); have n2_ := am_ (blk_below (g := gb296) (o := .cells #[.int .i64 (wrap64 (Int.tdiv x9_1 (wrap64 (a2 + 1)))), .int .i64 (Int.tmod x9_1 (wrap64 (a2 + 1)))] 54 (0, 0)) (kx_ BK296.out) hb); have n3_ := am_ (Kept.below (S := (fun k_ => P1_ k_)) (by repeat (first | (with_reducible first | exact HK.out | apply Kept.alloc | apply Kept.drewN | apply Kept.drew | refine Kept.setCell ?_ (.inr GW296.out) _) | exact HK.out)) hb); have n4_ := am_ (below_step (bx1 HB.out GE296.out) hb); have n5_ := am_ (hbox); have n6_ := am_ ((by rw [hg]; exact (by first | exact HK.out.1 | exact (show Kept w _ (fun k_ => P1_ k_) from by repeat (first | (with_reducible first | exact HK.out | apply Kept.alloc | apply Kept.drewN | apply Kept.drew | refine Kept.setCell ?_ (.inr GW296.out) _) | exact HK.out)).1) : w.heap.size ≤ gb301)); have n7_ := am_ ((by rw [hg]; exact (below_size (bx1 HB.out GE296.out)) : w0.heap.size ≤ gb301)); have n8_ := am_ ((by rw [hg]; exact Nat.ne_of_lt (blk_lt (g := gb296) (o := .cells #[.int .i64 (wrap64 (Int.tdiv x9_1 (wrap64 (a2 + 1)))), .int .i64 (Int.tmod x9_1 (wrap64 (a2 + 1)))] 54 (0, 0)) (kx_ BK296.out)) : gb296 ≠ gb301)); have n9_ := am_ ((by rw [hg]; exact Nat.ne_of_gt (blk_lt (g := gb296) (o := .cells #[.int .i64 (wrap64 (Int.tdiv x9_1 (wrap64 (a2 + 1)))), .int .i64 (Int.tmod x9_1 (wrap64 (a2 + 1)))] 54 (0, 0)) (kx_ BK296.out)) : gb301 ≠ gb296)); clear HO_1; clear HO_44; clear BK296; clear HK; clear HB; have HO_1 := n0_; have HO_44 := n1_; have BK296 := n2_; have HK := n3_; have HB := n4_; have BK301 := n5_; have GW301 := n6_; have GE301 := n7_; have NB296_301 := n8_; have NB301_296 := n9_; clear n0_ n1_ n2_ n3_ n4_ n5_ n6_ n7_ n8_ n9_; clear hb hbox hg; have hnb32 := NB301_296.out; have hnc32 := NB296_301.out; have hcz33_0 : w31.cell? ⟨gb301, 0, none⟩ = some (.int .i64 0) := (blk_cell BK301.out 0).trans rfl; have hcz33_1 : w31.cell? ⟨gb301, 1, none⟩ = some (.int .i64 0) := (blk_cell BK301.out 1).trans rfl; have hfz33_0 := blk_frozen BK301.out 0; have hfz33_1 := blk_frozen BK301.out 1))
                      have n0_ : Aside0 (Kd.R k54 54 ((w31.setCell ⟨gb301, 0, none⟩ (.int .i64 ((rd_T81 t297 x46_2).f0))).setCell ⟨gb301, 1, none⟩ (.int .i64 ((rd_T81 t297 x46_2).f1))) w0.heap.size (fun k_ => (P1_ k_ ∨ w.heap.size ≤ k_) ∧ k_ ≠ gb296) (.slice Ao7 l1.length co7) l1) := ⟨by (with_reducible repeat (first | apply Kd.R_alloc | apply Kd.R_drewN | apply Kd.R_drew)); exact Kd.R_mono (Kd.R_far (p := ⟨gb301, 1, none⟩) (Kd.R_far (p := ⟨gb301, 0, none⟩) (Kd.R_types HO_1.out BK301.out (by decide)) (fun _ hk => hk.2) (.int .i64 ((rd_T81 t297 x46_2).f0))) (fun _ hk => hk.2) (.int .i64 ((rd_T81 t297 x46_2).f1))) (fun _ hk => ⟨hk.1.1, hk.1.2⟩)⟩
                      have n1_ : Aside0 (Kd.R k81 81 ((w31.setCell ⟨gb301, 0, none⟩ (.int .i64 ((rd_T81 t297 x46_2).f0))).setCell ⟨gb301, 1, none⟩ (.int .i64 ((rd_T81 t297 x46_2).f1))) w0.heap.size (fun k_ => (P1_ k_ ∨ w.heap.size ≤ k_) ∧ k_ ≠ gb301) (.slice (some ad300) t297.length co16) t297) := ⟨by (with_reducible repeat (first | apply Kd.R_alloc | apply Kd.R_drewN | apply Kd.R_drew)); exact Kd.R_mono (Kd.R_far (p := ⟨gb301, 1, none⟩) (Kd.R_far (p := ⟨gb301, 0, none⟩) (Kd.R_mono HO_44.out (fun k_ hk => (⟨hk, hk.2⟩ : _ ∧ k_ ≠ gb301))) (fun _ hk => hk.2) (.int .i64 ((rd_T81 t297 x46_2).f0))) (fun _ hk => hk.2) (.int .i64 ((rd_T81 t297 x46_2).f1))) (fun _ hk => ⟨hk.1.1, hk.1.2⟩)⟩
                      have n2_ : Aside0 (((w31.setCell ⟨gb301, 0, none⟩ (.int .i64 ((rd_T81 t297 x46_2).f0))).setCell ⟨gb301, 1, none⟩ (.int .i64 ((rd_T81 t297 x46_2).f1))).heap[gb296]? = some (.cells #[.int .i64 (wrap64 (Int.tdiv x9_1 (wrap64 (a2 + 1)))), .int .i64 (Int.tmod x9_1 (wrap64 (a2 + 1)))] 54 (0, 0))) := ⟨by (with_reducible repeat (first | refine blk_drewN ?_ _ | refine blk_drew ?_ | refine blk_alloc ?_ _)); refine blk_far ?_ NB296_301.out _; (with_reducible repeat (first | refine blk_drewN ?_ _ | refine blk_drew ?_ | refine blk_alloc ?_ _)); refine blk_far ?_ NB296_301.out _; (with_reducible repeat (first | refine blk_drewN ?_ _ | refine blk_drew ?_ | refine blk_alloc ?_ _)); exact BK296.out⟩
                      have n3_ : Aside0 (((w31.setCell ⟨gb301, 0, none⟩ (.int .i64 ((rd_T81 t297 x46_2).f0))).setCell ⟨gb301, 1, none⟩ (.int .i64 ((rd_T81 t297 x46_2).f1))).heap[gb301]? = some (.cells #[.int .i64 ((rd_T81 t297 x46_2).f0), .int .i64 ((rd_T81 t297 x46_2).f1)] 81 (0, 0))) := ⟨by (with_reducible repeat (first | refine blk_drewN ?_ _ | refine blk_drew ?_ | refine blk_alloc ?_ _)); refine blk_put (cs := #[.int .i64 ((rd_T81 t297 x46_2).f0), .int .i64 0]) ?_ 1 _ rfl; (with_reducible repeat (first | refine blk_drewN ?_ _ | refine blk_drew ?_ | refine blk_alloc ?_ _)); refine blk_put (cs := #[.int .i64 0, .int .i64 0]) ?_ 0 _ rfl; (with_reducible repeat (first | refine blk_drewN ?_ _ | refine blk_drew ?_ | refine blk_alloc ?_ _)); exact BK301.out⟩
                      have n4_ : Aside0 (Kept w ((w31.setCell ⟨gb301, 0, none⟩ (.int .i64 ((rd_T81 t297 x46_2).f0))).setCell ⟨gb301, 1, none⟩ (.int .i64 ((rd_T81 t297 x46_2).f1))) (fun k_ => P1_ k_)) := ⟨by repeat (first | (with_reducible first | exact HK.out | apply Kept.alloc | apply Kept.drewN | apply Kept.drew | refine Kept.setCell ?_ (.inr GW296.out) _ | refine Kept.setCell ?_ (.inr GW301.out) _) | exact HK.out)⟩
                      have n5_ : Aside0 (Below w0.heap.size w0 ((w31.setCell ⟨gb301, 0, none⟩ (.int .i64 ((rd_T81 t297 x46_2).f0))).setCell ⟨gb301, 1, none⟩ (.int .i64 ((rd_T81 t297 x46_2).f1)))) := ⟨bx2 HB.out GE296.out GE301.out⟩
                      (try clear HO_1)
                      (try clear HO_44)
                      (try clear BK296)
                      (try clear BK301)
                      (try clear HK)
                      (try clear HB)
                      generalize ((w31.setCell ⟨gb301, 0, none⟩ (.int .i64 ((rd_T81 t297 x46_2).f0))).setCell ⟨gb301, 1, none⟩ (.int .i64 ((rd_T81 t297 x46_2).f1))) = w34 at n0_ n1_ n2_ n3_ n4_ n5_ ⊢
                      have HO_1 := n0_
                      have HO_44 := n1_
                      have BK296 := n2_
                      have BK301 := n3_
                      have HK := n4_
                      have HB := n5_
                      clear n0_ n1_ n2_ n3_ n4_ n5_
                      have n0_ := am_ (Kd.R_drew HO_1.out)
                      have n1_ := am_ (Kd.R_drew HO_44.out)
                      have n2_ := am_ (blk_drew BK296.out)
                      have n3_ := am_ (blk_drew BK301.out)
                      have n4_ := am_ (Kept.drew HK.out)
                      have n5_ := am_ (below_drew1 HB.out)
                      clear HO_1
                      clear HO_44
                      clear BK296
                      clear BK301
                      clear HK
                      clear HB
                      have HO_1 := n0_
                      have HO_44 := n1_
                      have BK296 := n2_
                      have BK301 := n3_
                      have HK := n4_
                      have HB := n5_
                      clear n0_ n1_ n2_ n3_ n4_ n5_
                      have p302 : 0 ≤ (((rd_T81 t297 x46_2).f0) : Int) := of_decide_eq_true (by first | (with_reducible assumption) | assumption)
                      have q302 : ((rd_T81 t297 x46_2).f0) < (l1.length : Int) := of_decide_eq_true (by first | (with_reducible assumption) | assumption)
                      obtain ⟨ad302, e302, hx302_0, hx302_1⟩ := at_T54 (Kd.R_reads' HO_1.out).2.2 ((rd_T81 t297 x46_2).f0) p302 q302
                      cases e302
                      replace p302 := eq_true p302
                      replace q302 := eq_true q302
                      have p303 : 0 ≤ (((rd_T81 t297 x46_2).f1) : Int) := of_decide_eq_true (by first | (with_reducible assumption) | assumption)
                      have q303 : ((rd_T81 t297 x46_2).f1) < (l1.length : Int) := of_decide_eq_true (by first | (with_reducible assumption) | assumption)
                      obtain ⟨ad303, e303, hx303_0, hx303_1⟩ := at_T54 (Kd.R_reads' HO_1.out).2.2 ((rd_T81 t297 x46_2).f1) p303 q303
                      obtain rfl : ad302 = ad303 := (by injection e303)
                      replace p303 := eq_true p303
                      replace q303 := eq_true q303
                      have q305 : 344 ≤ (l0.length : Int) := of_decide_eq_true (by first | (with_reducible assumption) | assumption)
                      have p305_0a : 0 ≤ (((rd_T81 t297 x46_2).f0) : Int) := of_decide_eq_true (by first | (with_reducible assumption) | assumption)
                      have p305_0b : (((rd_T81 t297 x46_2).f0) : Int) < 7 := of_decide_eq_true (by first | (with_reducible assumption) | assumption)
                      have p305_1a : 0 ≤ (((rd_T81 t297 x46_2).f1) : Int) := of_decide_eq_true (by first | (with_reducible assumption) | assumption)
                      have p305_1b : (((rd_T81 t297 x46_2).f1) : Int) < 7 := of_decide_eq_true (by first | (with_reducible assumption) | assumption)
                      have p305_2a : 0 ≤ ((l1.length : Int) : Int) := of_decide_eq_true (by first | (with_reducible assumption) | assumption)
                      have p305_2b : ((l1.length : Int) : Int) < 7 := of_decide_eq_true (by first | (with_reducible assumption) | assumption)
                      obtain ⟨ad305, e305, hx305_0⟩ := chi_at (HR0.out _ (Kept.refl w _)) q305 p305_0a p305_0b p305_1a p305_1b p305_2a p305_2b
                      have hw305_0 := hx305_0
                      obtain rfl : ad295 = ad305 := (by injection e305)
                      replace hx305_0 := foot_chi (HR0.out _ HK.out) q305 p305_0a p305_0b p305_1a p305_1b p305_2a p305_2b
                      replace p305_0a := eq_true p305_0a
                      replace p305_0b := eq_true p305_0b
                      replace p305_1a := eq_true p305_1a
                      replace p305_1b := eq_true p305_1b
                      replace p305_2a := eq_true p305_2a
                      replace p305_2b := eq_true p305_2b
                      refine start_ (n := 29) (S := fun w' => w'.cell? ⟨gb301, 0, none⟩ = some (.int .i64 ((rd_T81 t297 x46_2).f0)) ∧ w'.cell? ⟨gb301, 1, none⟩ = some (.int .i64 ((rd_T81 t297 x46_2).f1)) ∧ w'.cell? ⟨gb296, 0, none⟩ = some (.int .i64 (wrap64 (Int.tdiv x9_1 (wrap64 (a2 + 1))))) ∧ w'.cell? ⟨gb296, 1, none⟩ = some (.int .i64 (Int.tmod x9_1 (wrap64 (a2 + 1)))) ∧ w'.cell? (ad302.add ((((rd_T81 t297 x46_2).f0)).toNat * 2)) = some (.int .i64 ((rd_T54 l1 ((rd_T81 t297 x46_2).f0)).f0)) ∧ w'.cell? ⟨(ad302.add ((((rd_T81 t297 x46_2).f0)).toNat * 2)).block, (ad302.add ((((rd_T81 t297 x46_2).f0)).toNat * 2)).off + 1, none⟩ = some (.int .i64 ((rd_T54 l1 ((rd_T81 t297 x46_2).f0)).f1)) ∧ w'.cell? (ad302.add ((((rd_T81 t297 x46_2).f1)).toNat * 2)) = some (.int .i64 ((rd_T54 l1 ((rd_T81 t297 x46_2).f1)).f0)) ∧ w'.cell? ⟨(ad302.add ((((rd_T81 t297 x46_2).f1)).toNat * 2)).block, (ad302.add ((((rd_T81 t297 x46_2).f1)).toNat * 2)).off + 1, none⟩ = some (.int .i64 ((rd_T54 l1 ((rd_T81 t297 x46_2).f1)).f1)) ∧ w'.cell? ⟨ad295.block, ad295.off + 1 + (((rd_T81 t297 x46_2).f0) : Int).toNat * 49 + (((rd_T81 t297 x46_2).f1) : Int).toNat * 7 + l1.length, none⟩ = some (.int .i64 (chiA l0 ((rd_T81 t297 x46_2).f0) ((rd_T81 t297 x46_2).f1) (l1.length : Int)))) (ds := []) #[false, false, false, false, false, false, false, false, false, false, false, false, false, false, false, false, false, false, false, false, false, false, false, false, false, false, false, false, false] (by kernel_rfl) rfl rfl ⟨(blk_cell BK301.out 0).trans rfl, (blk_cell BK301.out 1).trans rfl, (blk_cell BK296.out 0).trans rfl, (blk_cell BK296.out 1).trans rfl, hx302_0, hx302_1, hx303_0, hx303_1, (foot_chi (HR0.out _ (by repeat (first | exact HK.out | apply Kept.alloc | apply Kept.drewN | apply Kept.drew))) q305 (of_eq_true p305_0a) (of_eq_true p305_0b) (of_eq_true p305_1a) (of_eq_true p305_1b) (of_eq_true p305_2a) (of_eq_true p305_2b))⟩ (fun hHeld => ?_); refine with_tabW impl_chi_place.tab12 impl_chi_place.bits12 (fun HT_ HW_ => ?_)
                      generalize w34.drew = w35 at HO_1 HO_44 BK296 BK301 HK HB hx302_0 hx302_1 hx303_0 hx303_1 hx305_0 hHeld ⊢
                      refine pure_ (i := 0) (N := some 50) (v := ?_) (a' := ?_) #[true, false, false, false, false, false, false, false, false, false, false, false, false, false, false, false, false, false, false, false, false, false, false, false, false, false, false, false, false] rfl rfl (any_of HT_.out (by kernel_rfl)) (fun _ _ _ h => h) (Or.inl ⟨by rfl, ?_⟩) ?_ ?_
                      rotate_left
                      ·intro w'
                       go_simp
                       with_reducible rfl
                      rotate_left
                      ·simp only [Act.put, sA_, sZ_, sS_, i64_w, i32_w]
                       rfl
                      refine pure_ (i := 1) (N := some 51) (v := ?_) (a' := ?_) #[true, true, false, false, false, false, false, false, false, false, false, false, false, false, false, false, false, false, false, false, false, false, false, false, false, false, false, false, false] rfl rfl (any_of HT_.out (by kernel_rfl)) (fun _ _ _ h => h) (Or.inl ⟨by rfl, ?_⟩) ?_ ?_
                      rotate_left
                      ·intro w'
                       go_simp
                       with_reducible rfl
                      rotate_left
                      ·simp only [Act.put, sA_, sZ_, sS_, i64_w, i32_w]
                       rfl
                      refine pure_ (i := 2) (N := some 52) (v := ?_) (a' := ?_) #[true, true, true, false, false, false, false, false, false, false, false, false, false, false, false, false, false, false, false, false, false, false, false, false, false, false, false, false, false] rfl rfl (any_of HT_.out (by kernel_rfl)) (fun _ _ _ h => h) (Or.inl ⟨by rfl, ?_⟩) ?_ ?_
                      rotate_left
                      ·intro w'
                       go_simp
                       with_reducible rfl
                      rotate_left
                      ·simp only [Act.put, sA_, sZ_, sS_, i64_w, i32_w]
                       rfl
                      refine pure_ (i := 3) (N := some 53) (v := ?_) (a' := ?_) #[true, true, true, true, false, false, false, false, false, false, false, false, false, false, false, false, false, false, false, false, false, false, false, false, false, false, false, false, false] rfl rfl (any_of HT_.out (by kernel_rfl)) (fun _ _ _ h => h) (Or.inl ⟨by rfl, ?_⟩) ?_ ?_
                      rotate_left
                      ·intro w'
                       go_simp
                       with_reducible rfl
                      rotate_left
                      ·simp only [Act.put, sA_, sZ_, sS_, i64_w, i32_w]
                       rfl
                      refine pure_ (i := 7) (N := some 57) (v := ?_) (a' := ?_) #[true, true, true, true, false, false, false, true, false, false, false, false, false, false, false, false, false, false, false, false, false, false, false, false, false, false, false, false, false] rfl rfl (any_of HT_.out (by kernel_rfl)) (fun _ _ _ h => h) (Or.inl ⟨by rfl, ?_⟩) ?_ ?_
                      rotate_left
                      ·intro w'
                       go_simp
                       with_reducible rfl
                      rotate_left
                      ·simp only [Act.put, sA_, sZ_, sS_, i64_w, i32_w]
                       rfl
                      refine pure_ (i := 8) (N := some 58) (v := ?_) (a' := ?_) #[true, true, true, true, false, false, false, true, true, false, false, false, false, false, false, false, false, false, false, false, false, false, false, false, false, false, false, false, false] rfl rfl (any_of HT_.out (by kernel_rfl)) (fun _ _ _ h => h) (Or.inl ⟨by rfl, ?_⟩) ?_ ?_
                      rotate_left
                      ·intro w'
                       go_simp
                       with_reducible rfl
                      rotate_left
                      ·simp only [Act.put, sA_, sZ_, sS_, i64_w, i32_w]
                       rfl
                      refine pure_ (i := 14) (N := some 64) (v := ?_) (a' := ?_) #[true, true, true, true, false, false, false, true, true, false, false, false, false, false, true, false, false, false, false, false, false, false, false, false, false, false, false, false, false] rfl rfl (any_of HT_.out (by kernel_rfl)) (fun _ _ _ h => h) (Or.inl ⟨by rfl, ?_⟩) ?_ ?_
                      rotate_left
                      ·intro w'
                       go_simp
                       with_reducible rfl
                      rotate_left
                      ·simp only [Act.put, sA_, sZ_, sS_, i64_w, i32_w]
                       rfl
                      refine pure_ (i := 15) (N := some 65) (v := ?_) (a' := ?_) #[true, true, true, true, false, false, false, true, true, false, false, false, false, false, true, true, false, false, false, false, false, false, false, false, false, false, false, false, false] rfl rfl (any_of HT_.out (by kernel_rfl)) (fun _ _ _ h => h) (Or.inl ⟨by rfl, ?_⟩) ?_ ?_
                      rotate_left
                      ·intro w'
                       go_simp
                       with_reducible rfl
                      rotate_left
                      ·simp only [Act.put, sA_, sZ_, sS_, i64_w, i32_w]
                       rfl
                      refine pure_ (i := 17) (N := some 67) (v := ?_) (a' := ?_) #[true, true, true, true, false, false, false, true, true, false, false, false, false, false, true, true, false, true, false, false, false, false, false, false, false, false, false, false, false] rfl rfl (any_of HT_.out (by kernel_rfl)) (fun _ _ _ h => h) (Or.inl ⟨by rfl, ?_⟩) ?_ ?_
                      rotate_left
                      ·intro w'
                       go_simp
                       with_reducible rfl
                      rotate_left
                      ·simp only [Act.put, sA_, sZ_, sS_, i64_w, i32_w]
                       rfl
                      refine pure_ (i := 19) (N := some 69) (v := ?_) (a' := ?_) #[true, true, true, true, false, false, false, true, true, false, false, false, false, false, true, true, false, true, false, true, false, false, false, false, false, false, false, false, false] rfl rfl (any_of HT_.out (by kernel_rfl)) (fun _ _ _ h => h) (Or.inl ⟨by rfl, ?_⟩) ?_ ?_
                      rotate_left
                      ·intro w'
                       go_simp
                       with_reducible rfl
                      rotate_left
                      ·simp only [Act.put, sA_, sZ_, sS_, i64_w, i32_w]
                       rfl
                      refine pure_ (i := 20) (N := some 70) (v := ?_) (a' := ?_) #[true, true, true, true, false, false, false, true, true, false, false, false, false, false, true, true, false, true, false, true, true, false, false, false, false, false, false, false, false] rfl rfl (any_of HT_.out (by kernel_rfl)) (fun _ _ _ h => h) (Or.inl ⟨by rfl, ?_⟩) ?_ ?_
                      rotate_left
                      ·intro w'
                       go_simp
                       with_reducible rfl
                      rotate_left
                      ·simp only [Act.put, sA_, sZ_, sS_, i64_w, i32_w]
                       rfl
                      refine pure_ (i := 21) (N := some 71) (v := ?_) (a' := ?_) #[true, true, true, true, false, false, false, true, true, false, false, false, false, false, true, true, false, true, false, true, true, true, false, false, false, false, false, false, false] rfl rfl (any_of HT_.out (by kernel_rfl)) (fun _ _ _ h => h) (Or.inl ⟨by rfl, ?_⟩) ?_ ?_
                      rotate_left
                      ·intro w'
                       go_simp
                       with_reducible rfl
                      rotate_left
                      ·simp only [Act.put, sA_, sZ_, sS_, i64_w, i32_w]
                       rfl
                      refine take_ (i := 4) (N := some 54) (v := ?_) (a' := ?_) #[true, true, true, true, true, false, false, true, true, false, false, false, false, false, true, true, false, true, false, true, true, true, false, false, false, false, false, false, false] rfl rfl (take_ofW HT_.out HW_.out (by kernel_rfl)) (fun _ _ _ h => h) (Or.inl ⟨by rfl, ?_⟩) hHeld ?_ ?_
                      rotate_left
                      ·rintro w' ⟨s0, s1, s2, s3, s4, s5, s6, s7, s8⟩
                       go_simp
                       with_reducible rfl
                      rotate_left
                      ·simp only [Act.put, sA_, sZ_, sS_, i64_w, i32_w]
                       rfl
                      refine pure_ (i := 5) (N := some 55) (v := ?_) (a' := ?_) #[true, true, true, true, true, true, false, true, true, false, false, false, false, false, true, true, false, true, false, true, true, true, false, false, false, false, false, false, false] rfl rfl (any_of HT_.out (by kernel_rfl)) (fun _ _ _ h => h) (Or.inl ⟨by rfl, ?_⟩) ?_ ?_
                      rotate_left
                      ·intro w'
                       go_simp
                       with_reducible rfl
                      rotate_left
                      ·simp only [Act.put, sA_, sZ_, sS_, i64_w, i32_w]
                       rfl
                      refine take_ (i := 6) (N := some 56) (v := ?_) (a' := ?_) #[true, true, true, true, true, true, true, true, true, false, false, false, false, false, true, true, false, true, false, true, true, true, false, false, false, false, false, false, false] rfl rfl (take_ofW HT_.out HW_.out (by kernel_rfl)) (fun _ _ _ h => h) (Or.inl ⟨by rfl, ?_⟩) hHeld ?_ ?_
                      rotate_left
                      ·rintro w' ⟨s0, s1, s2, s3, s4, s5, s6, s7, s8⟩
                       go_simp
                       with_reducible rfl
                      rotate_left
                      ·simp only [Act.put, sA_, sZ_, sS_, i64_w, i32_w]
                       rfl
                      refine take_ (i := 9) (N := some 59) (v := ?_) (a' := ?_) #[true, true, true, true, true, true, true, true, true, true, false, false, false, false, true, true, false, true, false, true, true, true, false, false, false, false, false, false, false] rfl rfl (take_ofW HT_.out HW_.out (by kernel_rfl)) (fun _ _ _ h => h) (Or.inl ⟨by rfl, ?_⟩) hHeld ?_ ?_
                      rotate_left
                      ·rintro w' ⟨s0, s1, s2, s3, s4, s5, s6, s7, s8⟩
                       go_simp
                       with_reducible rfl
                      rotate_left
                      ·simp only [Act.put, sA_, sZ_, sS_, i64_w, i32_w]
                       rfl
                      refine pure_ (i := 10) (N := some 60) (v := ?_) (a' := ?_) #[true, true, true, true, true, true, true, true, true, true, true, false, false, false, true, true, false, true, false, true, true, true, false, false, false, false, false, false, false] rfl rfl (any_of HT_.out (by kernel_rfl)) (fun _ _ _ h => h) (Or.inl ⟨by rfl, ?_⟩) ?_ ?_
                      rotate_left
                      ·intro w'
                       go_simp
                       with_reducible rfl
                      rotate_left
                      ·simp only [Act.put, sA_, sZ_, sS_, i64_w, i32_w]
                       rfl
                      refine take_ (i := 11) (N := some 61) (v := ?_) (a' := ?_) #[true, true, true, true, true, true, true, true, true, true, true, true, false, false, true, true, false, true, false, true, true, true, false, false, false, false, false, false, false] rfl rfl (take_ofW HT_.out HW_.out (by kernel_rfl)) (fun _ _ _ h => h) (Or.inl ⟨by rfl, ?_⟩) hHeld ?_ ?_
                      rotate_left
                      ·rintro w' ⟨s0, s1, s2, s3, s4, s5, s6, s7, s8⟩
                       go_simp
                       with_reducible rfl
                      rotate_left
                      ·simp only [Act.put, sA_, sZ_, sS_, i64_w, i32_w]
                       rfl
                      refine take_ (i := 12) (N := some 62) (v := ?_) (a' := ?_) #[true, true, true, true, true, true, true, true, true, true, true, true, true, false, true, true, false, true, false, true, true, true, false, false, false, false, false, false, false] rfl rfl (take_ofW HT_.out HW_.out (by kernel_rfl)) (fun _ _ _ h => h) (Or.inl ⟨by rfl, ?_⟩) hHeld ?_ ?_
                      rotate_left
                      ·rintro w' ⟨s0, s1, s2, s3, s4, s5, s6, s7, s8⟩
                       go_simp
                       with_reducible rfl
                      rotate_left
                      ·simp only [Act.put, sA_, sZ_, sS_, i64_w, i32_w]
                       rfl
                      refine take_ (i := 16) (N := some 66) (v := ?_) (a' := ?_) #[true, true, true, true, true, true, true, true, true, true, true, true, true, false, true, true, true, true, false, true, true, true, false, false, false, false, false, false, false] rfl rfl (take_ofW HT_.out HW_.out (by kernel_rfl)) (fun _ _ _ h => h) (Or.inl ⟨by rfl, ?_⟩) hHeld ?_ ?_
                      rotate_left
                      ·rintro w' ⟨s0, s1, s2, s3, s4, s5, s6, s7, s8⟩
                       go_simp
                       with_reducible rfl
                      rotate_left
                      ·simp only [Act.put, sA_, sZ_, sS_, i64_w, i32_w]
                       rfl
                      refine pure_ (i := 22) (N := some 72) (v := ?_) (a' := ?_) #[true, true, true, true, true, true, true, true, true, true, true, true, true, false, true, true, true, true, false, true, true, true, true, false, false, false, false, false, false] rfl rfl (any_of HT_.out (by kernel_rfl)) (fun _ _ _ h => h) (Or.inl ⟨by rfl, ?_⟩) ?_ ?_
                      rotate_left
                      ·intro w'
                       go_simp
                       with_reducible rfl
                      rotate_left
                      ·simp only [Act.put, sA_, sZ_, sS_, i64_w, i32_w]
                       rfl
                      refine take_ (i := 18) (N := some 68) (v := ?_) (a' := ?_) #[true, true, true, true, true, true, true, true, true, true, true, true, true, false, true, true, true, true, true, true, true, true, true, false, false, false, false, false, false] rfl rfl (take_ofW HT_.out HW_.out (by kernel_rfl)) (fun _ _ _ h => h) (Or.inl ⟨by rfl, ?_⟩) hHeld ?_ ?_
                      rotate_left
                      ·rintro w' ⟨s0, s1, s2, s3, s4, s5, s6, s7, s8⟩
                       go_simp
                       with_reducible rfl
                      rotate_left
                      ·simp only [Act.put, sA_, sZ_, sS_, i64_w, i32_w]
                       rfl
                      refine pure_ (i := 23) (N := some 73) (v := ?_) (a' := ?_) #[true, true, true, true, true, true, true, true, true, true, true, true, true, false, true, true, true, true, true, true, true, true, true, true, false, false, false, false, false] rfl rfl (any_of HT_.out (by kernel_rfl)) (fun _ _ _ h => h) (Or.inl ⟨by rfl, ?_⟩) ?_ ?_
                      rotate_left
                      ·intro w'
                       go_simp
                       with_reducible rfl
                      rotate_left
                      ·simp only [Act.put, sA_, sZ_, sS_, i64_w, i32_w]
                       rfl
                      refine pure_ (i := 24) (N := some 74) (v := ?_) (a' := ?_) #[true, true, true, true, true, true, true, true, true, true, true, true, true, false, true, true, true, true, true, true, true, true, true, true, true, false, false, false, false] rfl rfl (any_of HT_.out (by kernel_rfl)) (fun _ _ _ h => h) (Or.inl ⟨by rfl, ?_⟩) ?_ ?_
                      rotate_left
                      ·intro w'
                       go_simp
                       with_reducible rfl
                      rotate_left
                      ·simp only [Act.put, sA_, sZ_, sS_, i64_w, i32_w]
                       rfl
                      refine take_ (i := 25) (N := some 75) (v := ?_) (a' := ?_) #[true, true, true, true, true, true, true, true, true, true, true, true, true, false, true, true, true, true, true, true, true, true, true, true, true, true, false, false, false] rfl rfl (take_ofW HT_.out HW_.out (by kernel_rfl)) (fun _ _ _ h => h) (Or.inl ⟨by rfl, ?_⟩) hHeld ?_ ?_
                      rotate_left
                      ·rintro w' ⟨s0, s1, s2, s3, s4, s5, s6, s7, s8⟩
                       go_simp
                       with_reducible rfl
                      rotate_left
                      ·simp only [Act.put, sA_, sZ_, sS_, i64_w, i32_w]
                       rfl
                      refine one_ (i := 13) (N := some 63) #[true, true, true, true, true, true, true, true, true, true, true, true, true, true, true, true, true, true, true, true, true, true, true, true, true, true, false, false, false] rfl rfl (one_of HT_.out (by kernel_rfl)) (by decide) (fun K hK => ?_)
                      refine goes_ Try.func55 (by kernel_rfl) rfl #[.agg #[.int .i64 ((rd_T54 l1 ((rd_T81 t297 x46_2).f0)).f0), .int .i64 ((rd_T54 l1 ((rd_T81 t297 x46_2).f0)).f1)], .agg #[.int .i64 ((rd_T54 l1 ((rd_T81 t297 x46_2).f1)).f0), .int .i64 ((rd_T54 l1 ((rd_T81 t297 x46_2).f1)).f1)], .agg #[.int .i64 (wrap64 (Int.tdiv x9_1 (wrap64 (a2 + 1)))), .int .i64 (Int.tmod x9_1 (wrap64 (a2 + 1)))]] (by rfl) rfl rfl (by (try simp only [List.map_toArray, List.map_cons, List.map_nil]); first | done | rfl | (simp only [List.length_drop, List.length_take]; rfl)) ?_
                      with_reducible refine (impl_TurnOf.calls k2 ((rd_T54 l1 ((rd_T81 t297 x46_2).f0)).f0) ((rd_T54 l1 ((rd_T81 t297 x46_2).f0)).f1) ((rd_T54 l1 ((rd_T81 t297 x46_2).f1)).f0) ((rd_T54 l1 ((rd_T81 t297 x46_2).f1)).f1) (wrap64 (Int.tdiv x9_1 (wrap64 (a2 + 1)))) (Int.tmod x9_1 (wrap64 (a2 + 1))) t304 _ A25.out).mono ?_
                      rintro e w36 ⟨rfl, hb⟩
                      have HS4_ := (hb.cell (World.block_lt_of_cell? _ _ (hHeld.2.2.2.2.1))).trans (hHeld.2.2.2.2.1)
                      have HS5_ := (hb.cell (World.block_lt_of_cell? _ _ (hHeld.2.2.2.2.2.1))).trans (hHeld.2.2.2.2.2.1)
                      have HS6_ := (hb.cell (World.block_lt_of_cell? _ _ (hHeld.2.2.2.2.2.2.1))).trans (hHeld.2.2.2.2.2.2.1)
                      have HS7_ := (hb.cell (World.block_lt_of_cell? _ _ (hHeld.2.2.2.2.2.2.2.1))).trans (hHeld.2.2.2.2.2.2.2.1)
                      refine ⟨_, rfl, ?_⟩
                      have n0_ := am_ (Kd.R_below (rx_ HO_1.out) hb)
                      have n1_ := am_ (Kd.R_below (rx_ HO_44.out) hb)
                      have n2_ := am_ (blk_below (g := gb296) (o := .cells #[.int .i64 (wrap64 (Int.tdiv x9_1 (wrap64 (a2 + 1)))), .int .i64 (Int.tmod x9_1 (wrap64 (a2 + 1)))] 54 (0, 0)) (kx_ BK296.out) hb)
                      have n3_ := am_ (blk_below (g := gb301) (o := .cells #[.int .i64 ((rd_T81 t297 x46_2).f0), .int .i64 ((rd_T81 t297 x46_2).f1)] 81 (0, 0)) (kx_ BK301.out) hb)
                      have n4_ := am_ (Kept.below (S := (fun k_ => P1_ k_)) (by repeat (first | (with_reducible first | exact HK.out | apply Kept.alloc | apply Kept.drewN | apply Kept.drew | refine Kept.setCell ?_ (.inr GW296.out) _ | refine Kept.setCell ?_ (.inr GW301.out) _) | exact HK.out)) hb)
                      have n5_ := am_ (below_step (bx2 HB.out GE296.out GE301.out) hb)
                      clear HO_1
                      clear HO_44
                      clear BK296
                      clear BK301
                      clear HK
                      clear HB
                      have HO_1 := n0_
                      have HO_44 := n1_
                      have BK296 := n2_
                      have BK301 := n3_
                      have HK := n4_
                      have HB := n5_
                      clear n0_ n1_ n2_ n3_ n4_ n5_
                      (try clear hb)
                      (try clear hb2)
                      (try clear hk)
                      (try clear hi)
                      refine hK.out _ _ ⟨(blk_cell BK301.out 0).trans rfl, (blk_cell BK301.out 1).trans rfl, (blk_cell BK296.out 0).trans rfl, (blk_cell BK296.out 1).trans rfl, HS4_, HS5_, HS6_, HS7_, (foot_chi (HR0.out _ (by repeat (first | exact HK.out | apply Kept.alloc | apply Kept.drewN | apply Kept.drew))) q305 (of_eq_true p305_0a) (of_eq_true p305_0b) (of_eq_true p305_1a) (of_eq_true p305_1b) (of_eq_true p305_2a) (of_eq_true p305_2b))⟩ (fun hHeld => ?_)
                      clear hK K
                      refine norm_ (a' := ?_) ?_ ?_
                      rotate_left
                      ·show Act.put _ (some 63) _ = _
                       simp only [Act.put, sA_, sZ_, sS_, i64_w, i32_w]
                       rfl
                      refine pure_ (i := 26) (N := some 76) (v := ?_) (a' := ?_) #[true, true, true, true, true, true, true, true, true, true, true, true, true, true, true, true, true, true, true, true, true, true, true, true, true, true, true, false, false] rfl rfl (any_of HT_.out (by kernel_rfl)) (fun _ _ _ h => h) (Or.inl ⟨by rfl, ?_⟩) ?_ ?_
                      rotate_left
                      ·intro w'
                       go_simp
                       with_reducible rfl
                      rotate_left
                      ·simp only [Act.put, sA_, sZ_, sS_, i64_w, i32_w]
                       rfl
                      refine pure_ (i := 27) (N := some 77) (v := ?_) (a' := ?_) #[true, true, true, true, true, true, true, true, true, true, true, true, true, true, true, true, true, true, true, true, true, true, true, true, true, true, true, true, false] rfl rfl (any_of HT_.out (by kernel_rfl)) (fun _ _ _ h => h) (Or.inl ⟨by rfl, ?_⟩) ?_ ?_
                      rotate_left
                      ·intro w'
                       go_simp
                       with_reducible rfl
                      rotate_left
                      ·simp only [Act.put, sA_, sZ_, sS_, i64_w, i32_w]
                       rfl
                      refine pure_ (i := 28) (N := some 11) (v := ?_) (a' := ?_) #[true, true, true, true, true, true, true, true, true, true, true, true, true, true, true, true, true, true, true, true, true, true, true, true, true, true, true, true, true] rfl rfl (any_of HT_.out (by kernel_rfl)) (fun _ _ _ h => h) (Or.inl ⟨by rfl, ?_⟩) ?_ ?_
                      rotate_left
                      ·intro w'
                       go_simp
                       with_reducible rfl
                      rotate_left
                      ·simp only [Act.put, sA_, sZ_, sS_, i64_w, i32_w]
                       rfl
                      refine done_ (done_of HT_.out (by kernel_rfl)) ?_
                      try go_wp2
                      go_roundg k2
                      case measure => have := HK1.out; have := HK2.out; omega
                      case rel => exact ⟨((t304 == (chiA l0 ((rd_T81 t297 x46_2).f0) ((rd_T81 t297 x46_2).f1) (l1.length : Int)))), (wrap64 (x46_2 + 1)), (by first | rfl | (simp; done) | (simp [*]; done)), (by first | rfl | (simp; done) | (simp [*]; done)), H', ⟨by have := HK1.out; have := HK2.out; omega⟩, ⟨rx_ HO_1.out⟩, ⟨by (with_reducible repeat (first | apply Kd.R_alloc | apply Kd.R_drewN | apply Kd.R_drew)); exact Kd.R_mono HO_44.out (fun _ hk => hk.1)⟩, ⟨kx_ BK296.out⟩, ⟨by repeat (first | (with_reducible first | exact HK.out | apply Kept.alloc | apply Kept.drewN | apply Kept.drew | refine Kept.setCell ?_ (.inr GW296.out) _ | refine Kept.setCell ?_ (.inr GW301.out) _) | exact HK.out)⟩, ⟨bx2 HB.out GE296.out GE301.out⟩⟩
                     ·rw [if_neg c30] at H
                      exact absurd H (by simp)
                    ·rw [if_neg c29] at H
                     exact absurd H (by simp)
                   ·rw [if_neg c28] at H
                    exact absurd H (by simp)
                  ·rw [if_neg c27] at H
                   exact absurd H (by simp)
                 ·rw [if_neg c26] at H
                  exact absurd H (by simp)
                ·rw [if_neg c24] at H
                 exact absurd H (by simp)
               ·rw [if_neg c23] at H
                exact absurd H (by simp)
              ·rw [if_neg c22] at H
               exact absurd H (by simp)
             ·rw [if_neg c21] at H
              exact absurd H (by simp)
            ·replace c20 := Bool.eq_false_iff.mpr c20
             subst c20
             have H1 : (impl_chi_place.l1 k2 l0 l1 a2 (l1.length : Int) x9_1 false t297 (t297.length : Int) (wrap64 (x46_2 + 1)) (wrap64 (Int.tdiv x9_1 (wrap64 (a2 + 1)))) (Int.tmod x9_1 (wrap64 (a2 + 1)))) = some (r1, r2) := by rw [if_neg (show ¬ (false = true) by decide)] at H; exact H
             clear H
             have H := H1
             clear H1
             have H' := am_ H
             clear H
             have p300 : 0 ≤ (x46_2 : Int) := of_decide_eq_true (by first | (with_reducible assumption) | assumption)
             have q300 : x46_2 < (t297.length : Int) := of_decide_eq_true (by first | (with_reducible assumption) | assumption)
             obtain ⟨ad300, e300, hx300_0, hx300_1⟩ := at_T81 (Kd.R_reads' HO_44.out).2.2 x46_2 p300 q300
             cases e300
             replace p300 := eq_true p300
             replace q300 := eq_true q300
             try go_wp2_with (first | ((with_reducible refine gate_dst (N := 13) rfl ?_); refine box_event ?hg (N := 13) ?hd (cs := #[.int .i64 0, .int .i64 0]) (t := 81) ?hr ?_; (case hd => rfl); (case hg => rfl); (case hr => first | (go_simp; done) | (go_simp; rfl)); intro gb301 hg w37 hbox hb; have n0_ := am_ (Kd.R_below (rx_ HO_1.out) hb); have n1_ := am_ (Kd.R_below (Kd.R_elderB (rx_ HO_44.out) gb301 (Nat.le_of_eq hg.symm)) hb); have n2_ := am_ (blk_below (g := gb296) (o := .cells #[.int .i64 (wrap64 (Int.tdiv x9_1 (wrap64 (a2 + 1)))), .int .i64 (Int.tmod x9_1 (wrap64 (a2 + 1)))] 54 (0, 0)) (kx_ BK296.out) hb); have n3_ := am_ (Kept.below (S := (fun k_ => P1_ k_)) (by repeat (first | (with_reducible first | exact HK.out | apply Kept.alloc | apply Kept.drewN | apply Kept.drew | refine Kept.setCell ?_ (.inr GW296.out) _) | exact HK.out)) hb); have n4_ := am_ (below_step (bx1 HB.out GE296.out) hb); have n5_ := am_ (hbox); have n6_ := am_ ((by rw [hg]; exact (by first | exact HK.out.1 | exact (show Kept w _ (fun k_ => P1_ k_) from by repeat (first | (with_reducible first | exact HK.out | apply Kept.alloc | apply Kept.drewN | apply Kept.drew | refine Kept.setCell ?_ (.inr GW296.out) _) | exact HK.out)).1) : w.heap.size ≤ gb301)); have n7_ := am_ ((by rw [hg]; exact (below_size (bx1 HB.out GE296.out)) : w0.heap.size ≤ gb301)); have n8_ := am_ ((by rw [hg]; exact Nat.ne_of_lt (blk_lt (g := gb296) (o := .cells #[.int .i64 (wrap64 (Int.tdiv x9_1 (wrap64 (a2 + 1)))), .int .i64 (Int.tmod x9_1 (wrap64 (a2 + 1)))] 54 (0, 0)) (kx_ BK296.out)) : gb296 ≠ gb301)); have n9_ := am_ ((by rw [hg]; exact Nat.ne_of_gt (blk_lt (g := gb296) (o := .cells #[.int .i64 (wrap64 (Int.tdiv x9_1 (wrap64 (a2 + 1)))), .int .i64 (Int.tmod x9_1 (wrap64 (a2 + 1)))] 54 (0, 0)) (kx_ BK296.out)) : gb301 ≠ gb296)); clear HO_1; clear HO_44; clear BK296; clear HK; clear HB; have HO_1 := n0_; have HO_44 := n1_; have BK296 := n2_; have HK := n3_; have HB := n4_; have BK301 := n5_; have GW301 := n6_; have GE301 := n7_; have NB296_301 := n8_; have NB301_296 := n9_; clear n0_ n1_ n2_ n3_ n4_ n5_ n6_ n7_ n8_ n9_; clear hb hbox hg; have hnb38 := NB301_296.out; have hnc38 := NB296_301.out; have hcz39_0 : w37.cell? ⟨gb301, 0, none⟩ = some (.int .i64 0) := (blk_cell BK301.out 0).trans rfl; have hcz39_1 : w37.cell? ⟨gb301, 1, none⟩ = some (.int .i64 0) := (blk_cell BK301.out 1).trans rfl; have hfz39_0 := blk_frozen BK301.out 0; have hfz39_1 := blk_frozen BK301.out 1))
             have n0_ : Aside0 (Kd.R k54 54 ((w37.setCell ⟨gb301, 0, none⟩ (.int .i64 ((rd_T81 t297 x46_2).f0))).setCell ⟨gb301, 1, none⟩ (.int .i64 ((rd_T81 t297 x46_2).f1))) w0.heap.size (fun k_ => (P1_ k_ ∨ w.heap.size ≤ k_) ∧ k_ ≠ gb296) (.slice Ao7 l1.length co7) l1) := ⟨by (with_reducible repeat (first | apply Kd.R_alloc | apply Kd.R_drewN | apply Kd.R_drew)); exact Kd.R_mono (Kd.R_far (p := ⟨gb301, 1, none⟩) (Kd.R_far (p := ⟨gb301, 0, none⟩) (Kd.R_types HO_1.out BK301.out (by decide)) (fun _ hk => hk.2) (.int .i64 ((rd_T81 t297 x46_2).f0))) (fun _ hk => hk.2) (.int .i64 ((rd_T81 t297 x46_2).f1))) (fun _ hk => ⟨hk.1.1, hk.1.2⟩)⟩
             have n1_ : Aside0 (Kd.R k81 81 ((w37.setCell ⟨gb301, 0, none⟩ (.int .i64 ((rd_T81 t297 x46_2).f0))).setCell ⟨gb301, 1, none⟩ (.int .i64 ((rd_T81 t297 x46_2).f1))) w0.heap.size (fun k_ => (P1_ k_ ∨ w.heap.size ≤ k_) ∧ k_ ≠ gb301) (.slice (some ad300) t297.length co16) t297) := ⟨by (with_reducible repeat (first | apply Kd.R_alloc | apply Kd.R_drewN | apply Kd.R_drew)); exact Kd.R_mono (Kd.R_far (p := ⟨gb301, 1, none⟩) (Kd.R_far (p := ⟨gb301, 0, none⟩) (Kd.R_mono HO_44.out (fun k_ hk => (⟨hk, hk.2⟩ : _ ∧ k_ ≠ gb301))) (fun _ hk => hk.2) (.int .i64 ((rd_T81 t297 x46_2).f0))) (fun _ hk => hk.2) (.int .i64 ((rd_T81 t297 x46_2).f1))) (fun _ hk => ⟨hk.1.1, hk.1.2⟩)⟩
             have n2_ : Aside0 (((w37.setCell ⟨gb301, 0, none⟩ (.int .i64 ((rd_T81 t297 x46_2).f0))).setCell ⟨gb301, 1, none⟩ (.int .i64 ((rd_T81 t297 x46_2).f1))).heap[gb296]? = some (.cells #[.int .i64 (wrap64 (Int.tdiv x9_1 (wrap64 (a2 + 1)))), .int .i64 (Int.tmod x9_1 (wrap64 (a2 + 1)))] 54 (0, 0))) := ⟨by (with_reducible repeat (first | refine blk_drewN ?_ _ | refine blk_drew ?_ | refine blk_alloc ?_ _)); refine blk_far ?_ NB296_301.out _; (with_reducible repeat (first | refine blk_drewN ?_ _ | refine blk_drew ?_ | refine blk_alloc ?_ _)); refine blk_far ?_ NB296_301.out _; (with_reducible repeat (first | refine blk_drewN ?_ _ | refine blk_drew ?_ | refine blk_alloc ?_ _)); exact BK296.out⟩
             have n3_ : Aside0 (((w37.setCell ⟨gb301, 0, none⟩ (.int .i64 ((rd_T81 t297 x46_2).f0))).setCell ⟨gb301, 1, none⟩ (.int .i64 ((rd_T81 t297 x46_2).f1))).heap[gb301]? = some (.cells #[.int .i64 ((rd_T81 t297 x46_2).f0), .int .i64 ((rd_T81 t297 x46_2).f1)] 81 (0, 0))) := ⟨by (with_reducible repeat (first | refine blk_drewN ?_ _ | refine blk_drew ?_ | refine blk_alloc ?_ _)); refine blk_put (cs := #[.int .i64 ((rd_T81 t297 x46_2).f0), .int .i64 0]) ?_ 1 _ rfl; (with_reducible repeat (first | refine blk_drewN ?_ _ | refine blk_drew ?_ | refine blk_alloc ?_ _)); refine blk_put (cs := #[.int .i64 0, .int .i64 0]) ?_ 0 _ rfl; (with_reducible repeat (first | refine blk_drewN ?_ _ | refine blk_drew ?_ | refine blk_alloc ?_ _)); exact BK301.out⟩
             have n4_ : Aside0 (Kept w ((w37.setCell ⟨gb301, 0, none⟩ (.int .i64 ((rd_T81 t297 x46_2).f0))).setCell ⟨gb301, 1, none⟩ (.int .i64 ((rd_T81 t297 x46_2).f1))) (fun k_ => P1_ k_)) := ⟨by repeat (first | (with_reducible first | exact HK.out | apply Kept.alloc | apply Kept.drewN | apply Kept.drew | refine Kept.setCell ?_ (.inr GW296.out) _ | refine Kept.setCell ?_ (.inr GW301.out) _) | exact HK.out)⟩
             have n5_ : Aside0 (Below w0.heap.size w0 ((w37.setCell ⟨gb301, 0, none⟩ (.int .i64 ((rd_T81 t297 x46_2).f0))).setCell ⟨gb301, 1, none⟩ (.int .i64 ((rd_T81 t297 x46_2).f1)))) := ⟨bx2 HB.out GE296.out GE301.out⟩
             (try clear HO_1)
             (try clear HO_44)
             (try clear BK296)
             (try clear BK301)
             (try clear HK)
             (try clear HB)
             generalize ((w37.setCell ⟨gb301, 0, none⟩ (.int .i64 ((rd_T81 t297 x46_2).f0))).setCell ⟨gb301, 1, none⟩ (.int .i64 ((rd_T81 t297 x46_2).f1))) = w40 at n0_ n1_ n2_ n3_ n4_ n5_ ⊢
             have HO_1 := n0_
             have HO_44 := n1_
             have BK296 := n2_
             have BK301 := n3_
             have HK := n4_
             have HB := n5_
             clear n0_ n1_ n2_ n3_ n4_ n5_
             have n0_ := am_ (Kd.R_drew HO_1.out)
             have n1_ := am_ (Kd.R_drew HO_44.out)
             have n2_ := am_ (blk_drew BK296.out)
             have n3_ := am_ (blk_drew BK301.out)
             have n4_ := am_ (Kept.drew HK.out)
             have n5_ := am_ (below_drew1 HB.out)
             clear HO_1
             clear HO_44
             clear BK296
             clear BK301
             clear HK
             clear HB
             have HO_1 := n0_
             have HO_44 := n1_
             have BK296 := n2_
             have BK301 := n3_
             have HK := n4_
             have HB := n5_
             clear n0_ n1_ n2_ n3_ n4_ n5_
             refine start_ (n := 29) (S := fun w' => True) (ds := []) #[false, false, false, false, false, false, false, false, false, false, false, false, false, false, false, false, false, false, false, false, false, false, false, false, false, false, false, false, false] (by kernel_rfl) rfl rfl trivial (fun hHeld => ?_); refine with_tabW impl_chi_place.tab12 impl_chi_place.bits12 (fun HT_ HW_ => ?_)
             generalize w40.drew = w41 at HO_1 HO_44 BK296 BK301 HK HB hHeld ⊢
             refine pure_ (i := 0) (N := some 50) (v := ?_) (a' := ?_) #[true, false, false, false, false, false, false, false, false, false, false, false, false, false, false, false, false, false, false, false, false, false, false, false, false, false, false, false, false] rfl rfl (any_of HT_.out (by kernel_rfl)) (fun _ _ _ h => h) (Or.inl ⟨by rfl, ?_⟩) ?_ ?_
             rotate_left
             ·intro w'
              go_simp
              with_reducible rfl
             rotate_left
             ·simp only [Act.put, sA_, sZ_, sS_, i64_w, i32_w]
              rfl
             refine pure_ (i := 1) (N := some 51) (v := ?_) (a' := ?_) #[true, true, false, false, false, false, false, false, false, false, false, false, false, false, false, false, false, false, false, false, false, false, false, false, false, false, false, false, false] rfl rfl (any_of HT_.out (by kernel_rfl)) (fun _ _ _ h => h) (Or.inl ⟨by rfl, ?_⟩) ?_ ?_
             rotate_left
             ·intro w'
              go_simp
              with_reducible rfl
             rotate_left
             ·simp only [Act.put, sA_, sZ_, sS_, i64_w, i32_w]
              rfl
             refine pure_ (i := 2) (N := some 52) (v := undef) (a' := ?_) #[true, true, true, false, false, false, false, false, false, false, false, false, false, false, false, false, false, false, false, false, false, false, false, false, false, false, false, false, false] rfl rfl (any_of HT_.out (by kernel_rfl)) (fun _ _ _ h => h) (Or.inr ⟨by rfl, rfl⟩) ?_ ?_
             rotate_left
             ·simp only [Act.put, sA_, sZ_, sS_, i64_w, i32_w]
              rfl
             refine pure_ (i := 3) (N := some 53) (v := undef) (a' := ?_) #[true, true, true, true, false, false, false, false, false, false, false, false, false, false, false, false, false, false, false, false, false, false, false, false, false, false, false, false, false] rfl rfl (any_of HT_.out (by kernel_rfl)) (fun _ _ _ h => h) (Or.inr ⟨by rfl, rfl⟩) ?_ ?_
             rotate_left
             ·simp only [Act.put, sA_, sZ_, sS_, i64_w, i32_w]
              rfl
             refine pure_ (i := 4) (N := some 54) (v := undef) (a' := ?_) #[true, true, true, true, true, false, false, false, false, false, false, false, false, false, false, false, false, false, false, false, false, false, false, false, false, false, false, false, false] rfl rfl (any_of HT_.out (by kernel_rfl)) (fun _ _ _ h => h) (Or.inr ⟨by rfl, rfl⟩) ?_ ?_
             rotate_left
             ·simp only [Act.put, sA_, sZ_, sS_, i64_w, i32_w]
              rfl
             refine pure_ (i := 5) (N := some 55) (v := undef) (a' := ?_) #[true, true, true, true, true, true, false, false, false, false, false, false, false, false, false, false, false, false, false, false, false, false, false, false, false, false, false, false, false] rfl rfl (any_of HT_.out (by kernel_rfl)) (fun _ _ _ h => h) (Or.inr ⟨by rfl, rfl⟩) ?_ ?_
             rotate_left
             ·simp only [Act.put, sA_, sZ_, sS_, i64_w, i32_w]
              rfl
             refine pure_ (i := 6) (N := some 56) (v := undef) (a' := ?_) #[true, true, true, true, true, true, true, false, false, false, false, false, false, false, false, false, false, false, false, false, false, false, false, false, false, false, false, false, false] rfl rfl (any_of HT_.out (by kernel_rfl)) (fun _ _ _ h => h) (Or.inr ⟨by rfl, rfl⟩) ?_ ?_
             rotate_left
             ·simp only [Act.put, sA_, sZ_, sS_, i64_w, i32_w]
              rfl
             refine pure_ (i := 7) (N := some 57) (v := undef) (a' := ?_) #[true, true, true, true, true, true, true, true, false, false, false, false, false, false, false, false, false, false, false, false, false, false, false, false, false, false, false, false, false] rfl rfl (any_of HT_.out (by kernel_rfl)) (fun _ _ _ h => h) (Or.inr ⟨by rfl, rfl⟩) ?_ ?_
             rotate_left
             ·simp only [Act.put, sA_, sZ_, sS_, i64_w, i32_w]
              rfl
             refine pure_ (i := 8) (N := some 58) (v := undef) (a' := ?_) #[true, true, true, true, true, true, true, true, true, false, false, false, false, false, false, false, false, false, false, false, false, false, false, false, false, false, false, false, false] rfl rfl (any_of HT_.out (by kernel_rfl)) (fun _ _ _ h => h) (Or.inr ⟨by rfl, rfl⟩) ?_ ?_
             rotate_left
             ·simp only [Act.put, sA_, sZ_, sS_, i64_w, i32_w]
              rfl
             refine pure_ (i := 9) (N := some 59) (v := undef) (a' := ?_) #[true, true, true, true, true, true, true, true, true, true, false, false, false, false, false, false, false, false, false, false, false, false, false, false, false, false, false, false, false] rfl rfl (any_of HT_.out (by kernel_rfl)) (fun _ _ _ h => h) (Or.inr ⟨by rfl, rfl⟩) ?_ ?_
             rotate_left
             ·simp only [Act.put, sA_, sZ_, sS_, i64_w, i32_w]
              rfl
             refine pure_ (i := 10) (N := some 60) (v := undef) (a' := ?_) #[true, true, true, true, true, true, true, true, true, true, true, false, false, false, false, false, false, false, false, false, false, false, false, false, false, false, false, false, false] rfl rfl (any_of HT_.out (by kernel_rfl)) (fun _ _ _ h => h) (Or.inr ⟨by rfl, rfl⟩) ?_ ?_
             rotate_left
             ·simp only [Act.put, sA_, sZ_, sS_, i64_w, i32_w]
              rfl
             refine pure_ (i := 11) (N := some 61) (v := undef) (a' := ?_) #[true, true, true, true, true, true, true, true, true, true, true, true, false, false, false, false, false, false, false, false, false, false, false, false, false, false, false, false, false] rfl rfl (any_of HT_.out (by kernel_rfl)) (fun _ _ _ h => h) (Or.inr ⟨by rfl, rfl⟩) ?_ ?_
             rotate_left
             ·simp only [Act.put, sA_, sZ_, sS_, i64_w, i32_w]
              rfl
             refine pure_ (i := 12) (N := some 62) (v := undef) (a' := ?_) #[true, true, true, true, true, true, true, true, true, true, true, true, true, false, false, false, false, false, false, false, false, false, false, false, false, false, false, false, false] rfl rfl (any_of HT_.out (by kernel_rfl)) (fun _ _ _ h => h) (Or.inr ⟨by rfl, rfl⟩) ?_ ?_
             rotate_left
             ·simp only [Act.put, sA_, sZ_, sS_, i64_w, i32_w]
              rfl
             refine pure_ (i := 13) (N := some 63) (v := undef) (a' := ?_) #[true, true, true, true, true, true, true, true, true, true, true, true, true, true, false, false, false, false, false, false, false, false, false, false, false, false, false, false, false] rfl rfl (any_of HT_.out (by kernel_rfl)) (fun _ _ _ h => h) (Or.inr ⟨by rfl, rfl⟩) ?_ ?_
             rotate_left
             ·simp only [Act.put, sA_, sZ_, sS_, i64_w, i32_w]
              rfl
             refine pure_ (i := 14) (N := some 64) (v := undef) (a' := ?_) #[true, true, true, true, true, true, true, true, true, true, true, true, true, true, true, false, false, false, false, false, false, false, false, false, false, false, false, false, false] rfl rfl (any_of HT_.out (by kernel_rfl)) (fun _ _ _ h => h) (Or.inr ⟨by rfl, rfl⟩) ?_ ?_
             rotate_left
             ·simp only [Act.put, sA_, sZ_, sS_, i64_w, i32_w]
              rfl
             refine pure_ (i := 15) (N := some 65) (v := undef) (a' := ?_) #[true, true, true, true, true, true, true, true, true, true, true, true, true, true, true, true, false, false, false, false, false, false, false, false, false, false, false, false, false] rfl rfl (any_of HT_.out (by kernel_rfl)) (fun _ _ _ h => h) (Or.inr ⟨by rfl, rfl⟩) ?_ ?_
             rotate_left
             ·simp only [Act.put, sA_, sZ_, sS_, i64_w, i32_w]
              rfl
             refine pure_ (i := 16) (N := some 66) (v := undef) (a' := ?_) #[true, true, true, true, true, true, true, true, true, true, true, true, true, true, true, true, true, false, false, false, false, false, false, false, false, false, false, false, false] rfl rfl (any_of HT_.out (by kernel_rfl)) (fun _ _ _ h => h) (Or.inr ⟨by rfl, rfl⟩) ?_ ?_
             rotate_left
             ·simp only [Act.put, sA_, sZ_, sS_, i64_w, i32_w]
              rfl
             refine pure_ (i := 17) (N := some 67) (v := undef) (a' := ?_) #[true, true, true, true, true, true, true, true, true, true, true, true, true, true, true, true, true, true, false, false, false, false, false, false, false, false, false, false, false] rfl rfl (any_of HT_.out (by kernel_rfl)) (fun _ _ _ h => h) (Or.inr ⟨by rfl, rfl⟩) ?_ ?_
             rotate_left
             ·simp only [Act.put, sA_, sZ_, sS_, i64_w, i32_w]
              rfl
             refine pure_ (i := 18) (N := some 68) (v := undef) (a' := ?_) #[true, true, true, true, true, true, true, true, true, true, true, true, true, true, true, true, true, true, true, false, false, false, false, false, false, false, false, false, false] rfl rfl (any_of HT_.out (by kernel_rfl)) (fun _ _ _ h => h) (Or.inr ⟨by rfl, rfl⟩) ?_ ?_
             rotate_left
             ·simp only [Act.put, sA_, sZ_, sS_, i64_w, i32_w]
              rfl
             refine pure_ (i := 19) (N := some 69) (v := undef) (a' := ?_) #[true, true, true, true, true, true, true, true, true, true, true, true, true, true, true, true, true, true, true, true, false, false, false, false, false, false, false, false, false] rfl rfl (any_of HT_.out (by kernel_rfl)) (fun _ _ _ h => h) (Or.inr ⟨by rfl, rfl⟩) ?_ ?_
             rotate_left
             ·simp only [Act.put, sA_, sZ_, sS_, i64_w, i32_w]
              rfl
             refine pure_ (i := 20) (N := some 70) (v := undef) (a' := ?_) #[true, true, true, true, true, true, true, true, true, true, true, true, true, true, true, true, true, true, true, true, true, false, false, false, false, false, false, false, false] rfl rfl (any_of HT_.out (by kernel_rfl)) (fun _ _ _ h => h) (Or.inr ⟨by rfl, rfl⟩) ?_ ?_
             rotate_left
             ·simp only [Act.put, sA_, sZ_, sS_, i64_w, i32_w]
              rfl
             refine pure_ (i := 21) (N := some 71) (v := undef) (a' := ?_) #[true, true, true, true, true, true, true, true, true, true, true, true, true, true, true, true, true, true, true, true, true, true, false, false, false, false, false, false, false] rfl rfl (any_of HT_.out (by kernel_rfl)) (fun _ _ _ h => h) (Or.inr ⟨by rfl, rfl⟩) ?_ ?_
             rotate_left
             ·simp only [Act.put, sA_, sZ_, sS_, i64_w, i32_w]
              rfl
             refine pure_ (i := 22) (N := some 72) (v := undef) (a' := ?_) #[true, true, true, true, true, true, true, true, true, true, true, true, true, true, true, true, true, true, true, true, true, true, true, false, false, false, false, false, false] rfl rfl (any_of HT_.out (by kernel_rfl)) (fun _ _ _ h => h) (Or.inr ⟨by rfl, rfl⟩) ?_ ?_
             rotate_left
             ·simp only [Act.put, sA_, sZ_, sS_, i64_w, i32_w]
              rfl
             refine pure_ (i := 23) (N := some 73) (v := undef) (a' := ?_) #[true, true, true, true, true, true, true, true, true, true, true, true, true, true, true, true, true, true, true, true, true, true, true, true, false, false, false, false, false] rfl rfl (any_of HT_.out (by kernel_rfl)) (fun _ _ _ h => h) (Or.inr ⟨by rfl, rfl⟩) ?_ ?_
             rotate_left
             ·simp only [Act.put, sA_, sZ_, sS_, i64_w, i32_w]
              rfl
             refine pure_ (i := 24) (N := some 74) (v := undef) (a' := ?_) #[true, true, true, true, true, true, true, true, true, true, true, true, true, true, true, true, true, true, true, true, true, true, true, true, true, false, false, false, false] rfl rfl (any_of HT_.out (by kernel_rfl)) (fun _ _ _ h => h) (Or.inr ⟨by rfl, rfl⟩) ?_ ?_
             rotate_left
             ·simp only [Act.put, sA_, sZ_, sS_, i64_w, i32_w]
              rfl
             refine pure_ (i := 25) (N := some 75) (v := undef) (a' := ?_) #[true, true, true, true, true, true, true, true, true, true, true, true, true, true, true, true, true, true, true, true, true, true, true, true, true, true, false, false, false] rfl rfl (any_of HT_.out (by kernel_rfl)) (fun _ _ _ h => h) (Or.inr ⟨by rfl, rfl⟩) ?_ ?_
             rotate_left
             ·simp only [Act.put, sA_, sZ_, sS_, i64_w, i32_w]
              rfl
             refine pure_ (i := 26) (N := some 76) (v := undef) (a' := ?_) #[true, true, true, true, true, true, true, true, true, true, true, true, true, true, true, true, true, true, true, true, true, true, true, true, true, true, true, false, false] rfl rfl (any_of HT_.out (by kernel_rfl)) (fun _ _ _ h => h) (Or.inr ⟨by rfl, rfl⟩) ?_ ?_
             rotate_left
             ·simp only [Act.put, sA_, sZ_, sS_, i64_w, i32_w]
              rfl
             refine pure_ (i := 27) (N := some 77) (v := ?_) (a' := ?_) #[true, true, true, true, true, true, true, true, true, true, true, true, true, true, true, true, true, true, true, true, true, true, true, true, true, true, true, true, false] rfl rfl (any_of HT_.out (by kernel_rfl)) (fun _ _ _ h => h) (Or.inl ⟨by rfl, ?_⟩) ?_ ?_
             rotate_left
             ·intro w'
              go_simp
              with_reducible rfl
             rotate_left
             ·simp only [Act.put, sA_, sZ_, sS_, i64_w, i32_w]
              rfl
             refine pure_ (i := 28) (N := some 11) (v := ?_) (a' := ?_) #[true, true, true, true, true, true, true, true, true, true, true, true, true, true, true, true, true, true, true, true, true, true, true, true, true, true, true, true, true] rfl rfl (any_of HT_.out (by kernel_rfl)) (fun _ _ _ h => h) (Or.inl ⟨by rfl, ?_⟩) ?_ ?_
             rotate_left
             ·intro w'
              go_simp
              with_reducible rfl
             rotate_left
             ·simp only [Act.put, sA_, sZ_, sS_, i64_w, i32_w]
              rfl
             refine done_ (done_of HT_.out (by kernel_rfl)) ?_
             try go_wp2
             go_roundg k2
             case measure => have := HK1.out; have := HK2.out; omega
             case rel => exact ⟨(false), (wrap64 (x46_2 + 1)), (by first | rfl | (simp; done) | (simp [*]; done)), (by first | rfl | (simp; done) | (simp [*]; done)), H', ⟨by have := HK1.out; have := HK2.out; omega⟩, ⟨rx_ HO_1.out⟩, ⟨by (with_reducible repeat (first | apply Kd.R_alloc | apply Kd.R_drewN | apply Kd.R_drew)); exact Kd.R_mono HO_44.out (fun _ hk => hk.1)⟩, ⟨kx_ BK296.out⟩, ⟨by repeat (first | (with_reducible first | exact HK.out | apply Kept.alloc | apply Kept.drewN | apply Kept.drew | refine Kept.setCell ?_ (.inr GW296.out) _ | refine Kept.setCell ?_ (.inr GW301.out) _) | exact HK.out)⟩, ⟨bx2 HB.out GE296.out GE301.out⟩⟩
           ·rw [if_neg c19] at H
            exact absurd H (by simp)
          ·rw [if_neg c18] at H
           exact absurd H (by simp)
         ·rw [if_neg c17] at H
          have c17b0 : decide (x46_2 < (t297.length : Int)) = false := decide_eq_false c17
          clear c17
          by_cases c42 : x11_2 = true
          ·subst c42
           have H1 : ((slices_Clone_Simpl_Point_impl_Point.f l1).bind fun t306 => ((some (([(⟨(wrap64 (Int.tdiv x9_1 (wrap64 (a2 + 1)))), (Int.tmod x9_1 (wrap64 (a2 + 1)))⟩ : S54)] : List (S54)) : List (S54))).bind fun y309 => (if t306.length + y309.length < 8796093022208 then ((impl_chi_place.f k2 l0 (t306 ++ y309) a2).bind fun bt315 => (if bt315.2 = true then (some (bt315.1, true)) else (impl_chi_place.l0 k2 l0 l1 a2 (l1.length : Int) (wrap64 (x9_1 + 1))))) else (none)))) = some (r1, r2) := by rw [if_pos rfl] at H; exact H
           clear H
           have H := H1
           clear H1
           replace H := Option.bind_eq_some_iff.mp H
           obtain ⟨t306, A430, H⟩ := H
           replace H : ((some (([(⟨(wrap64 (Int.tdiv x9_1 (wrap64 (a2 + 1)))), (Int.tmod x9_1 (wrap64 (a2 + 1)))⟩ : S54)] : List (S54)) : List (S54))).bind fun y309 => (if t306.length + y309.length < 8796093022208 then ((impl_chi_place.f k2 l0 (t306 ++ y309) a2).bind fun bt315 => (if bt315.2 = true then (some (bt315.1, true)) else (impl_chi_place.l0 k2 l0 l1 a2 (l1.length : Int) (wrap64 (x9_1 + 1))))) else (none))) = some (r1, r2) := H
           have A43 := am_ A430
           clear A430
           obtain ⟨y309, hy309⟩ : ∃ y_ : List (S54), y_ = (([(⟨(wrap64 (Int.tdiv x9_1 (wrap64 (a2 + 1)))), (Int.tmod x9_1 (wrap64 (a2 + 1)))⟩ : S54)] : List (S54))) := ⟨_, rfl⟩
           replace H : (if t306.length + y309.length < 8796093022208 then ((impl_chi_place.f k2 l0 (t306 ++ y309) a2).bind fun bt315 => (if bt315.2 = true then (some (bt315.1, true)) else (impl_chi_place.l0 k2 l0 l1 a2 (l1.length : Int) (wrap64 (x9_1 + 1))))) else (none)) = some (r1, r2) := by first | (rw [hy309]; with_reducible exact H) | (have H2_ := (Option.bind_some _ _).symm.trans H; rw [hy309]; with_reducible exact H2_) | (have H2_ := (Option.bind_some _ _).symm.trans H; with_reducible exact H2_) | with_reducible exact H | (rw [hy309]; exact H) | exact H
           have Ny309 := am_ hy309
           clear hy309
           by_cases c44 : t306.length + y309.length < 8796093022208
           ·rw [if_pos c44] at H
            have LMc44 := am_ c44
            clear c44
            obtain ⟨y312, hy312⟩ : ∃ y_ : List (S54), y_ = (t306 ++ y309) := ⟨_, rfl⟩
            replace H : ((impl_chi_place.f k2 l0 y312 a2).bind fun bt315 => (if bt315.2 = true then (some (bt315.1, true)) else (impl_chi_place.l0 k2 l0 l1 a2 (l1.length : Int) (wrap64 (x9_1 + 1))))) = some (r1, r2) := by first | (rw [hy312]; with_reducible exact H) | (have H2_ := (Option.bind_some _ _).symm.trans H; rw [hy312]; with_reducible exact H2_) | (have H2_ := (Option.bind_some _ _).symm.trans H; with_reducible exact H2_) | with_reducible exact H | (rw [hy312]; exact H) | exact H
            have Ny312 := am_ hy312
            clear hy312
            replace H := Option.bind_eq_some_iff.mp H
            obtain ⟨⟨t315, t318⟩, A450, H⟩ := H
            replace H : (if t318 = true then (some (t315, true)) else (impl_chi_place.l0 k2 l0 l1 a2 (l1.length : Int) (wrap64 (x9_1 + 1)))) = some (r1, r2) := H
            have A45 := am_ A450
            clear A450
            by_cases c46 : t318 = true
            ·subst c46
             have H1 : (some (t315, true)) = some (r1, r2) := by rw [if_pos rfl] at H; exact H
             clear H
             have H := H1
             clear H1
             simp only [Option.some.injEq, Prod.mk.injEq] at H
             obtain ⟨rfl, rfl⟩ := H
             try go_wp2
             have n0_ := am_ (Kd.R_drew HO_1.out)
             have n1_ := am_ (Kd.R_drew HO_44.out)
             have n2_ := am_ (blk_drew BK296.out)
             have n3_ := am_ (Kept.drew HK.out)
             have n4_ := am_ (below_drew1 HB.out)
             clear HO_1
             clear HO_44
             clear BK296
             clear HK
             clear HB
             have HO_1 := n0_
             have HO_44 := n1_
             have BK296 := n2_
             have HK := n3_
             have HB := n4_
             clear n0_ n1_ n2_ n3_ n4_
             refine start_ (n := 13) (S := fun w' => w'.cell? ⟨gb296, 0, none⟩ = some (.int .i64 (wrap64 (Int.tdiv x9_1 (wrap64 (a2 + 1))))) ∧ w'.cell? ⟨gb296, 1, none⟩ = some (.int .i64 (Int.tmod x9_1 (wrap64 (a2 + 1))))) (ds := []) #[false, false, false, false, false, false, false, false, false, false, false, false, false] (by kernel_rfl) rfl rfl ⟨(blk_cell BK296.out 0).trans rfl, (blk_cell BK296.out 1).trans rfl⟩ (fun hHeld => ?_); refine with_tabW impl_chi_place.tab15 impl_chi_place.bits15 (fun HT_ HW_ => ?_)
             generalize wr.drew = w47 at HO_1 HO_44 BK296 HK HB hHeld ⊢
             refine pure_ (i := 0) (N := some 82) (v := ?_) (a' := ?_) #[true, false, false, false, false, false, false, false, false, false, false, false, false] rfl rfl (any_of HT_.out (by kernel_rfl)) (fun _ _ _ h => h) (Or.inl ⟨by rfl, ?_⟩) ?_ ?_
             rotate_left
             ·intro w'
              go_simp
              with_reducible rfl
             rotate_left
             ·simp only [Act.put, sA_, sZ_, sS_, i64_w, i32_w]
              rfl
             refine pure_ (i := 1) (N := some 83) (v := ?_) (a' := ?_) #[true, true, false, false, false, false, false, false, false, false, false, false, false] rfl rfl (any_of HT_.out (by kernel_rfl)) (fun _ _ _ h => h) (Or.inl ⟨by rfl, ?_⟩) ?_ ?_
             rotate_left
             ·intro w'
              go_simp
              with_reducible rfl
             rotate_left
             ·simp only [Act.put, sA_, sZ_, sS_, i64_w, i32_w]
              rfl
             refine pure_ (i := 6) (N := some 88) (v := ?_) (a' := ?_) #[true, true, false, false, false, false, true, false, false, false, false, false, false] rfl rfl (any_of HT_.out (by kernel_rfl)) (fun _ _ _ h => h) (Or.inl ⟨by rfl, ?_⟩) ?_ ?_
             rotate_left
             ·intro w'
              go_simp
              with_reducible rfl
             rotate_left
             ·simp only [Act.put, sA_, sZ_, sS_, i64_w, i32_w]
              rfl
             refine take_ (i := 3) (N := some 85) (v := ?_) (a' := ?_) #[true, true, false, true, false, false, true, false, false, false, false, false, false] rfl rfl (take_ofW HT_.out HW_.out (by kernel_rfl)) (fun _ _ _ h => h) (Or.inl ⟨by rfl, ?_⟩) hHeld ?_ ?_
             rotate_left
             ·rintro w' ⟨s0, s1⟩
              go_simp
              with_reducible rfl
             rotate_left
             ·simp only [Act.put, sA_, sZ_, sS_, i64_w, i32_w]
              rfl
             refine join_ (σ := Value × Value) 7 #[true, true, true, true, true, false, true, false, false, false, false, false, false] (fun s_ => [(84, s_.1), (86, s_.2)]) (fun s_ w' => (w'.cell? ⟨gb296, 0, none⟩ = some (.int .i64 (wrap64 (Int.tdiv x9_1 (wrap64 (a2 + 1))))) ∧ w'.cell? ⟨gb296, 1, none⟩ = some (.int .i64 (Int.tmod x9_1 (wrap64 (a2 + 1))))) ∧ (Kd.R k54 54 w' w0.heap.size (fun k_ => (P1_ k_ ∨ w.heap.size ≤ k_) ∧ some k_ ≠ (s_.2 : Value).ownBlock ∧ some k_ ≠ (.slice Ao7 l1.length co7 : Value).ownBlock ∧ k_ ≠ gb296) s_.1 t306) ∧ (Kd.R k54 54 w' w0.heap.size (fun k_ => (P1_ k_ ∨ w.heap.size ≤ k_) ∧ some k_ ≠ (s_.1 : Value).ownBlock ∧ some k_ ≠ (.slice Ao7 l1.length co7 : Value).ownBlock ∧ k_ ≠ gb296) s_.2 y309) ∧ (Kd.R k54 54 w' w0.heap.size (fun k_ => (P1_ k_ ∨ w.heap.size ≤ k_) ∧ some k_ ≠ (s_.1 : Value).ownBlock ∧ some k_ ≠ (s_.2 : Value).ownBlock ∧ k_ ≠ gb296) (.slice Ao7 l1.length co7) l1) ∧ (Kd.R k81 81 w' w0.heap.size (fun k_ => (P1_ k_ ∨ w.heap.size ≤ k_)) (.slice Ao16 t297.length co16) t297) ∧ (w'.heap[gb296]? = some (.cells #[.int .i64 (wrap64 (Int.tdiv x9_1 (wrap64 (a2 + 1)))), .int .i64 (Int.tmod x9_1 (wrap64 (a2 + 1)))] 54 (0, 0))) ∧ (Kept w w' (fun k_ => P1_ k_)) ∧ (Below w0.heap.size w0 w')) ?_ ?_
             rotate_left
             ·intro hCont
              refine two_ (i := 2) (j := 4) (Ni := some 84) (Nj := some 86) #[true, true, true, true, false, false, true, false, false, false, false, false, false] #[true, true, false, true, true, false, true, false, false, false, false, false, false] rfl rfl rfl rfl (two_of HT_.out (by kernel_rfl)) (by decide) (by decide) (fun K hK => ?_) (fun K hK => ?_)
              ·skip
               refine goes_ Try.func56 (by kernel_rfl) rfl #[.slice Ao7 l1.length co7] (by rfl) rfl rfl (by (try simp only [List.map_toArray, List.map_cons, List.map_nil]); first | done | rfl | (simp only [List.length_drop, List.length_take]; rfl)) ?_
               with_reducible refine (slices_Clone_Simpl_Point_impl_Point.calls _ _ l1 t306 _ ?side1 ?side2 A43.out).mono ?_
               (case side1 => repeat (first | exact (Kd.R_reads' HO_1.out).2.2 | (with_reducible refine Kd.C_alloc ?_ _) | (with_reducible refine Kd.C_drewN ?_ _) | (with_reducible refine Kd.C_drew ?_)))
               (case side2 => exact (Kd.R_reads' HO_1.out).2.1)
               rintro e w48 ⟨v307, rfl, ho0, hb⟩
               refine ⟨_, rfl, ?_⟩
               have n0_ := am_ (Kd.R_elder' (rx_ HO_1.out) (Kd.R_base ho0) hb)
               have n1_ := am_ (Kd.R_below (rx_ HO_44.out) hb)
               have n2_ := am_ (Kd.R_lower (Kd.R_newB (Kd.R_new' (Kd.R_newM (M := fun k_ => (P1_ k_ ∨ w.heap.size ≤ k_)) ho0 (by first | exact HK.out.1 | exact (show Kept w _ (fun k_ => P1_ k_) from by repeat (first | (with_reducible first | exact HK.out | apply Kept.alloc | apply Kept.drewN | apply Kept.drew | refine Kept.setCell ?_ (.inr GW296.out) _) | exact HK.out)).1) (fun k_ h_ => .inr h_)) (Kd.R_lt (rx_ HO_1.out))) (g := gb296) (o := .cells #[.int .i64 (wrap64 (Int.tdiv x9_1 (wrap64 (a2 + 1)))), .int .i64 (Int.tmod x9_1 (wrap64 (a2 + 1)))] 54 (0, 0)) (kx_ BK296.out)) (below_size (bx1 HB.out GE296.out)))
               have n3_ := am_ (blk_below (g := gb296) (o := .cells #[.int .i64 (wrap64 (Int.tdiv x9_1 (wrap64 (a2 + 1)))), .int .i64 (Int.tmod x9_1 (wrap64 (a2 + 1)))] 54 (0, 0)) (kx_ BK296.out) hb)
               have n4_ := am_ (Kept.below (S := (fun k_ => P1_ k_)) (by repeat (first | (with_reducible first | exact HK.out | apply Kept.alloc | apply Kept.drewN | apply Kept.drew | refine Kept.setCell ?_ (.inr GW296.out) _) | exact HK.out)) hb)
               have n5_ := am_ (below_step (bx1 HB.out GE296.out) hb)
               clear HO_1
               clear HO_44
               clear BK296
               clear HK
               clear HB
               have HO_1 := n0_
               have HO_44 := n1_
               have HO308 := n2_
               have BK296 := n3_
               have HK := n4_
               have HB := n5_
               clear n0_ n1_ n2_ n3_ n4_ n5_
               (try clear hb)
               (try clear hb2)
               (try clear hk)
               (try clear hi)
               (try clear ho0)
               refine hK.out _ _ ⟨(blk_cell BK296.out 0).trans rfl, (blk_cell BK296.out 1).trans rfl⟩ (fun hHeld => ?_)
               clear hK K
               refine norm_ (a' := ?_) ?_ ?_
               rotate_left
               ·show Act.put _ (some 84) _ = _
                simp only [Act.put, sA_, sZ_, sS_, i64_w, i32_w]
                rfl
               refine one_ (i := 4) (N := some 86) #[true, true, true, true, true, false, true, false, false, false, false, false, false] rfl rfl (one_of HT_.out (by kernel_rfl)) (by decide) (fun K hK => ?_)
               refine Kd.R_lit_step k54 _ 54 ?hg (N := 86) ?hd (xs := ([(⟨(wrap64 (Int.tdiv x9_1 (wrap64 (a2 + 1)))), (Int.tmod x9_1 (wrap64 (a2 + 1)))⟩ : S54)] : List (S54))) (inner := [.int .i64 (wrap64 (Int.tdiv x9_1 (wrap64 (a2 + 1)))), .int .i64 (Int.tmod x9_1 (wrap64 (a2 + 1)))]) (ok := fun _ => True) (okp := fun _ => True) ?hr ?hp (fun _ hk => hk) trivial (Below.refl _ _) (Nat.le_refl _) (by simp) ?_; (case hd => rfl); (case hg => rfl); (case hr => first | (go_simp; done) | (go_simp; rfl)); (case hp => exact (Reps.c2 (show Kd.M k54 _ _ _ (⟨(wrap64 (Int.tdiv x9_1 (wrap64 (a2 + 1)))), (Int.tmod x9_1 (wrap64 (a2 + 1)))⟩ : S54) [.int .i64 (wrap64 (Int.tdiv x9_1 (wrap64 (a2 + 1)))), .int .i64 (Int.tmod x9_1 (wrap64 (a2 + 1)))] from (k54_mkM _ _ _ (⟨(wrap64 (Int.tdiv x9_1 (wrap64 (a2 + 1)))), (Int.tmod x9_1 (wrap64 (a2 + 1)))⟩ : S54) )) (Reps.none _ _)))
               intro v310 w49 ho50 hb hg_ hnew_
               clear hg_ hnew_
               (first | rw [← Ny309.out] at ho50 | (simp only [Int.reduceToNat] at ho50; rw [← Ny309.out] at ho50))
               have n0_ := am_ (Kd.R_elder' (rx_ HO_1.out) (Kd.R_base ho50) hb)
               have n1_ := am_ (Kd.R_below (rx_ HO_44.out) hb)
               have n2_ := am_ (Kd.R_elder' (rx_ HO308.out) (Kd.R_base ho50) hb)
               have n3_ := am_ (Kd.R_lower (Kd.R_newB (Kd.R_new' (Kd.R_new' (Kd.R_newM (M := fun k_ => (P1_ k_ ∨ w.heap.size ≤ k_)) ho50 (by first | exact HK.out.1 | exact (show Kept w _ (fun k_ => P1_ k_) from by repeat (first | (with_reducible first | exact HK.out | apply Kept.alloc | apply Kept.drewN | apply Kept.drew | refine Kept.setCell ?_ (.inr GW296.out) _) | exact HK.out)).1) (fun k_ h_ => .inr h_)) (Kd.R_lt (rx_ HO_1.out))) (Kd.R_lt (rx_ HO308.out))) (g := gb296) (o := .cells #[.int .i64 (wrap64 (Int.tdiv x9_1 (wrap64 (a2 + 1)))), .int .i64 (Int.tmod x9_1 (wrap64 (a2 + 1)))] 54 (0, 0)) (kx_ BK296.out)) (below_size (bx1 HB.out GE296.out)))
               have n4_ := am_ (blk_below (g := gb296) (o := .cells #[.int .i64 (wrap64 (Int.tdiv x9_1 (wrap64 (a2 + 1)))), .int .i64 (Int.tmod x9_1 (wrap64 (a2 + 1)))] 54 (0, 0)) (kx_ BK296.out) hb)
               have n5_ := am_ (Kept.below (S := (fun k_ => P1_ k_)) (by repeat (first | (with_reducible first | exact HK.out | apply Kept.alloc | apply Kept.drewN | apply Kept.drew | refine Kept.setCell ?_ (.inr GW296.out) _) | exact HK.out)) hb)
               have n6_ := am_ (below_step (bx1 HB.out GE296.out) hb)
               clear HO_1
               clear HO_44
               clear HO308
               clear BK296
               clear HK
               clear HB
               have HO_1 := n0_
               have HO_44 := n1_
               have HO308 := n2_
               have HO311 := n3_
               have BK296 := n4_
               have HK := n5_
               have HB := n6_
               clear n0_ n1_ n2_ n3_ n4_ n5_ n6_
               clear hb ho50
               refine hK.out _ _ ⟨(blk_cell BK296.out 0).trans rfl, (blk_cell BK296.out 1).trans rfl⟩ (fun hHeld => ?_)
               clear hK K
               refine norm_ (a' := ?_) ?_ ?_
               rotate_left
               ·show Act.put _ (some 86) _ = _
                simp only [Act.put, sA_, sZ_, sS_, i64_w, i32_w]
                rfl
               exact norm_ (by simp only [putAll, Act.put, sA_, sZ_, sS_]) (hCont (v307, v310) _ ⟨hHeld, (by (with_reducible repeat (first | apply Kd.R_alloc | apply Kd.R_drewN | apply Kd.R_drew)); exact Kd.R_mono HO308.out (fun _ hk => ⟨hk.1.1.1.1, ⟨hk.2, ⟨hk.1.1.2, hk.1.2⟩⟩⟩)), (by (with_reducible repeat (first | apply Kd.R_alloc | apply Kd.R_drewN | apply Kd.R_drew)); exact Kd.R_mono HO311.out (fun _ hk => ⟨hk.1.1.1.1, ⟨hk.1.2, ⟨hk.1.1.2, hk.2⟩⟩⟩)), (by (with_reducible repeat (first | apply Kd.R_alloc | apply Kd.R_drewN | apply Kd.R_drew)); exact Kd.R_mono HO_1.out (fun _ hk => ⟨hk.1.1.1, ⟨hk.1.2, ⟨hk.2, hk.1.1.2⟩⟩⟩)), (rx_ HO_44.out), (kx_ BK296.out), (by repeat (first | (with_reducible first | exact HK.out | apply Kept.alloc | apply Kept.drewN | apply Kept.drew | refine Kept.setCell ?_ (.inr GW296.out) _) | exact HK.out)), (bx1 HB.out GE296.out)⟩)
              ·skip
               refine Kd.R_lit_step k54 _ 54 ?hg (N := 86) ?hd (xs := ([(⟨(wrap64 (Int.tdiv x9_1 (wrap64 (a2 + 1)))), (Int.tmod x9_1 (wrap64 (a2 + 1)))⟩ : S54)] : List (S54))) (inner := [.int .i64 (wrap64 (Int.tdiv x9_1 (wrap64 (a2 + 1)))), .int .i64 (Int.tmod x9_1 (wrap64 (a2 + 1)))]) (ok := fun _ => True) (okp := fun _ => True) ?hr ?hp (fun _ hk => hk) trivial (Below.refl _ _) (Nat.le_refl _) (by simp) ?_; (case hd => rfl); (case hg => rfl); (case hr => first | (go_simp; done) | (go_simp; rfl)); (case hp => exact (Reps.c2 (show Kd.M k54 _ _ _ (⟨(wrap64 (Int.tdiv x9_1 (wrap64 (a2 + 1)))), (Int.tmod x9_1 (wrap64 (a2 + 1)))⟩ : S54) [.int .i64 (wrap64 (Int.tdiv x9_1 (wrap64 (a2 + 1)))), .int .i64 (Int.tmod x9_1 (wrap64 (a2 + 1)))] from (k54_mkM _ _ _ (⟨(wrap64 (Int.tdiv x9_1 (wrap64 (a2 + 1)))), (Int.tmod x9_1 (wrap64 (a2 + 1)))⟩ : S54) )) (Reps.none _ _)))
               intro v310 w48 ho49 hb hg_ hnew_
               clear hg_ hnew_
               (first | rw [← Ny309.out] at ho49 | (simp only [Int.reduceToNat] at ho49; rw [← Ny309.out] at ho49))
               have n0_ := am_ (Kd.R_elder' (rx_ HO_1.out) (Kd.R_base ho49) hb)
               have n1_ := am_ (Kd.R_below (rx_ HO_44.out) hb)
               have n2_ := am_ (Kd.R_lower (Kd.R_newB (Kd.R_new' (Kd.R_newM (M := fun k_ => (P1_ k_ ∨ w.heap.size ≤ k_)) ho49 (by first | exact HK.out.1 | exact (show Kept w _ (fun k_ => P1_ k_) from by repeat (first | (with_reducible first | exact HK.out | apply Kept.alloc | apply Kept.drewN | apply Kept.drew | refine Kept.setCell ?_ (.inr GW296.out) _) | exact HK.out)).1) (fun k_ h_ => .inr h_)) (Kd.R_lt (rx_ HO_1.out))) (g := gb296) (o := .cells #[.int .i64 (wrap64 (Int.tdiv x9_1 (wrap64 (a2 + 1)))), .int .i64 (Int.tmod x9_1 (wrap64 (a2 + 1)))] 54 (0, 0)) (kx_ BK296.out)) (below_size (bx1 HB.out GE296.out)))
               have n3_ := am_ (blk_below (g := gb296) (o := .cells #[.int .i64 (wrap64 (Int.tdiv x9_1 (wrap64 (a2 + 1)))), .int .i64 (Int.tmod x9_1 (wrap64 (a2 + 1)))] 54 (0, 0)) (kx_ BK296.out) hb)
               have n4_ := am_ (Kept.below (S := (fun k_ => P1_ k_)) (by repeat (first | (with_reducible first | exact HK.out | apply Kept.alloc | apply Kept.drewN | apply Kept.drew | refine Kept.setCell ?_ (.inr GW296.out) _) | exact HK.out)) hb)
               have n5_ := am_ (below_step (bx1 HB.out GE296.out) hb)
               clear HO_1
               clear HO_44
               clear BK296
               clear HK
               clear HB
               have HO_1 := n0_
               have HO_44 := n1_
               have HO311 := n2_
               have BK296 := n3_
               have HK := n4_
               have HB := n5_
               clear n0_ n1_ n2_ n3_ n4_ n5_
               clear hb ho49
               refine hK.out _ _ ⟨(blk_cell BK296.out 0).trans rfl, (blk_cell BK296.out 1).trans rfl⟩ (fun hHeld => ?_)
               clear hK K
               refine norm_ (a' := ?_) ?_ ?_
               rotate_left
               ·show Act.put _ (some 86) _ = _
                simp only [Act.put, sA_, sZ_, sS_, i64_w, i32_w]
                rfl
               refine one_ (i := 2) (N := some 84) #[true, true, true, true, true, false, true, false, false, false, false, false, false] rfl rfl (one_of HT_.out (by kernel_rfl)) (by decide) (fun K hK => ?_)
               refine goes_ Try.func56 (by kernel_rfl) rfl #[.slice Ao7 l1.length co7] (by rfl) rfl rfl (by (try simp only [List.map_toArray, List.map_cons, List.map_nil]); first | done | rfl | (simp only [List.length_drop, List.length_take]; rfl)) ?_
               with_reducible refine (slices_Clone_Simpl_Point_impl_Point.calls _ _ l1 t306 _ ?side1 ?side2 A43.out).mono ?_
               (case side1 => repeat (first | exact (Kd.R_reads' HO_1.out).2.2 | (with_reducible refine Kd.C_alloc ?_ _) | (with_reducible refine Kd.C_drewN ?_ _) | (with_reducible refine Kd.C_drew ?_)))
               (case side2 => exact (Kd.R_reads' HO_1.out).2.1)
               rintro e w50 ⟨v307, rfl, ho0, hb⟩
               refine ⟨_, rfl, ?_⟩
               have n0_ := am_ (Kd.R_elder' (rx_ HO_1.out) (Kd.R_base ho0) hb)
               have n1_ := am_ (Kd.R_below (rx_ HO_44.out) hb)
               have n2_ := am_ (Kd.R_elder' (rx_ HO311.out) (Kd.R_base ho0) hb)
               have n3_ := am_ (Kd.R_lower (Kd.R_newB (Kd.R_new' (Kd.R_new' (Kd.R_newM (M := fun k_ => (P1_ k_ ∨ w.heap.size ≤ k_)) ho0 (by first | exact HK.out.1 | exact (show Kept w _ (fun k_ => P1_ k_) from by repeat (first | (with_reducible first | exact HK.out | apply Kept.alloc | apply Kept.drewN | apply Kept.drew | refine Kept.setCell ?_ (.inr GW296.out) _) | exact HK.out)).1) (fun k_ h_ => .inr h_)) (Kd.R_lt (rx_ HO_1.out))) (Kd.R_lt (rx_ HO311.out))) (g := gb296) (o := .cells #[.int .i64 (wrap64 (Int.tdiv x9_1 (wrap64 (a2 + 1)))), .int .i64 (Int.tmod x9_1 (wrap64 (a2 + 1)))] 54 (0, 0)) (kx_ BK296.out)) (below_size (bx1 HB.out GE296.out)))
               have n4_ := am_ (blk_below (g := gb296) (o := .cells #[.int .i64 (wrap64 (Int.tdiv x9_1 (wrap64 (a2 + 1)))), .int .i64 (Int.tmod x9_1 (wrap64 (a2 + 1)))] 54 (0, 0)) (kx_ BK296.out) hb)
               have n5_ := am_ (Kept.below (S := (fun k_ => P1_ k_)) (by repeat (first | (with_reducible first | exact HK.out | apply Kept.alloc | apply Kept.drewN | apply Kept.drew | refine Kept.setCell ?_ (.inr GW296.out) _) | exact HK.out)) hb)
               have n6_ := am_ (below_step (bx1 HB.out GE296.out) hb)
               clear HO_1
               clear HO_44
               clear HO311
               clear BK296
               clear HK
               clear HB
               have HO_1 := n0_
               have HO_44 := n1_
               have HO311 := n2_
               have HO308 := n3_
               have BK296 := n4_
               have HK := n5_
               have HB := n6_
               clear n0_ n1_ n2_ n3_ n4_ n5_ n6_
               (try clear hb)
               (try clear hb2)
               (try clear hk)
               (try clear hi)
               (try clear ho0)
               refine hK.out _ _ ⟨(blk_cell BK296.out 0).trans rfl, (blk_cell BK296.out 1).trans rfl⟩ (fun hHeld => ?_)
               clear hK K
               refine norm_ (a' := ?_) ?_ ?_
               rotate_left
               ·show Act.put _ (some 84) _ = _
                simp only [Act.put, sA_, sZ_, sS_, i64_w, i32_w]
                rfl
               exact norm_ (by simp only [putAll, Act.put, sA_, sZ_, sS_]) (hCont (v307, v310) _ ⟨hHeld, (by (with_reducible repeat (first | apply Kd.R_alloc | apply Kd.R_drewN | apply Kd.R_drew)); exact Kd.R_mono HO308.out (fun _ hk => ⟨hk.1.1.1.1, ⟨hk.1.2, ⟨hk.1.1.2, hk.2⟩⟩⟩)), (by (with_reducible repeat (first | apply Kd.R_alloc | apply Kd.R_drewN | apply Kd.R_drew)); exact Kd.R_mono HO311.out (fun _ hk => ⟨hk.1.1.1.1, ⟨hk.2, ⟨hk.1.1.2, hk.1.2⟩⟩⟩)), (by (with_reducible repeat (first | apply Kd.R_alloc | apply Kd.R_drewN | apply Kd.R_drew)); exact Kd.R_mono HO_1.out (fun _ hk => ⟨hk.1.1.1, ⟨hk.2, ⟨hk.1.2, hk.1.1.2⟩⟩⟩)), (rx_ HO_44.out), (kx_ BK296.out), (by repeat (first | (with_reducible first | exact HK.out | apply Kept.alloc | apply Kept.drewN | apply Kept.drew | refine Kept.setCell ?_ (.inr GW296.out) _) | exact HK.out)), (bx1 HB.out GE296.out)⟩)
             rintro ⟨v307, v310⟩ w51 ⟨hS_, h0_, h1_, h2_, h3_, h4_, h5_, h6_⟩
             have n0_ : Aside0 (Kd.R k54 54 w51 w0.heap.size (fun k_ => (P1_ k_ ∨ w.heap.size ≤ k_) ∧ some k_ ≠ (v310 : Value).ownBlock ∧ some k_ ≠ (.slice Ao7 l1.length co7 : Value).ownBlock ∧ k_ ≠ gb296) v307 t306) := ⟨h0_⟩
             have n1_ : Aside0 (Kd.R k54 54 w51 w0.heap.size (fun k_ => (P1_ k_ ∨ w.heap.size ≤ k_) ∧ some k_ ≠ (v307 : Value).ownBlock ∧ some k_ ≠ (.slice Ao7 l1.length co7 : Value).ownBlock ∧ k_ ≠ gb296) v310 y309) := ⟨h1_⟩
             have n2_ : Aside0 (Kd.R k54 54 w51 w0.heap.size (fun k_ => (P1_ k_ ∨ w.heap.size ≤ k_) ∧ some k_ ≠ (v307 : Value).ownBlock ∧ some k_ ≠ (v310 : Value).ownBlock ∧ k_ ≠ gb296) (.slice Ao7 l1.length co7) l1) := ⟨h2_⟩
             have n3_ : Aside0 (Kd.R k81 81 w51 w0.heap.size (fun k_ => (P1_ k_ ∨ w.heap.size ≤ k_)) (.slice Ao16 t297.length co16) t297) := ⟨h3_⟩
             have n4_ : Aside0 (w51.heap[gb296]? = some (.cells #[.int .i64 (wrap64 (Int.tdiv x9_1 (wrap64 (a2 + 1)))), .int .i64 (Int.tmod x9_1 (wrap64 (a2 + 1)))] 54 (0, 0))) := ⟨h4_⟩
             have n5_ : Aside0 (Kept w w51 (fun k_ => P1_ k_)) := ⟨h5_⟩
             have n6_ : Aside0 (Below w0.heap.size w0 w51) := ⟨h6_⟩
             clear HO_1
             clear HO_44
             clear BK296
             clear HK
             clear HB
             clear h0_ h1_ h2_ h3_ h4_ h5_ h6_
             have HO308 := n0_
             have HO311 := n1_
             have HO_1 := n2_
             have HO_44 := n3_
             have BK296 := n4_
             have HK := n5_
             have HB := n6_
             clear n0_ n1_ n2_ n3_ n4_ n5_ n6_
             have hHeld : w51.cell? ⟨gb296, 0, none⟩ = some (.int .i64 (wrap64 (Int.tdiv x9_1 (wrap64 (a2 + 1))))) ∧ w51.cell? ⟨gb296, 1, none⟩ = some (.int .i64 (Int.tmod x9_1 (wrap64 (a2 + 1)))) := hS_
             obtain ⟨Ao53, co53, eo53⟩ := Kd.R_slice HO311.out
             (first | subst eo53 | (injection eo53 with f1_ f2_ f3_; have f4_ := f1_.symm; have f5_ := f3_.symm; clear f1_ f2_ f3_; subst f4_; subst f5_))
             refine norm_ (a' := ?_) ?_ ?_
             rotate_left
             ·simp only [putAll, Act.put, sA_, sZ_, sS_]
              rfl
             refine one_ (i := 5) (N := some 87) #[true, true, true, true, true, true, true, false, false, false, false, false, false] rfl rfl (one_of HT_.out (by kernel_rfl)) (by decide) (fun K hK => ?_)
             refine Kd.R_append_rows_step k54 (w0 := w0) w0.heap.size (by rfl) (.tmp 84) (.tmp 86) 25 54 (.agg #[(.int .i64 0), (.int .i64 0)]) 16 rfl Try.underlying25 info54 rfl (by decide) (by omega) v307 t306 y309 _ _ _ (fun k_ => (P1_ k_ ∨ w.heap.size ≤ k_) ∧ some k_ ≠ (.slice Ao7 l1.length co7 : Value).ownBlock ∧ some k_ ≠ (.slice Ao53 y309.length co53 : Value).ownBlock ∧ k_ ≠ gb296) (fun _ => False) rfl rfl ?aO ?aR (fun _ _ h => h) (fun _ h => h.elim) ?aF ?aB ?aS ?aL ?_
             (case aR => repeat (first | exact (Kd.R_reads' HO311.out).2.2 | (with_reducible refine Kd.C_alloc ?_ _) | (with_reducible refine Kd.C_drewN ?_ _) | (with_reducible refine Kd.C_drew ?_)))
             (case aB => exact (bx1 HB.out GE296.out))
             (case aF => exact (fun k_ hk => ⟨(.inr (Nat.le_trans (by first | exact HK.out.1 | exact (show Kept w _ (fun k_ => P1_ k_) from by repeat (first | (with_reducible first | exact HK.out | apply Kept.alloc | apply Kept.drewN | apply Kept.drew | refine Kept.setCell ?_ (.inr GW296.out) _) | exact HK.out)).1) hk)), Kd.fresh' (Kd.R_lt (rx_ HO_1.out)) k_ hk, Kd.fresh' (Kd.R_lt (rx_ HO311.out)) k_ hk, Kd.freshB (g := gb296) (o := .cells #[.int .i64 (wrap64 (Int.tdiv x9_1 (wrap64 (a2 + 1)))), .int .i64 (Int.tmod x9_1 (wrap64 (a2 + 1)))] 54 (0, 0)) (kx_ BK296.out) k_ hk⟩))
             (case aO => exact (by (with_reducible repeat (first | apply Kd.R_alloc | apply Kd.R_drewN | apply Kd.R_drew)); exact Kd.R_mono HO308.out (fun _ hk => ⟨hk.1, ⟨hk.2.2.1, ⟨hk.2.1, hk.2.2.2⟩⟩⟩)))
             (case aS => exact (below_size (bx1 HB.out GE296.out)))
             (case aL => have := LMc44.out; omega)
             intro v313 w52 ho hb hg hat
             rw [← Ny312.out] at ho
             have n0_ := am_ (Kd.R_after (ok := (fun k_ => (P1_ k_ ∨ w.heap.size ≤ k_) ∧ some k_ ≠ (.slice Ao53 y309.length co53 : Value).ownBlock ∧ k_ ≠ gb296)) (by (with_reducible repeat (first | apply Kd.R_alloc | apply Kd.R_drewN | apply Kd.R_drew)); exact Kd.R_mono HO_1.out (fun _ hk => ⟨⟨hk.1, ⟨hk.2.2.1, hk.2.2.2⟩⟩, hk.2.1⟩)) hg hat)
             have n1_ := am_ (Kd.R_over' (rx_ HO_44.out) (Kd.R_typed (rx_ HO308.out)) (by decide) hg)
             have n2_ := am_ (blk_grown (g := gb296) (o := .cells #[.int .i64 (wrap64 (Int.tdiv x9_1 (wrap64 (a2 + 1)))), .int .i64 (Int.tmod x9_1 (wrap64 (a2 + 1)))] 54 (0, 0)) (kx_ BK296.out) hg (Kd.R_away HO308.out (fun _ hk => hk.2.2.2)))
             have n3_ := am_ (Kd.R_after (ok := (fun k_ => (P1_ k_ ∨ w.heap.size ≤ k_) ∧ some k_ ≠ (.slice Ao7 l1.length co7 : Value).ownBlock ∧ k_ ≠ gb296)) (by (with_reducible repeat (first | apply Kd.R_alloc | apply Kd.R_drewN | apply Kd.R_drew)); exact Kd.R_mono HO311.out (fun _ hk => ⟨⟨hk.1, ⟨hk.2.2.1, hk.2.2.2⟩⟩, hk.2.1⟩)) hg hat)
             have n4_ := am_ (hb)
             have n5_ := am_ (Kept.of_grown (S := (fun k_ => P1_ k_)) hg (by repeat (first | (with_reducible first | exact HK.out | apply Kept.alloc | apply Kept.drewN | apply Kept.drew | refine Kept.setCell ?_ (.inr GW296.out) _) | exact HK.out)) (fun k_ e_ => (HO308.out.1 k_ e_).1))
             have n6_ := am_ (ho)
             clear HO_1
             clear HO_44
             clear BK296
             clear HO311
             clear HB
             clear HK
             clear HO308
             have HO_1 := n0_
             have HO_44 := n1_
             have BK296 := n2_
             have HO311 := n3_
             have HB := n4_
             have HK := n5_
             have HO314 := n6_
             clear n0_ n1_ n2_ n3_ n4_ n5_ n6_
             clear ho hb hg hat
             obtain ⟨Ao54, co54, eo54⟩ := Kd.R_slice HO314.out
             (first | subst eo54 | (injection eo54 with f1_ f2_ f3_; have f4_ := f1_.symm; have f5_ := f3_.symm; clear f1_ f2_ f3_; subst f4_; subst f5_))
             refine hK.out _ _ ⟨(blk_cell BK296.out 0).trans rfl, (blk_cell BK296.out 1).trans rfl⟩ (fun hHeld => ?_)
             clear hK K
             refine norm_ (a' := ?_) ?_ ?_
             rotate_left
             ·show Act.put _ (some 87) _ = _
              simp only [Act.put, sA_, sZ_, sS_, i64_w, i32_w]
              rfl
             refine one_ (i := 7) (N := some 89) #[true, true, true, true, true, true, true, true, false, false, false, false, false] rfl rfl (one_of HT_.out (by kernel_rfl)) (by decide) (fun K hK => ?_)
             refine goes_ Try.func34 (by kernel_rfl) rfl #[.pointer (some ad295), .slice Ao54 y312.length co54, .int .i64 a2] (by rfl) rfl rfl (by (try simp only [List.map_toArray, List.map_cons, List.map_nil]); first | done | rfl | (simp only [List.length_drop, List.length_take]; rfl)) ?_
             refine (ih k2 (by have := HK1.out; have := HK2.out; omega) _ c0 l0 (fun k_ => some k_ = (.slice Ao54 y312.length co54 : Value).ownBlock) (.slice Ao54 y312.length co54) y312 a2 t315 true w0 _ ?side1 ?side2 ?side3 ?side4 A45.out).mono ?_
             (case side1 => repeat (first | (with_reducible first | exact HB.out | apply below_alloc | apply pw_below_drewN | apply below_drew1 | refine below_set ?_ GE296.out) | exact HB.out))
             (case side2 => exact Kd.C_kept_call HR0.out (by repeat (first | (with_reducible first | exact HK.out | apply Kept.alloc | apply Kept.drewN | apply Kept.drew | refine Kept.setCell ?_ (.inr GW296.out) _) | exact HK.out)) (fun k_ hs_ => (fun e_ => (HO314.out.1 k_ e_.symm).1) hs_))
             (case side3 => exact HC0.out)
             (case side4 => exact Kd.R_tight rfl HO314.out)
             rintro e w55 ⟨v316, rfl, ho0, hb, hkp⟩
             refine ⟨_, rfl, ?_⟩
             have n0_ := am_ (Kd.R_mono (ok' := fun k_ => (P1_ k_ ∨ w.heap.size ≤ k_) ∧ some k_ ≠ (.slice Ao53 y309.length co53 : Value).ownBlock ∧ k_ ≠ gb296 ∧ some k_ ≠ (v316 : Value).ownBlock) (Kd.R_keptB (HO_1.out) hkp (fun k_ hk_ hs_ => (hk_.2) hs_)) (fun k_ hk_ => ⟨hk_.1.1.1, hk_.1.1.2.1, hk_.1.1.2.2, fun e_ => Or.elim (ho0.1 k_ e_.symm) (fun hs_ => hk_.2.1 hs_) (fun hn_ => Nat.not_le.2 hk_.2.2 hn_)⟩))
             have n1_ := am_ (Kd.R_mono (ok' := fun k_ => (P1_ k_ ∨ w.heap.size ≤ k_)) (Kd.R_keptB ((Kd.R_apart' HO_44.out (Kd.R_typed HO314.out) (by decide))) hkp (fun k_ hk_ hs_ => (hk_.2) hs_)) (fun k_ hk_ => hk_.1.1))
             have n2_ := am_ (blk_kept (kx_ BK296.out) hkp (fun hs_ => (fun e_ => (Kd.R_away HO314.out (fun _ hk => hk.2.2.2)) e_) hs_))
             have n3_ := am_ (Kd.R_mono (ok' := fun k_ => (P1_ k_ ∨ w.heap.size ≤ k_) ∧ some k_ ≠ (.slice Ao7 l1.length co7 : Value).ownBlock ∧ k_ ≠ gb296 ∧ some k_ ≠ (v316 : Value).ownBlock) (Kd.R_keptB (HO311.out) hkp (fun k_ hk_ hs_ => (hk_.2) hs_)) (fun k_ hk_ => ⟨hk_.1.1.1, hk_.1.1.2.1, hk_.1.1.2.2, fun e_ => Or.elim (ho0.1 k_ e_.symm) (fun hs_ => hk_.2.1 hs_) (fun hn_ => Nat.not_le.2 hk_.2.2 hn_)⟩))
             have n4_ := am_ (Kd.R_mono (ok' := fun k_ => (P1_ k_ ∨ w.heap.size ≤ k_) ∧ some k_ ≠ (.slice Ao7 l1.length co7 : Value).ownBlock ∧ some k_ ≠ (.slice Ao53 y309.length co53 : Value).ownBlock ∧ k_ ≠ gb296) ho0 (fun k_ hk_ => ⟨Or.elim hk_ (fun hs_ => (HO314.out.1 k_ (hs_).symm).1) (fun hn_ => (.inr (Nat.le_trans (by first | exact HK.out.1 | exact (show Kept w _ (fun k_ => P1_ k_) from by repeat (first | (with_reducible first | exact HK.out | apply Kept.alloc | apply Kept.drewN | apply Kept.drew | refine Kept.setCell ?_ (.inr GW296.out) _) | exact HK.out)).1) hn_))), Or.elim hk_ (fun hs_ => fun e_ => (((HO_1.out).1 k_ e_.symm).2) hs_) (fun hn_ => (Kd.fresh' (Kd.R_lt (rx_ HO_1.out)) k_ hn_)), Or.elim hk_ (fun hs_ => fun e_ => (((HO311.out).1 k_ e_.symm).2) hs_) (fun hn_ => (Kd.fresh' (Kd.R_lt (rx_ HO311.out)) k_ hn_)), Or.elim hk_ (fun hs_ => fun e_ => (Kd.R_away HO314.out (fun _ hk => hk.2.2.2)) (by rw [← e_]; exact hs_)) (fun hn_ => (Kd.freshB (g := gb296) (o := .cells #[.int .i64 (wrap64 (Int.tdiv x9_1 (wrap64 (a2 + 1)))), .int .i64 (Int.tmod x9_1 (wrap64 (a2 + 1)))] 54 (0, 0)) (kx_ BK296.out) k_ hn_))⟩))
             have n5_ := am_ (Kept.then_ (S := (fun k_ => P1_ k_)) (by repeat (first | (with_reducible first | exact HK.out | apply Kept.alloc | apply Kept.drewN | apply Kept.drew | refine Kept.setCell ?_ (.inr GW296.out) _) | exact HK.out)) hkp (fun k_ hs_ => (fun e_ => (HO314.out.1 k_ e_.symm).1) hs_))
             have n6_ := am_ (hb)
             clear HO_1
             clear HO_44
             clear BK296
             clear HO311
             clear HK
             clear HB
             clear HO314
             have HO_1 := n0_
             have HO_44 := n1_
             have BK296 := n2_
             have HO311 := n3_
             have HO317 := n4_
             have HK := n5_
             have HB := n6_
             clear n0_ n1_ n2_ n3_ n4_ n5_ n6_
             (try clear hb)
             (try clear hkp)
             (try clear ho0)
             refine hK.out _ _ ⟨(blk_cell BK296.out 0).trans rfl, (blk_cell BK296.out 1).trans rfl⟩ (fun hHeld => ?_)
             clear hK K
             refine norm_ (a' := ?_) ?_ ?_
             rotate_left
             ·show Act.put _ (some 89) _ = _
              simp only [Act.put, sA_, sZ_, sS_, i64_w, i32_w]
              rfl
             refine pure_ (i := 8) (N := some 81) (v := ?_) (a' := ?_) #[true, true, true, true, true, true, true, true, true, false, false, false, false] rfl rfl (any_of HT_.out (by kernel_rfl)) (fun _ _ _ h => h) (Or.inl ⟨by rfl, ?_⟩) ?_ ?_
             rotate_left
             ·intro w'
              go_simp
              with_reducible rfl
             rotate_left
             ·simp only [Act.put, sA_, sZ_, sS_, i64_w, i32_w]
              rfl
             refine pure_ (i := 9) (N := some 90) (v := ?_) (a' := ?_) #[true, true, true, true, true, true, true, true, true, true, false, false, false] rfl rfl (any_of HT_.out (by kernel_rfl)) (fun _ _ _ h => h) (Or.inl ⟨by rfl, ?_⟩) ?_ ?_
             rotate_left
             ·intro w'
              go_simp
              with_reducible rfl
             rotate_left
             ·simp only [Act.put, sA_, sZ_, sS_, i64_w, i32_w]
              rfl
             refine pure_ (i := 10) (N := some 91) (v := ?_) (a' := ?_) #[true, true, true, true, true, true, true, true, true, true, true, false, false] rfl rfl (any_of HT_.out (by kernel_rfl)) (fun _ _ _ h => h) (Or.inl ⟨by rfl, ?_⟩) ?_ ?_
             rotate_left
             ·intro w'
              go_simp
              with_reducible rfl
             rotate_left
             ·simp only [Act.put, sA_, sZ_, sS_, i64_w, i32_w]
              rfl
             refine pure_ (i := 11) (N := some 14) (v := ?_) (a' := ?_) #[true, true, true, true, true, true, true, true, true, true, true, true, false] rfl rfl (any_of HT_.out (by kernel_rfl)) (fun _ _ _ h => h) (Or.inl ⟨by rfl, ?_⟩) ?_ ?_
             rotate_left
             ·intro w'
              go_simp
              with_reducible rfl
             rotate_left
             ·simp only [Act.put, sA_, sZ_, sS_, i64_w, i32_w]
              rfl
             refine pure_ (i := 12) (N := some 15) (v := ?_) (a' := ?_) #[true, true, true, true, true, true, true, true, true, true, true, true, true] rfl rfl (any_of HT_.out (by kernel_rfl)) (fun _ _ _ h => h) (Or.inl ⟨by rfl, ?_⟩) ?_ ?_
             rotate_left
             ·intro w'
              go_simp
              with_reducible rfl
             rotate_left
             ·simp only [Act.put, sA_, sZ_, sS_, i64_w, i32_w]
              rfl
             refine done_ (done_of HT_.out (by kernel_rfl)) ?_
             try go_wp2
             go_ret2
             exact ⟨_, by first | rfl | (simp [errW_none, errW_some] <;> rfl) | (simp [*, errW_none, errW_some] <;> rfl), by (with_reducible repeat (first | apply Kd.R_alloc | apply Kd.R_drewN | apply Kd.R_drew)); exact Kd.R_mono HO317.out (fun _ hk => hk.1), bx1 HB.out GE296.out, by repeat (first | (with_reducible first | exact HK.out | apply Kept.alloc | apply Kept.drewN | apply Kept.drew | refine Kept.setCell ?_ (.inr GW296.out) _) | exact HK.out)⟩
            ·replace c46 := Bool.eq_false_iff.mpr c46
             subst c46
             have H1 : (impl_chi_place.l0 k2 l0 l1 a2 (l1.length : Int) (wrap64 (x9_1 + 1))) = some (r1, r2) := by rw [if_neg (show ¬ (false = true) by decide)] at H; exact H
             clear H
             have H := H1
             clear H1
             have H' := am_ H
             clear H
             try go_wp2
             have n0_ := am_ (Kd.R_drew HO_1.out)
             have n1_ := am_ (Kd.R_drew HO_44.out)
             have n2_ := am_ (blk_drew BK296.out)
             have n3_ := am_ (Kept.drew HK.out)
             have n4_ := am_ (below_drew1 HB.out)
             clear HO_1
             clear HO_44
             clear BK296
             clear HK
             clear HB
             have HO_1 := n0_
             have HO_44 := n1_
             have BK296 := n2_
             have HK := n3_
             have HB := n4_
             clear n0_ n1_ n2_ n3_ n4_
             refine start_ (n := 13) (S := fun w' => w'.cell? ⟨gb296, 0, none⟩ = some (.int .i64 (wrap64 (Int.tdiv x9_1 (wrap64 (a2 + 1))))) ∧ w'.cell? ⟨gb296, 1, none⟩ = some (.int .i64 (Int.tmod x9_1 (wrap64 (a2 + 1))))) (ds := []) #[false, false, false, false, false, false, false, false, false, false, false, false, false] (by kernel_rfl) rfl rfl ⟨(blk_cell BK296.out 0).trans rfl, (blk_cell BK296.out 1).trans rfl⟩ (fun hHeld => ?_); refine with_tabW impl_chi_place.tab15 impl_chi_place.bits15 (fun HT_ HW_ => ?_)
             generalize wr.drew = w56 at HO_1 HO_44 BK296 HK HB hHeld ⊢
             refine pure_ (i := 0) (N := some 82) (v := ?_) (a' := ?_) #[true, false, false, false, false, false, false, false, false, false, false, false, false] rfl rfl (any_of HT_.out (by kernel_rfl)) (fun _ _ _ h => h) (Or.inl ⟨by rfl, ?_⟩) ?_ ?_
             rotate_left
             ·intro w'
              go_simp
              with_reducible rfl
             rotate_left
             ·simp only [Act.put, sA_, sZ_, sS_, i64_w, i32_w]
              rfl
             refine pure_ (i := 1) (N := some 83) (v := ?_) (a' := ?_) #[true, true, false, false, false, false, false, false, false, false, false, false, false] rfl rfl (any_of HT_.out (by kernel_rfl)) (fun _ _ _ h => h) (Or.inl ⟨by rfl, ?_⟩) ?_ ?_
             rotate_left
             ·intro w'
              go_simp
              with_reducible rfl
             rotate_left
             ·simp only [Act.put, sA_, sZ_, sS_, i64_w, i32_w]
              rfl
             refine pure_ (i := 6) (N := some 88) (v := ?_) (a' := ?_) #[true, true, false, false, false, false, true, false, false, false, false, false, false] rfl rfl (any_of HT_.out (by kernel_rfl)) (fun _ _ _ h => h) (Or.inl ⟨by rfl, ?_⟩) ?_ ?_
             rotate_left
             ·intro w'
              go_simp
              with_reducible rfl
             rotate_left
             ·simp only [Act.put, sA_, sZ_, sS_, i64_w, i32_w]
              rfl
             refine take_ (i := 3) (N := some 85) (v := ?_) (a' := ?_) #[true, true, false, true, false, false, true, false, false, false, false, false, false] rfl rfl (take_ofW HT_.out HW_.out (by kernel_rfl)) (fun _ _ _ h => h) (Or.inl ⟨by rfl, ?_⟩) hHeld ?_ ?_
             rotate_left
             ·rintro w' ⟨s0, s1⟩
              go_simp
              with_reducible rfl
             rotate_left
             ·simp only [Act.put, sA_, sZ_, sS_, i64_w, i32_w]
              rfl
             refine join_ (σ := Value × Value) 7 #[true, true, true, true, true, false, true, false, false, false, false, false, false] (fun s_ => [(84, s_.1), (86, s_.2)]) (fun s_ w' => (w'.cell? ⟨gb296, 0, none⟩ = some (.int .i64 (wrap64 (Int.tdiv x9_1 (wrap64 (a2 + 1))))) ∧ w'.cell? ⟨gb296, 1, none⟩ = some (.int .i64 (Int.tmod x9_1 (wrap64 (a2 + 1))))) ∧ (Kd.R k54 54 w' w0.heap.size (fun k_ => (P1_ k_ ∨ w.heap.size ≤ k_) ∧ some k_ ≠ (s_.2 : Value).ownBlock ∧ some k_ ≠ (.slice Ao7 l1.length co7 : Value).ownBlock ∧ k_ ≠ gb296) s_.1 t306) ∧ (Kd.R k54 54 w' w0.heap.size (fun k_ => (P1_ k_ ∨ w.heap.size ≤ k_) ∧ some k_ ≠ (s_.1 : Value).ownBlock ∧ some k_ ≠ (.slice Ao7 l1.length co7 : Value).ownBlock ∧ k_ ≠ gb296) s_.2 y309) ∧ (Kd.R k54 54 w' w0.heap.size (fun k_ => (P1_ k_ ∨ w.heap.size ≤ k_) ∧ some k_ ≠ (s_.1 : Value).ownBlock ∧ some k_ ≠ (s_.2 : Value).ownBlock ∧ k_ ≠ gb296) (.slice Ao7 l1.length co7) l1) ∧ (Kd.R k81 81 w' w0.heap.size (fun k_ => (P1_ k_ ∨ w.heap.size ≤ k_)) (.slice Ao16 t297.length co16) t297) ∧ (w'.heap[gb296]? = some (.cells #[.int .i64 (wrap64 (Int.tdiv x9_1 (wrap64 (a2 + 1)))), .int .i64 (Int.tmod x9_1 (wrap64 (a2 + 1)))] 54 (0, 0))) ∧ (Kept w w' (fun k_ => P1_ k_)) ∧ (Below w0.heap.size w0 w')) ?_ ?_
             rotate_left
             ·intro hCont
              refine two_ (i := 2) (j := 4) (Ni := some 84) (Nj := some 86) #[true, true, true, true, false, false, true, false, false, false, false, false, false] #[true, true, false, true, true, false, true, false, false, false, false, false, false] rfl rfl rfl rfl (two_of HT_.out (by kernel_rfl)) (by decide) (by decide) (fun K hK => ?_) (fun K hK => ?_)
              ·skip
               refine goes_ Try.func56 (by kernel_rfl) rfl #[.slice Ao7 l1.length co7] (by rfl) rfl rfl (by (try simp only [List.map_toArray, List.map_cons, List.map_nil]); first | done | rfl | (simp only [List.length_drop, List.length_take]; rfl)) ?_
               with_reducible refine (slices_Clone_Simpl_Point_impl_Point.calls _ _ l1 t306 _ ?side1 ?side2 A43.out).mono ?_
               (case side1 => repeat (first | exact (Kd.R_reads' HO_1.out).2.2 | (with_reducible refine Kd.C_alloc ?_ _) | (with_reducible refine Kd.C_drewN ?_ _) | (with_reducible refine Kd.C_drew ?_)))
               (case side2 => exact (Kd.R_reads' HO_1.out).2.1)
               rintro e w57 ⟨v307, rfl, ho0, hb⟩
               refine ⟨_, rfl, ?_⟩
               have n0_ := am_ (Kd.R_elder' (rx_ HO_1.out) (Kd.R_base ho0) hb)
               have n1_ := am_ (Kd.R_below (rx_ HO_44.out) hb)
               have n2_ := am_ (Kd.R_lower (Kd.R_newB (Kd.R_new' (Kd.R_newM (M := fun k_ => (P1_ k_ ∨ w.heap.size ≤ k_)) ho0 (by first | exact HK.out.1 | exact (show Kept w _ (fun k_ => P1_ k_) from by repeat (first | (with_reducible first | exact HK.out | apply Kept.alloc | apply Kept.drewN | apply Kept.drew | refine Kept.setCell ?_ (.inr GW296.out) _) | exact HK.out)).1) (fun k_ h_ => .inr h_)) (Kd.R_lt (rx_ HO_1.out))) (g := gb296) (o := .cells #[.int .i64 (wrap64 (Int.tdiv x9_1 (wrap64 (a2 + 1)))), .int .i64 (Int.tmod x9_1 (wrap64 (a2 + 1)))] 54 (0, 0)) (kx_ BK296.out)) (below_size (bx1 HB.out GE296.out)))
               have n3_ := am_ (blk_below (g := gb296) (o := .cells #[.int .i64 (wrap64 (Int.tdiv x9_1 (wrap64 (a2 + 1)))), .int .i64 (Int.tmod x9_1 (wrap64 (a2 + 1)))] 54 (0, 0)) (kx_ BK296.out) hb)
               have n4_ := am_ (Kept.below (S := (fun k_ => P1_ k_)) (by repeat (first | (with_reducible first | exact HK.out | apply Kept.alloc | apply Kept.drewN | apply Kept.drew | refine Kept.setCell ?_ (.inr GW296.out) _) | exact HK.out)) hb)
               have n5_ := am_ (below_step (bx1 HB.out GE296.out) hb)
               clear HO_1
               clear HO_44
               clear BK296
               clear HK
               clear HB
               have HO_1 := n0_
               have HO_44 := n1_
               have HO308 := n2_
               have BK296 := n3_
               have HK := n4_
               have HB := n5_
               clear n0_ n1_ n2_ n3_ n4_ n5_
               (try clear hb)
               (try clear hb2)
               (try clear hk)
               (try clear hi)
               (try clear ho0)
               refine hK.out _ _ ⟨(blk_cell BK296.out 0).trans rfl, (blk_cell BK296.out 1).trans rfl⟩ (fun hHeld => ?_)
               clear hK K
               refine norm_ (a' := ?_) ?_ ?_
               rotate_left
               ·show Act.put _ (some 84) _ = _
                simp only [Act.put, sA_, sZ_, sS_, i64_w, i32_w]
                rfl
               refine one_ (i := 4) (N := some 86) #[true, true, true, true, true, false, true, false, false, false, false, false, false] rfl rfl (one_of HT_.out (by kernel_rfl)) (by decide) (fun K hK => ?_)
               refine Kd.R_lit_step k54 _ 54 ?hg (N := 86) ?hd (xs := ([(⟨(wrap64 (Int.tdiv x9_1 (wrap64 (a2 + 1)))), (Int.tmod x9_1 (wrap64 (a2 + 1)))⟩ : S54)] : List (S54))) (inner := [.int .i64 (wrap64 (Int.tdiv x9_1 (wrap64 (a2 + 1)))), .int .i64 (Int.tmod x9_1 (wrap64 (a2 + 1)))]) (ok := fun _ => True) (okp := fun _ => True) ?hr ?hp (fun _ hk => hk) trivial (Below.refl _ _) (Nat.le_refl _) (by simp) ?_; (case hd => rfl); (case hg => rfl); (case hr => first | (go_simp; done) | (go_simp; rfl)); (case hp => exact (Reps.c2 (show Kd.M k54 _ _ _ (⟨(wrap64 (Int.tdiv x9_1 (wrap64 (a2 + 1)))), (Int.tmod x9_1 (wrap64 (a2 + 1)))⟩ : S54) [.int .i64 (wrap64 (Int.tdiv x9_1 (wrap64 (a2 + 1)))), .int .i64 (Int.tmod x9_1 (wrap64 (a2 + 1)))] from (k54_mkM _ _ _ (⟨(wrap64 (Int.tdiv x9_1 (wrap64 (a2 + 1)))), (Int.tmod x9_1 (wrap64 (a2 + 1)))⟩ : S54) )) (Reps.none _ _)))
               intro v310 w58 ho59 hb hg_ hnew_
               clear hg_ hnew_
               (first | rw [← Ny309.out] at ho59 | (simp only [Int.reduceToNat] at ho59; rw [← Ny309.out] at ho59))
               have n0_ := am_ (Kd.R_elder' (rx_ HO_1.out) (Kd.R_base ho59) hb)
               have n1_ := am_ (Kd.R_below (rx_ HO_44.out) hb)
               have n2_ := am_ (Kd.R_elder' (rx_ HO308.out) (Kd.R_base ho59) hb)
               have n3_ := am_ (Kd.R_lower (Kd.R_newB (Kd.R_new' (Kd.R_new' (Kd.R_newM (M := fun k_ => (P1_ k_ ∨ w.heap.size ≤ k_)) ho59 (by first | exact HK.out.1 | exact (show Kept w _ (fun k_ => P1_ k_) from by repeat (first | (with_reducible first | exact HK.out | apply Kept.alloc | apply Kept.drewN | apply Kept.drew | refine Kept.setCell ?_ (.inr GW296.out) _) | exact HK.out)).1) (fun k_ h_ => .inr h_)) (Kd.R_lt (rx_ HO_1.out))) (Kd.R_lt (rx_ HO308.out))) (g := gb296) (o := .cells #[.int .i64 (wrap64 (Int.tdiv x9_1 (wrap64 (a2 + 1)))), .int .i64 (Int.tmod x9_1 (wrap64 (a2 + 1)))] 54 (0, 0)) (kx_ BK296.out)) (below_size (bx1 HB.out GE296.out)))
               have n4_ := am_ (blk_below (g := gb296) (o := .cells #[.int .i64 (wrap64 (Int.tdiv x9_1 (wrap64 (a2 + 1)))), .int .i64 (Int.tmod x9_1 (wrap64 (a2 + 1)))] 54 (0, 0)) (kx_ BK296.out) hb)
               have n5_ := am_ (Kept.below (S := (fun k_ => P1_ k_)) (by repeat (first | (with_reducible first | exact HK.out | apply Kept.alloc | apply Kept.drewN | apply Kept.drew | refine Kept.setCell ?_ (.inr GW296.out) _) | exact HK.out)) hb)
               have n6_ := am_ (below_step (bx1 HB.out GE296.out) hb)
               clear HO_1
               clear HO_44
               clear HO308
               clear BK296
               clear HK
               clear HB
               have HO_1 := n0_
               have HO_44 := n1_
               have HO308 := n2_
               have HO311 := n3_
               have BK296 := n4_
               have HK := n5_
               have HB := n6_
               clear n0_ n1_ n2_ n3_ n4_ n5_ n6_
               clear hb ho59
               refine hK.out _ _ ⟨(blk_cell BK296.out 0).trans rfl, (blk_cell BK296.out 1).trans rfl⟩ (fun hHeld => ?_)
               clear hK K
               refine norm_ (a' := ?_) ?_ ?_
               rotate_left
               ·show Act.put _ (some 86) _ = _
                simp only [Act.put, sA_, sZ_, sS_, i64_w, i32_w]
                rfl
               exact norm_ (by simp only [putAll, Act.put, sA_, sZ_, sS_]) (hCont (v307, v310) _ ⟨hHeld, (by (with_reducible repeat (first | apply Kd.R_alloc | apply Kd.R_drewN | apply Kd.R_drew)); exact Kd.R_mono HO308.out (fun _ hk => ⟨hk.1.1.1.1, ⟨hk.2, ⟨hk.1.1.2, hk.1.2⟩⟩⟩)), (by (with_reducible repeat (first | apply Kd.R_alloc | apply Kd.R_drewN | apply Kd.R_drew)); exact Kd.R_mono HO311.out (fun _ hk => ⟨hk.1.1.1.1, ⟨hk.1.2, ⟨hk.1.1.2, hk.2⟩⟩⟩)), (by (with_reducible repeat (first | apply Kd.R_alloc | apply Kd.R_drewN | apply Kd.R_drew)); exact Kd.R_mono HO_1.out (fun _ hk => ⟨hk.1.1.1, ⟨hk.1.2, ⟨hk.2, hk.1.1.2⟩⟩⟩)), (rx_ HO_44.out), (kx_ BK296.out), (by repeat (first | (with_reducible first | exact HK.out | apply Kept.alloc | apply Kept.drewN | apply Kept.drew | refine Kept.setCell ?_ (.inr GW296.out) _) | exact HK.out)), (bx1 HB.out GE296.out)⟩)
              ·skip
               refine Kd.R_lit_step k54 _ 54 ?hg (N := 86) ?hd (xs := ([(⟨(wrap64 (Int.tdiv x9_1 (wrap64 (a2 + 1)))), (Int.tmod x9_1 (wrap64 (a2 + 1)))⟩ : S54)] : List (S54))) (inner := [.int .i64 (wrap64 (Int.tdiv x9_1 (wrap64 (a2 + 1)))), .int .i64 (Int.tmod x9_1 (wrap64 (a2 + 1)))]) (ok := fun _ => True) (okp := fun _ => True) ?hr ?hp (fun _ hk => hk) trivial (Below.refl _ _) (Nat.le_refl _) (by simp) ?_; (case hd => rfl); (case hg => rfl); (case hr => first | (go_simp; done) | (go_simp; rfl)); (case hp => exact (Reps.c2 (show Kd.M k54 _ _ _ (⟨(wrap64 (Int.tdiv x9_1 (wrap64 (a2 + 1)))), (Int.tmod x9_1 (wrap64 (a2 + 1)))⟩ : S54) [.int .i64 (wrap64 (Int.tdiv x9_1 (wrap64 (a2 + 1)))), .int .i64 (Int.tmod x9_1 (wrap64 (a2 + 1)))] from (k54_mkM _ _ _ (⟨(wrap64 (Int.tdiv x9_1 (wrap64 (a2 + 1)))), (Int.tmod x9_1 (wrap64 (a2 + 1)))⟩ : S54) )) (Reps.none _ _)))
               intro v310 w57 ho58 hb hg_ hnew_
               clear hg_ hnew_
               (first | rw [← Ny309.out] at ho58 | (simp only [Int.reduceToNat] at ho58; rw [← Ny309.out] at ho58))
               have n0_ := am_ (Kd.R_elder' (rx_ HO_1.out) (Kd.R_base ho58) hb)
               have n1_ := am_ (Kd.R_below (rx_ HO_44.out) hb)
               have n2_ := am_ (Kd.R_lower (Kd.R_newB (Kd.R_new' (Kd.R_newM (M := fun k_ => (P1_ k_ ∨ w.heap.size ≤ k_)) ho58 (by first | exact HK.out.1 | exact (show Kept w _ (fun k_ => P1_ k_) from by repeat (first | (with_reducible first | exact HK.out | apply Kept.alloc | apply Kept.drewN | apply Kept.drew | refine Kept.setCell ?_ (.inr GW296.out) _) | exact HK.out)).1) (fun k_ h_ => .inr h_)) (Kd.R_lt (rx_ HO_1.out))) (g := gb296) (o := .cells #[.int .i64 (wrap64 (Int.tdiv x9_1 (wrap64 (a2 + 1)))), .int .i64 (Int.tmod x9_1 (wrap64 (a2 + 1)))] 54 (0, 0)) (kx_ BK296.out)) (below_size (bx1 HB.out GE296.out)))
               have n3_ := am_ (blk_below (g := gb296) (o := .cells #[.int .i64 (wrap64 (Int.tdiv x9_1 (wrap64 (a2 + 1)))), .int .i64 (Int.tmod x9_1 (wrap64 (a2 + 1)))] 54 (0, 0)) (kx_ BK296.out) hb)
               have n4_ := am_ (Kept.below (S := (fun k_ => P1_ k_)) (by repeat (first | (with_reducible first | exact HK.out | apply Kept.alloc | apply Kept.drewN | apply Kept.drew | refine Kept.setCell ?_ (.inr GW296.out) _) | exact HK.out)) hb)
               have n5_ := am_ (below_step (bx1 HB.out GE296.out) hb)
               clear HO_1
               clear HO_44
               clear BK296
               clear HK
               clear HB
               have HO_1 := n0_
               have HO_44 := n1_
               have HO311 := n2_
               have BK296 := n3_
               have HK := n4_
               have HB := n5_
               clear n0_ n1_ n2_ n3_ n4_ n5_
               clear hb ho58
               refine hK.out _ _ ⟨(blk_cell BK296.out 0).trans rfl, (blk_cell BK296.out 1).trans rfl⟩ (fun hHeld => ?_)
               clear hK K
               refine norm_ (a' := ?_) ?_ ?_
               rotate_left
               ·show Act.put _ (some 86) _ = _
                simp only [Act.put, sA_, sZ_, sS_, i64_w, i32_w]
                rfl
               refine one_ (i := 2) (N := some 84) #[true, true, true, true, true, false, true, false, false, false, false, false, false] rfl rfl (one_of HT_.out (by kernel_rfl)) (by decide) (fun K hK => ?_)
               refine goes_ Try.func56 (by kernel_rfl) rfl #[.slice Ao7 l1.length co7] (by rfl) rfl rfl (by (try simp only [List.map_toArray, List.map_cons, List.map_nil]); first | done | rfl | (simp only [List.length_drop, List.length_take]; rfl)) ?_
               with_reducible refine (slices_Clone_Simpl_Point_impl_Point.calls _ _ l1 t306 _ ?side1 ?side2 A43.out).mono ?_
               (case side1 => repeat (first | exact (Kd.R_reads' HO_1.out).2.2 | (with_reducible refine Kd.C_alloc ?_ _) | (with_reducible refine Kd.C_drewN ?_ _) | (with_reducible refine Kd.C_drew ?_)))
               (case side2 => exact (Kd.R_reads' HO_1.out).2.1)
               rintro e w59 ⟨v307, rfl, ho0, hb⟩
               refine ⟨_, rfl, ?_⟩
               have n0_ := am_ (Kd.R_elder' (rx_ HO_1.out) (Kd.R_base ho0) hb)
               have n1_ := am_ (Kd.R_below (rx_ HO_44.out) hb)
               have n2_ := am_ (Kd.R_elder' (rx_ HO311.out) (Kd.R_base ho0) hb)
               have n3_ := am_ (Kd.R_lower (Kd.R_newB (Kd.R_new' (Kd.R_new' (Kd.R_newM (M := fun k_ => (P1_ k_ ∨ w.heap.size ≤ k_)) ho0 (by first | exact HK.out.1 | exact (show Kept w _ (fun k_ => P1_ k_) from by repeat (first | (with_reducible first | exact HK.out | apply Kept.alloc | apply Kept.drewN | apply Kept.drew | refine Kept.setCell ?_ (.inr GW296.out) _) | exact HK.out)).1) (fun k_ h_ => .inr h_)) (Kd.R_lt (rx_ HO_1.out))) (Kd.R_lt (rx_ HO311.out))) (g := gb296) (o := .cells #[.int .i64 (wrap64 (Int.tdiv x9_1 (wrap64 (a2 + 1)))), .int .i64 (Int.tmod x9_1 (wrap64 (a2 + 1)))] 54 (0, 0)) (kx_ BK296.out)) (below_size (bx1 HB.out GE296.out)))
               have n4_ := am_ (blk_below (g := gb296) (o := .cells #[.int .i64 (wrap64 (Int.tdiv x9_1 (wrap64 (a2 + 1)))), .int .i64 (Int.tmod x9_1 (wrap64 (a2 + 1)))] 54 (0, 0)) (kx_ BK296.out) hb)
               have n5_ := am_ (Kept.below (S := (fun k_ => P1_ k_)) (by repeat (first | (with_reducible first | exact HK.out | apply Kept.alloc | apply Kept.drewN | apply Kept.drew | refine Kept.setCell ?_ (.inr GW296.out) _) | exact HK.out)) hb)
               have n6_ := am_ (below_step (bx1 HB.out GE296.out) hb)
               clear HO_1
               clear HO_44
               clear HO311
               clear BK296
               clear HK
               clear HB
               have HO_1 := n0_
               have HO_44 := n1_
               have HO311 := n2_
               have HO308 := n3_
               have BK296 := n4_
               have HK := n5_
               have HB := n6_
               clear n0_ n1_ n2_ n3_ n4_ n5_ n6_
               (try clear hb)
               (try clear hb2)
               (try clear hk)
               (try clear hi)
               (try clear ho0)
               refine hK.out _ _ ⟨(blk_cell BK296.out 0).trans rfl, (blk_cell BK296.out 1).trans rfl⟩ (fun hHeld => ?_)
               clear hK K
               refine norm_ (a' := ?_) ?_ ?_
               rotate_left
               ·show Act.put _ (some 84) _ = _
                simp only [Act.put, sA_, sZ_, sS_, i64_w, i32_w]
                rfl
               exact norm_ (by simp only [putAll, Act.put, sA_, sZ_, sS_]) (hCont (v307, v310) _ ⟨hHeld, (by (with_reducible repeat (first | apply Kd.R_alloc | apply Kd.R_drewN | apply Kd.R_drew)); exact Kd.R_mono HO308.out (fun _ hk => ⟨hk.1.1.1.1, ⟨hk.1.2, ⟨hk.1.1.2, hk.2⟩⟩⟩)), (by (with_reducible repeat (first | apply Kd.R_alloc | apply Kd.R_drewN | apply Kd.R_drew)); exact Kd.R_mono HO311.out (fun _ hk => ⟨hk.1.1.1.1, ⟨hk.2, ⟨hk.1.1.2, hk.1.2⟩⟩⟩)), (by (with_reducible repeat (first | apply Kd.R_alloc | apply Kd.R_drewN | apply Kd.R_drew)); exact Kd.R_mono HO_1.out (fun _ hk => ⟨hk.1.1.1, ⟨hk.2, ⟨hk.1.2, hk.1.1.2⟩⟩⟩)), (rx_ HO_44.out), (kx_ BK296.out), (by repeat (first | (with_reducible first | exact HK.out | apply Kept.alloc | apply Kept.drewN | apply Kept.drew | refine Kept.setCell ?_ (.inr GW296.out) _) | exact HK.out)), (bx1 HB.out GE296.out)⟩)
             rintro ⟨v307, v310⟩ w60 ⟨hS_, h0_, h1_, h2_, h3_, h4_, h5_, h6_⟩
             have n0_ : Aside0 (Kd.R k54 54 w60 w0.heap.size (fun k_ => (P1_ k_ ∨ w.heap.size ≤ k_) ∧ some k_ ≠ (v310 : Value).ownBlock ∧ some k_ ≠ (.slice Ao7 l1.length co7 : Value).ownBlock ∧ k_ ≠ gb296) v307 t306) := ⟨h0_⟩
             have n1_ : Aside0 (Kd.R k54 54 w60 w0.heap.size (fun k_ => (P1_ k_ ∨ w.heap.size ≤ k_) ∧ some k_ ≠ (v307 : Value).ownBlock ∧ some k_ ≠ (.slice Ao7 l1.length co7 : Value).ownBlock ∧ k_ ≠ gb296) v310 y309) := ⟨h1_⟩
             have n2_ : Aside0 (Kd.R k54 54 w60 w0.heap.size (fun k_ => (P1_ k_ ∨ w.heap.size ≤ k_) ∧ some k_ ≠ (v307 : Value).ownBlock ∧ some k_ ≠ (v310 : Value).ownBlock ∧ k_ ≠ gb296) (.slice Ao7 l1.length co7) l1) := ⟨h2_⟩
             have n3_ : Aside0 (Kd.R k81 81 w60 w0.heap.size (fun k_ => (P1_ k_ ∨ w.heap.size ≤ k_)) (.slice Ao16 t297.length co16) t297) := ⟨h3_⟩
             have n4_ : Aside0 (w60.heap[gb296]? = some (.cells #[.int .i64 (wrap64 (Int.tdiv x9_1 (wrap64 (a2 + 1)))), .int .i64 (Int.tmod x9_1 (wrap64 (a2 + 1)))] 54 (0, 0))) := ⟨h4_⟩
             have n5_ : Aside0 (Kept w w60 (fun k_ => P1_ k_)) := ⟨h5_⟩
             have n6_ : Aside0 (Below w0.heap.size w0 w60) := ⟨h6_⟩
             clear HO_1
             clear HO_44
             clear BK296
             clear HK
             clear HB
             clear h0_ h1_ h2_ h3_ h4_ h5_ h6_
             have HO308 := n0_
             have HO311 := n1_
             have HO_1 := n2_
             have HO_44 := n3_
             have BK296 := n4_
             have HK := n5_
             have HB := n6_
             clear n0_ n1_ n2_ n3_ n4_ n5_ n6_
             have hHeld : w60.cell? ⟨gb296, 0, none⟩ = some (.int .i64 (wrap64 (Int.tdiv x9_1 (wrap64 (a2 + 1))))) ∧ w60.cell? ⟨gb296, 1, none⟩ = some (.int .i64 (Int.tmod x9_1 (wrap64 (a2 + 1)))) := hS_
             obtain ⟨Ao62, co62, eo62⟩ := Kd.R_slice HO311.out
             (first | subst eo62 | (injection eo62 with f1_ f2_ f3_; have f4_ := f1_.symm; have f5_ := f3_.symm; clear f1_ f2_ f3_; subst f4_; subst f5_))
             refine norm_ (a' := ?_) ?_ ?_
             rotate_left
             ·simp only [putAll, Act.put, sA_, sZ_, sS_]
              rfl
             refine one_ (i := 5) (N := some 87) #[true, true, true, true, true, true, true, false, false, false, false, false, false] rfl rfl (one_of HT_.out (by kernel_rfl)) (by decide) (fun K hK => ?_)
             refine Kd.R_append_rows_step k54 (w0 := w0) w0.heap.size (by rfl) (.tmp 84) (.tmp 86) 25 54 (.agg #[(.int .i64 0), (.int .i64 0)]) 16 rfl Try.underlying25 info54 rfl (by decide) (by omega) v307 t306 y309 _ _ _ (fun k_ => (P1_ k_ ∨ w.heap.size ≤ k_) ∧ some k_ ≠ (.slice Ao7 l1.length co7 : Value).ownBlock ∧ some k_ ≠ (.slice Ao62 y309.length co62 : Value).ownBlock ∧ k_ ≠ gb296) (fun _ => False) rfl rfl ?aO ?aR (fun _ _ h => h) (fun _ h => h.elim) ?aF ?aB ?aS ?aL ?_
             (case aR => repeat (first | exact (Kd.R_reads' HO311.out).2.2 | (with_reducible refine Kd.C_alloc ?_ _) | (with_reducible refine Kd.C_drewN ?_ _) | (with_reducible refine Kd.C_drew ?_)))
             (case aB => exact (bx1 HB.out GE296.out))
             (case aF => exact (fun k_ hk => ⟨(.inr (Nat.le_trans (by first | exact HK.out.1 | exact (show Kept w _ (fun k_ => P1_ k_) from by repeat (first | (with_reducible first | exact HK.out | apply Kept.alloc | apply Kept.drewN | apply Kept.drew | refine Kept.setCell ?_ (.inr GW296.out) _) | exact HK.out)).1) hk)), Kd.fresh' (Kd.R_lt (rx_ HO_1.out)) k_ hk, Kd.fresh' (Kd.R_lt (rx_ HO311.out)) k_ hk, Kd.freshB (g := gb296) (o := .cells #[.int .i64 (wrap64 (Int.tdiv x9_1 (wrap64 (a2 + 1)))), .int .i64 (Int.tmod x9_1 (wrap64 (a2 + 1)))] 54 (0, 0)) (kx_ BK296.out) k_ hk⟩))
             (case aO => exact (by (with_reducible repeat (first | apply Kd.R_alloc | apply Kd.R_drewN | apply Kd.R_drew)); exact Kd.R_mono HO308.out (fun _ hk => ⟨hk.1, ⟨hk.2.2.1, ⟨hk.2.1, hk.2.2.2⟩⟩⟩)))
             (case aS => exact (below_size (bx1 HB.out GE296.out)))
             (case aL => have := LMc44.out; omega)
             intro v313 w61 ho hb hg hat
             rw [← Ny312.out] at ho
             have n0_ := am_ (Kd.R_after (ok := (fun k_ => (P1_ k_ ∨ w.heap.size ≤ k_) ∧ some k_ ≠ (.slice Ao62 y309.length co62 : Value).ownBlock ∧ k_ ≠ gb296)) (by (with_reducible repeat (first | apply Kd.R_alloc | apply Kd.R_drewN | apply Kd.R_drew)); exact Kd.R_mono HO_1.out (fun _ hk => ⟨⟨hk.1, ⟨hk.2.2.1, hk.2.2.2⟩⟩, hk.2.1⟩)) hg hat)
             have n1_ := am_ (Kd.R_over' (rx_ HO_44.out) (Kd.R_typed (rx_ HO308.out)) (by decide) hg)
             have n2_ := am_ (blk_grown (g := gb296) (o := .cells #[.int .i64 (wrap64 (Int.tdiv x9_1 (wrap64 (a2 + 1)))), .int .i64 (Int.tmod x9_1 (wrap64 (a2 + 1)))] 54 (0, 0)) (kx_ BK296.out) hg (Kd.R_away HO308.out (fun _ hk => hk.2.2.2)))
             have n3_ := am_ (Kd.R_after (ok := (fun k_ => (P1_ k_ ∨ w.heap.size ≤ k_) ∧ some k_ ≠ (.slice Ao7 l1.length co7 : Value).ownBlock ∧ k_ ≠ gb296)) (by (with_reducible repeat (first | apply Kd.R_alloc | apply Kd.R_drewN | apply Kd.R_drew)); exact Kd.R_mono HO311.out (fun _ hk => ⟨⟨hk.1, ⟨hk.2.2.1, hk.2.2.2⟩⟩, hk.2.1⟩)) hg hat)
             have n4_ := am_ (hb)
             have n5_ := am_ (Kept.of_grown (S := (fun k_ => P1_ k_)) hg (by repeat (first | (with_reducible first | exact HK.out | apply Kept.alloc | apply Kept.drewN | apply Kept.drew | refine Kept.setCell ?_ (.inr GW296.out) _) | exact HK.out)) (fun k_ e_ => (HO308.out.1 k_ e_).1))
             have n6_ := am_ (ho)
             clear HO_1
             clear HO_44
             clear BK296
             clear HO311
             clear HB
             clear HK
             clear HO308
             have HO_1 := n0_
             have HO_44 := n1_
             have BK296 := n2_
             have HO311 := n3_
             have HB := n4_
             have HK := n5_
             have HO314 := n6_
             clear n0_ n1_ n2_ n3_ n4_ n5_ n6_
             clear ho hb hg hat
             obtain ⟨Ao63, co63, eo63⟩ := Kd.R_slice HO314.out
             (first | subst eo63 | (injection eo63 with f1_ f2_ f3_; have f4_ := f1_.symm; have f5_ := f3_.symm; clear f1_ f2_ f3_; subst f4_; subst f5_))
             refine hK.out _ _ ⟨(blk_cell BK296.out 0).trans rfl, (blk_cell BK296.out 1).trans rfl⟩ (fun hHeld => ?_)
             clear hK K
             refine norm_ (a' := ?_) ?_ ?_
             rotate_left
             ·show Act.put _ (some 87) _ = _
              simp only [Act.put, sA_, sZ_, sS_, i64_w, i32_w]
              rfl
             refine one_ (i := 7) (N := some 89) #[true, true, true, true, true, true, true, true, false, false, false, false, false] rfl rfl (one_of HT_.out (by kernel_rfl)) (by decide) (fun K hK => ?_)
             refine goes_ Try.func34 (by kernel_rfl) rfl #[.pointer (some ad295), .slice Ao63 y312.length co63, .int .i64 a2] (by rfl) rfl rfl (by (try simp only [List.map_toArray, List.map_cons, List.map_nil]); first | done | rfl | (simp only [List.length_drop, List.length_take]; rfl)) ?_
             refine (ih k2 (by have := HK1.out; have := HK2.out; omega) _ c0 l0 (fun k_ => some k_ = (.slice Ao63 y312.length co63 : Value).ownBlock) (.slice Ao63 y312.length co63) y312 a2 t315 false w0 _ ?side1 ?side2 ?side3 ?side4 A45.out).mono ?_
             (case side1 => repeat (first | (with_reducible first | exact HB.out | apply below_alloc | apply pw_below_drewN | apply below_drew1 | refine below_set ?_ GE296.out) | exact HB.out))
             (case side2 => exact Kd.C_kept_call HR0.out (by repeat (first | (with_reducible first | exact HK.out | apply Kept.alloc | apply Kept.drewN | apply Kept.drew | refine Kept.setCell ?_ (.inr GW296.out) _) | exact HK.out)) (fun k_ hs_ => (fun e_ => (HO314.out.1 k_ e_.symm).1) hs_))
             (case side3 => exact HC0.out)
             (case side4 => exact Kd.R_tight rfl HO314.out)
             rintro e w64 ⟨v316, rfl, ho0, hb, hkp⟩
             refine ⟨_, rfl, ?_⟩
             have n0_ := am_ (Kd.R_mono (ok' := fun k_ => (P1_ k_ ∨ w.heap.size ≤ k_) ∧ some k_ ≠ (.slice Ao62 y309.length co62 : Value).ownBlock ∧ k_ ≠ gb296 ∧ some k_ ≠ (v316 : Value).ownBlock) (Kd.R_keptB (HO_1.out) hkp (fun k_ hk_ hs_ => (hk_.2) hs_)) (fun k_ hk_ => ⟨hk_.1.1.1, hk_.1.1.2.1, hk_.1.1.2.2, fun e_ => Or.elim (ho0.1 k_ e_.symm) (fun hs_ => hk_.2.1 hs_) (fun hn_ => Nat.not_le.2 hk_.2.2 hn_)⟩))
             have n1_ := am_ (Kd.R_mono (ok' := fun k_ => (P1_ k_ ∨ w.heap.size ≤ k_)) (Kd.R_keptB ((Kd.R_apart' HO_44.out (Kd.R_typed HO314.out) (by decide))) hkp (fun k_ hk_ hs_ => (hk_.2) hs_)) (fun k_ hk_ => hk_.1.1))
             have n2_ := am_ (blk_kept (kx_ BK296.out) hkp (fun hs_ => (fun e_ => (Kd.R_away HO314.out (fun _ hk => hk.2.2.2)) e_) hs_))
             have n3_ := am_ (Kd.R_mono (ok' := fun k_ => (P1_ k_ ∨ w.heap.size ≤ k_) ∧ some k_ ≠ (.slice Ao7 l1.length co7 : Value).ownBlock ∧ k_ ≠ gb296 ∧ some k_ ≠ (v316 : Value).ownBlock) (Kd.R_keptB (HO311.out) hkp (fun k_ hk_ hs_ => (hk_.2) hs_)) (fun k_ hk_ => ⟨hk_.1.1.1, hk_.1.1.2.1, hk_.1.1.2.2, fun e_ => Or.elim (ho0.1 k_ e_.symm) (fun hs_ => hk_.2.1 hs_) (fun hn_ => Nat.not_le.2 hk_.2.2 hn_)⟩))
             have n4_ := am_ (Kd.R_mono (ok' := fun k_ => (P1_ k_ ∨ w.heap.size ≤ k_) ∧ some k_ ≠ (.slice Ao7 l1.length co7 : Value).ownBlock ∧ some k_ ≠ (.slice Ao62 y309.length co62 : Value).ownBlock ∧ k_ ≠ gb296) ho0 (fun k_ hk_ => ⟨Or.elim hk_ (fun hs_ => (HO314.out.1 k_ (hs_).symm).1) (fun hn_ => (.inr (Nat.le_trans (by first | exact HK.out.1 | exact (show Kept w _ (fun k_ => P1_ k_) from by repeat (first | (with_reducible first | exact HK.out | apply Kept.alloc | apply Kept.drewN | apply Kept.drew | refine Kept.setCell ?_ (.inr GW296.out) _) | exact HK.out)).1) hn_))), Or.elim hk_ (fun hs_ => fun e_ => (((HO_1.out).1 k_ e_.symm).2) hs_) (fun hn_ => (Kd.fresh' (Kd.R_lt (rx_ HO_1.out)) k_ hn_)), Or.elim hk_ (fun hs_ => fun e_ => (((HO311.out).1 k_ e_.symm).2) hs_) (fun hn_ => (Kd.fresh' (Kd.R_lt (rx_ HO311.out)) k_ hn_)), Or.elim hk_ (fun hs_ => fun e_ => (Kd.R_away HO314.out (fun _ hk => hk.2.2.2)) (by rw [← e_]; exact hs_)) (fun hn_ => (Kd.freshB (g := gb296) (o := .cells #[.int .i64 (wrap64 (Int.tdiv x9_1 (wrap64 (a2 + 1)))), .int .i64 (Int.tmod x9_1 (wrap64 (a2 + 1)))] 54 (0, 0)) (kx_ BK296.out) k_ hn_))⟩))
             have n5_ := am_ (Kept.then_ (S := (fun k_ => P1_ k_)) (by repeat (first | (with_reducible first | exact HK.out | apply Kept.alloc | apply Kept.drewN | apply Kept.drew | refine Kept.setCell ?_ (.inr GW296.out) _) | exact HK.out)) hkp (fun k_ hs_ => (fun e_ => (HO314.out.1 k_ e_.symm).1) hs_))
             have n6_ := am_ (hb)
             clear HO_1
             clear HO_44
             clear BK296
             clear HO311
             clear HK
             clear HB
             clear HO314
             have HO_1 := n0_
             have HO_44 := n1_
             have BK296 := n2_
             have HO311 := n3_
             have HO317 := n4_
             have HK := n5_
             have HB := n6_
             clear n0_ n1_ n2_ n3_ n4_ n5_ n6_
             (try clear hb)
             (try clear hkp)
             (try clear ho0)
             refine hK.out _ _ ⟨(blk_cell BK296.out 0).trans rfl, (blk_cell BK296.out 1).trans rfl⟩ (fun hHeld => ?_)
             clear hK K
             refine norm_ (a' := ?_) ?_ ?_
             rotate_left
             ·show Act.put _ (some 89) _ = _
              simp only [Act.put, sA_, sZ_, sS_, i64_w, i32_w]
              rfl
             refine pure_ (i := 8) (N := some 81) (v := ?_) (a' := ?_) #[true, true, true, true, true, true, true, true, true, false, false, false, false] rfl rfl (any_of HT_.out (by kernel_rfl)) (fun _ _ _ h => h) (Or.inl ⟨by rfl, ?_⟩) ?_ ?_
             rotate_left
             ·intro w'
              go_simp
              with_reducible rfl
             rotate_left
             ·simp only [Act.put, sA_, sZ_, sS_, i64_w, i32_w]
              rfl
             refine pure_ (i := 9) (N := some 90) (v := ?_) (a' := ?_) #[true, true, true, true, true, true, true, true, true, true, false, false, false] rfl rfl (any_of HT_.out (by kernel_rfl)) (fun _ _ _ h => h) (Or.inl ⟨by rfl, ?_⟩) ?_ ?_
             rotate_left
             ·intro w'
              go_simp
              with_reducible rfl
             rotate_left
             ·simp only [Act.put, sA_, sZ_, sS_, i64_w, i32_w]
              rfl
             refine pure_ (i := 10) (N := some 91) (v := ?_) (a' := ?_) #[true, true, true, true, true, true, true, true, true, true, true, false, false] rfl rfl (any_of HT_.out (by kernel_rfl)) (fun _ _ _ h => h) (Or.inl ⟨by rfl, ?_⟩) ?_ ?_
             rotate_left
             ·intro w'
              go_simp
              with_reducible rfl
             rotate_left
             ·simp only [Act.put, sA_, sZ_, sS_, i64_w, i32_w]
              rfl
             refine pure_ (i := 11) (N := some 14) (v := ?_) (a' := ?_) #[true, true, true, true, true, true, true, true, true, true, true, true, false] rfl rfl (any_of HT_.out (by kernel_rfl)) (fun _ _ _ h => h) (Or.inl ⟨by rfl, ?_⟩) ?_ ?_
             rotate_left
             ·intro w'
              go_simp
              with_reducible rfl
             rotate_left
             ·simp only [Act.put, sA_, sZ_, sS_, i64_w, i32_w]
              rfl
             refine pure_ (i := 12) (N := some 15) (v := ?_) (a' := ?_) #[true, true, true, true, true, true, true, true, true, true, true, true, true] rfl rfl (any_of HT_.out (by kernel_rfl)) (fun _ _ _ h => h) (Or.inl ⟨by rfl, ?_⟩) ?_ ?_
             rotate_left
             ·intro w'
              go_simp
              with_reducible rfl
             rotate_left
             ·simp only [Act.put, sA_, sZ_, sS_, i64_w, i32_w]
              rfl
             refine done_ (done_of HT_.out (by kernel_rfl)) ?_
             try go_wp2
             go_roundg k2
             case measure => have := HK1.out; have := HK2.out; omega
             case rel => exact ⟨(wrap64 (x9_1 + 1)), (by first | rfl | (simp; done) | (simp [*]; done)), H', ⟨by have := HK1.out; have := HK2.out; omega⟩, ⟨by (with_reducible repeat (first | apply Kd.R_alloc | apply Kd.R_drewN | apply Kd.R_drew)); exact Kd.R_mono HO_1.out (fun _ hk => hk.1)⟩, ⟨by repeat (first | (with_reducible first | exact HK.out | apply Kept.alloc | apply Kept.drewN | apply Kept.drew | refine Kept.setCell ?_ (.inr GW296.out) _) | exact HK.out)⟩, ⟨bx1 HB.out GE296.out⟩⟩
           ·rw [if_neg c44] at H
            exact absurd H (by simp)
          ·replace c42 := Bool.eq_false_iff.mpr c42
           subst c42
           have H1 : (impl_chi_place.l0 k2 l0 l1 a2 (l1.length : Int) (wrap64 (x9_1 + 1))) = some (r1, r2) := by rw [if_neg (show ¬ (false = true) by decide)] at H; exact H
           clear H
           have H := H1
           clear H1
           have H' := am_ H
           clear H
           go_wp2
           go_roundg k2
           case measure => have := HK1.out; have := HK2.out; omega
           case rel => exact ⟨(wrap64 (x9_1 + 1)), (by first | rfl | (simp; done) | (simp [*]; done)), H', ⟨by have := HK1.out; have := HK2.out; omega⟩, ⟨by (with_reducible repeat (first | apply Kd.R_alloc | apply Kd.R_drewN | apply Kd.R_drew)); exact Kd.R_mono HO_1.out (fun _ hk => hk.1)⟩, ⟨by repeat (first | (with_reducible first | exact HK.out | apply Kept.alloc | apply Kept.drewN | apply Kept.drew | refine Kept.setCell ?_ (.inr GW296.out) _) | exact HK.out)⟩, ⟨bx1 HB.out GE296.out⟩⟩
     ·rw [if_neg c8] at H
      have c8b0 : decide (x9_1 < (wrap64 ((wrap64 (a2 + 1)) * (wrap64 (a2 + 1))))) = false := decide_eq_false c8
      clear c8
      simp only [Option.some.injEq, Prod.mk.injEq] at H
      obtain ⟨rfl, rfl⟩ := H
      go_wp2
      go_ret2
      exact ⟨_, by first | rfl | (simp [errW_none, errW_some] <;> rfl) | (simp [*, errW_none, errW_some] <;> rfl), by first | exact Kd.R_nil _ _ _ _ _ | exact Kd.N_nil _ _ _ _ _ | exact Kd.V_nil _ _ _ _ _ | exact Kd.Q_nil _ _ _ _ _ | exact Kd.S_nil _ _ _ _ _, bx0 HB.out, by repeat (first | (with_reducible first | exact HK.out | apply Kept.alloc | apply Kept.drewN | apply Kept.drew) | exact HK.out)⟩
 ·rw [if_neg c4] at H
  exact absurd H (by simp)
end Go.Proofs.Ytdkpiahpmgcmdaa.P
