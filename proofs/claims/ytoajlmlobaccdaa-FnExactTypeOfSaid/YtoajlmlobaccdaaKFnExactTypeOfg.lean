/- What the law FnExactTypeOf reaches, part 7: functions as plain Lean functions with the proofs that their calls come to them, and plain lemmas over these. Put together by a program (wip/pack.py). -/
import Derived.Test.YtoajlmlobaccdaaKFnExactTypeOfd
import Derived.Test.YtoajlmlobaccdaaKFnExactTypeOfc
import Derived.Test.YtoajlmlobaccdaaKFnExactTypeOfe
namespace Go.Proofs.Ytoajlmlobaccdaa.P
open Go.RowKit Go.Proofs.YtoajlmlobaccdaaW.PrintWords Go.Proofs.YtoajlmlobaccdaaW.PrintLast Go.Proofs.YtoajlmlobaccdaaW.PrintMore
attribute [local go_sem] ptrOf_slice
attribute [local go_sem] min2_str max2_int min2_int max_two min_two max_three min_three max_four min_four
set_option linter.unusedVariables false
set_option linter.unusedSimpArgs false
def spec_l12Start.l0 : Nat → Int → List Int → Int → Option (List Int)
 | 0, _, _, _ => none
 | k + 1, x0, x3, x4 => if x4 < x0 then (if x3.length < 17592186044416 then (spec_l12Start.l0 k x0 (x3 ++ [x4]) (wrap64 (x4 + 1))) else (none)) else (some x3)
def spec_l12Start.f (k : Nat) (a0 : Int) : Option (List Int) := spec_l12Start.l0 k a0 (([] : List Int)) 0
theorem spec_l12Start.mono_l : ∀ k, (∀ y0 y1 y2, LeO (spec_l12Start.l0 k y0 y1 y2) (spec_l12Start.l0 (k + 1) y0 y1 y2))
 | 0 => fun _ _ _ r h => by simp [spec_l12Start.l0] at h
 | k + 1 => by
  have ih0 := spec_l12Start.mono_l k
  ·intro y0 y1 y2; unfold spec_l12Start.l0
   repeat' first | (with_reducible first | apply ih0 | exact LeO.refl _ | exact LeO.none _ | refine LeO.ite ?_ ?_ | refine LeO.bind ?_ (fun _ => ?_)) | exact LeO.none _
theorem spec_l12Start.mono : ∀ a0 k, LeO (spec_l12Start.f k a0) (spec_l12Start.f (k + 1) a0) := by
 intro a0 k; have ih0 := spec_l12Start.mono_l k; unfold spec_l12Start.f
 repeat' first | (with_reducible first | apply ih0 | exact LeO.refl _ | exact LeO.none _ | refine LeO.ite ?_ ?_ | refine LeO.bind ?_ (fun _ => ?_)) | exact LeO.none _
set_option maxHeartbeats 8000000 in
set_option maxRecDepth 100000 in
theorem spec_l12Start.calls (k : Nat) (a0 : Int) (r : List Int) (w : World) (h : spec_l12Start.f k a0 = some r) :
  Calls Try.prog 145 #[.int .i64 a0] w fun e w' => ∃ v0_ : Value, e = .returned (v0_) ∧ Kd.R (Kd.int .i64) 3 w' w.heap.size (fun _ => True) v0_ r ∧ Below w.heap.size w w' := by
 have HB := am_ (Below.refl w.heap.size w); have H : (spec_l12Start.l0 k a0 (([] : List Int)) 0) = some r := h; clear h; obtain ⟨y101, hy101⟩ : ∃ y_ : List Int, y_ = (([] : List Int)) := ⟨_, rfl⟩; replace H : (spec_l12Start.l0 k a0 y101 0) = some r := yH_ hy101 H; have Ny101 := am_ hy101; clear hy101; have H' := am_ H; clear H; go_enter Try.func145, Try.ntmps145
 go_wp2_with (first | ((with_reducible refine gd_ 5 rfl ?_); refine Kd.R_lit (Kd.int .i64) _ 3 ?hg (N := 5) ?hd (xs := ([] : List Int)) (inner := []) (ok := fun _ => True) (okp := fun _ => True) ?hr ?hp (fun _ hk => hk) trivial (Below.refl _ _) (Nat.le_refl _) (by simp) ?_; (case hd => rfl); (case hg => rfl); (case hr => first | (go_simp; done) | (go_simp; rfl)); (case hp => exact (Reps.none _ _)); intro v102 w2 ho3 hb hg_ hnew_; clear hg_ hnew_; (first | rw [← Ny101.out] at ho3 | (simp only [Int.reduceToNat] at ho3; rw [← Ny101.out] at ho3)); have HO103 := rl0_ ho3 HB; replace HB := bs0_ HB hb; clear hb ho3))
 go_loopg [3, 4] k (fun kq v3 v4 w' => ∃ (x3_1 : List Int) (x4_1 : Int), v4 = .int .i64 x4_1 ∧ Aside0 (spec_l12Start.l0 kq a0 x3_1 x4_1 = some r) ∧ Aside0 (kq ≤ k) ∧ Aside0 (Kd.R (Kd.int .i64) 3 w' w.heap.size (fun _ => True) v3 x3_1) ∧ Aside0 (Below w.heap.size w w'))
 case atStart => exact ⟨(y101), (0), vt_, H', ⟨Nat.le_refl _⟩, rX_ HO103, bX0_ HB⟩
 case round =>
  clear H'; obtain ⟨x3_1, x4_1, rfl, HA, HK1, HO_3, HB⟩ := hrel; cases gk with
  | zero => exact absurd HA.out (by simp [spec_l12Start.l0])
  | succ k1 =>
   have H := HA.out; clear HA; simp only [spec_l12Start.l0] at H
   by_cases c4 : x4_1 < a0
   ·rw [if_pos c4] at H; have c4b0 := decide_eq_true c4; clear c4; by_cases c5 : x3_1.length < 17592186044416
    ·rw [if_pos c5] at H; have LMc5 := am_ c5; clear c5; obtain ⟨y104, hy104⟩ : ∃ y_ : List Int, y_ = (x3_1 ++ [x4_1]) := ⟨_, rfl⟩; replace H : (spec_l12Start.l0 k1 a0 y104 (wrap64 (x4_1 + 1))) = some r := yH_ hy104 H; have Ny104 := am_ hy104; clear hy104; have H' := am_ H; clear H; go_wp2_with (first | ((with_reducible refine gate_builtin (b := .append) (xs := #[.tmp 11, .tmp 13]) rfl ?_); at_builtin; refine Kd.R_append (Kd.int .i64) (w0 := w) w.heap.size rfl (.tmp 11) (.tmp 13) 34 3 (.int .i64 0) 8 rfl Try.underlying34 info3 rfl (by decide) (by omega) u3 x3_1 x4_1 [.int .i64 x4_1] (fun _ => True) (fun _ => False) rfl rfl ?aP (fun _ hk => hk.elim) ?aF ?aO ?aB ?aS ?aL ?_; (case aP => exact rfl); (case aB => exact (bx0 HB.out)); (case aF => exact (fun _ _ => trivial)); (case aO => exact (rx_ HO_3.out)); (case aS => exact (below_size (bx0 HB.out))); (case aL => have := LMc5.out; omega); intro v105 w6 ho hb hg hat; rw [← Ny104.out] at ho; replace HB := am_ hb; have HO106 := am_ ho; clear HO_3; clear ho hb hg hat))
     go_roundg k1
     case measure => have := HK1.out; omega
     case rel => exact ⟨(y104), (wrap64 (x4_1 + 1)), vt_, H', hl_ HK1, rX_ HO106, bX0_ HB⟩
    ·rw [if_neg c5] at H; exact absurd H (by simp)
   ·rw [if_neg c4] at H; have c4b0 := decide_eq_false c4; clear c4; obtain rfl := Option.some.inj H; go_wp2; go_ret; exact ⟨_, by first | rfl | (simp [errW_none, errW_some] <;> rfl) | (simp [*, errW_none, errW_some] <;> rfl), rx_ HO_3.out, bx0 HB.out⟩
def spec_l12Swap.f (l0 : List Int) (a1 : Int) : Option (Bool × List Int) := (spec_l1In.f a1 0 (wrap64 ((l0.length : Int) - 2))).bind fun t107 => (if t107 = true then (if 0 ≤ a1 then (if a1 < (l0.length : Int) then (if 0 ≤ (wrap64 (a1 + 1)) then (if (wrap64 (a1 + 1)) < (l0.length : Int) then (if (rd l0 a1) > (rd l0 (wrap64 (a1 + 1))) then (some (false, l0)) else (some (true, ((l0.set (a1 : Int).toNat (rd l0 (wrap64 (a1 + 1)))).set ((wrap64 (a1 + 1)) : Int).toNat (rd l0 a1))))) else (none)) else (none)) else (none)) else (none)) else (some (false, l0)))
def spec_l12Swap.T1 : Bool × List (List Nat × List Nat) := (true, [([], []), ([], []), ([1], [1]), ([2], [2]), ([0, 3], [0, 3]), ([4], [4]), ([5, 4], [5]), ([6], [6]), ([6], [6]), ([7, 8, 6], [6, 7, 8]), ([9, 6], [6, 9]), ([6], [6]), ([6], [6]), ([12, 6], [6, 12]), ([11, 13, 6], [6, 11, 13]), ([14, 6], [6, 14]), ([10, 15, 6], [6, 10, 15]), ([6, 16], [6, 16])])
def spec_l12Swap.B1 : List Nat := [0, 0, 2, 6, 15, 31, 63, 127, 127, 511, 1023, 127, 127, 4223, 14463, 30847, 65535, 131071]
theorem spec_l12Swap.tab1 : rtab .any (opsOf Try.f147 1) = spec_l12Swap.T1 := by kernel_rfl
theorem spec_l12Swap.bits1 : waitsOk spec_l12Swap.T1.2 spec_l12Swap.B1 = true := by kernel_rfl
set_option maxHeartbeats 8000000 in
set_option maxRecDepth 100000 in
theorem spec_l12Swap.calls (P0_ : Nat → Prop) (u9000_ : Value) (l0 : List Int) (a1 : Int) (r1 : Bool) (r2 : List Int) (w0 w : World) (hB : Below w0.heap.size w0 w) (ho0 : Kd.R (Kd.int .i64) 3 w w0.heap.size P0_ u9000_ l0) (h : spec_l12Swap.f l0 a1 = some (r1, r2)) :
  Calls Try.prog 147 #[u9000_, .int .i64 a1] w fun e w' => e = .returned (.bool r1) ∧ Kd.R (Kd.int .i64) 3 w' w0.heap.size (fun k_ => (P0_ k_ ∨ w.heap.size ≤ k_)) u9000_ r2 ∧ Below w0.heap.size w0 w' ∧ Kept w w' (fun k_ => P0_ k_) := by
 have HO0 := am_ (show Kd.R (Kd.int .i64) 3 w w0.heap.size (fun k_ => (P0_ k_ ∨ w.heap.size ≤ k_)) u9000_ l0 from Kd.R_mono ho0 (fun k_ hk => (.inl hk))); have HK := am_ (Kept.refl w (fun k_ => P0_ k_)); have HW0 := am_ hB.size; have HB := am_ hB; clear hB; have H : ((spec_l1In.f a1 0 (wrap64 ((l0.length : Int) - 2))).bind fun t107 => (if t107 = true then (if 0 ≤ a1 then (if a1 < (l0.length : Int) then (if 0 ≤ (wrap64 (a1 + 1)) then (if (wrap64 (a1 + 1)) < (l0.length : Int) then (if (rd l0 a1) > (rd l0 (wrap64 (a1 + 1))) then (some (false, l0)) else (some (true, ((l0.set (a1 : Int).toNat (rd l0 (wrap64 (a1 + 1)))).set ((wrap64 (a1 + 1)) : Int).toNat (rd l0 a1))))) else (none)) else (none)) else (none)) else (none)) else (some (false, l0)))) = some (r1, r2) := h; clear h; obtain ⟨t107, A3, H⟩ := bnd_ H; by_cases c4 : t107 = true
 ·subst c4; replace H := ifT_ H; by_cases c5 : 0 ≤ a1
  ·rw [if_pos c5] at H; have c5b0 := decide_eq_true c5; clear c5; by_cases c6 : a1 < (l0.length : Int)
   ·rw [if_pos c6] at H; have c6b0 := decide_eq_true c6; clear c6; obtain ⟨ji7, hji7⟩ : ∃ j_ : Int, (wrap64 (a1 + 1)) = j_ := ⟨_, rfl⟩; first | rw [hji7] at H | simp only [hji7] at H
    (try rw [hji7] at A3)
    have hji7w : (IntKind.i64.wrap (a1 + 1)) = ji7 := (i64_w _).trans hji7; by_cases c8 : 0 ≤ (ji7)
    ·rw [if_pos c8] at H; have c8b0 := decide_eq_true c8; clear c8; by_cases c9 : (ji7) < (l0.length : Int)
     ·rw [if_pos c9] at H; have c9b0 := decide_eq_true c9; clear c9; by_cases c10 : (rd l0 a1) > (rd l0 (ji7))
      ·rw [if_pos c10] at H; have c10b0 := decide_eq_true c10; clear c10; simp only [Option.some.injEq, Prod.mk.injEq] at H
       obtain ⟨rfl, rfl⟩ := H; go_enter Try.func147, Try.ntmps147
       try go_wp2
       replace HO0 := am_ (Kd.R_drew HO0.out); replace HK := am_ (Kept.drew HK.out); replace HB := bd_ HB; obtain ⟨Ao12, co12, eo12⟩ := Kd.R_slice HO0.out; (first | subst eo12 | (injection eo12 with f1_ f2_ f3_; have f4_ := f1_.symm; have f5_ := f3_.symm; clear f1_ f2_ f3_; subst f4_; subst f5_))
       have p108 : 0 ≤ (a1 : Int) := oda_; have q108 : a1 < (l0.length : Int) := oda_; obtain ⟨ad108, e108, hx108_0⟩ := Kd.at_int (Kd.R_reads' HO0.out).2.2 a1 p108 q108; cases e108; replace p108 := eq_true p108; replace q108 := eq_true q108; have p109 : 0 ≤ ((ji7) : Int) := oda_; have q109 : (ji7) < (l0.length : Int) := oda_; obtain ⟨ad109, e109, hx109_0⟩ := Kd.at_int (Kd.R_reads' HO0.out).2.2 (ji7) p109 q109; obtain rfl : ad108 = ad109 := (by injection e109); replace p109 := eq_true p109; replace q109 := eq_true q109; refine start_ (n := 18) (S := fun w' => w'.cell? (ad108.add (a1).toNat) = some (.int .i64 (rd l0 a1)) ∧ w'.cell? (ad108.add ((ji7)).toNat) = some (.int .i64 (rd l0 (ji7)))) (ds := []) #[false, false, false, false, false, false, false, false, false, false, false, false, false, false, false, false, false, false] (by kernel_rfl) rfl rfl ⟨hx108_0, hx109_0⟩ (fun hHeld => ?_); refine with_tabW spec_l12Swap.tab1 spec_l12Swap.bits1 (fun HT_ HW_ => ?_); generalize w.drew = w11 at HO0 HK HB hx108_0 hx109_0 hHeld ⊢
       refine pD_ 0 (some 6) HT_ (h := ?_); refine pD_ 1 (some 7) HT_ (h := ?_); refine pD_ 2 (some 8) HT_ (h := ?_); refine pD_ 3 (some 9) HT_ (h := ?_); refine oN_ 4 (some 10) HT_ (fun K hK => ?_); refine gO_ Try.func79 #[.int .i64 a1, .int .i64 0, .int .i64 (wrap64 ((l0.length : Int) - 2))] ?_; with_reducible refine (spec_l1In.calls a1 0 (wrap64 ((l0.length : Int) - 2)) true _ A3.out).mono ?_
       rintro e w' ⟨rfl, ⟨nd, rfl⟩⟩; refine ⟨_, rfl, ?_⟩; refine hK.out _ _ ⟨hHeld.1, hHeld.2⟩ (fun hHeld => ?_); clear hK K; refine nm_ 10 (h := ?_); refine pD_ 5 (some 11) HT_ (h := ?_); refine pD_ 6 (some 12) HT_ (h := ?_); refine pD_ 7 (some 13) HT_ (h := ?_); refine pD_ 8 (some 14) HT_ (h := ?_); refine pD_ 9 (some 15) HT_ (h := ?_); refine pD_ 11 (some 17) HT_ (h := ?_); refine pD_ 12 (some 18) HT_ (h := ?_); refine pD_ 13 (some 19) HT_ (h := ?_); refine pD_ 14 (some 20) HT_ (h := ?_); refine tD2_ 10 (some 16) HT_ HW_ hHeld (h := ?_); refine tD2_ 15 (some 21) HT_ HW_ hHeld (h := ?_); refine pD_ 16 (some 22) HT_ (h := ?_); refine pD_ 17 (some 23) HT_ (h := ?_); refine done_ (done_of HT_.out (by kernel_rfl)) ?_; try go_wp2
       go_ret; exact ⟨by first | rfl | (simp [errW_none, errW_some] <;> rfl) | (simp only [← hji7]; first | rfl | (simp [errW_none, errW_some] <;> rfl)) | (simp [*, errW_none, errW_some] <;> rfl), rx_ HO0.out, bx0 HB.out, by repeat (first | (with_reducible first | exact HK.out | apply Kept.alloc | apply Kept.drewN | apply Kept.drew) | exact HK.out)⟩
      ·rw [if_neg c10] at H; have c10b0 := decide_eq_false c10; clear c10; obtain ⟨y112, hy112⟩ : ∃ y_ : List Int, y_ = (l0.set (a1 : Int).toNat (rd l0 (ji7))) := ⟨_, rfl⟩; replace H : (some (true, (y112.set ((ji7) : Int).toNat (rd l0 a1)))) = some (r1, r2) := yH_ hy112 H; have Ny112 := am_ hy112; clear hy112; obtain ⟨y113, hy113⟩ : ∃ y_ : List Int, y_ = (y112.set ((ji7) : Int).toNat (rd l0 a1)) := ⟨_, rfl⟩; replace H : (some (true, y113)) = some (r1, r2) := yH_ hy113 H; have Ny113 := am_ hy113; clear hy113; simp only [Option.some.injEq, Prod.mk.injEq] at H
       obtain ⟨rfl, rfl⟩ := H; go_enter Try.func147, Try.ntmps147
       try go_wp2
       replace HO0 := am_ (Kd.R_drew HO0.out); replace HK := am_ (Kept.drew HK.out); replace HB := bd_ HB; obtain ⟨Ao16, co16, eo16⟩ := Kd.R_slice HO0.out; (first | subst eo16 | (injection eo16 with f1_ f2_ f3_; have f4_ := f1_.symm; have f5_ := f3_.symm; clear f1_ f2_ f3_; subst f4_; subst f5_))
       have p108 : 0 ≤ (a1 : Int) := oda_; have q108 : a1 < (l0.length : Int) := oda_; obtain ⟨ad108, e108, hx108_0⟩ := Kd.at_int (Kd.R_reads' HO0.out).2.2 a1 p108 q108; cases e108; replace p108 := eq_true p108; replace q108 := eq_true q108; have p109 : 0 ≤ ((ji7) : Int) := oda_; have q109 : (ji7) < (l0.length : Int) := oda_; obtain ⟨ad109, e109, hx109_0⟩ := Kd.at_int (Kd.R_reads' HO0.out).2.2 (ji7) p109 q109; obtain rfl : ad108 = ad109 := (by injection e109); replace p109 := eq_true p109; replace q109 := eq_true q109; refine start_ (n := 18) (S := fun w' => w'.cell? (ad108.add (a1).toNat) = some (.int .i64 (rd l0 a1)) ∧ w'.cell? (ad108.add ((ji7)).toNat) = some (.int .i64 (rd l0 (ji7)))) (ds := []) #[false, false, false, false, false, false, false, false, false, false, false, false, false, false, false, false, false, false] (by kernel_rfl) rfl rfl ⟨hx108_0, hx109_0⟩ (fun hHeld => ?_); refine with_tabW spec_l12Swap.tab1 spec_l12Swap.bits1 (fun HT_ HW_ => ?_); generalize w.drew = w15 at HO0 HK HB hx108_0 hx109_0 hHeld ⊢
       refine pD_ 0 (some 6) HT_ (h := ?_); refine pD_ 1 (some 7) HT_ (h := ?_); refine pD_ 2 (some 8) HT_ (h := ?_); refine pD_ 3 (some 9) HT_ (h := ?_); refine oN_ 4 (some 10) HT_ (fun K hK => ?_); refine gO_ Try.func79 #[.int .i64 a1, .int .i64 0, .int .i64 (wrap64 ((l0.length : Int) - 2))] ?_; with_reducible refine (spec_l1In.calls a1 0 (wrap64 ((l0.length : Int) - 2)) true _ A3.out).mono ?_
       rintro e w' ⟨rfl, ⟨nd, rfl⟩⟩; refine ⟨_, rfl, ?_⟩; refine hK.out _ _ ⟨hHeld.1, hHeld.2⟩ (fun hHeld => ?_); clear hK K; refine nm_ 10 (h := ?_); refine pD_ 5 (some 11) HT_ (h := ?_); refine pD_ 6 (some 12) HT_ (h := ?_); refine pD_ 7 (some 13) HT_ (h := ?_); refine pD_ 8 (some 14) HT_ (h := ?_); refine pD_ 9 (some 15) HT_ (h := ?_); refine pD_ 11 (some 17) HT_ (h := ?_); refine pD_ 12 (some 18) HT_ (h := ?_); refine pD_ 13 (some 19) HT_ (h := ?_); refine pD_ 14 (some 20) HT_ (h := ?_); refine tD2_ 10 (some 16) HT_ HW_ hHeld (h := ?_); refine tD2_ 15 (some 21) HT_ HW_ hHeld (h := ?_); refine pD_ 16 (some 22) HT_ (h := ?_); refine pD_ 17 (some 23) HT_ (h := ?_); refine done_ (done_of HT_.out (by kernel_rfl)) ?_; (try (rw [drewN_self w15]; generalize hq_ : World.drewN w15 _ = w15; have n0_ : Aside0 (Kd.R (Kd.int .i64) 3 w15 w0.heap.size (fun k_ => (P0_ k_ ∨ w.heap.size ≤ k_)) (.slice (some ad108) l0.length co16) l0) := ⟨by rw [← hq_]; exact (rx_ HO0.out)⟩; have n1_ : Aside0 (Kept w w15 (fun k_ => P0_ k_)) := ⟨by rw [← hq_]; exact (by repeat (first | (with_reducible first | exact HK.out | apply Kept.alloc | apply Kept.drewN | apply Kept.drew) | exact HK.out))⟩; have n2_ : Aside0 (Below w0.heap.size w0 w15) := ⟨by rw [← hq_]; exact (bx0 HB.out)⟩; clear HO0 HK HB hq_; have HO0 := n0_; have HK := n1_; have HB := n2_; clear n0_ n1_ n2_))
       have p110 : 0 ≤ (a1 : Int) := oda_; have q110 : a1 < (l0.length : Int) := oda_; obtain ⟨ad110, e110, hx110_0⟩ := Kd.at_int (Kd.R_reads' HO0.out).2.2 a1 p110 q110; obtain rfl : ad108 = ad110 := (by injection e110); replace p110 := eq_true p110; replace q110 := eq_true q110; have p111 : 0 ≤ ((ji7) : Int) := oda_; have q111 : (ji7) < (l0.length : Int) := oda_; obtain ⟨ad111, e111, hx111_0⟩ := Kd.at_int (Kd.R_reads' HO0.out).2.2 (ji7) p111 q111; obtain rfl : ad108 = ad111 := (by injection e111); replace p111 := eq_true p111; replace q111 := eq_true q111; have p13 : 0 ≤ (a1 : Int) := oda_; have q13 : (a1 : Int) < ((l0.length : Int) : Int) := oda_; obtain ⟨go13, co13, eo13, gb13, gl13, cl13, HG13⟩ := Kd.R_form HO0.out (by omega); (first | cases eo13 | (injection eo13 with ea_ en_ ec_; (first | subst ea_ | (injection ea_ with ea_; subst ea_)); subst ec_; clear en_))
       have GB13 := am_ gb13; have GG13 := am_ HG13; clear gb13 gl13 HG13; have HMgo13 := am_ (show (P0_ go13 ∨ w.heap.size ≤ go13) from (HO0.out.1 _ rfl)); (first | simp only [add_plain] at hx108_0 | skip)
       (first | simp only [add_plain] at hx109_0 | skip)
       (first | simp only [add_plain] at hx110_0 | skip)
       (first | simp only [add_plain] at hx111_0 | skip)
       obtain ⟨hx13_0, hf13_0⟩ := Kd.R_celln 0 HO0.out (a1 : Int) p13 q13; replace p13 := eq_true p13; replace q13 := eq_true q13; obtain ⟨hy17_, hz17_⟩ := Kd.R_celln 0 HO0.out (a1 : Int) (oda_) (oda_); have HP17 := Kd.R_putg HO0.out (a1 : Int) (rd l0 (ji7)); try go_wp2_with (first | ((with_reducible refine gate_store (t := 3) (p := 35) rfl ?_); refine store_event (t := 3) (p := 35) (v := ?vo_w18) (w1 := (w15.setCell ⟨go13, (a1 : Int).toNat, none⟩ (.int .i64 (rd l0 (ji7))))) ?hg ?ho ?hn ?hr ?_; (case ho => rfl); (case hg => rfl); (case hn => rfl); (case hr => first | (go_simp; done) | (go_simp; rfl)); intro w18 hw; have hg : w15.grownBy w18 (some go13) := (by rw [hw]; exact HP17.2); have hp_ : Kd.R (Kd.int .i64) 3 w18 w0.heap.size (fun k_ => (P0_ k_ ∨ w.heap.size ≤ k_)) (.slice (some ⟨go13, 0, none⟩) l0.length co16) y112 := (by rw [hw, Ny112.out]; exact HP17.1); clear HP17; replace HB := am_ ((by rw [hw]; exact below_set (HB.out) GB13.out : Below w0.heap.size w0 w18)); replace HK := am_ (Kept.of_grown (S := (fun k_ => P0_ k_)) hg (by repeat (first | (with_reducible first | exact HK.out | apply Kept.alloc | apply Kept.drewN | apply Kept.drew) | exact HK.out)) (fun k_ e_ => (HO0.out.1 k_ e_))); replace HO0 := am_ hp_; clear hg hw hp_; have p14 : 0 ≤ ((ji7) : Int) := oda_; have q14 : ((ji7) : Int) < ((l0.length : Int) : Int) := oda_; obtain ⟨hx14_0, hf14_0⟩ := Kd.R_celln 0 HO0.out ((ji7) : Int) p14 q14; replace p14 := eq_true p14; replace q14 := eq_true q14; obtain ⟨hy19_, hz19_⟩ := Kd.R_celln 0 HO0.out ((ji7) : Int) (oda_) (oda_); have HP19 := Kd.R_putg HO0.out ((ji7) : Int) (rd l0 a1)) | ((with_reducible refine gate_store (t := 3) (p := 40) rfl ?_); refine store_event (t := 3) (p := 40) (v := ?vo_w20) (w1 := (w18.setCell ⟨go13, ((ji7) : Int).toNat, none⟩ (.int .i64 (rd l0 a1)))) ?hg ?ho ?hn ?hr ?_; (case ho => rfl); (case hg => rfl); (case hn => rfl); (case hr => first | (go_simp; done) | (go_simp; rfl)); intro w20 hw; have hg : w18.grownBy w20 (some go13) := (by rw [hw]; exact HP19.2); have hp_ : Kd.R (Kd.int .i64) 3 w20 w0.heap.size (fun k_ => (P0_ k_ ∨ w.heap.size ≤ k_)) (.slice (some ⟨go13, 0, none⟩) l0.length co16) y113 := (by rw [hw, Ny113.out]; exact HP19.1); clear HP19; replace HB := am_ ((by rw [hw]; exact below_set (HB.out) GB13.out : Below w0.heap.size w0 w20)); replace HK := am_ (Kept.of_grown (S := (fun k_ => P0_ k_)) hg (by repeat (first | (with_reducible first | exact HK.out | apply Kept.alloc | apply Kept.drewN | apply Kept.drew) | exact HK.out)) (fun k_ e_ => (HO0.out.1 k_ e_))); replace HO0 := am_ hp_; clear hg hw hp_))
       go_ret; exact ⟨by first | rfl | (simp [errW_none, errW_some] <;> rfl) | (simp only [← hji7]; first | rfl | (simp [errW_none, errW_some] <;> rfl)) | (simp [*, errW_none, errW_some] <;> rfl), rx_ HO0.out, bx0 HB.out, by repeat (first | (with_reducible first | exact HK.out | apply Kept.alloc | apply Kept.drewN | apply Kept.drew) | exact HK.out)⟩
     ·rw [if_neg c9] at H; exact absurd H (by simp)
    ·rw [if_neg c8] at H; exact absurd H (by simp)
   ·rw [if_neg c6] at H; exact absurd H (by simp)
  ·rw [if_neg c5] at H; exact absurd H (by simp)
 ·replace c4 := Bool.eq_false_iff.mpr c4; subst c4; replace H := ifF_ H; simp only [Option.some.injEq, Prod.mk.injEq] at H
  obtain ⟨rfl, rfl⟩ := H; go_enter Try.func147, Try.ntmps147
  try go_wp2
  replace HO0 := am_ (Kd.R_drew HO0.out); replace HK := am_ (Kept.drew HK.out); replace HB := bd_ HB; obtain ⟨Ao22, co22, eo22⟩ := Kd.R_slice HO0.out; (first | subst eo22 | (injection eo22 with f1_ f2_ f3_; have f4_ := f1_.symm; have f5_ := f3_.symm; clear f1_ f2_ f3_; subst f4_; subst f5_))
  refine start_ (n := 18) (S := fun w' => True) (ds := []) #[false, false, false, false, false, false, false, false, false, false, false, false, false, false, false, false, false, false] (by kernel_rfl) rfl rfl trivial (fun hHeld => ?_); refine with_tabW spec_l12Swap.tab1 spec_l12Swap.bits1 (fun HT_ HW_ => ?_); generalize w.drew = w21 at HO0 HK HB hHeld ⊢
  refine pD_ 0 (some 6) HT_ (h := ?_); refine pD_ 1 (some 7) HT_ (h := ?_); refine pD_ 2 (some 8) HT_ (h := ?_); refine pD_ 3 (some 9) HT_ (h := ?_); refine oN_ 4 (some 10) HT_ (fun K hK => ?_); refine gO_ Try.func79 #[.int .i64 a1, .int .i64 0, .int .i64 (wrap64 ((l0.length : Int) - 2))] ?_; with_reducible refine (spec_l1In.calls a1 0 (wrap64 ((l0.length : Int) - 2)) false _ A3.out).mono ?_
  rintro e w' ⟨rfl, ⟨nd, rfl⟩⟩; refine ⟨_, rfl, ?_⟩; refine hK.out _ _ trivial (fun hHeld => ?_); clear hK K; refine nm_ 10 (h := ?_); refine pD_ 5 (some 11) HT_ (h := ?_); refine pD_ 6 (some 12) HT_ (h := ?_); refine pure_ (i := 7) (N := some 13) (v := undef) (a' := ?_) #[true, true, true, true, true, true, true, true, false, false, false, false, false, false, false, false, false, false] rfl rfl (any_of HT_.out (by kernel_rfl)) (fun _ _ _ h => h) (Or.inr ⟨by rfl, rfl⟩) ?_ ?_; rotate_left
  ·simp only [Act.put, sA_, sZ_, sS_, i64_w, i32_w]
   rfl
  refine pure_ (i := 8) (N := some 14) (v := undef) (a' := ?_) #[true, true, true, true, true, true, true, true, true, false, false, false, false, false, false, false, false, false] rfl rfl (any_of HT_.out (by kernel_rfl)) (fun _ _ _ h => h) (Or.inr ⟨by rfl, rfl⟩) ?_ ?_; rotate_left
  ·simp only [Act.put, sA_, sZ_, sS_, i64_w, i32_w]
   rfl
  refine pure_ (i := 9) (N := some 15) (v := undef) (a' := ?_) #[true, true, true, true, true, true, true, true, true, true, false, false, false, false, false, false, false, false] rfl rfl (any_of HT_.out (by kernel_rfl)) (fun _ _ _ h => h) (Or.inr ⟨by rfl, rfl⟩) ?_ ?_; rotate_left
  ·simp only [Act.put, sA_, sZ_, sS_, i64_w, i32_w]
   rfl
  refine pure_ (i := 10) (N := some 16) (v := undef) (a' := ?_) #[true, true, true, true, true, true, true, true, true, true, true, false, false, false, false, false, false, false] rfl rfl (any_of HT_.out (by kernel_rfl)) (fun _ _ _ h => h) (Or.inr ⟨by rfl, rfl⟩) ?_ ?_; rotate_left
  ·simp only [Act.put, sA_, sZ_, sS_, i64_w, i32_w]
   rfl
  refine pure_ (i := 11) (N := some 17) (v := undef) (a' := ?_) #[true, true, true, true, true, true, true, true, true, true, true, true, false, false, false, false, false, false] rfl rfl (any_of HT_.out (by kernel_rfl)) (fun _ _ _ h => h) (Or.inr ⟨by rfl, rfl⟩) ?_ ?_; rotate_left
  ·simp only [Act.put, sA_, sZ_, sS_, i64_w, i32_w]
   rfl
  refine pure_ (i := 12) (N := some 18) (v := undef) (a' := ?_) #[true, true, true, true, true, true, true, true, true, true, true, true, true, false, false, false, false, false] rfl rfl (any_of HT_.out (by kernel_rfl)) (fun _ _ _ h => h) (Or.inr ⟨by rfl, rfl⟩) ?_ ?_; rotate_left
  ·simp only [Act.put, sA_, sZ_, sS_, i64_w, i32_w]
   rfl
  refine pure_ (i := 13) (N := some 19) (v := undef) (a' := ?_) #[true, true, true, true, true, true, true, true, true, true, true, true, true, true, false, false, false, false] rfl rfl (any_of HT_.out (by kernel_rfl)) (fun _ _ _ h => h) (Or.inr ⟨by rfl, rfl⟩) ?_ ?_; rotate_left
  ·simp only [Act.put, sA_, sZ_, sS_, i64_w, i32_w]
   rfl
  refine pure_ (i := 14) (N := some 20) (v := undef) (a' := ?_) #[true, true, true, true, true, true, true, true, true, true, true, true, true, true, true, false, false, false] rfl rfl (any_of HT_.out (by kernel_rfl)) (fun _ _ _ h => h) (Or.inr ⟨by rfl, rfl⟩) ?_ ?_; rotate_left
  ·simp only [Act.put, sA_, sZ_, sS_, i64_w, i32_w]
   rfl
  refine pure_ (i := 15) (N := some 21) (v := undef) (a' := ?_) #[true, true, true, true, true, true, true, true, true, true, true, true, true, true, true, true, false, false] rfl rfl (any_of HT_.out (by kernel_rfl)) (fun _ _ _ h => h) (Or.inr ⟨by rfl, rfl⟩) ?_ ?_; rotate_left
  ·simp only [Act.put, sA_, sZ_, sS_, i64_w, i32_w]
   rfl
  refine pure_ (i := 16) (N := some 22) (v := undef) (a' := ?_) #[true, true, true, true, true, true, true, true, true, true, true, true, true, true, true, true, true, false] rfl rfl (any_of HT_.out (by kernel_rfl)) (fun _ _ _ h => h) (Or.inr ⟨by rfl, rfl⟩) ?_ ?_; rotate_left
  ·simp only [Act.put, sA_, sZ_, sS_, i64_w, i32_w]
   rfl
  refine pD_ 17 (some 23) HT_ (h := ?_); refine done_ (done_of HT_.out (by kernel_rfl)) ?_; try go_wp2
  go_ret; exact ⟨er_, rx_ HO0.out, bx0 HB.out, by repeat (first | (with_reducible first | exact HK.out | apply Kept.alloc | apply Kept.drewN | apply Kept.drew) | exact HK.out)⟩
mutual
def spec_IsWiring.j0 : Nat → Int → List Int → Bool → Option (Bool)
 | 0, _, _, _ => none
 | k + 1, x0, x1, x19 => if x19 = true then (some false) else ((spec_l12Start.f k x0).bind fun t115 => (spec_IsWiring.l0 k x1 t115 0))
def spec_IsWiring.l0 : Nat → List Int → List Int → Int → Option (Bool)
 | 0, _, _, _ => none
 | k + 1, x1, x5, x6 => if x6 < (x1.length : Int) then (if 0 ≤ x6 then ((spec_l12Swap.f x5 (rd x1 x6)).bind fun bt119 => (if bt119.1 = true then (spec_IsWiring.l0 k x1 bt119.2 (wrap64 (x6 + 1))) else (some false))) else (none)) else (some true)
end
def spec_IsWiring.f (k : Nat) (a0 : Int) (l1 : List Int) : Option (Bool) := (spec_l1In.f a0 3 6).bind fun t114 => (if t114 = true then (spec_IsWiring.j0 k a0 l1 ((l1.length : Int) != (wrap64 (Int.tdiv (wrap64 (a0 * (wrap64 (a0 - 1)))) 2)))) else (spec_IsWiring.j0 k a0 l1 true))
theorem spec_IsWiring.mono_l : ∀ k, (∀ y0 y1 y2, LeO (spec_IsWiring.j0 k y0 y1 y2) (spec_IsWiring.j0 (k + 1) y0 y1 y2)) ∧ (∀ y0 y1 y2, LeO (spec_IsWiring.l0 k y0 y1 y2) (spec_IsWiring.l0 (k + 1) y0 y1 y2))
 | 0 => ⟨fun _ _ _ r h => by simp [spec_IsWiring.j0] at h, fun _ _ _ r h => by simp [spec_IsWiring.l0] at h⟩
 | k + 1 => by
  obtain ⟨ih0, ih1⟩ := spec_IsWiring.mono_l k; refine ⟨?_, ?_⟩ <;> (intros; (first | unfold spec_IsWiring.j0 | unfold spec_IsWiring.l0); repeat' first | (with_reducible first | apply ih0 | apply ih1 | apply spec_l12Start.mono | exact LeO.refl _ | exact LeO.none _ | refine LeO.ite ?_ ?_ | refine LeO.bind ?_ (fun _ => ?_)) | exact LeO.none _)
theorem spec_IsWiring.mono : ∀ a0 a1 k, LeO (spec_IsWiring.f k a0 a1) (spec_IsWiring.f (k + 1) a0 a1) := by
 intro a0 a1 k; obtain ⟨ih0, ih1⟩ := spec_IsWiring.mono_l k; unfold spec_IsWiring.f
 repeat' first | (with_reducible first | apply ih0 | apply ih1 | apply spec_l12Start.mono | exact LeO.refl _ | exact LeO.none _ | refine LeO.ite ?_ ?_ | refine LeO.bind ?_ (fun _ => ?_)) | exact LeO.none _
set_option maxHeartbeats 8000000 in
set_option maxRecDepth 100000 in
theorem spec_IsWiring.calls (k : Nat) (a0 : Int) (A1 : Option Addr) (c1 : Nat) (l1 : List Int) (r : Bool) (w : World) (hr1 : Kd.C (Kd.int .i64) w A1 l1.length l1) (hc1 : l1.length ≤ c1) (h : spec_IsWiring.f k a0 l1 = some r) :
  Calls Try.prog 78 #[.int .i64 a0, .slice A1 l1.length c1] w fun e w' => e = .returned (.bool r) ∧ Below w.heap.size w w' := by
 have HR1 := am_ hr1; have HC1 := am_ hc1; clear hr1 hc1; have HB := am_ (Below.refl w.heap.size w); have H : ((spec_l1In.f a0 3 6).bind fun t114 => (if t114 = true then (spec_IsWiring.j0 k a0 l1 ((l1.length : Int) != (wrap64 (Int.tdiv (wrap64 (a0 * (wrap64 (a0 - 1)))) 2)))) else (spec_IsWiring.j0 k a0 l1 true))) = some r := h; clear h; have HC3 := am_ H; clear H; go_enter Try.func78, Try.ntmps78
 go_upto_region 1 with (fail)
 go_cut [19] (fun v19 wc => ∃ (kq : Nat) (x19_2 : Bool), v19 = .bool x19_2 ∧ Aside0 (spec_IsWiring.j0 kq a0 l1 x19_2 = some r) ∧ Aside0 (kq ≤ k) ∧ Aside0 (Below w.heap.size w wc))
 case first =>
  have H := HC3.out; clear HC3; obtain ⟨t114, A4, H⟩ := bnd_ H; by_cases c5 : t114 = true
  ·subst c5; replace H := ifT_ H; have H' := am_ H; clear H; go_wp2_with (first | ((with_reducible refine gc_ 79 rfl ?_); refine gP_ (some 8) Try.func79 #[.int .i64 a0, .int .i64 3, .int .i64 6] (spec_l1In.calls a0 3 6 true _ A4.out) ?_; intro nd))
   go_meet
   case rel => exact ⟨_, (((l1.length : Int) != (wrap64 (Int.tdiv (wrap64 (a0 * (wrap64 (a0 - 1)))) 2)))), vt_, H', le_, bX0_ HB⟩
  ·replace c5 := Bool.eq_false_iff.mpr c5; subst c5; replace H := ifF_ H; have H' := am_ H; clear H; go_wp2_with (first | ((with_reducible refine gc_ 79 rfl ?_); refine gP_ (some 8) Try.func79 #[.int .i64 a0, .int .i64 3, .int .i64 6] (spec_l1In.calls a0 3 6 false _ A4.out) ?_; intro nd))
   go_meet
   case rel => exact ⟨_, (true), vt_, H', le_, bX0_ HB⟩
 case rest =>
  clear HC3; obtain ⟨kq, x19_2, rfl, HA, HJ2, HB⟩ := hcut; cases kq with
  | zero => exact absurd HA.out (by simp [spec_IsWiring.j0])
  | succ kj2 =>
   have H := HA.out; clear HA; simp only [spec_IsWiring.j0] at H
   by_cases c6 : x19_2 = true
   ·subst c6; replace H := ifT_ H; obtain rfl := Option.some.inj H; go_wp2; go_ret; exact ⟨er_, bx0 HB.out⟩
   ·replace c6 := Bool.eq_false_iff.mpr c6; subst c6; replace H := ifF_ H; obtain ⟨t115, A7, H⟩ := bnd_ H; have H' := am_ H; clear H; go_wp2_with (first | ((with_reducible refine gc_ 145 rfl ?_); refine gR_ (some 21) Try.func145 #[.int .i64 a0] (spec_l12Start.calls kj2 a0 t115 _ A7.out) ?_; intro w8 v116 ho0 hb; have HO117 := rl0_ ho0 HB; replace HB := bs0_ HB hb; try clear hb; (try clear ho0)))
    go_loopg [6] kj2 (fun kq v6 w' => ∃ (x5_2 : List Int) (x6_2 : Int), v6 = .int .i64 x6_2 ∧ Aside0 (spec_IsWiring.l0 kq l1 x5_2 x6_2 = some r) ∧ Aside0 (kq ≤ kj2) ∧ Aside0 (Kd.R (Kd.int .i64) 3 w' w.heap.size (fun _ => True) v116 x5_2) ∧ Aside0 (Below w.heap.size w w'))
    case atStart => exact ⟨(t115), (0), vt_, H', ⟨Nat.le_refl _⟩, rX_ HO117, bX0_ HB⟩
    case round =>
     clear H'; try clear c6
     obtain ⟨x5_2, x6_2, rfl, HA, HK2, HO_5, HB⟩ := hrel; cases gk with
     | zero => exact absurd HA.out (by simp [spec_IsWiring.l0])
     | succ k2 =>
      have H := HA.out; clear HA; simp only [spec_IsWiring.l0] at H
      by_cases c9 : x6_2 < (l1.length : Int)
      ·rw [if_pos c9] at H; have c9b0 := decide_eq_true c9; clear c9; by_cases c10 : 0 ≤ x6_2
       ·rw [if_pos c10] at H; have c10b0 := decide_eq_true c10; clear c10; replace H := Option.bind_eq_some_iff.mp H; obtain ⟨⟨t119, t120⟩, A110, H⟩ := H; replace H : (if t119 = true then (spec_IsWiring.l0 k2 l1 t120 (wrap64 (x6_2 + 1))) else (some false)) = some r := H; have A11 := am_ A110; clear A110; by_cases c12 : t119 = true
        ·subst c12; replace H := ifT_ H; have H' := am_ H; clear H; have p118 : 0 ≤ (x6_2 : Int) := oda_; have q118 : x6_2 < (l1.length : Int) := oda_; obtain ⟨ad118, e118, hx118_0⟩ := Kd.at_int HR1.out x6_2 p118 q118; cases e118; replace hx118_0 := hc_ HB hx118_0; replace p118 := eq_true p118; replace q118 := eq_true q118; obtain ⟨Ao13, co13, eo13⟩ := Kd.R_slice HO_5.out; subst eo13; go_wp2_with (first | ((with_reducible refine gc_ 147 rfl ?_); refine gL_ (some 33) Try.func147 #[.slice Ao13 x5_2.length co13, .int .i64 (rd l1 x6_2)] ?_; (with_reducible refine (spec_l12Swap.calls (fun k_ => some k_ = (.slice Ao13 x5_2.length co13 : Value).ownBlock) (.slice Ao13 x5_2.length co13) x5_2 (rd l1 x6_2) true t120 w _ ?side1 ?side2 A11.out).mono ?_); (case side1 => exact bx0 HB.out); (case side2 => exact Kd.R_tight rfl HO_5.out); rintro e w14 ⟨rfl, hy0, hb, hkp⟩; refine ⟨_, rfl, ?_⟩; replace HO_5 := am_ (Kd.R_reok rfl hy0 (fun k_ e_ => HO_5.out.1 k_ e_)); replace HB := am_ hb; (try clear hb); (try clear hkp); (try clear hy0)))
         go_roundg k2
         case measure => have := HJ2.out; have := HK2.out; omega
         case rel => exact ⟨(t120), (wrap64 (x6_2 + 1)), vt_, H', hl2_ HJ2 HK2, rX_ HO_5, bX0_ HB⟩
        ·replace c12 := Bool.eq_false_iff.mpr c12; subst c12; replace H := ifF_ H; obtain rfl := Option.some.inj H; have p118 : 0 ≤ (x6_2 : Int) := oda_; have q118 : x6_2 < (l1.length : Int) := oda_; obtain ⟨ad118, e118, hx118_0⟩ := Kd.at_int HR1.out x6_2 p118 q118; cases e118; replace hx118_0 := hc_ HB hx118_0; replace p118 := eq_true p118; replace q118 := eq_true q118; obtain ⟨Ao15, co15, eo15⟩ := Kd.R_slice HO_5.out; subst eo15; go_wp2_with (first | ((with_reducible refine gc_ 147 rfl ?_); refine gL_ (some 33) Try.func147 #[.slice Ao15 x5_2.length co15, .int .i64 (rd l1 x6_2)] ?_; (with_reducible refine (spec_l12Swap.calls (fun k_ => some k_ = (.slice Ao15 x5_2.length co15 : Value).ownBlock) (.slice Ao15 x5_2.length co15) x5_2 (rd l1 x6_2) false t120 w _ ?side1 ?side2 A11.out).mono ?_); (case side1 => exact bx0 HB.out); (case side2 => exact Kd.R_tight rfl HO_5.out); rintro e w16 ⟨rfl, hy0, hb, hkp⟩; refine ⟨_, rfl, ?_⟩; replace HO_5 := am_ (Kd.R_reok rfl hy0 (fun k_ e_ => HO_5.out.1 k_ e_)); replace HB := am_ hb; (try clear hb); (try clear hkp); (try clear hy0)))
         go_ret; exact ⟨er_, bx0 HB.out⟩
       ·rw [if_neg c10] at H; exact absurd H (by simp)
      ·rw [if_neg c9] at H; have c9b0 := decide_eq_false c9; clear c9; obtain rfl := Option.some.inj H; go_wp2; go_ret; exact ⟨er_, bx0 HB.out⟩
def spec_l12Swaps.l0 : Nat → List Int → List (List Int) → List Int → Int → Option ((List (List Int)))
 | 0, _, _, _, _ => none
 | k + 1, x1, x5, x6, x7 => if x7 < (x1.length : Int) then (if 0 ≤ x7 then (if 0 ≤ (rd x1 x7) then (if (rd x1 x7) < (x6.length : Int) then (if 0 ≤ (wrap64 ((rd x1 x7) + 1)) then (if (wrap64 ((rd x1 x7) + 1)) < (x6.length : Int) then (if x5.length < 5864062014805 then ((spec_l12Swap.f x6 (rd x1 x7)).bind fun bt138 => (spec_l12Swaps.l0 k x1 (x5 ++ [(([rd x6 (rd x1 x7), rd x6 (wrap64 ((rd x1 x7) + 1))] : List Int))]) bt138.2 (wrap64 (x7 + 1)))) else (none)) else (none)) else (none)) else (none)) else (none)) else (none)) else (some x5)
def spec_l12Swaps.f (k : Nat) (a0 : Int) (l1 : List Int) : Option ((List (List Int))) := (spec_l12Start.f k a0).bind fun t124 => (spec_l12Swaps.l0 k l1 (([] : List (List Int))) t124 0)
theorem spec_l12Swaps.mono_l : ∀ k, (∀ y0 y1 y2 y3, LeO (spec_l12Swaps.l0 k y0 y1 y2 y3) (spec_l12Swaps.l0 (k + 1) y0 y1 y2 y3))
 | 0 => fun _ _ _ _ r h => by simp [spec_l12Swaps.l0] at h
 | k + 1 => by
  have ih0 := spec_l12Swaps.mono_l k
  ·intro y0 y1 y2 y3; unfold spec_l12Swaps.l0
   repeat' first | (with_reducible first | apply ih0 | apply spec_l12Start.mono | exact LeO.refl _ | exact LeO.none _ | refine LeO.ite ?_ ?_ | refine LeO.bind ?_ (fun _ => ?_)) | exact LeO.none _
theorem spec_l12Swaps.mono : ∀ a0 a1 k, LeO (spec_l12Swaps.f k a0 a1) (spec_l12Swaps.f (k + 1) a0 a1) := by
 intro a0 a1 k; have ih0 := spec_l12Swaps.mono_l k; unfold spec_l12Swaps.f
 repeat' first | (with_reducible first | apply ih0 | apply spec_l12Start.mono | exact LeO.refl _ | exact LeO.none _ | refine LeO.ite ?_ ?_ | refine LeO.bind ?_ (fun _ => ?_)) | exact LeO.none _
def spec_l12Swaps.T6 : Bool × List (List Nat × List Nat) := (true, [([], []), ([], []), ([], []), ([], []), ([2, 3], [2, 3]), ([4], [4]), ([1, 5], [1, 5]), ([6], [6]), ([], []), ([], []), ([], []), ([9, 10], [9, 10]), ([11], [11]), ([12], [12]), ([8, 13], [8, 13]), ([14], [14]), ([7, 15], [7, 15]), ([16], [16]), ([0, 17], [0, 17]), ([18, 18, 0, 1, 2, 3, 4, 5, 6, 7, 8, 9, 10, 11, 12, 13, 14, 15, 16, 17, 18], [0, 18])])
def spec_l12Swaps.B6 : List Nat := [0, 0, 0, 0, 12, 28, 62, 126, 0, 0, 0, 1536, 3584, 7680, 16128, 32512, 65534, 131070, 262143, 524287]
theorem spec_l12Swaps.tab6 : rtab .any (opsOf Try.f121 6) = spec_l12Swaps.T6 := by kernel_rfl
theorem spec_l12Swaps.bits6 : waitsOk spec_l12Swaps.T6.2 spec_l12Swaps.B6 = true := by kernel_rfl
set_option maxHeartbeats 8000000 in
set_option maxRecDepth 100000 in
theorem spec_l12Swaps.calls (k : Nat) (a0 : Int) (A1 : Option Addr) (c1 : Nat) (l1 : List Int) (r : List (List Int)) (w : World) (hr1 : Kd.C (Kd.int .i64) w A1 l1.length l1) (hc1 : l1.length ≤ c1) (h : spec_l12Swaps.f k a0 l1 = some r) :
  Calls Try.prog 121 #[.int .i64 a0, .slice A1 l1.length c1] w fun e w' => ∃ v0_ : Value, e = .returned (v0_) ∧ Kd.S (Kd.slice 3 (Kd.int .i64)) 34 w' w.heap.size (fun _ => True) v0_ r ∧ Below w.heap.size w w' := by
 have HR1 := am_ hr1; have HC1 := am_ hc1; clear hr1 hc1; have HB := am_ (Below.refl w.heap.size w); have H : ((spec_l12Start.f k a0).bind fun t124 => (spec_l12Swaps.l0 k l1 (([] : List (List Int))) t124 0)) = some r := h; clear h; obtain ⟨y121, hy121⟩ : ∃ y_ : List (List Int), y_ = (([] : List (List Int))) := ⟨_, rfl⟩; replace H : ((spec_l12Start.f k a0).bind fun t124 => (spec_l12Swaps.l0 k l1 y121 t124 0)) = some r := yH_ hy121 H; have Ny121 := am_ hy121; clear hy121; obtain ⟨t124, A3, H⟩ := bnd_ H; have H' := am_ H; clear H; go_enter Try.func121, Try.ntmps121
 go_wp2_with (first | ((with_reducible refine gd_ 8 rfl ?_); refine Kd.S_lit (Kd.slice 3 (Kd.int .i64)) _ 34 ?hg (N := 8) ?hd (xs := ([] : List (List Int))) (inner := []) (ok := fun _ => True) (okp := fun _ => True) ?hr ?hp (fun _ hk => hk) trivial (Below.refl _ _) (Nat.le_refl _) (by simp) ?_; (case hd => rfl); (case hg => rfl); (case hr => first | (go_simp; done) | (go_simp; rfl)); (case hp => exact (Reps.none _ _)); intro v122 w4 ho5 hb hg_ hnew_; clear hg_ hnew_; (first | rw [← Ny121.out] at ho5 | (simp only [Int.reduceToNat] at ho5; rw [← Ny121.out] at ho5)); have HO123 := am_ (Kd.S_lower ho5 (below_size (bx0 HB.out))); replace HB := bs0_ HB hb; clear hb ho5) | ((with_reducible refine gc_ 145 rfl ?_); refine gR_ (some 10) Try.func145 #[.int .i64 a0] (spec_l12Start.calls k a0 t124 _ A3.out) ?_; intro w6 v125 ho0 hb; replace HO123 := am_ (Kd.S_elder' (sx_ HO123.out) (Kd.R_base ho0) hb); have HO126 := rl0_ ho0 HB; replace HB := bs0_ HB hb; try clear hb; (try clear ho0)))
 go_loopg [5, 7] k (fun kq v5 v7 w' => ∃ (x5_1 : List (List Int)) (x6_1 : List Int) (x7_1 : Int), v7 = .int .i64 x7_1 ∧ Aside0 (spec_l12Swaps.l0 kq l1 x5_1 x6_1 x7_1 = some r) ∧ Aside0 (kq ≤ k) ∧ Aside0 (Kd.S (Kd.slice 3 (Kd.int .i64)) 34 w' w.heap.size (fun k_ => some k_ ≠ (v125 : Value).ownBlock) v5 x5_1) ∧ Aside0 (Kd.R (Kd.int .i64) 3 w' w.heap.size (fun _ => True) v125 x6_1) ∧ Aside0 (Below w.heap.size w w'))
 case atStart => exact ⟨(y121), (t124), (0), vt_, H', ⟨Nat.le_refl _⟩, ⟨by refine sx_ ?_; exact Kd.S_mono HO123.out (fun _ hk => hk.2)⟩, rX_ HO126, bX0_ HB⟩
 case round =>
  clear H'; obtain ⟨x5_1, x6_1, x7_1, rfl, HA, HK1, HO_5, HO_6, HB⟩ := hrel; cases gk with
  | zero => exact absurd HA.out (by simp [spec_l12Swaps.l0])
  | succ k1 =>
   have H := HA.out; clear HA; simp only [spec_l12Swaps.l0] at H
   by_cases c7 : x7_1 < (l1.length : Int)
   ·rw [if_pos c7] at H; have c7b0 := decide_eq_true c7; clear c7; by_cases c8 : 0 ≤ x7_1
    ·rw [if_pos c8] at H; have c8b0 := decide_eq_true c8; clear c8; by_cases c9 : 0 ≤ (rd l1 x7_1)
     ·rw [if_pos c9] at H; have c9b0 := decide_eq_true c9; clear c9; by_cases c10 : (rd l1 x7_1) < (x6_1.length : Int)
      ·rw [if_pos c10] at H; have c10b0 := decide_eq_true c10; clear c10; obtain ⟨ji11, hji11⟩ : ∃ j_ : Int, (wrap64 ((rd l1 x7_1) + 1)) = j_ := ⟨_, rfl⟩; first | rw [hji11] at H | simp only [hji11] at H
       have hji11w : (IntKind.i64.wrap ((rd l1 x7_1) + 1)) = ji11 := (i64_w _).trans hji11; by_cases c12 : 0 ≤ (ji11)
       ·rw [if_pos c12] at H; have c12b0 := decide_eq_true c12; clear c12; by_cases c13 : (ji11) < (x6_1.length : Int)
        ·rw [if_pos c13] at H; have c13b0 := decide_eq_true c13; clear c13; obtain ⟨y131, hy131⟩ : ∃ y_ : List Int, y_ = (([rd x6_1 (rd l1 x7_1), rd x6_1 (ji11)] : List Int)) := ⟨_, rfl⟩; replace H : (if x5_1.length < 5864062014805 then ((spec_l12Swap.f x6_1 (rd l1 x7_1)).bind fun bt138 => (spec_l12Swaps.l0 k1 l1 (x5_1 ++ [y131]) bt138.2 (wrap64 (x7_1 + 1)))) else (none)) = some r := yH_ hy131 H; have Ny131 := am_ hy131; clear hy131; by_cases c14 : x5_1.length < 5864062014805
         ·rw [if_pos c14] at H; have LMc14 := am_ c14; clear c14; obtain ⟨y134, hy134⟩ : ∃ y_ : List (List Int), y_ = (x5_1 ++ [y131]) := ⟨_, rfl⟩; replace H : ((spec_l12Swap.f x6_1 (rd l1 x7_1)).bind fun bt138 => (spec_l12Swaps.l0 k1 l1 y134 bt138.2 (wrap64 (x7_1 + 1)))) = some r := yH_ hy134 H; have Ny134 := am_ hy134; clear hy134; replace H := Option.bind_eq_some_iff.mp H; obtain ⟨⟨t138, t139⟩, A150, H⟩ := H; replace H : (spec_l12Swaps.l0 k1 l1 y134 t139 (wrap64 (x7_1 + 1))) = some r := H; have A15 := am_ A150; clear A150; have H' := am_ H; clear H; try go_wp2
          replace HO_5 := am_ (Kd.S_drew HO_5.out); replace HO_6 := am_ (Kd.R_drew HO_6.out); replace HB := bd_ HB; have p127 : 0 ≤ (x7_1 : Int) := oda_; have q127 : x7_1 < (l1.length : Int) := oda_; obtain ⟨ad127, e127, hx127_0⟩ := Kd.at_int HR1.out x7_1 p127 q127; have hw127_0 := hx127_0; cases e127; replace hx127_0 := hc_ HB hx127_0; replace p127 := eq_true p127; replace q127 := eq_true q127; obtain ⟨Ao17, co17, eo17⟩ := Kd.R_slice HO_6.out; (first | subst eo17 | (injection eo17 with f1_ f2_ f3_; have f4_ := f1_.symm; have f5_ := f3_.symm; clear f1_ f2_ f3_; subst f4_; subst f5_))
          have p128 : 0 ≤ ((rd l1 x7_1) : Int) := oda_; have q128 : (rd l1 x7_1) < (x6_1.length : Int) := oda_; obtain ⟨ad128, e128, hx128_0⟩ := Kd.at_int (Kd.R_reads' HO_6.out).2.2 (rd l1 x7_1) p128 q128; cases e128; replace p128 := eq_true p128; replace q128 := eq_true q128; have p129 : 0 ≤ (x7_1 : Int) := oda_; have q129 : x7_1 < (l1.length : Int) := oda_; obtain ⟨ad129, e129, hx129_0⟩ := Kd.at_int HR1.out x7_1 p129 q129; have hw129_0 := hx129_0; obtain rfl : ad127 = ad129 := (by injection e129); replace hx129_0 := hc_ HB hx129_0; replace p129 := eq_true p129; replace q129 := eq_true q129; have p130 : 0 ≤ ((ji11) : Int) := oda_; have q130 : (ji11) < (x6_1.length : Int) := oda_; obtain ⟨ad130, e130, hx130_0⟩ := Kd.at_int (Kd.R_reads' HO_6.out).2.2 (ji11) p130 q130; obtain rfl : ad128 = ad130 := (by injection e130); replace p130 := eq_true p130; replace q130 := eq_true q130; refine start_ (n := 20) (S := fun w' => w'.cell? (ad127.add (x7_1).toNat) = some (.int .i64 (rd l1 x7_1)) ∧ w'.cell? (ad128.add ((rd l1 x7_1)).toNat) = some (.int .i64 (rd x6_1 (rd l1 x7_1))) ∧ w'.cell? (ad127.add (x7_1).toNat) = some (.int .i64 (rd l1 x7_1)) ∧ w'.cell? (ad128.add ((ji11)).toNat) = some (.int .i64 (rd x6_1 (ji11)))) (ds := [17, 18]) #[false, false, false, false, false, false, false, false, false, false, false, false, false, false, false, false, false, false, false, false] (by kernel_rfl) rfl rfl ⟨(hc_ HB hw127_0), hx128_0, (hc_ HB hw129_0), hx130_0⟩ (fun hHeld => ?_); refine with_tabW spec_l12Swaps.tab6 spec_l12Swaps.bits6 (fun HT_ HW_ => ?_); generalize wr.drew = w16 at HO_5 HO_6 HB hx127_0 hx128_0 hx129_0 hx130_0 hHeld ⊢
          refine pD_ 0 (some 17) HT_ (h := ?_); refine pD_ 1 (some 18) HT_ (h := ?_); refine pD_ 2 (some 19) HT_ (h := ?_); refine pD_ 3 (some 20) HT_ (h := ?_); refine pD_ 4 (some 21) HT_ (h := ?_); refine pD_ 8 (some 25) HT_ (h := ?_); refine pD_ 9 (some 26) HT_ (h := ?_); refine pD_ 10 (some 27) HT_ (h := ?_); refine pD_ 11 (some 28) HT_ (h := ?_); refine tD4_ 5 (some 22) HT_ HW_ hHeld (h := ?_); refine pD_ 6 (some 23) HT_ (h := ?_); refine tD4_ 7 (some 24) HT_ HW_ hHeld (h := ?_); refine tD4_ 12 (some 29) HT_ HW_ hHeld (h := ?_); refine pD_ 13 (some 30) HT_ (h := ?_); refine pD_ 14 (some 31) HT_ (h := ?_); refine tD4_ 15 (some 32) HT_ HW_ hHeld (h := ?_); refine oN_ 16 (some 33) HT_ (fun K hK => ?_); refine Kd.R_lit_step (Kd.int .i64) _ 3 ?hg (N := 33) ?hd (xs := ([rd x6_1 (rd l1 x7_1), rd x6_1 (ji11)] : List Int)) (inner := [.int .i64 (rd x6_1 (rd l1 x7_1)), .int .i64 (rd x6_1 (ji11))]) (ok := fun _ => True) (okp := fun _ => True) ?hr ?hp (fun _ hk => hk) trivial (Below.refl _ _) (Nat.le_refl _) (by simp) ?_; (case hd => rfl); (case hg => rfl); (case hr => first | (go_simp; done) | (go_simp; rfl)); (case hp => exact (Reps.one (show Kd.M (Kd.int .i64) _ _ _ (rd x6_1 (rd l1 x7_1)) [.int .i64 (rd x6_1 (rd l1 x7_1))] from rfl) (Reps.one (show Kd.M (Kd.int .i64) _ _ _ (rd x6_1 (ji11)) [.int .i64 (rd x6_1 (ji11))] from rfl) (Reps.none _ _)))); intro v132 w18 ho19 hb hg_ hnew_; have HS1_ := (hb.cell (World.block_lt_of_cell? _ _ (hHeld.2.1))).trans (hHeld.2.1); have HS3_ := (hb.cell (World.block_lt_of_cell? _ _ (hHeld.2.2.2))).trans (hHeld.2.2.2); clear hg_ hnew_; (first | rw [← Ny131.out] at ho19 | (simp only [Int.reduceToNat] at ho19; rw [← Ny131.out] at ho19))
          replace HO_5 := am_ (Kd.S_elder' (sx_ HO_5.out) (Kd.R_base ho19) hb); have HO133 := am_ (Kd.R_lower (Kd.R_new' ho19 (Kd.R_lt (rx_ HO_6.out))) (below_size (bx0 HB.out))); replace HO_6 := re_ HO_6 ho19 hb; replace HB := bs0_ HB hb; clear hb ho19; obtain ⟨Ao21, co21, eo21⟩ := Kd.R_slice HO133.out; (first | subst eo21 | (injection eo21 with f1_ f2_ f3_; have f4_ := f1_.symm; have f5_ := f3_.symm; clear f1_ f2_ f3_; subst f4_; subst f5_))
          refine hK.out _ _ ⟨(hc_ HB hw127_0), HS1_, (hc_ HB hw129_0), HS3_⟩ (fun hHeld => ?_); clear hK K; refine nm_ 33 (h := ?_); refine last_ (i := 17) (N := some 34) #[true, true, true, true, true, true, true, true, true, true, true, true, true, true, true, true, true, true, false, false] rfl rfl (one_of HT_.out (by kernel_rfl)) (by decide) (fun K hK => ?_); refine value_ (w1 := ?_) (v := ?_) (by rfl) rfl ?_ ?_; rotate_left 2
          ·go_simp
           constructor
           ·rfl
           ·rfl
          refine hK.out _ _ ?_; clear hK K; refine nm_ 34 (h := ?_); refine last_ (i := 18) (N := some 35) #[true, true, true, true, true, true, true, true, true, true, true, true, true, true, true, true, true, true, true, false] rfl rfl (one_of HT_.out (by kernel_rfl)) (by decide) (fun K hK => ?_); refine Kd.S_append_step (Kd.slice 3 (Kd.int .i64)) (w0 := w) w.heap.size (by rfl) (.tmp 17) (.tmp 34) 39 34 (.slice none 0 0) 24 rfl Try.underlying39 info34 rfl (by decide) (by omega) u5 x5_1 y131 [.slice Ao21 y131.length co21] (fun k_ => some k_ ≠ (.slice (some ad128) x6_1.length co17 : Value).ownBlock) (fun k_ => some k_ = (.slice Ao21 y131.length co21 : Value).ownBlock) rfl rfl ?aP (fun k_ hk_ => ((Kd.R_mono (ok' := fun k_ => ((fun k_ => some k_ ≠ (.slice (some ad128) x6_1.length co17 : Value).ownBlock)) k_ ∧ some k_ ≠ (u5 : Value).ownBlock) (Kd.R_apart' (HO133.out) (Kd.S_typed HO_5.out) (by decide)) (fun k_ hk => ⟨hk.1.2, hk.2⟩))).1 k_ hk_.symm) ?aF ?aO ?aB ?aS ?aL ?_; (case aP => exact Kd.M_row (Kd.R_mono (Kd.R_tight rfl (Kd.R_mono (ok' := fun k_ => ((fun k_ => some k_ ≠ (.slice (some ad128) x6_1.length co17 : Value).ownBlock)) k_ ∧ some k_ ≠ (u5 : Value).ownBlock) (Kd.R_apart' (HO133.out) (Kd.S_typed HO_5.out) (by decide)) (fun k_ hk => ⟨hk.1.2, hk.2⟩))) (fun _ h_ => h_)))
          (case aB => exact (bx0 HB.out))
          (case aF => exact (fun k_ hk => Kd.fresh' (Kd.R_lt (rx_ HO_6.out)) k_ hk))
          (case aO => exact (by refine sx_ ?_; exact Kd.S_mono HO_5.out (fun k_ hk => ⟨hk.1, fun e_ => hk.2 e_⟩)))
          (case aS => exact (below_size (bx0 HB.out)))
          (case aL => have := LMc14.out; omega)
          intro v135 w20 ho hb hg hat; rw [← Ny134.out] at ho; replace HO_6 := am_ (Kd.R_over' (rx_ HO_6.out) (Kd.S_typed (sx_ HO_5.out)) (by decide) hg); replace HB := am_ hb; have HO136 := am_ ho; clear HO_5; clear HO133; clear ho hb hg hat; refine hK.out _ _ ?_; clear hK K; refine nm_ 35 (h := ?_); refine pD_ 19 (some 5) HT_ (h := ?_); refine done_ (done_of HT_.out (by kernel_rfl)) ?_; have p137 : 0 ≤ (x7_1 : Int) := oda_; have q137 : x7_1 < (l1.length : Int) := oda_; obtain ⟨ad137, e137, hx137_0⟩ := Kd.at_int HR1.out x7_1 p137 q137; obtain rfl : ad127 = ad137 := (by injection e137); replace hx137_0 := hc_ HB hx137_0; replace p137 := eq_true p137; replace q137 := eq_true q137; try go_wp2_with (first | ((with_reducible refine gc_ 147 rfl ?_); refine gL_ (some 41) Try.func147 #[.slice (some ad128) x6_1.length co17, .int .i64 (rd l1 x7_1)] ?_; (with_reducible refine (spec_l12Swap.calls (fun k_ => some k_ = (.slice (some ad128) x6_1.length co17 : Value).ownBlock) (.slice (some ad128) x6_1.length co17) x6_1 (rd l1 x7_1) t138 t139 w _ ?side1 ?side2 A15.out).mono ?_); (case side1 => exact bx0 HB.out); (case side2 => exact Kd.R_tight rfl HO_6.out); rintro e w22 ⟨rfl, hy0, hb, hkp⟩; refine ⟨_, rfl, ?_⟩; replace HO_6 := am_ (Kd.R_reok rfl hy0 (fun k_ e_ => HO_6.out.1 k_ e_)); replace HO136 := am_ (Kd.S_mono (ok' := fun k_ => some k_ ≠ (.slice (some ad128) x6_1.length co17 : Value).ownBlock) (Kd.S_keptB (HO136.out) hkp (fun k_ hk_ hs_ => (hk_) hs_)) (fun k_ hk_ => hk_.1)); replace HB := am_ hb; (try clear hb); (try clear hkp); (try clear hy0)))
          go_roundg k1
          case measure => have := HK1.out; omega
          case rel => exact ⟨(y134), (t139), (wrap64 (x7_1 + 1)), vt_, H', hl_ HK1, ⟨sx_ HO136.out⟩, ⟨by refine rx_ ?_; exact Kd.R_mono HO_6.out (fun _ hk => trivial)⟩, bX0_ HB⟩
         ·rw [if_neg c14] at H; exact absurd H (by simp)
        ·rw [if_neg c13] at H; exact absurd H (by simp)
       ·rw [if_neg c12] at H; exact absurd H (by simp)
      ·rw [if_neg c10] at H; exact absurd H (by simp)
     ·rw [if_neg c9] at H; exact absurd H (by simp)
    ·rw [if_neg c8] at H; exact absurd H (by simp)
   ·rw [if_neg c7] at H; have c7b0 := decide_eq_false c7; clear c7; obtain rfl := Option.some.inj H; go_wp2; go_ret; exact ⟨_, by first | rfl | (simp [errW_none, errW_some] <;> rfl) | (simp [*, errW_none, errW_some] <;> rfl), by refine sx_ ?_; exact Kd.S_mono HO_5.out (fun _ hk => trivial), bx0 HB.out⟩
mutual
def spec_SignsOfWiring.l0 : Nat → Int → List (List Int) → List Int → Int → Option (Int × ByteArray × Bool)
 | 0, _, _, _, _ => none
 | k + 1, x0, x6, x7, x8 => if x8 < (x6.length : Int) then (if 0 ≤ x8 then (if 0 < ((rd_L1 x6 x8).length : Int) then (if 1 < ((rd_L1 x6 x8).length : Int) then (if 0 ≤ (wrap64 ((wrap64 ((rd (rd_L1 x6 x8) 0) * x0)) + (rd (rd_L1 x6 x8) 1))) then (if (wrap64 ((wrap64 ((rd (rd_L1 x6 x8) 0) * x0)) + (rd (rd_L1 x6 x8) 1))) < (x7.length : Int) then (spec_SignsOfWiring.l0 k x0 x6 (x7.set ((wrap64 ((wrap64 ((rd (rd_L1 x6 x8) 0) * x0)) + (rd (rd_L1 x6 x8) 1))) : Int).toNat x8) (wrap64 (x8 + 1))) else (none)) else (none)) else (none)) else (none)) else (none)) else (spec_SignsOfWiring.l1 k x0 x7 0 x0 (⟨#[]⟩ : ByteArray))
def spec_SignsOfWiring.l1 : Nat → Int → List Int → Int → Int → ByteArray → Option (Int × ByteArray × Bool)
 | 0, _, _, _, _, _ => none
 | k + 1, x0, x7, x10, x154000, x154001 => if x10 < x0 then (spec_SignsOfWiring.l2 k x0 x7 x10 (wrap64 (x10 + 1)) x154000 x154001) else (some (x154000, x154001, true))
def spec_SignsOfWiring.l2 : Nat → Int → List Int → Int → Int → Int → ByteArray → Option (Int × ByteArray × Bool)
 | 0, _, _, _, _, _, _ => none
 | k + 1, x0, x7, x10, x11, x154000, x154001 => if x11 < x0 then (spec_SignsOfWiring.l3 k x0 x7 x10 x11 (wrap64 (x11 + 1)) x154000 x154001) else (spec_SignsOfWiring.l1 k x0 x7 (wrap64 (x10 + 1)) x154000 x154001)
def spec_SignsOfWiring.l3 : Nat → Int → List Int → Int → Int → Int → Int → ByteArray → Option (Int × ByteArray × Bool)
 | 0, _, _, _, _, _, _, _ => none
 | k + 1, x0, x7, x10, x11, x12, x154000, x154001 => if x12 < x0 then (if 0 ≤ (wrap64 ((wrap64 (x10 * x0)) + x11)) then (if (wrap64 ((wrap64 (x10 * x0)) + x11)) < (x7.length : Int) then (if 0 ≤ (wrap64 ((wrap64 (x11 * x0)) + x12)) then (if (wrap64 ((wrap64 (x11 * x0)) + x12)) < (x7.length : Int) then ((spec_l1Bit.f (decide ((rd x7 (wrap64 ((wrap64 (x10 * x0)) + x11))) < (rd x7 (wrap64 ((wrap64 (x11 * x0)) + x12)))))).bind fun t156 => ((spec_l3Byte.f t156).bind fun t157 => (if x154001.size + t157.size ≤ 9223372036854775807 then (spec_SignsOfWiring.l3 k x0 x7 x10 x11 (wrap64 (x12 + 1)) x154000 (x154001 ++ t157)) else (none)))) else (none)) else (none)) else (none)) else (none)) else (spec_SignsOfWiring.l2 k x0 x7 x10 (wrap64 (x11 + 1)) x154000 x154001)
end
def spec_SignsOfWiring.f (k : Nat) (a0 : Int) (l1 : List Int) : Option (Int × ByteArray × Bool) := (spec_IsWiring.f k a0 l1).bind fun t141 => (if t141 = true then ((spec_l12Swaps.f k a0 l1).bind fun t142 => (if 0 ≤ (wrap64 (a0 * a0)) then (if (wrap64 (a0 * a0) : Int).toNat ≤ 35184372088832 then (spec_SignsOfWiring.l0 k a0 t142 (List.replicate (wrap64 (a0 * a0) : Int).toNat 0) 0) else (none)) else (none))) else (some (0, (⟨#[]⟩ : ByteArray), false)))
theorem spec_SignsOfWiring.mono_l : ∀ k, (∀ y0 y1 y2 y3, LeO (spec_SignsOfWiring.l0 k y0 y1 y2 y3) (spec_SignsOfWiring.l0 (k + 1) y0 y1 y2 y3)) ∧ (∀ y0 y1 y2 y3 y4, LeO (spec_SignsOfWiring.l1 k y0 y1 y2 y3 y4) (spec_SignsOfWiring.l1 (k + 1) y0 y1 y2 y3 y4)) ∧ (∀ y0 y1 y2 y3 y4 y5, LeO (spec_SignsOfWiring.l2 k y0 y1 y2 y3 y4 y5) (spec_SignsOfWiring.l2 (k + 1) y0 y1 y2 y3 y4 y5)) ∧ (∀ y0 y1 y2 y3 y4 y5 y6, LeO (spec_SignsOfWiring.l3 k y0 y1 y2 y3 y4 y5 y6) (spec_SignsOfWiring.l3 (k + 1) y0 y1 y2 y3 y4 y5 y6))
 | 0 => ⟨fun _ _ _ _ r h => by simp [spec_SignsOfWiring.l0] at h, fun _ _ _ _ _ r h => by simp [spec_SignsOfWiring.l1] at h, fun _ _ _ _ _ _ r h => by simp [spec_SignsOfWiring.l2] at h, fun _ _ _ _ _ _ _ r h => by simp [spec_SignsOfWiring.l3] at h⟩
 | k + 1 => by
  obtain ⟨ih0, ih1, ih2, ih3⟩ := spec_SignsOfWiring.mono_l k; refine ⟨?_, ?_, ?_, ?_⟩ <;> (intros; (first | unfold spec_SignsOfWiring.l0 | unfold spec_SignsOfWiring.l1 | unfold spec_SignsOfWiring.l2 | unfold spec_SignsOfWiring.l3); repeat' first | (with_reducible first | apply ih0 | apply ih1 | apply ih2 | apply ih3 | apply spec_IsWiring.mono | apply spec_l12Swaps.mono | exact LeO.refl _ | exact LeO.none _ | refine LeO.ite ?_ ?_ | refine LeO.bind ?_ (fun _ => ?_)) | exact LeO.none _)
theorem spec_SignsOfWiring.mono : ∀ a0 a1 k, LeO (spec_SignsOfWiring.f k a0 a1) (spec_SignsOfWiring.f (k + 1) a0 a1) := by
 intro a0 a1 k; obtain ⟨ih0, ih1, ih2, ih3⟩ := spec_SignsOfWiring.mono_l k; unfold spec_SignsOfWiring.f
 repeat' first | (with_reducible first | apply ih0 | apply ih1 | apply ih2 | apply ih3 | apply spec_IsWiring.mono | apply spec_l12Swaps.mono | exact LeO.refl _ | exact LeO.none _ | refine LeO.ite ?_ ?_ | refine LeO.bind ?_ (fun _ => ?_)) | exact LeO.none _
def spec_SignsOfWiring.T8 : Bool × List (List Nat × List Nat) := (true, [([], []), ([], []), ([], []), ([1, 2], [1, 2]), ([3], [3]), ([4], [4]), ([5], [5]), ([], []), ([6, 7], [6, 7]), ([], []), ([], []), ([9, 10], [9, 10]), ([11], [11]), ([12], [12]), ([13], [13]), ([8, 14], [8, 14]), ([], []), ([0, 15, 0, 1, 2, 3, 4, 5, 6, 7, 8, 9, 10, 11, 12, 13, 14, 15, 16], [0, 15]), ([17, 16, 0, 1, 2, 3, 4, 5, 6, 7, 8, 9, 10, 11, 12, 13, 14, 15, 16], [16, 17])])
def spec_SignsOfWiring.B8 : List Nat := [0, 0, 0, 6, 14, 30, 62, 0, 254, 0, 0, 1536, 3584, 7680, 15872, 32766, 0, 131071, 262143]
theorem spec_SignsOfWiring.tab8 : rtab .any (opsOf Try.f81 8) = spec_SignsOfWiring.T8 := by kernel_rfl
theorem spec_SignsOfWiring.bits8 : waitsOk spec_SignsOfWiring.T8.2 spec_SignsOfWiring.B8 = true := by kernel_rfl
def spec_SignsOfWiring.T19 : Bool × List (List Nat × List Nat) := (true, [([], []), ([0], [0]), ([], []), ([], []), ([], []), ([3, 4], [3, 4]), ([], []), ([5, 6], [5, 6]), ([2, 7], [2, 7]), ([8], [8]), ([], []), ([], []), ([], []), ([11, 12], [11, 12]), ([], []), ([13, 14], [13, 14]), ([10, 15], [10, 15]), ([16], [16]), ([9, 17], [9, 17]), ([18], [18]), ([19, 19], [19]), ([1, 20], [1, 20]), ([0, 1, 2, 3, 4, 5, 6, 7, 8, 9, 10, 11, 12, 13, 14, 15, 16, 17, 18, 19, 20, 21], []), ([22, 21, 20, 0, 1, 2, 3, 4, 5, 6, 7, 8, 9, 10, 11, 12, 13, 14, 15, 16, 17, 18, 19, 20, 21], [21, 22])])
def spec_SignsOfWiring.B19 : List Nat := [0, 1, 0, 0, 0, 24, 0, 120, 252, 508, 0, 0, 0, 6144, 0, 30720, 64512, 130048, 262140, 524284, 1048572, 2097151, 4194303, 8388607]
theorem spec_SignsOfWiring.tab19 : rtab .any (opsOf Try.f81 19) = spec_SignsOfWiring.T19 := by kernel_rfl
theorem spec_SignsOfWiring.bits19 : waitsOk spec_SignsOfWiring.T19.2 spec_SignsOfWiring.B19 = true := by kernel_rfl
set_option maxHeartbeats 8000000 in
set_option maxRecDepth 100000 in
theorem spec_SignsOfWiring.calls (k : Nat) (a0 : Int) (A1 : Option Addr) (c1 : Nat) (l1 : List Int) (r1 : Int) (r2 : ByteArray) (r3 : Bool) (w : World) (hr1 : Kd.C (Kd.int .i64) w A1 l1.length l1) (hc1 : l1.length ≤ c1) (h : spec_SignsOfWiring.f k a0 l1 = some (r1, r2, r3)) :
  Calls Try.prog 81 #[.int .i64 a0, .slice A1 l1.length c1] w fun e w' => e = .returned (.tuple #[.agg #[.int .i64 r1, .string r2], .bool r3]) ∧ Below w.heap.size w w' := by
 have hu31 := Try.underlying31; have HR1 := am_ hr1; have HC1 := am_ hc1; clear hr1 hc1; have HB := am_ (Below.refl w.heap.size w); have H : ((spec_IsWiring.f k a0 l1).bind fun t141 => (if t141 = true then ((spec_l12Swaps.f k a0 l1).bind fun t142 => (if 0 ≤ (wrap64 (a0 * a0)) then (if (wrap64 (a0 * a0) : Int).toNat ≤ 35184372088832 then (spec_SignsOfWiring.l0 k a0 t142 (List.replicate (wrap64 (a0 * a0) : Int).toNat 0) 0) else (none)) else (none))) else (some (0, (⟨#[]⟩ : ByteArray), false)))) = some (r1, r2, r3) := h; clear h; obtain ⟨t141, A3, H⟩ := bnd_ H; by_cases c4 : t141 = true
 ·subst c4; replace H := ifT_ H; obtain ⟨t142, A5, H⟩ := bnd_ H; obtain ⟨ji6, hji6⟩ : ∃ j_ : Int, (wrap64 (a0 * a0)) = j_ := ⟨_, rfl⟩; first | rw [hji6] at H | simp only [hji6] at H
  (try rw [hji6] at A3)
  (try rw [hji6] at A5)
  have hji6w : (IntKind.i64.wrap (a0 * a0)) = ji6 := (i64_w _).trans hji6; by_cases c7 : 0 ≤ (ji6)
  ·rw [if_pos c7] at H; have c7b0 := eq_true c7; have c7b1 := decide_eq_true c7; clear c7; by_cases c8 : (ji6 : Int).toNat ≤ 35184372088832
   ·rw [if_pos c8] at H; have c8b0 := eq_true c8; have c8b1 := decide_eq_true c8; clear c8; obtain ⟨y145, hy145⟩ : ∃ y_ : List Int, y_ = (List.replicate (ji6 : Int).toNat 0) := ⟨_, rfl⟩; replace H : (spec_SignsOfWiring.l0 k a0 t142 y145 0) = some (r1, r2, r3) := yH_ hy145 H; have Ny145 := am_ hy145; clear hy145; have H' := am_ H; clear H; go_enter Try.func81, Try.ntmps81
    go_wp2_with (first | ((with_reducible refine gd_ 4 rfl ?_); refine be_ 4 #[.int .i64 0, .string (⟨#[]⟩ : ByteArray)] 31 ?_; intro gb140 hg w9 hbox hb; have BK140 := am_ hbox; have GW140 := gw0_ HB hg; have GE140 := GW140; replace HB := bs0_ HB hb; clear hb hbox hg) | ((with_reducible refine gc_ 78 rfl ?_); refine gL_ (some 15) Try.func78 #[.int .i64 a0, .slice A1 l1.length c1] ?_; (with_reducible refine (spec_IsWiring.calls k a0 _ _ l1 true _ ?side1 ?side2 A3.out).mono ?_); (case side1 => exact cS_ HR1 HB); (case side2 => exact HC1.out); rintro e w10 ⟨rfl, hb⟩; refine ⟨_, rfl, ?_⟩; replace BK140 := bb_ BK140 hb; replace HB := bs1_ HB hb GE140; try clear hb) | ((with_reducible refine gc_ 121 rfl ?_); refine gL_ (some 20) Try.func121 #[.int .i64 a0, .slice A1 l1.length c1] ?_; (with_reducible refine (spec_l12Swaps.calls k a0 _ _ l1 t142 _ ?side1 ?side2 A5.out).mono ?_); (case side1 => exact cS_ HR1 HB); (case side2 => exact HC1.out); rintro e w11 ⟨v143, rfl, ho0, hb⟩; refine ⟨_, rfl, ?_⟩; have HO144 := am_ (Kd.S_lower ho0 (below_size (bx1 HB.out GE140.out))); replace BK140 := bb_ BK140 hb; replace HB := bs1_ HB hb GE140; try clear hb; (try clear ho0)) | ((with_reducible refine gd_ 24 rfl ?_); refine Kd.R_make (Kd.int .i64) _ 3 rfl (N := 24) rfl 34 _ _ rfl ji6 rfl rfl Try.underlying34 (.int .i64 0) 8 info3 rfl (by decide) (by omega) 0 (ok := fun _ => True) (okp := fun _ => True) rfl (fun _ hk => hk) trivial (oda_) (Nat.le_trans (Nat.mul_le_mul_right _ (oda_ : ji6.toNat ≤ 35184372088832)) (by omega)) (Below.refl _ _) (Nat.le_refl _) ?_; intro v146 w12 ho13 hb hg_ hnew_; clear hg_ hnew_; (first | rw [← Ny145.out] at ho13 | (simp only [Int.reduceToNat] at ho13; rw [← Ny145.out] at ho13)); replace HO144 := am_ (Kd.S_elder' (sx_ HO144.out) (Kd.R_base ho13) hb); have HO147 := rl1_ ho13 HB GE140; replace BK140 := bb_ BK140 hb; replace HB := bs1_ HB hb GE140; clear hb ho13))
    go_loopg [8] k (fun kq v8 w' => ∃ (x7_1 : List Int) (x8_1 : Int), v8 = .int .i64 x8_1 ∧ Aside0 (spec_SignsOfWiring.l0 kq a0 t142 x7_1 x8_1 = some (r1, r2, r3)) ∧ Aside0 (kq ≤ k) ∧ Aside0 (Kd.S (Kd.slice 3 (Kd.int .i64)) 34 w' w.heap.size (fun k_ => some k_ ≠ (v146 : Value).ownBlock) v143 t142) ∧ Aside0 (Kd.R (Kd.int .i64) 3 w' w.heap.size (fun _ => True) v146 x7_1) ∧ Aside0 (w'.heap[gb140]? = some (.cells #[.int .i64 0, .string (⟨#[]⟩ : ByteArray)] 31 (0, 0))) ∧ Aside0 (Below w.heap.size w w'))
    case atStart => exact ⟨(y145), (0), vt_, H', ⟨Nat.le_refl _⟩, ⟨by refine sx_ ?_; exact Kd.S_mono HO144.out (fun _ hk => hk.2)⟩, rX_ HO147, kX_ BK140, bX1_ HB GE140⟩
    case round =>
     clear H'; try clear c4 c7b0 c7b1 c8b0 c8b1
     obtain ⟨x7_1, x8_1, rfl, HA, HK1, HO_6, HO_7, BK140, HB⟩ := hrel; cases gk with
     | zero => exact absurd HA.out (by simp [spec_SignsOfWiring.l0])
     | succ k1 =>
      have H := HA.out; clear HA; simp only [spec_SignsOfWiring.l0] at H
      by_cases c14 : x8_1 < (t142.length : Int)
      ·rw [if_pos c14] at H; have c14b0 := decide_eq_true c14; clear c14; by_cases c15 : 0 ≤ x8_1
       ·rw [if_pos c15] at H; have c15b0 := decide_eq_true c15; clear c15; by_cases c16 : 0 < ((rd_L1 t142 x8_1).length : Int)
        ·rw [if_pos c16] at H; have c16b0 := decide_eq_true c16; have c16b1 : decide (0 < (rd_L1 t142 x8_1).length) = true := decide_eq_true (by omega); clear c16; by_cases c17 : 1 < ((rd_L1 t142 x8_1).length : Int)
         ·rw [if_pos c17] at H; have c17b0 := decide_eq_true c17; have c17b1 : decide (1 < (rd_L1 t142 x8_1).length) = true := decide_eq_true (by omega); clear c17; obtain ⟨ji18, hji18⟩ : ∃ j_ : Int, (wrap64 ((wrap64 ((rd (rd_L1 t142 x8_1) 0) * a0)) + (rd (rd_L1 t142 x8_1) 1))) = j_ := ⟨_, rfl⟩; first | rw [hji18] at H | simp only [hji18] at H
          have hji18w : (IntKind.i64.wrap ((wrap64 ((rd (rd_L1 t142 x8_1) 0) * a0)) + (rd (rd_L1 t142 x8_1) 1))) = ji18 := (i64_w _).trans hji18; by_cases c19 : 0 ≤ (ji18)
          ·rw [if_pos c19] at H; have c19b0 := decide_eq_true c19; clear c19; by_cases c20 : (ji18) < (x7_1.length : Int)
           ·rw [if_pos c20] at H; have c20b0 := decide_eq_true c20; clear c20; obtain ⟨y152, hy152⟩ : ∃ y_ : List Int, y_ = (x7_1.set ((ji18) : Int).toNat x8_1) := ⟨_, rfl⟩; replace H : (spec_SignsOfWiring.l0 k1 a0 t142 y152 (wrap64 (x8_1 + 1))) = some (r1, r2, r3) := yH_ hy152 H; have Ny152 := am_ hy152; clear hy152; have H' := am_ H; clear H; obtain ⟨Ao22, co22, eo22⟩ := Kd.S_slice HO_6.out; subst eo22; try go_wp2
            replace HO_6 := am_ (Kd.S_drew HO_6.out); replace HO_7 := am_ (Kd.R_drew HO_7.out); replace BK140 := am_ (blk_drew BK140.out); replace HB := bd_ HB; have p148 : 0 ≤ (x8_1 : Int) := oda_; have q148 : x8_1 < (t142.length : Int) := oda_; obtain ⟨ad148, A148_0, c148_0, e148, hx148_0, hl148_0, hi148_0⟩ := at_L1 (Kd.S_reads' HO_6.out).2.2 x8_1 p148 q148; cases e148; obtain ⟨ce148, hce148, hMe148, hcc148⟩ := Kd.S_get HO_6.out [] x8_1 p148 (by first | exact q148 | exact oda_ | (have e_ := (Kd.S_reads' HO_6.out).1; omega)); obtain ⟨ve148_0, rfl, ge148_0⟩ := hMe148; have hv148_0 := hcc148 0 _ rfl; rw [Nat.add_zero, show ((Kd.slice 3 (Kd.int .i64))).sz = 1 from rfl, Nat.mul_one] at hv148_0; replace hv148_0 := Option.some.inj (hv148_0.symm.trans hx148_0); rw [hv148_0] at ge148_0; have HL148_0 := am_ (show Kd.R (Kd.int .i64) 3 _ _ _ _ (rd_L1 t142 x8_1) from ge148_0); clear hv148_0 ge148_0; clear hcc148 hce148; have HR148_0 := am_ hi148_0; have HC148_0 := am_ hl148_0; clear hi148_0 hl148_0; replace p148 := eq_true p148; replace q148 := eq_true q148; have p149 : 0 ≤ (0 : Int) := (by omega); have q149 : 0 < ((rd_L1 t142 x8_1).length : Int) := oda_; obtain ⟨ad149, e149, hx149_0⟩ := Kd.at_int (by repeat (first | (with_reducible exact HR148_0.out) | (with_reducible refine Kd.C_alloc ?_ _) | (with_reducible refine Kd.C_drewN ?_ _) | (with_reducible refine Kd.C_drew ?_) | exact HR148_0.out)) 0 p149 q149; cases e149; have qi149 : (0 < (rd_L1 t142 x8_1).length) = True := eq_true (by omega); (try rw [show ((0 : Int)).toNat = 0 from rfl] at hx149_0)
            (try rw [Addr.add_zero'] at hx149_0)
            replace p149 := eq_true p149; replace q149 := eq_true q149; have p150 : 0 ≤ (x8_1 : Int) := oda_; have q150 : x8_1 < (t142.length : Int) := oda_; obtain ⟨ad150, A150_0, c150_0, e150, hx150_0, hl150_0, hi150_0⟩ := at_L1 (Kd.S_reads' HO_6.out).2.2 x8_1 p150 q150; obtain rfl : ad148 = ad150 := (by injection e150); obtain ⟨ce150, hce150, hMe150, hcc150⟩ := Kd.S_get HO_6.out [] x8_1 p150 (by first | exact q150 | exact oda_ | (have e_ := (Kd.S_reads' HO_6.out).1; omega)); obtain ⟨ve150_0, rfl, ge150_0⟩ := hMe150; have hv150_0 := hcc150 0 _ rfl; rw [Nat.add_zero, show ((Kd.slice 3 (Kd.int .i64))).sz = 1 from rfl, Nat.mul_one] at hv150_0; replace hv150_0 := Option.some.inj (hv150_0.symm.trans hx150_0); rw [hv150_0] at ge150_0; have HL150_0 := am_ (show Kd.R (Kd.int .i64) 3 _ _ _ _ (rd_L1 t142 x8_1) from ge150_0); clear hv150_0 ge150_0; clear hcc150 hce150; have HR150_0 := am_ hi150_0; have HC150_0 := am_ hl150_0; clear hi150_0 hl150_0; replace p150 := eq_true p150; replace q150 := eq_true q150; have ea_ := Option.some.inj (hx148_0.symm.trans hx150_0); injection ea_ with ea_ en_ ec_
            subst ea_; subst ec_; clear en_; have p151 : 0 ≤ (1 : Int) := (by omega); have q151 : 1 < ((rd_L1 t142 x8_1).length : Int) := oda_; obtain ⟨ad151, e151, hx151_0⟩ := Kd.at_int (by repeat (first | (with_reducible exact HR150_0.out) | (with_reducible refine Kd.C_alloc ?_ _) | (with_reducible refine Kd.C_drewN ?_ _) | (with_reducible refine Kd.C_drew ?_) | exact HR150_0.out)) 1 p151 q151; cases e151; (try simp only [show (1 : Int).toNat = 1 from rfl, Nat.reduceMul, Nat.reduceEqDiff, Go.Addr.add, ↓reduceIte] at hx151_0)
            have qi151 : (1 < (rd_L1 t142 x8_1).length) = True := eq_true (by omega); (try rw [show ((1 : Int)).toNat = 1 from rfl] at hx151_0)
            replace p151 := eq_true p151; replace q151 := eq_true q151; have p21 : 0 ≤ ((ji18) : Int) := oda_; have q21 : ((ji18) : Int) < ((x7_1.length : Int) : Int) := oda_; obtain ⟨go21, co21, eo21, gb21, gl21, cl21, HG21⟩ := Kd.R_form HO_7.out (by omega); (first | cases eo21 | (injection eo21 with ea_ en_ ec_; (first | subst ea_ | (injection ea_ with ea_; subst ea_)); subst ec_; clear en_))
            have GB21 := am_ gb21; have GG21 := am_ HG21; clear gb21 gl21 HG21; obtain ⟨hx21_0, hf21_0⟩ := Kd.R_celln 0 HO_7.out ((ji18) : Int) p21 q21; replace p21 := eq_true p21; replace q21 := eq_true q21; have HP24 := Kd.R_putn HO_7.out ((ji18) : Int) x8_1; rw [← Ny152.out] at HP24; have HQ24 := am_ HP24; clear HP24; refine start_ (n := 19) (S := fun w' => w'.cell? (ad148.add (x8_1).toNat) = some (.slice (some ad149) (rd_L1 t142 x8_1).length c148_0) ∧ w'.cell? ad149 = some (.int .i64 (rd (rd_L1 t142 x8_1) 0)) ∧ w'.cell? (ad148.add (x8_1).toNat) = some (.slice (some ad149) (rd_L1 t142 x8_1).length c148_0) ∧ w'.cell? ⟨ad149.block, ad149.off + 1, none⟩ = some (.int .i64 (rd (rd_L1 t142 x8_1) 1))) (ds := [18]) #[false, false, false, false, false, false, false, false, false, false, false, false, false, false, false, false, false, false, false] (by kernel_rfl) rfl rfl ⟨hx148_0, hx149_0, hx150_0, hx151_0⟩ (fun hHeld => ?_); refine with_tabW spec_SignsOfWiring.tab8 spec_SignsOfWiring.bits8 (fun HT_ HW_ => ?_); generalize wr.drew = w23 at HO_6 HO_7 BK140 HB GG21 HL148_0 HL150_0 HQ24 HR148_0 HR150_0 hf21_0 hx148_0 hx149_0 hx150_0 hx151_0 hx21_0 hHeld ⊢
            refine pD_ 0 (some 31) HT_ (h := ?_); refine pD_ 1 (some 32) HT_ (h := ?_); refine pD_ 2 (some 33) HT_ (h := ?_); refine pD_ 3 (some 34) HT_ (h := ?_); refine pD_ 7 (some 38) HT_ (h := ?_); refine pD_ 9 (some 40) HT_ (h := ?_); refine pD_ 10 (some 41) HT_ (h := ?_); refine pD_ 11 (some 42) HT_ (h := ?_); refine pD_ 16 (some 47) HT_ (h := ?_); refine tD4_ 4 (some 35) HT_ HW_ hHeld (h := ?_); refine pD_ 5 (some 36) HT_ (h := ?_); refine tD4_ 6 (some 37) HT_ HW_ hHeld (h := ?_); refine pD_ 8 (some 39) HT_ (h := ?_); refine tD4_ 12 (some 43) HT_ HW_ hHeld (h := ?_); refine pD_ 13 (some 44) HT_ (h := ?_); refine tD4_ 14 (some 45) HT_ HW_ hHeld (h := ?_); refine pD_ 15 (some 46) HT_ (h := ?_); refine pD_ 17 (some 48) HT_ (h := ?_); refine last_ (i := 18) (N := none) #[true, true, true, true, true, true, true, true, true, true, true, true, true, true, true, true, true, true, true] rfl rfl (one_of HT_.out (by kernel_rfl)) (by decide) (fun K hK => ?_); refine skip_ (w1 := ?_) (by rfl) rfl ?_ ?_; rotate_left
            ·go_simp
             rfl
            refine hK.out _ _ ?_; clear hK K; refine done_ (done_of HT_.out (by kernel_rfl)) ?_; try go_wp2
            go_roundg k1
            case measure => have := HK1.out; omega
            case rel => exact ⟨(y152), (wrap64 (x8_1 + 1)), vt_, H', hl_ HK1, ⟨by refine sx_ ?_; exact Kd.S_mono (Kd.S_far (p := ⟨go21, ((ji18) : Int).toNat, none⟩) (Kd.S_mono HO_6.out (fun k_ hk => (⟨hk, fun e_ => hk (by rw [e_]; rfl)⟩ : _ ∧ k_ ≠ go21))) (fun _ hk => hk.2) (.int .i64 x8_1)) (fun _ hk => hk.1)⟩, rX_ HQ24, ⟨by refine kx_ ?_; refine blk_far ?_ (by have h_ := Kd.R_ne HO_7.out BK140.out (by decide); intro e_; exact h_ (by rw [e_]; rfl)) _; refine kx_ ?_; exact BK140.out⟩, bX2_ HB GB21 GE140⟩
           ·rw [if_neg c20] at H; exact absurd H (by simp)
          ·rw [if_neg c19] at H; exact absurd H (by simp)
         ·rw [if_neg c17] at H; exact absurd H (by simp)
        ·rw [if_neg c16] at H; exact absurd H (by simp)
       ·rw [if_neg c15] at H; exact absurd H (by simp)
      ·rw [if_neg c14] at H; have c14b0 := decide_eq_false c14; clear c14; have H' := am_ H; clear H; obtain ⟨Ao25, co25, eo25⟩ := Kd.S_slice HO_6.out; subst eo25; go_wp2_with (first | ((with_reducible refine gd_ 9 rfl ?_); refine be_ 9 #[.int .i64 0, .string (⟨#[]⟩ : ByteArray)] 31 ?_; intro gb153 hg w26 hbox hb; replace HO_6 := am_ (Kd.S_below (sx_ HO_6.out) hb); replace HO_7 := rb_ HO_7 hb; have BK153 := am_ hbox; have GW153 := gw1_ HB hg GE140; have GE153 := GW153; replace HB := bs1_ HB hb GE140; have NB140_153 := nl_ BK140 hg; have NB153_140 := ng_ BK140 hg; replace BK140 := bb_ BK140 hb; clear hb hbox hg; have hnb27 := NB153_140.out; have hnc27 := NB140_153.out; obtain ⟨hcz28_0, hfz28_0, hcz28_1, hfz28_1⟩ := bk2_ BK153))
       go_loopg [10] k1 (fun kq v10 w' => ∃ (x10_2 : Int) (x154001_2 : ByteArray), v10 = .int .i64 x10_2 ∧ Aside0 (spec_SignsOfWiring.l1 kq a0 x7_1 x10_2 a0 x154001_2 = some (r1, r2, r3)) ∧ Aside0 (kq ≤ k1) ∧ Aside0 (Kd.R (Kd.int .i64) 3 w' w.heap.size (fun _ => True) v146 x7_1) ∧ Aside0 (w'.heap[gb140]? = some (.cells #[.int .i64 0, .string (⟨#[]⟩ : ByteArray)] 31 (0, 0))) ∧ Aside0 (w'.heap[gb153]? = some (.cells #[.int .i64 a0, .string x154001_2] 31 (0, 0))) ∧ Aside0 (Below w.heap.size w w'))
       case atStart => exact ⟨(0), ((⟨#[]⟩ : ByteArray)), vt_, H', ⟨Nat.le_refl _⟩, ⟨by refine rx_ ?_; exact Kd.R_mono (Kd.R_far (p := ⟨gb153, 1, none⟩) (Kd.R_far (p := ⟨gb153, 0, none⟩) (Kd.R_types HO_7.out BK153.out (by decide)) (fun _ hk => hk.2) (.int .i64 a0)) (fun _ hk => hk.2) (.string (⟨#[]⟩ : ByteArray))) (fun _ hk => trivial)⟩, ⟨by refine kx_ ?_; refine blk_far ?_ NB140_153.out _; refine kx_ ?_; refine blk_far ?_ NB140_153.out _; refine kx_ ?_; exact BK140.out⟩, ⟨by refine kx_ ?_; refine blk_put (cs := #[.int .i64 a0, .string (⟨#[]⟩ : ByteArray)]) ?_ 1 _ rfl; refine kx_ ?_; refine blk_put (cs := #[.int .i64 0, .string (⟨#[]⟩ : ByteArray)]) ?_ 0 _ rfl; refine kx_ ?_; exact BK153.out⟩, bX2_ HB GE140 GE153⟩
       case round =>
        clear H'; try clear c4 c7b0 c7b1 c8b0 c8b1 c14b0 hcz28_0 hcz28_1 hfz28_0 hfz28_1
        obtain ⟨x10_2, x154001_2, rfl, HA, HK2, HO_7, BK140, BK153, HB⟩ := hrel; cases gk with
        | zero => exact absurd HA.out (by simp [spec_SignsOfWiring.l1])
        | succ k2 =>
         have H := HA.out; clear HA; simp only [spec_SignsOfWiring.l1] at H
         by_cases c29 : x10_2 < a0
         ·rw [if_pos c29] at H; have c29b0 := decide_eq_true c29; clear c29; have H' := am_ H; clear H; go_wp2; go_loopg [11] k2 (fun kq v11 w' => ∃ (x11_3 : Int) (x154001_3 : ByteArray), v11 = .int .i64 x11_3 ∧ Aside0 (spec_SignsOfWiring.l2 kq a0 x7_1 x10_2 x11_3 a0 x154001_3 = some (r1, r2, r3)) ∧ Aside0 (kq ≤ k2) ∧ Aside0 (Kd.R (Kd.int .i64) 3 w' w.heap.size (fun _ => True) v146 x7_1) ∧ Aside0 (w'.heap[gb140]? = some (.cells #[.int .i64 0, .string (⟨#[]⟩ : ByteArray)] 31 (0, 0))) ∧ Aside0 (w'.heap[gb153]? = some (.cells #[.int .i64 a0, .string x154001_3] 31 (0, 0))) ∧ Aside0 (Below w.heap.size w w'))
          case atStart => exact ⟨(wrap64 (x10_2 + 1)), (x154001_2), vt_, H', ⟨Nat.le_refl _⟩, rX_ HO_7, kX_ BK140, kX_ BK153, bX2_ HB GE140 GE153⟩
          case round =>
           clear H'; try clear c4 c7b0 c7b1 c8b0 c8b1 c14b0 c29b0 hcz28_0 hcz28_1 hfz28_0 hfz28_1
           obtain ⟨x11_3, x154001_3, rfl, HA, HK3, HO_7, BK140, BK153, HB⟩ := hrel; cases gk with
           | zero => exact absurd HA.out (by simp [spec_SignsOfWiring.l2])
           | succ k3 =>
            have H := HA.out; clear HA; simp only [spec_SignsOfWiring.l2] at H
            by_cases c30 : x11_3 < a0
            ·rw [if_pos c30] at H; have c30b0 := decide_eq_true c30; clear c30; have H' := am_ H; clear H; go_wp2; go_loopg [12] k3 (fun kq v12 w' => ∃ (x12_4 : Int) (x154001_4 : ByteArray), v12 = .int .i64 x12_4 ∧ Aside0 (spec_SignsOfWiring.l3 kq a0 x7_1 x10_2 x11_3 x12_4 a0 x154001_4 = some (r1, r2, r3)) ∧ Aside0 (kq ≤ k3) ∧ Aside0 (Kd.R (Kd.int .i64) 3 w' w.heap.size (fun _ => True) v146 x7_1) ∧ Aside0 (w'.heap[gb140]? = some (.cells #[.int .i64 0, .string (⟨#[]⟩ : ByteArray)] 31 (0, 0))) ∧ Aside0 (w'.heap[gb153]? = some (.cells #[.int .i64 a0, .string x154001_4] 31 (0, 0))) ∧ Aside0 (Below w.heap.size w w'))
             case atStart => exact ⟨(wrap64 (x11_3 + 1)), (x154001_3), vt_, H', ⟨Nat.le_refl _⟩, rX_ HO_7, kX_ BK140, kX_ BK153, bX2_ HB GE140 GE153⟩
             case round =>
              clear H'; try clear c4 c7b0 c7b1 c8b0 c8b1 c14b0 c29b0 c30b0 hcz28_0 hcz28_1 hfz28_0 hfz28_1
              obtain ⟨x12_4, x154001_4, rfl, HA, HK4, HO_7, BK140, BK153, HB⟩ := hrel; cases gk with
              | zero => exact absurd HA.out (by simp [spec_SignsOfWiring.l3])
              | succ k4 =>
               have H := HA.out; clear HA; simp only [spec_SignsOfWiring.l3] at H
               by_cases c31 : x12_4 < a0
               ·rw [if_pos c31] at H; have c31b0 := decide_eq_true c31; clear c31; obtain ⟨ji32, hji32⟩ : ∃ j_ : Int, (wrap64 ((wrap64 (x10_2 * a0)) + x11_3)) = j_ := ⟨_, rfl⟩; first | rw [hji32] at H | simp only [hji32] at H
                have hji32w : (IntKind.i64.wrap ((wrap64 (x10_2 * a0)) + x11_3)) = ji32 := (i64_w _).trans hji32; by_cases c33 : 0 ≤ (ji32)
                ·rw [if_pos c33] at H; have c33b0 := decide_eq_true c33; clear c33; by_cases c34 : (ji32) < (x7_1.length : Int)
                 ·rw [if_pos c34] at H; have c34b0 := decide_eq_true c34; clear c34; obtain ⟨ji35, hji35⟩ : ∃ j_ : Int, (wrap64 ((wrap64 (x11_3 * a0)) + x12_4)) = j_ := ⟨_, rfl⟩; first | rw [hji35] at H | simp only [hji35] at H
                  have hji35w : (IntKind.i64.wrap ((wrap64 (x11_3 * a0)) + x12_4)) = ji35 := (i64_w _).trans hji35; by_cases c36 : 0 ≤ (ji35)
                  ·rw [if_pos c36] at H; have c36b0 := decide_eq_true c36; clear c36; by_cases c37 : (ji35) < (x7_1.length : Int)
                   ·rw [if_pos c37] at H; have c37b0 := decide_eq_true c37; clear c37; obtain ⟨t156, A38, H⟩ := bnd_ H; obtain ⟨t157, A39, H⟩ := bnd_ H; by_cases c40 : x154001_4.size + t157.size ≤ 9223372036854775807
                    ·rw [if_pos c40] at H; have c40b0 := eq_true c40; have c40b1 := decide_eq_true c40; try have c40b2 : (9223372036854775807 < x154001_4.size + t157.size) = False := eq_false (Nat.not_lt.2 c40)
                     have H' := am_ H; clear H; try go_wp2
                     replace HO_7 := am_ (Kd.R_drew HO_7.out); replace BK140 := am_ (blk_drew BK140.out); replace BK153 := am_ (blk_drew BK153.out); replace HB := bd_ HB; obtain ⟨Ao42, co42, eo42⟩ := Kd.R_slice HO_7.out; (first | subst eo42 | (injection eo42 with f1_ f2_ f3_; have f4_ := f1_.symm; have f5_ := f3_.symm; clear f1_ f2_ f3_; subst f4_; subst f5_))
                     have p154 : 0 ≤ ((ji32) : Int) := oda_; have q154 : (ji32) < (x7_1.length : Int) := oda_; obtain ⟨ad154, e154, hx154_0⟩ := Kd.at_int (Kd.R_reads' HO_7.out).2.2 (ji32) p154 q154; cases e154; replace p154 := eq_true p154; replace q154 := eq_true q154; have p155 : 0 ≤ ((ji35) : Int) := oda_; have q155 : (ji35) < (x7_1.length : Int) := oda_; obtain ⟨ad155, e155, hx155_0⟩ := Kd.at_int (Kd.R_reads' HO_7.out).2.2 (ji35) p155 q155; obtain rfl : ad154 = ad155 := (by injection e155); replace p155 := eq_true p155; replace q155 := eq_true q155; refine start_ (n := 24) (S := fun w' => w'.cell? ⟨gb153, 0, none⟩ = some (.int .i64 a0) ∧ w'.cell? ⟨gb153, 1, none⟩ = some (.string x154001_4) ∧ w'.cell? (ad154.add ((ji32)).toNat) = some (.int .i64 (rd x7_1 (ji32))) ∧ w'.cell? (ad154.add ((ji35)).toNat) = some (.int .i64 (rd x7_1 (ji35)))) (ds := [23]) #[false, false, false, false, false, false, false, false, false, false, false, false, false, false, false, false, false, false, false, false, false, false, false, false] (by kernel_rfl) rfl rfl ⟨c0_ BK153, c1_ BK153, hx154_0, hx155_0⟩ (fun hHeld => ?_); refine with_tabW spec_SignsOfWiring.tab19 spec_SignsOfWiring.bits19 (fun HT_ HW_ => ?_); generalize wr.drew = w41 at HO_7 BK140 BK153 HB hx154_0 hx155_0 hHeld ⊢
                     refine pD_ 0 (some 70) HT_ (h := ?_); refine pD_ 2 (some 72) HT_ (h := ?_); refine pD_ 3 (some 73) HT_ (h := ?_); refine pD_ 4 (some 74) HT_ (h := ?_); refine pD_ 5 (some 75) HT_ (h := ?_); refine pD_ 6 (some 76) HT_ (h := ?_); refine pD_ 7 (some 77) HT_ (h := ?_); refine pD_ 8 (some 78) HT_ (h := ?_); refine pD_ 10 (some 80) HT_ (h := ?_); refine pD_ 11 (some 81) HT_ (h := ?_); refine pD_ 12 (some 82) HT_ (h := ?_); refine pD_ 13 (some 83) HT_ (h := ?_); refine pD_ 14 (some 84) HT_ (h := ?_); refine pD_ 15 (some 85) HT_ (h := ?_); refine pD_ 16 (some 86) HT_ (h := ?_); refine tD4_ 1 (some 71) HT_ HW_ hHeld (h := ?_); refine tD4_ 9 (some 79) HT_ HW_ hHeld (h := ?_); refine tD4_ 17 (some 87) HT_ HW_ hHeld (h := ?_); refine pD_ 18 (some 88) HT_ (h := ?_); refine oN_ 19 (some 89) HT_ (fun K hK => ?_); refine goes_ Try.func124 (by kernel_rfl) rfl #[.bool (decide ((rd x7_1 (ji32)) < (rd x7_1 (ji35))))] (by rfl) rfl rfl (by (try simp only [List.map_toArray, List.map_cons, List.map_nil]); first | done | (simp only [hji32, hji35]; rfl) | rfl | (simp only [List.length_drop, List.length_take]; rfl)) ?_; with_reducible refine (spec_l1Bit.calls (decide ((rd x7_1 (ji32)) < (rd x7_1 (ji35)))) t156 _ A38.out).mono ?_
                     rintro e w' ⟨rfl, ⟨nd, rfl⟩⟩; refine ⟨_, rfl, ?_⟩; refine hK.out _ _ ⟨c0_ BK153, c1_ BK153, hHeld.2.2.1, hHeld.2.2.2⟩ (fun hHeld => ?_); clear hK K; refine nm_ 89 (h := ?_); refine oN_ 20 (some 90) HT_ (fun K hK => ?_); refine gO_ Try.func152 #[.int .i64 t156] ?_; with_reducible refine (spec_l3Byte.calls t156 t157 _ A39.out).mono ?_
                     rintro e w' ⟨rfl, ⟨nd, rfl⟩⟩; refine ⟨_, rfl, ?_⟩; refine hK.out _ _ ⟨c0_ BK153, c1_ BK153, hHeld.2.2.1, hHeld.2.2.2⟩ (fun hHeld => ?_); clear hK K; refine nm_ 90 (h := ?_); refine pD_ 21 (some 91) HT_ (h := ?_); refine pD_ 22 (some 92) HT_ (h := ?_); refine last_ (i := 23) (N := none) #[true, true, true, true, true, true, true, true, true, true, true, true, true, true, true, true, true, true, true, true, true, true, true, true] rfl rfl (one_of HT_.out (by kernel_rfl)) (by decide) (fun K hK => ?_); have hs43 : w41.cell? ⟨gb153, 1, none⟩ = some (.string x154001_4) := (blk_cell BK153.out 1).trans rfl; have hfs43 := blk_frozen BK153.out 1; have hns43_0 := NB140_153.out; have hms43_0 := NB153_140.out; refine skip_ (w1 := ?_) (by rfl) rfl ?_ ?_; rotate_left
                     ·go_simp
                      rfl
                     refine hK.out _ _ ?_; clear hK K; refine done_ (done_of HT_.out (by kernel_rfl)) ?_; try go_wp2
                     go_roundg k4
                     case measure => have := HK1.out; have := HK2.out; have := HK3.out; have := HK4.out; omega
                     case rel => exact ⟨(wrap64 (x12_4 + 1)), (x154001_4 ++ t157), vt_, H', hl4_ HK1 HK2 HK3 HK4, ⟨by refine rx_ ?_; exact Kd.R_mono (Kd.R_far (p := ⟨gb153, 1, none⟩) (Kd.R_types HO_7.out BK153.out (by decide)) (fun _ hk => hk.2) (.string (x154001_4 ++ t157))) (fun _ hk => trivial)⟩, ⟨by refine kx_ ?_; refine blk_far ?_ NB140_153.out _; refine kx_ ?_; exact BK140.out⟩, ⟨by refine kx_ ?_; refine blk_put (cs := #[.int .i64 a0, .string x154001_4]) ?_ 1 _ rfl; refine kx_ ?_; exact BK153.out⟩, bX2_ HB GE140 GE153⟩
                    ·rw [if_neg c40] at H; exact absurd H (by simp)
                   ·rw [if_neg c37] at H; exact absurd H (by simp)
                  ·rw [if_neg c36] at H; exact absurd H (by simp)
                 ·rw [if_neg c34] at H; exact absurd H (by simp)
                ·rw [if_neg c33] at H; exact absurd H (by simp)
               ·rw [if_neg c31] at H; have c31b0 := decide_eq_false c31; clear c31; have H' := am_ H; clear H; go_wp2; go_roundg k4
                case measure => have := HK1.out; have := HK2.out; have := HK3.out; have := HK4.out; omega
                case rel => exact ⟨(wrap64 (x11_3 + 1)), (x154001_4), vt_, H', hl4_ HK1 HK2 HK3 HK4, rX_ HO_7, kX_ BK140, kX_ BK153, bX2_ HB GE140 GE153⟩
            ·rw [if_neg c30] at H; have c30b0 := decide_eq_false c30; clear c30; have H' := am_ H; clear H; go_wp2; go_roundg k3
             case measure => have := HK1.out; have := HK2.out; have := HK3.out; omega
             case rel => exact ⟨(wrap64 (x10_2 + 1)), (x154001_3), vt_, H', hl3_ HK1 HK2 HK3, rX_ HO_7, kX_ BK140, kX_ BK153, bX2_ HB GE140 GE153⟩
         ·rw [if_neg c29] at H; have c29b0 := decide_eq_false c29; clear c29; simp only [Option.some.injEq, Prod.mk.injEq] at H
          obtain ⟨rfl, rfl, rfl⟩ := H; have hnb44 := NB153_140.out; have hnc44 := NB140_153.out; obtain ⟨hcz45_0, hfz45_0, hcz45_1, hfz45_1⟩ := bk2_ BK153; obtain ⟨hcz46_0, hfz46_0, hcz46_1, hfz46_1⟩ := bk2_ BK140; go_wp2; refine bodyPost_ret (results_ct rfl _ _ gb140 31 #[.int .i64 a0, .string x154001_2] (0, 0) _ rfl (by refine kx_ ?_; refine blk_put (cs := #[.int .i64 a0, .string (⟨#[]⟩ : ByteArray)]) ?_ 1 _ rfl; refine kx_ ?_; refine blk_put (cs := #[.int .i64 0, .string (⟨#[]⟩ : ByteArray)]) ?_ 0 _ rfl; refine kx_ ?_; exact BK140.out) Try.underlying31 rfl (by kernel_rfl)) rfl ?_; exact ⟨by first | rfl | (simp [errW_none, errW_some] <;> rfl) | (simp only [← hji6]; first | rfl | (simp [errW_none, errW_some] <;> rfl)) | (simp [*, errW_none, errW_some] <;> rfl), bx2 HB.out GE140.out GE153.out⟩
   ·rw [if_neg c8] at H; exact absurd H (by simp)
  ·rw [if_neg c7] at H; exact absurd H (by simp)
 ·replace c4 := Bool.eq_false_iff.mpr c4; subst c4; replace H := ifF_ H; simp only [Option.some.injEq, Prod.mk.injEq] at H
  obtain ⟨rfl, rfl, rfl⟩ := H; go_enter Try.func81, Try.ntmps81
  go_wp2_with (first | ((with_reducible refine gd_ 4 rfl ?_); refine be_ 4 #[.int .i64 0, .string (⟨#[]⟩ : ByteArray)] 31 ?_; intro gb140 hg w47 hbox hb; have BK140 := am_ hbox; have GW140 := gw0_ HB hg; have GE140 := GW140; replace HB := bs0_ HB hb; clear hb hbox hg) | ((with_reducible refine gc_ 78 rfl ?_); refine gL_ (some 15) Try.func78 #[.int .i64 a0, .slice A1 l1.length c1] ?_; (with_reducible refine (spec_IsWiring.calls k a0 _ _ l1 false _ ?side1 ?side2 A3.out).mono ?_); (case side1 => exact cS_ HR1 HB); (case side2 => exact HC1.out); rintro e w48 ⟨rfl, hb⟩; refine ⟨_, rfl, ?_⟩; replace BK140 := bb_ BK140 hb; replace HB := bs1_ HB hb GE140; try clear hb; obtain ⟨hcz49_0, hfz49_0, hcz49_1, hfz49_1⟩ := bk2_ BK140))
  refine bodyPost_ret (results_ct rfl _ _ gb140 31 #[.int .i64 0, .string (⟨#[]⟩ : ByteArray)] (0, 0) _ rfl (by refine kx_ ?_; refine blk_put (cs := #[.int .i64 0, .string (⟨#[]⟩ : ByteArray)]) ?_ 1 _ rfl; refine kx_ ?_; refine blk_put (cs := #[.int .i64 0, .string (⟨#[]⟩ : ByteArray)]) ?_ 0 _ rfl; refine kx_ ?_; exact BK140.out) Try.underlying31 rfl (by kernel_rfl)) rfl ?_; exact ⟨er_, bx1 HB.out GE140.out⟩
def spec_l1Min.f (a0 : Int) (a1 : Int) : Option (Int) := if a0 < a1 then (some a0) else (some a1)
set_option maxHeartbeats 8000000 in
set_option maxRecDepth 100000 in
theorem spec_l1Min.calls (a0 : Int) (a1 : Int) (r : Int) (w : World) (h : spec_l1Min.f a0 a1 = some r) :
  Calls Try.prog 133 #[.int .i64 a0, .int .i64 a1] w fun e w' => e = .returned (.int .i64 r) ∧ Drawn0 w w' := by
 have H : (if a0 < a1 then (some a0) else (some a1)) = some r := h; clear h; by_cases c3 : a0 < a1
 ·rw [if_pos c3] at H; have c3b0 := decide_eq_true c3; clear c3; obtain rfl := Option.some.inj H; go_enter Try.func133, Try.ntmps133
  go_wp2; go_ret; exact ⟨by first | rfl | (simp; done) | (simp [*]; done), dr_⟩
 ·rw [if_neg c3] at H; have c3b0 := decide_eq_false c3; clear c3; obtain rfl := Option.some.inj H; go_enter Try.func133, Try.ntmps133
  go_wp2; go_ret; exact ⟨by first | rfl | (simp; done) | (simp [*]; done), dr_⟩
def spec_l1Max.f (a0 : Int) (a1 : Int) : Option (Int) := if a0 > a1 then (some a0) else (some a1)
set_option maxHeartbeats 8000000 in
set_option maxRecDepth 100000 in
theorem spec_l1Max.calls (a0 : Int) (a1 : Int) (r : Int) (w : World) (h : spec_l1Max.f a0 a1 = some r) :
  Calls Try.prog 134 #[.int .i64 a0, .int .i64 a1] w fun e w' => e = .returned (.int .i64 r) ∧ Drawn0 w w' := by
 have H : (if a0 > a1 then (some a0) else (some a1)) = some r := h; clear h; by_cases c3 : a0 > a1
 ·rw [if_pos c3] at H; have c3b0 := decide_eq_true c3; clear c3; obtain rfl := Option.some.inj H; go_enter Try.func134, Try.ntmps134
  go_wp2; go_ret; exact ⟨by first | rfl | (simp; done) | (simp [*]; done), dr_⟩
 ·rw [if_neg c3] at H; have c3b0 := decide_eq_false c3; clear c3; obtain rfl := Option.some.inj H; go_enter Try.func134, Try.ntmps134
  go_wp2; go_ret; exact ⟨by first | rfl | (simp; done) | (simp [*]; done), dr_⟩
mutual
def spec_l13Waits.l0 : Nat → List Bool → Int → Int → Int → Int → ByteArray → Option (Bool)
 | 0, _, _, _, _, _, _ => none
 | k + 1, x1, x2, x3, x9, x164000, x164001 => if x9 < x164000 then (if x9 = x2 then (spec_l13Waits.j1 k x1 x2 x3 x9 true x164000 x164001) else (spec_l13Waits.j1 k x1 x2 x3 x9 (x9 == x3) x164000 x164001)) else (some false)
def spec_l13Waits.j1 : Nat → List Bool → Int → Int → Int → Bool → Int → ByteArray → Option (Bool)
 | 0, _, _, _, _, _, _, _ => none
 | k + 1, x1, x2, x3, x9, x29, x164000, x164001 => if x29 = true then (spec_l13Waits.l0 k x1 x2 x3 (wrap64 (x9 + 1)) x164000 x164001) else ((spec_l1Min.f x2 x9).bind fun t164 => ((spec_l1Max.f x3 x9).bind fun t165 => ((spec_l3At.f k x164000 x164001 t164 (wrap64 ((wrap64 ((wrap64 ((wrap64 (x2 + x3)) + x9)) - t164)) - t165)) t165).bind fun t166 => (if 0 ≤ (wrap64 ((wrap64 (t164 * x164000)) + (wrap64 ((wrap64 ((wrap64 ((wrap64 (x2 + x3)) + x9)) - t164)) - t165)))) then (if (wrap64 ((wrap64 (t164 * x164000)) + (wrap64 ((wrap64 ((wrap64 ((wrap64 (x2 + x3)) + x9)) - t164)) - t165)))) < (x1.length : Int) then (if t166 > 0 then (spec_l13Waits.j2 k x1 x2 x3 x9 t164 t165 (decide (t166 > 0)) (rdOf false x1 (wrap64 ((wrap64 (t164 * x164000)) + (wrap64 ((wrap64 ((wrap64 ((wrap64 (x2 + x3)) + x9)) - t164)) - t165))))) x164000 x164001) else (if 0 ≤ (wrap64 ((wrap64 ((wrap64 ((wrap64 ((wrap64 ((wrap64 (x2 + x3)) + x9)) - t164)) - t165)) * x164000)) + t165)) then (if (wrap64 ((wrap64 ((wrap64 ((wrap64 ((wrap64 ((wrap64 (x2 + x3)) + x9)) - t164)) - t165)) * x164000)) + t165)) < (x1.length : Int) then (spec_l13Waits.j2 k x1 x2 x3 x9 t164 t165 (decide (t166 > 0)) (rdOf false x1 (wrap64 ((wrap64 ((wrap64 ((wrap64 ((wrap64 ((wrap64 (x2 + x3)) + x9)) - t164)) - t165)) * x164000)) + t165))) x164000 x164001) else (none)) else (none))) else (none)) else (none)))))
def spec_l13Waits.j2 : Nat → List Bool → Int → Int → Int → Int → Int → Bool → Bool → Int → ByteArray → Option (Bool)
 | 0, _, _, _, _, _, _, _, _, _, _ => none
 | k + 1, x1, x2, x3, x9, x10, x11, x13, x14, x164000, x164001 => if 0 ≤ (wrap64 ((wrap64 (x10 * x164000)) + x11)) then (if (wrap64 ((wrap64 (x10 * x164000)) + x11)) < (x1.length : Int) then (if x9 > x2 then (spec_l13Waits.j3 k x1 x2 x3 x9 x13 x14 (rdOf false x1 (wrap64 ((wrap64 (x10 * x164000)) + x11))) (decide (x9 < x3)) x164000 x164001) else (spec_l13Waits.j3 k x1 x2 x3 x9 x13 x14 (rdOf false x1 (wrap64 ((wrap64 (x10 * x164000)) + x11))) false x164000 x164001)) else (none)) else (none)
def spec_l13Waits.j3 : Nat → List Bool → Int → Int → Int → Bool → Bool → Bool → Bool → Int → ByteArray → Option (Bool)
 | 0, _, _, _, _, _, _, _, _, _, _ => none
 | k + 1, x1, x2, x3, x9, x13, x14, x15, x80, x164000, x164001 => if x80 = true then (if x14 = true then (spec_l13Waits.l0 k x1 x2 x3 (wrap64 (x9 + 1)) x164000 x164001) else (some true)) else (if ((decide (x9 < x2)) == x13) = true then (if x15 = true then (spec_l13Waits.l0 k x1 x2 x3 (wrap64 (x9 + 1)) x164000 x164001) else (some true)) else (spec_l13Waits.l0 k x1 x2 x3 (wrap64 (x9 + 1)) x164000 x164001))
end
def spec_l13Waits.f (k : Nat) (a0_0 : Int) (a0_1 : ByteArray) (l1 : List Bool) (a2 : Int) (a3 : Int) : Option (Bool) := spec_l13Waits.l0 k l1 a2 a3 0 a0_0 a0_1
theorem spec_l13Waits.mono_l : ∀ k, (∀ y0 y1 y2 y3 y4 y5, LeO (spec_l13Waits.l0 k y0 y1 y2 y3 y4 y5) (spec_l13Waits.l0 (k + 1) y0 y1 y2 y3 y4 y5)) ∧ (∀ y0 y1 y2 y3 y4 y5 y6, LeO (spec_l13Waits.j1 k y0 y1 y2 y3 y4 y5 y6) (spec_l13Waits.j1 (k + 1) y0 y1 y2 y3 y4 y5 y6)) ∧ (∀ y0 y1 y2 y3 y4 y5 y6 y7 y8 y9, LeO (spec_l13Waits.j2 k y0 y1 y2 y3 y4 y5 y6 y7 y8 y9) (spec_l13Waits.j2 (k + 1) y0 y1 y2 y3 y4 y5 y6 y7 y8 y9)) ∧ (∀ y0 y1 y2 y3 y4 y5 y6 y7 y8 y9, LeO (spec_l13Waits.j3 k y0 y1 y2 y3 y4 y5 y6 y7 y8 y9) (spec_l13Waits.j3 (k + 1) y0 y1 y2 y3 y4 y5 y6 y7 y8 y9))
 | 0 => ⟨fun _ _ _ _ _ _ r h => by simp [spec_l13Waits.l0] at h, fun _ _ _ _ _ _ _ r h => by simp [spec_l13Waits.j1] at h, fun _ _ _ _ _ _ _ _ _ _ r h => by simp [spec_l13Waits.j2] at h, fun _ _ _ _ _ _ _ _ _ _ r h => by simp [spec_l13Waits.j3] at h⟩
 | k + 1 => by
  obtain ⟨ih0, ih1, ih2, ih3⟩ := spec_l13Waits.mono_l k; refine ⟨?_, ?_, ?_, ?_⟩ <;> (intros; (first | unfold spec_l13Waits.l0 | unfold spec_l13Waits.j1 | unfold spec_l13Waits.j2 | unfold spec_l13Waits.j3); repeat' first | (with_reducible first | apply ih0 | apply ih1 | apply ih2 | apply ih3 | apply spec_l3At.mono | exact LeO.refl _ | exact LeO.none _ | refine LeO.ite ?_ ?_ | refine LeO.bind ?_ (fun _ => ?_)) | exact LeO.none _)
theorem spec_l13Waits.mono : ∀ a0 a1 a2 a3 a4 k, LeO (spec_l13Waits.f k a0 a1 a2 a3 a4) (spec_l13Waits.f (k + 1) a0 a1 a2 a3 a4) := by
 intro a0 a1 a2 a3 a4 k; obtain ⟨ih0, ih1, ih2, ih3⟩ := spec_l13Waits.mono_l k; unfold spec_l13Waits.f
 repeat' first | (with_reducible first | apply ih0 | apply ih1 | apply ih2 | apply ih3 | apply spec_l3At.mono | exact LeO.refl _ | exact LeO.none _ | refine LeO.ite ?_ ?_ | refine LeO.bind ?_ (fun _ => ?_)) | exact LeO.none _
set_option maxHeartbeats 8000000 in
set_option maxRecDepth 100000 in
theorem spec_l13Waits.calls (k : Nat) (a0_0 : Int) (a0_1 : ByteArray) (A1 : Option Addr) (c1 : Nat) (l1 : List Bool) (a2 : Int) (a3 : Int) (r : Bool) (w : World) (hr1 : Kd.C Kd.bool w A1 l1.length l1) (hc1 : l1.length ≤ c1) (h : spec_l13Waits.f k a0_0 a0_1 l1 a2 a3 = some r) :
  Calls Try.prog 211 #[.agg #[.int .i64 a0_0, .string a0_1], .slice A1 l1.length c1, .int .i64 a2, .int .i64 a3] w fun e w' => e = .returned (.bool r) ∧ Below w.heap.size w w' := by
 have hu31 := Try.underlying31; have HR1 := am_ hr1; have HC1 := am_ hc1; clear hr1 hc1; have HB := am_ (Below.refl w.heap.size w); have H : (spec_l13Waits.l0 k l1 a2 a3 0 a0_0 a0_1) = some r := h; clear h; have H' := am_ H; clear H; go_enter Try.func211, Try.ntmps211
 go_wp2_with (first | ((with_reducible refine gd_ 4 rfl ?_); refine be_ 4 #[.int .i64 a0_0, .string a0_1] 31 ?_; intro gb163 hg w5 hbox hb; have BK163 := am_ hbox; have GW163 := gw0_ HB hg; have GE163 := GW163; replace HB := bs0_ HB hb; clear hb hbox hg))
 go_loopg [9] k (fun kq v9 w' => ∃ (x9_1 : Int), v9 = .int .i64 x9_1 ∧ Aside0 (spec_l13Waits.l0 kq l1 a2 a3 x9_1 a0_0 a0_1 = some r) ∧ Aside0 (kq ≤ k) ∧ Aside0 (w'.heap[gb163]? = some (.cells #[.int .i64 a0_0, .string a0_1] 31 (0, 0))) ∧ Aside0 (Below w.heap.size w w'))
 case atStart => exact ⟨(0), vt_, H', ⟨Nat.le_refl _⟩, kX_ BK163, bX1_ HB GE163⟩
 case round =>
  clear H'; obtain ⟨x9_1, rfl, HA, HK1, BK163, HB⟩ := hrel; cases gk with
  | zero => exact absurd HA.out (by simp [spec_l13Waits.l0])
  | succ k1 =>
   have H := HA.out; clear HA; simp only [spec_l13Waits.l0] at H
   by_cases c6 : x9_1 < a0_0
   ·rw [if_pos c6] at H; have c6b0 := decide_eq_true c6; clear c6; have HC7 := am_ H; clear H; obtain ⟨hcz8_0, hfz8_0, hcz8_1, hfz8_1⟩ := bk2_ BK163; go_upto_region 4 with (fail)
    go_cut [29] (fun v29 wc => ∃ (kq : Nat) (x29_6 : Bool), v29 = .bool x29_6 ∧ Aside0 (spec_l13Waits.j1 kq l1 a2 a3 x9_1 x29_6 a0_0 a0_1 = some r) ∧ Aside0 (kq ≤ k1) ∧ Aside0 (wc.heap[gb163]? = some (.cells #[.int .i64 a0_0, .string a0_1] 31 (0, 0))) ∧ Aside0 (Below w.heap.size w wc))
    case first =>
     have H := HC7.out; clear HC7; by_cases c9 : x9_1 = a2
     ·rw [if_pos c9] at H; obtain ⟨c9b0, c9b1⟩ := eqT_ c9; clear c9; (first | rw [c9b0] | (simp only [i64_w, i32_w]; rw [c9b0]) | skip)
      have H' := am_ H; clear H; go_wp2; go_meet
      case rel => exact ⟨_, (true), vt_, H', ⟨by have := HK1.out; first | omega | exact Nat.le_refl _⟩, kX_ BK163, bX1_ HB GE163⟩
     ·rw [if_neg c9] at H; obtain ⟨c9b0, c9b1⟩ := eqF_ c9; (first | rw [c9b0] | (simp only [i64_w, i32_w]; rw [c9b0]) | skip)
      have H' := am_ H; clear H; go_wp2; go_meet
      case rel => exact ⟨_, ((x9_1 == a3)), vt_, H', ⟨by have := HK1.out; first | omega | exact Nat.le_refl _⟩, kX_ BK163, bX1_ HB GE163⟩
    case rest =>
     clear HC7; try clear c6b0 hcz8_0 hcz8_1 hfz8_0 hfz8_1
     obtain ⟨kq, x29_6, rfl, HA, HJ6, BK163, HB⟩ := hcut; cases kq with
     | zero => exact absurd HA.out (by simp [spec_l13Waits.j1])
     | succ kj6 =>
      have H := HA.out; clear HA; simp only [spec_l13Waits.j1] at H
      by_cases c10 : x29_6 = true
      ·subst c10; replace H := ifT_ H; have H' := am_ H; clear H; go_wp2; go_roundg kj6
       case measure => have := HK1.out; have := HJ6.out; omega
       case rel => exact ⟨(wrap64 (x9_1 + 1)), vt_, H', hl2_ HK1 HJ6, kX_ BK163, bX1_ HB GE163⟩
      ·replace c10 := Bool.eq_false_iff.mpr c10; subst c10; replace H := ifF_ H; obtain ⟨t164, A11, H⟩ := bnd_ H; obtain ⟨t165, A12, H⟩ := bnd_ H; obtain ⟨t166, A13, H⟩ := bnd_ H; obtain ⟨ji14, hji14⟩ : ∃ j_ : Int, (wrap64 ((wrap64 (t164 * a0_0)) + (wrap64 ((wrap64 ((wrap64 ((wrap64 (a2 + a3)) + x9_1)) - t164)) - t165)))) = j_ := ⟨_, rfl⟩; first | rw [hji14] at H | simp only [hji14] at H
       (try rw [hji14] at A11)
       (try rw [hji14] at A12)
       (try rw [hji14] at A13)
       have hji14w : (IntKind.i64.wrap ((wrap64 (t164 * a0_0)) + (wrap64 ((wrap64 ((wrap64 ((wrap64 (a2 + a3)) + x9_1)) - t164)) - t165)))) = ji14 := (i64_w _).trans hji14; by_cases c15 : 0 ≤ (ji14)
       ·rw [if_pos c15] at H; have c15b0 := decide_eq_true c15; clear c15; by_cases c16 : (ji14) < (l1.length : Int)
        ·rw [if_pos c16] at H; have c16b0 := decide_eq_true c16; clear c16; have HC17 := am_ H; clear H; obtain ⟨pl_, hpl_⟩ : ∃ p_, decide (0 < t166) = p_ := ⟨_, rfl⟩; go_upto_if 61 with (first | ((with_reducible refine gc_ 133 rfl ?_); refine gP_ (some 32) Try.func133 #[.int .i64 a2, .int .i64 x9_1] (spec_l1Min.calls a2 x9_1 t164 _ A11.out) ?_; intro nd) | ((with_reducible refine gc_ 134 rfl ?_); refine gP_ (some 35) Try.func134 #[.int .i64 a3, .int .i64 x9_1] (spec_l1Max.calls a3 x9_1 t165 _ A12.out) ?_; intro nd; obtain ⟨hcz18_0, hfz18_0, hcz18_1, hfz18_1⟩ := bk2_ BK163) | ((with_reducible refine gc_ 186 rfl ?_); refine gB_ (some 49) Try.func186 #[.agg #[.int .i64 a0_0, .string a0_1], .int .i64 t164, .int .i64 (wrap64 ((wrap64 ((wrap64 ((wrap64 (a2 + a3)) + x9_1)) - t164)) - t165)), .int .i64 t165] (spec_l3At.calls kj6 a0_0 a0_1 t164 (wrap64 ((wrap64 ((wrap64 ((wrap64 (a2 + a3)) + x9_1)) - t164)) - t165)) t165 t166 _ A13.out) ?_; intro w19 hb; replace BK163 := bb_ BK163 hb; replace HB := bs1_ HB hb GE163; try clear hb; obtain ⟨hcz20_0, hfz20_0, hcz20_1, hfz20_1⟩ := bk2_ BK163; have p167 : 0 ≤ ((ji14) : Int) := oda_; have q167 : (ji14) < (l1.length : Int) := oda_; obtain ⟨ad167, e167, hx167_0⟩ := Kd.at_bool HR1.out (ji14) p167 q167; cases e167; replace hx167_0 := hc_ HB hx167_0; replace p167 := eq_true p167; replace q167 := eq_true q167))
         (try simp only [Act.put, sA_, sZ_, sS_])
         go_cut [14] (fun v14 wc => ∃ (kq : Nat) (x14_16 : Bool), v14 = .bool x14_16 ∧ Aside0 (spec_l13Waits.j2 kq l1 a2 a3 x9_1 t164 t165 (decide (t166 > 0)) x14_16 a0_0 a0_1 = some r) ∧ Aside0 (kq ≤ kj6) ∧ Aside0 (wc.heap[gb163]? = some (.cells #[.int .i64 a0_0, .string a0_1] 31 (0, 0))) ∧ Aside0 (Below w.heap.size w wc))
         case first =>
          have H := HC17.out; clear HC17; by_cases c21 : t166 > 0
          ·rw [if_pos c21] at H; have c21b0 := decide_eq_true c21; clear c21; obtain rfl : pl_ = true := hpl_.symm.trans c21b0; have H' := am_ H; clear H; go_wp2; go_meet
           case rel => exact ⟨_, (rdOf false l1 (ji14)), (by first | rfl | (simp; done) | (simp only [← hji14] <;> (first | rfl | simp)) | (simp [*]; done)), H', ⟨by have := HK1.out; have := HJ6.out; first | omega | exact Nat.le_refl _⟩, kX_ BK163, bX1_ HB GE163⟩
          ·rw [if_neg c21] at H; have c21b0 := decide_eq_false c21; clear c21; obtain rfl : pl_ = false := hpl_.symm.trans c21b0; obtain ⟨ji22, hji22⟩ : ∃ j_ : Int, (wrap64 ((wrap64 ((wrap64 ((wrap64 ((wrap64 ((wrap64 (a2 + a3)) + x9_1)) - t164)) - t165)) * a0_0)) + t165)) = j_ := ⟨_, rfl⟩; first | rw [hji22] at H | simp only [hji22] at H
           have hji22w : (IntKind.i64.wrap ((wrap64 ((wrap64 ((wrap64 ((wrap64 ((wrap64 (a2 + a3)) + x9_1)) - t164)) - t165)) * a0_0)) + t165)) = ji22 := (i64_w _).trans hji22; by_cases c23 : 0 ≤ (ji22)
           ·rw [if_pos c23] at H; have c23b0 := decide_eq_true c23; clear c23; by_cases c24 : (ji22) < (l1.length : Int)
            ·rw [if_pos c24] at H; have c24b0 := decide_eq_true c24; clear c24; have H' := am_ H; clear H; obtain ⟨hcz25_0, hfz25_0, hcz25_1, hfz25_1⟩ := bk2_ BK163; have p168 : 0 ≤ ((ji22) : Int) := oda_; have q168 : (ji22) < (l1.length : Int) := oda_; obtain ⟨ad168, e168, hx168_0⟩ := Kd.at_bool HR1.out (ji22) p168 q168; obtain rfl : ad167 = ad168 := (by injection e168); replace hx168_0 := hc_ HB hx168_0; replace p168 := eq_true p168; replace q168 := eq_true q168; go_wp2; go_meet
             case rel => exact ⟨_, (rdOf false l1 (ji22)), (by first | rfl | (simp; done) | (simp only [← hji22] <;> (first | rfl | simp)) | (simp [*]; done)), H', ⟨by have := HK1.out; have := HJ6.out; first | omega | exact Nat.le_refl _⟩, kX_ BK163, bX1_ HB GE163⟩
            ·rw [if_neg c24] at H; exact absurd H (by simp)
           ·rw [if_neg c23] at H; exact absurd H (by simp)
         case rest =>
          subst hpl_; clear HC17; try clear c6b0 c10 c15b0 c16b0 hcz18_0 hcz18_1 hcz20_0 hcz20_1 hcz8_0 hcz8_1 hfz18_0 hfz18_1 hfz20_0 hfz20_1 hfz8_0 hfz8_1 hx167_0 p167 q167
          obtain ⟨kq, x14_16, rfl, HA, HJ16, BK163, HB⟩ := hcut; cases kq with
          | zero => exact absurd HA.out (by simp [spec_l13Waits.j2])
          | succ kj16 =>
           have H := HA.out; clear HA; simp only [spec_l13Waits.j2] at H
           obtain ⟨ji26, hji26⟩ : ∃ j_ : Int, (wrap64 ((wrap64 (t164 * a0_0)) + t165)) = j_ := ⟨_, rfl⟩; first | rw [hji26] at H | simp only [hji26] at H
           have hji26w : (IntKind.i64.wrap ((wrap64 (t164 * a0_0)) + t165)) = ji26 := (i64_w _).trans hji26; by_cases c27 : 0 ≤ (ji26)
           ·rw [if_pos c27] at H; have c27b0 := decide_eq_true c27; clear c27; by_cases c28 : (ji26) < (l1.length : Int)
            ·rw [if_pos c28] at H; have c28b0 := decide_eq_true c28; clear c28; have HC29 := am_ H; clear H; obtain ⟨hcz30_0, hfz30_0, hcz30_1, hfz30_1⟩ := bk2_ BK163; have p169 : 0 ≤ ((ji26) : Int) := oda_; have q169 : (ji26) < (l1.length : Int) := oda_; obtain ⟨ad169, e169, hx169_0⟩ := Kd.at_bool HR1.out (ji26) p169 q169; obtain rfl : ad167 = ad169 := (by injection e169); replace hx169_0 := hc_ HB hx169_0; replace p169 := eq_true p169; replace q169 := eq_true q169; go_upto_region 13 with (fail)
             go_cut [80] (fun v80 wc => ∃ (kq : Nat) (x80_28 : Bool), v80 = .bool x80_28 ∧ Aside0 (spec_l13Waits.j3 kq l1 a2 a3 x9_1 (decide (t166 > 0)) x14_16 (rdOf false l1 (ji26)) x80_28 a0_0 a0_1 = some r) ∧ Aside0 (kq ≤ kj16) ∧ Aside0 (wc.heap[gb163]? = some (.cells #[.int .i64 a0_0, .string a0_1] 31 (0, 0))) ∧ Aside0 (Below w.heap.size w wc))
             case first =>
              have H := HC29.out; clear HC29; by_cases c31 : x9_1 > a2
              ·rw [if_pos c31] at H; have c31b0 := decide_eq_true c31; clear c31; (first | rw [c31b0] | (simp only [i64_w, i32_w]; rw [c31b0]) | skip)
               have H' := am_ H; clear H; go_wp2; go_meet
               case rel => exact ⟨_, (decide (x9_1 < a3)), vt_, H', ⟨by have := HK1.out; have := HJ6.out; have := HJ16.out; first | omega | exact Nat.le_refl _⟩, kX_ BK163, bX1_ HB GE163⟩
              ·rw [if_neg c31] at H; have c31b0 := decide_eq_false c31; clear c31; (first | rw [c31b0] | (simp only [i64_w, i32_w]; rw [c31b0]) | skip)
               have H' := am_ H; clear H; go_wp2; go_meet
               case rel => exact ⟨_, (false), vt_, H', ⟨by have := HK1.out; have := HJ6.out; have := HJ16.out; first | omega | exact Nat.le_refl _⟩, kX_ BK163, bX1_ HB GE163⟩
             case rest =>
              clear HC29; try clear c6b0 c10 c15b0 c16b0 c27b0 c28b0 hcz18_0 hcz18_1 hcz20_0 hcz20_1 hcz30_0 hcz30_1 hcz8_0 hcz8_1 hfz18_0 hfz18_1 hfz20_0 hfz20_1 hfz30_0 hfz30_1 hfz8_0 hfz8_1 hx167_0 hx169_0 p167 p169 q167 q169
              obtain ⟨kq, x80_28, rfl, HA, HJ28, BK163, HB⟩ := hcut; cases kq with
              | zero => exact absurd HA.out (by simp [spec_l13Waits.j3])
              | succ kj28 =>
               have H := HA.out; clear HA; simp only [spec_l13Waits.j3] at H
               by_cases c32 : x80_28 = true
               ·subst c32; replace H := ifT_ H; by_cases c33 : x14_16 = true
                ·subst c33; replace H := ifT_ H; have H' := am_ H; clear H; go_wp2; go_roundg kj28
                 case measure => have := HK1.out; have := HJ6.out; have := HJ16.out; have := HJ28.out; omega
                 case rel => exact ⟨(wrap64 (x9_1 + 1)), vt_, H', hl4_ HK1 HJ6 HJ16 HJ28, kX_ BK163, bX1_ HB GE163⟩
                ·replace c33 := Bool.eq_false_iff.mpr c33; subst c33; replace H := ifF_ H; obtain rfl := Option.some.inj H; go_wp2; go_ret; exact ⟨by first | rfl | (simp [errW_none, errW_some] <;> rfl) | (simp only [← hji14, ← hji26]; first | rfl | (simp [errW_none, errW_some] <;> rfl)) | (simp [*, errW_none, errW_some] <;> rfl), bx1 HB.out GE163.out⟩
               ·replace c32 := Bool.eq_false_iff.mpr c32; subst c32; replace H := ifF_ H; by_cases c34 : ((decide (x9_1 < a2)) == (decide (t166 > 0))) = true
                ·rw [if_pos c34] at H; have c34b0 : ((decide (x9_1 < a2)) == (decide (t166 > 0))) = true := c34; (try (have c34b1 : decide ((decide (x9_1 < a2)) = (decide (t166 > 0))) = true := by simpa using c34))
                 (try (have c34b2 : ((decide (x9_1 < a2)) == (decide (t166 > 0))) = true := by simpa using c34))
                 clear c34; obtain ⟨bq35, hbq35⟩ : ∃ b_ : Bool, b_ = (rdOf false l1 (ji26)) := ⟨_, rfl⟩; replace H : (if (bq35) = true then (spec_l13Waits.l0 kj28 l1 a2 a3 (wrap64 (x9_1 + 1)) a0_0 a0_1) else (some true)) = some r := by rw [← hbq35] at H; exact H
                 have Nbq35 := am_ hbq35; clear hbq35; by_cases c36 : (bq35) = true
                 ·rw [if_pos c36] at H; have c36b0 : (bq35) = true := c36; have c36b09 : (rdOf false l1 (ji26)) = true := Nbq35.out.symm.trans c36b0; clear c36; have H' := am_ H; clear H; go_wp2; go_roundg kj28
                  case measure => have := HK1.out; have := HJ6.out; have := HJ16.out; have := HJ28.out; omega
                  case rel => exact ⟨(wrap64 (x9_1 + 1)), vt_, H', hl4_ HK1 HJ6 HJ16 HJ28, kX_ BK163, bX1_ HB GE163⟩
                 ·rw [if_neg c36] at H; have c36b0 : (bq35) = false := by simpa using c36
                  have c36b09 : (rdOf false l1 (ji26)) = false := Nbq35.out.symm.trans c36b0; clear c36; obtain rfl := Option.some.inj H; go_wp2; go_ret; exact ⟨by first | rfl | (simp [errW_none, errW_some] <;> rfl) | (simp only [← hji14, ← hji26]; first | rfl | (simp [errW_none, errW_some] <;> rfl)) | (simp [*, errW_none, errW_some] <;> rfl), bx1 HB.out GE163.out⟩
                ·rw [if_neg c34] at H; have c34b0 : ((decide (x9_1 < a2)) == (decide (t166 > 0))) = false := by simpa using c34
                 (try (have c34b1 : decide ((decide (x9_1 < a2)) = (decide (t166 > 0))) = false := by simpa using c34))
                 (try (have c34b2 : ((decide (x9_1 < a2)) == (decide (t166 > 0))) = false := by simpa using c34))
                 (try (have c34b3 : ¬ ((decide (x9_1 < a2)) = (decide (t166 > 0))) := by simpa using c34))
                 clear c34; have H' := am_ H; clear H; go_wp2; go_roundg kj28
                 case measure => have := HK1.out; have := HJ6.out; have := HJ16.out; have := HJ28.out; omega
                 case rel => exact ⟨(wrap64 (x9_1 + 1)), vt_, H', hl4_ HK1 HJ6 HJ16 HJ28, kX_ BK163, bX1_ HB GE163⟩
            ·rw [if_neg c28] at H; exact absurd H (by simp)
           ·rw [if_neg c27] at H; exact absurd H (by simp)
        ·rw [if_neg c16] at H; exact absurd H (by simp)
       ·rw [if_neg c15] at H; exact absurd H (by simp)
   ·rw [if_neg c6] at H; have c6b0 := decide_eq_false c6; clear c6; obtain rfl := Option.some.inj H; obtain ⟨hcz37_0, hfz37_0, hcz37_1, hfz37_1⟩ := bk2_ BK163; go_wp2; go_ret; exact ⟨er_, bx1 HB.out GE163.out⟩
end Go.Proofs.Ytoajlmlobaccdaa.P
