/- What the law FnExactMutationPath reaches, part 6: functions as plain Lean functions with the proofs that their calls come to them, and plain lemmas over these. Put together by a program (wip/pack.py). -/
import Derived.Test.YtoajlmlobaccdaaKFnExactMutationPathd
import Derived.Test.YtoajlmlobaccdaaKFnExactMutationPathc
import Derived.Test.YtoajlmlobaccdaaKFnExactMutationPathe
namespace Go.Proofs.Ytoajlmlobaccdaa.P
open Go.RowKit Go.Proofs.YtoajlmlobaccdaaW.PrintWords Go.Proofs.YtoajlmlobaccdaaW.PrintLast Go.Proofs.YtoajlmlobaccdaaW.PrintMore
attribute [local go_sem] ptrOf_slice
attribute [local go_sem] min2_str max2_int min2_int max_two min_two max_three min_three max_four min_four
set_option linter.unusedVariables false
set_option linter.unusedSimpArgs false
mutual
def spec_l18All.l0 : Nat → Bool → List (List Int) → Int → Int → ByteArray → Option ((List (List Int)))
 | 0, _, _, _, _, _ => none
 | k + 1, x1, x5, x6, x1030000, x1030001 => if x6 < x1030000 then (spec_l18All.l1 k x1 x5 x6 (wrap64 (x6 + 1)) x1030000 x1030001) else (some x5)
def spec_l18All.l1 : Nat → Bool → List (List Int) → Int → Int → Int → ByteArray → Option ((List (List Int)))
 | 0, _, _, _, _, _, _ => none
 | k + 1, x1, x5, x6, x7, x1030000, x1030001 => if x7 < x1030000 then (spec_l18All.l2 k x1 x5 x6 x7 (wrap64 (x7 + 1)) x1030000 x1030001) else (spec_l18All.l0 k x1 x5 (wrap64 (x6 + 1)) x1030000 x1030001)
def spec_l18All.l2 : Nat → Bool → List (List Int) → Int → Int → Int → Int → ByteArray → Option ((List (List Int)))
 | 0, _, _, _, _, _, _, _ => none
 | k + 1, x1, x5, x6, x7, x8, x1030000, x1030001 => if x8 < x1030000 then ((spec_l3Index.f k x1030000 x6 x7 x8).bind fun t1033 => ((spec_l14Exchange.f x1030000 x1030001 t1033).bind fun bt1034 => ((spec_IsMatroid.f k bt1034.1 bt1034.2).bind fun t1037 => (if t1037 = true then (if x1 = true then ((spec_l4Acyclic.f k bt1034.1 bt1034.2).bind fun t1038 => (if t1038 = true then (if x5.length < 5864062014805 then (spec_l18All.l2 k x1 (x5 ++ [(([x6, x7, x8] : List Int))]) x6 x7 (wrap64 (x8 + 1)) x1030000 x1030001) else (none)) else (spec_l18All.l2 k x1 x5 x6 x7 (wrap64 (x8 + 1)) x1030000 x1030001))) else (if x5.length < 5864062014805 then (spec_l18All.l2 k x1 (x5 ++ [(([x6, x7, x8] : List Int))]) x6 x7 (wrap64 (x8 + 1)) x1030000 x1030001) else (none))) else (spec_l18All.l2 k x1 x5 x6 x7 (wrap64 (x8 + 1)) x1030000 x1030001))))) else (spec_l18All.l1 k x1 x5 x6 (wrap64 (x7 + 1)) x1030000 x1030001)
end
def spec_l18All.f (k : Nat) (a0_0 : Int) (a0_1 : ByteArray) (a1 : Bool) : Option ((List (List Int))) := spec_l18All.l0 k a1 (([] : List (List Int))) 0 a0_0 a0_1
theorem spec_l18All.mono_l : ∀ k, (∀ y0 y1 y2 y3 y4, LeO (spec_l18All.l0 k y0 y1 y2 y3 y4) (spec_l18All.l0 (k + 1) y0 y1 y2 y3 y4)) ∧ (∀ y0 y1 y2 y3 y4 y5, LeO (spec_l18All.l1 k y0 y1 y2 y3 y4 y5) (spec_l18All.l1 (k + 1) y0 y1 y2 y3 y4 y5)) ∧ (∀ y0 y1 y2 y3 y4 y5 y6, LeO (spec_l18All.l2 k y0 y1 y2 y3 y4 y5 y6) (spec_l18All.l2 (k + 1) y0 y1 y2 y3 y4 y5 y6))
 | 0 => ⟨fun _ _ _ _ _ r h => by simp [spec_l18All.l0] at h, fun _ _ _ _ _ _ r h => by simp [spec_l18All.l1] at h, fun _ _ _ _ _ _ _ r h => by simp [spec_l18All.l2] at h⟩
 | k + 1 => by
  obtain ⟨ih0, ih1, ih2⟩ := spec_l18All.mono_l k; refine ⟨?_, ?_, ?_⟩ <;> (intros; (first | unfold spec_l18All.l0 | unfold spec_l18All.l1 | unfold spec_l18All.l2); repeat' first | (with_reducible first | apply ih0 | apply ih1 | apply ih2 | apply spec_IsMatroid.mono | apply spec_l3Index.mono | apply spec_l4Acyclic.mono | exact LeO.refl _ | exact LeO.none _ | refine LeO.ite ?_ ?_ | refine LeO.bind ?_ (fun _ => ?_)) | exact LeO.none _)
theorem spec_l18All.mono : ∀ a0 a1 a2 k, LeO (spec_l18All.f k a0 a1 a2) (spec_l18All.f (k + 1) a0 a1 a2) := by
 intro a0 a1 a2 k; obtain ⟨ih0, ih1, ih2⟩ := spec_l18All.mono_l k; unfold spec_l18All.f
 repeat' first | (with_reducible first | apply ih0 | apply ih1 | apply ih2 | apply spec_IsMatroid.mono | apply spec_l3Index.mono | apply spec_l4Acyclic.mono | exact LeO.refl _ | exact LeO.none _ | refine LeO.ite ?_ ?_ | refine LeO.bind ?_ (fun _ => ?_)) | exact LeO.none _
def spec_l18All.T11 : Bool × List (List Nat × List Nat) := (true, [([], []), ([], []), ([1], [1]), ([], []), ([], []), ([], []), ([2, 3, 4, 5], [2, 3, 4, 5]), ([0, 6, 6], [0, 6]), ([], []), ([8, 7, 7, 0, 1, 2, 3, 4, 5, 6, 7, 8], [7, 8])])
def spec_l18All.B11 : List Nat := [0, 0, 2, 0, 0, 0, 62, 127, 0, 511]
theorem spec_l18All.tab11 : rtab .any (opsOf Try.f104 11) = spec_l18All.T11 := by kernel_rfl
theorem spec_l18All.bits11 : waitsOk spec_l18All.T11.2 spec_l18All.B11 = true := by kernel_rfl
set_option maxHeartbeats 8000000 in
set_option maxRecDepth 100000 in
theorem spec_l18All.calls (k : Nat) (a0_0 : Int) (a0_1 : ByteArray) (a1 : Bool) (r : List (List Int)) (w : World) (h : spec_l18All.f k a0_0 a0_1 a1 = some r) :
  Calls Try.prog 104 #[.agg #[.int .i64 a0_0, .string a0_1], .bool a1] w fun e w' => ∃ v0_ : Value, e = .returned (v0_) ∧ Kd.S (Kd.slice 3 (Kd.int .i64)) 34 w' w.heap.size (fun _ => True) v0_ r ∧ Below w.heap.size w w' := by
 have hu31 := Try.underlying31; have HB := am_ (Below.refl w.heap.size w); have H : (spec_l18All.l0 k a1 (([] : List (List Int))) 0 a0_0 a0_1) = some r := h; clear h; obtain ⟨y1030, hy1030⟩ : ∃ y_ : List (List Int), y_ = (([] : List (List Int))) := ⟨_, rfl⟩; replace H : (spec_l18All.l0 k a1 y1030 0 a0_0 a0_1) = some r := yH_ hy1030 H; have Ny1030 := am_ hy1030; clear hy1030; have H' := am_ H; clear H; go_enter Try.func104, Try.ntmps104
 go_wp2_with (first | ((with_reducible refine gd_ 2 rfl ?_); refine be_ 2 #[.int .i64 a0_0, .string a0_1] 31 ?_; intro gb1029 hg w3 hbox hb; have BK1029 := am_ hbox; have GW1029 := gw0_ HB hg; have GE1029 := GW1029; replace HB := bs0_ HB hb; clear hb hbox hg) | ((with_reducible refine gd_ 10 rfl ?_); refine Kd.S_lit (Kd.slice 3 (Kd.int .i64)) _ 34 ?hg (N := 10) ?hd (xs := ([] : List (List Int))) (inner := []) (ok := fun _ => True) (okp := fun _ => True) ?hr ?hp (fun _ hk => hk) trivial (Below.refl _ _) (Nat.le_refl _) (by simp) ?_; (case hd => rfl); (case hg => rfl); (case hr => first | (go_simp; done) | (go_simp; rfl)); (case hp => exact (Reps.none _ _)); intro v1031 w4 ho5 hb hg_ hnew_; clear hg_ hnew_; (first | rw [← Ny1030.out] at ho5 | (simp only [Int.reduceToNat] at ho5; rw [← Ny1030.out] at ho5)); have HO1032 := am_ (Kd.S_lower ho5 (below_size (bx1 HB.out GE1029.out))); replace BK1029 := bb_ BK1029 hb; replace HB := bs1_ HB hb GE1029; clear hb ho5))
 go_loopg [5, 6] k (fun kq v5 v6 w' => ∃ (x5_1 : List (List Int)) (x6_1 : Int), v6 = .int .i64 x6_1 ∧ Aside0 (spec_l18All.l0 kq a1 x5_1 x6_1 a0_0 a0_1 = some r) ∧ Aside0 (kq ≤ k) ∧ Aside0 (Kd.S (Kd.slice 3 (Kd.int .i64)) 34 w' w.heap.size (fun _ => True) v5 x5_1) ∧ Aside0 (w'.heap[gb1029]? = some (.cells #[.int .i64 a0_0, .string a0_1] 31 (0, 0))) ∧ Aside0 (Below w.heap.size w w'))
 case atStart => exact ⟨(y1030), (0), vt_, H', ⟨Nat.le_refl _⟩, ⟨sx_ HO1032.out⟩, kX_ BK1029, bX1_ HB GE1029⟩
 case round =>
  clear H'; obtain ⟨x5_1, x6_1, rfl, HA, HK1, HO_5, BK1029, HB⟩ := hrel; cases gk with
  | zero => exact absurd HA.out (by simp [spec_l18All.l0])
  | succ k1 =>
   have H := HA.out; clear HA; simp only [spec_l18All.l0] at H
   by_cases c6 : x6_1 < a0_0
   ·rw [if_pos c6] at H; have c6b0 := decide_eq_true c6; clear c6; have H' := am_ H; clear H; obtain ⟨hcz7_0, hfz7_0, hcz7_1, hfz7_1⟩ := bk2_ BK1029; go_wp2; go_loopg [5, 7] k1 (fun kq v5 v7 w' => ∃ (x5_2 : List (List Int)) (x7_2 : Int), v7 = .int .i64 x7_2 ∧ Aside0 (spec_l18All.l1 kq a1 x5_2 x6_1 x7_2 a0_0 a0_1 = some r) ∧ Aside0 (kq ≤ k1) ∧ Aside0 (Kd.S (Kd.slice 3 (Kd.int .i64)) 34 w' w.heap.size (fun _ => True) v5 x5_2) ∧ Aside0 (w'.heap[gb1029]? = some (.cells #[.int .i64 a0_0, .string a0_1] 31 (0, 0))) ∧ Aside0 (Below w.heap.size w w'))
    case atStart => exact ⟨(x5_1), (wrap64 (x6_1 + 1)), vt_, H', ⟨Nat.le_refl _⟩, ⟨sx_ HO_5.out⟩, kX_ BK1029, bX1_ HB GE1029⟩
    case round =>
     clear H'; try clear c6b0 hcz7_0 hcz7_1 hfz7_0 hfz7_1
     obtain ⟨x5_2, x7_2, rfl, HA, HK2, HO_5, BK1029, HB⟩ := hrel; cases gk with
     | zero => exact absurd HA.out (by simp [spec_l18All.l1])
     | succ k2 =>
      have H := HA.out; clear HA; simp only [spec_l18All.l1] at H
      by_cases c8 : x7_2 < a0_0
      ·rw [if_pos c8] at H; have c8b0 := decide_eq_true c8; clear c8; have H' := am_ H; clear H; obtain ⟨hcz9_0, hfz9_0, hcz9_1, hfz9_1⟩ := bk2_ BK1029; go_wp2; go_loopg [5, 8] k2 (fun kq v5 v8 w' => ∃ (x5_3 : List (List Int)) (x8_3 : Int), v8 = .int .i64 x8_3 ∧ Aside0 (spec_l18All.l2 kq a1 x5_3 x6_1 x7_2 x8_3 a0_0 a0_1 = some r) ∧ Aside0 (kq ≤ k2) ∧ Aside0 (Kd.S (Kd.slice 3 (Kd.int .i64)) 34 w' w.heap.size (fun _ => True) v5 x5_3) ∧ Aside0 (w'.heap[gb1029]? = some (.cells #[.int .i64 a0_0, .string a0_1] 31 (0, 0))) ∧ Aside0 (Below w.heap.size w w'))
       case atStart => exact ⟨(x5_2), (wrap64 (x7_2 + 1)), vt_, H', ⟨Nat.le_refl _⟩, ⟨sx_ HO_5.out⟩, kX_ BK1029, bX1_ HB GE1029⟩
       case round =>
        clear H'; try clear c6b0 c8b0 hcz7_0 hcz7_1 hcz9_0 hcz9_1 hfz7_0 hfz7_1 hfz9_0 hfz9_1
        obtain ⟨x5_3, x8_3, rfl, HA, HK3, HO_5, BK1029, HB⟩ := hrel; cases gk with
        | zero => exact absurd HA.out (by simp [spec_l18All.l2])
        | succ k3 =>
         have H := HA.out; clear HA; simp only [spec_l18All.l2] at H
         by_cases c10 : x8_3 < a0_0
         ·rw [if_pos c10] at H; have c10b0 := decide_eq_true c10; clear c10; obtain ⟨t1033, A11, H⟩ := bnd_ H; replace H := Option.bind_eq_some_iff.mp H; obtain ⟨⟨t1034, t1035⟩, A120, H⟩ := H; replace H : ((spec_IsMatroid.f k3 t1034 t1035).bind fun t1037 => (if t1037 = true then (if a1 = true then ((spec_l4Acyclic.f k3 t1034 t1035).bind fun t1038 => (if t1038 = true then (if x5_3.length < 5864062014805 then (spec_l18All.l2 k3 a1 (x5_3 ++ [(([x6_1, x7_2, x8_3] : List Int))]) x6_1 x7_2 (wrap64 (x8_3 + 1)) a0_0 a0_1) else (none)) else (spec_l18All.l2 k3 a1 x5_3 x6_1 x7_2 (wrap64 (x8_3 + 1)) a0_0 a0_1))) else (if x5_3.length < 5864062014805 then (spec_l18All.l2 k3 a1 (x5_3 ++ [(([x6_1, x7_2, x8_3] : List Int))]) x6_1 x7_2 (wrap64 (x8_3 + 1)) a0_0 a0_1) else (none))) else (spec_l18All.l2 k3 a1 x5_3 x6_1 x7_2 (wrap64 (x8_3 + 1)) a0_0 a0_1))) = some r := H; have A12 := am_ A120; clear A120; obtain ⟨t1037, A13, H⟩ := bnd_ H; by_cases c14 : t1037 = true
          ·subst c14; replace H := ifT_ H; by_cases c15 : a1 = true
           ·subst c15; replace H := ifT_ H; obtain ⟨t1038, A16, H⟩ := bnd_ H; by_cases c17 : t1038 = true
            ·subst c17; replace H := ifT_ H; obtain ⟨y1039, hy1039⟩ : ∃ y_ : List Int, y_ = (([x6_1, x7_2, x8_3] : List Int)) := ⟨_, rfl⟩; replace H : (if x5_3.length < 5864062014805 then (spec_l18All.l2 k3 true (x5_3 ++ [y1039]) x6_1 x7_2 (wrap64 (x8_3 + 1)) a0_0 a0_1) else (none)) = some r := yH_ hy1039 H; have Ny1039 := am_ hy1039; clear hy1039; by_cases c18 : x5_3.length < 5864062014805
             ·rw [if_pos c18] at H; have LMc18 := am_ c18; clear c18; obtain ⟨y1042, hy1042⟩ : ∃ y_ : List (List Int), y_ = (x5_3 ++ [y1039]) := ⟨_, rfl⟩; replace H : (spec_l18All.l2 k3 true y1042 x6_1 x7_2 (wrap64 (x8_3 + 1)) a0_0 a0_1) = some r := yH_ hy1042 H; have Ny1042 := am_ hy1042; clear hy1042; have H' := am_ H; clear H; obtain ⟨hcz19_0, hfz19_0, hcz19_1, hfz19_1⟩ := bk2_ BK1029; try go_wp2
              replace HO_5 := am_ (Kd.S_drew HO_5.out); replace BK1029 := am_ (blk_drew BK1029.out); replace HB := bd_ HB; refine start_ (n := 10) (S := fun w' => w'.cell? ⟨gb1029, 0, none⟩ = some (.int .i64 a0_0) ∧ w'.cell? ⟨gb1029, 1, none⟩ = some (.string a0_1)) (ds := []) #[false, false, false, false, false, false, false, false, false, false] (by kernel_rfl) rfl rfl ⟨c0_ BK1029, c1_ BK1029⟩ (fun hHeld => ?_); refine with_tabW spec_l18All.tab11 spec_l18All.bits11 (fun HT_ HW_ => ?_); generalize wr.drew = w20 at HO_5 BK1029 HB hHeld ⊢
              refine pD_ 1 (some 34) HT_ (h := ?_); refine pD_ 3 (some 36) HT_ (h := ?_); refine pD_ 4 (some 37) HT_ (h := ?_); refine pD_ 5 (some 38) HT_ (h := ?_); refine tD2_ 0 (some 33) HT_ HW_ hHeld (h := ?_); refine tD2_ 2 (some 35) HT_ HW_ hHeld (h := ?_); refine join_ (σ := Nat) 1 #[true, true, true, true, true, true, true, true, true, false] (fun s_ => [(39, .int .i64 t1033), (40, .agg #[.int .i64 t1034, .string t1035]), (9, .pointer (some ⟨s_, 0, none⟩))]) (fun s_ w' => (w'.cell? ⟨gb1029, 0, none⟩ = some (.int .i64 a0_0) ∧ w'.cell? ⟨gb1029, 1, none⟩ = some (.string a0_1)) ∧ (Kd.S (Kd.slice 3 (Kd.int .i64)) 34 w' w.heap.size (fun _ => True) u5 x5_3) ∧ (w'.heap[gb1029]? = some (.cells #[.int .i64 a0_0, .string a0_1] 31 (0, 0))) ∧ (w'.heap[s_]? = some (.cells #[.int .i64 0, .string (⟨#[]⟩ : ByteArray)] 31 (0, 0))) ∧ (w.heap.size ≤ s_) ∧ (w.heap.size ≤ s_) ∧ (gb1029 ≠ s_) ∧ (s_ ≠ gb1029) ∧ (Below w.heap.size w w')) ?_ ?_; rotate_left
              ·intro hCont; refine two_ (i := 6) (j := 8) (Ni := some 39) (Nj := some 9) #[true, true, true, true, true, true, true, false, false, false] #[true, true, true, true, true, true, false, false, true, false] rfl rfl rfl rfl (two_of HT_.out (by kernel_rfl)) (by decide) (by decide) (fun K hK => ?_) (fun K hK => ?_)
               ·skip
                refine gO_ Try.func106 #[.int .i64 a0_0, .int .i64 x6_1, .int .i64 x7_2, .int .i64 x8_3] ?_; with_reducible refine (spec_l3Index.calls k3 a0_0 x6_1 x7_2 x8_3 t1033 _ A11.out).mono ?_
                rintro e w' ⟨rfl, ⟨nd, rfl⟩⟩; refine ⟨_, rfl, ?_⟩; refine hK.out _ _ ⟨c0_ BK1029, c1_ BK1029⟩ (fun hHeld => ?_); clear hK K; refine nm_ 39 (h := ?_); refine two_ (i := 7) (j := 8) (Ni := some 40) (Nj := some 9) #[true, true, true, true, true, true, true, true, false, false] #[true, true, true, true, true, true, true, false, true, false] rfl rfl rfl rfl (two_of HT_.out (by kernel_rfl)) (by decide) (by decide) (fun K hK => ?_) (fun K hK => ?_)
                ·skip
                 refine gO_ Try.func105 #[.agg #[.int .i64 a0_0, .string a0_1], .int .i64 t1033] ?_; with_reducible refine (spec_l14Exchange.calls a0_0 a0_1 t1033 t1034 t1035 _ A12.out).mono ?_
                 rintro e w21 ⟨rfl, hb⟩; refine ⟨_, rfl, ?_⟩; replace HO_5 := am_ (Kd.S_below (sx_ HO_5.out) hb); replace BK1029 := bb_ BK1029 hb; replace HB := bs1_ HB hb GE1029; try clear hb
                 refine hK.out _ _ ⟨c0_ BK1029, c1_ BK1029⟩ (fun hHeld => ?_); clear hK K; refine nm_ 40 (h := ?_); refine oN_ 8 (some 9) HT_ (fun K hK => ?_); refine box_step ?hg (N := 9) ?hd (cs := #[.int .i64 0, .string (⟨#[]⟩ : ByteArray)]) (t := 31) ?hr ?_; (case hd => rfl); (case hg => rfl); (case hr => first | (go_simp; done) | (go_simp; rfl)); intro gb1036 hg w22 hbox hb; replace HO_5 := am_ (Kd.S_below (sx_ HO_5.out) hb); have BK1036 := am_ hbox; have GW1036 := gw1_ HB hg GE1029; have GE1036 := GW1036; replace HB := bs1_ HB hb GE1029; have NB1029_1036 := nl_ BK1029 hg; have NB1036_1029 := ng_ BK1029 hg; replace BK1029 := bb_ BK1029 hb; clear hb hbox hg; refine hK.out _ _ ⟨c0_ BK1029, c1_ BK1029⟩ (fun hHeld => ?_); clear hK K; refine nm_ 9 (h := ?_); exact norm_ (by simp only [putAll, Act.put, sA_, sZ_, sS_]) (hCont (gb1036) _ ⟨hHeld, (sx_ HO_5.out), (kx_ BK1029.out), (kx_ BK1036.out), GW1036.out, GE1036.out, NB1029_1036.out, NB1036_1029.out, (bx2 HB.out GE1029.out GE1036.out)⟩)
                ·skip
                 refine box_step ?hg (N := 9) ?hd (cs := #[.int .i64 0, .string (⟨#[]⟩ : ByteArray)]) (t := 31) ?hr ?_; (case hd => rfl); (case hg => rfl); (case hr => first | (go_simp; done) | (go_simp; rfl)); intro gb1036 hg w21 hbox hb; replace HO_5 := am_ (Kd.S_below (sx_ HO_5.out) hb); have BK1036 := am_ hbox; have GW1036 := gw1_ HB hg GE1029; have GE1036 := GW1036; replace HB := bs1_ HB hb GE1029; have NB1029_1036 := nl_ BK1029 hg; have NB1036_1029 := ng_ BK1029 hg; replace BK1029 := bb_ BK1029 hb; clear hb hbox hg; refine hK.out _ _ ⟨c0_ BK1029, c1_ BK1029⟩ (fun hHeld => ?_); clear hK K; refine nm_ 9 (h := ?_); refine oN_ 7 (some 40) HT_ (fun K hK => ?_); refine gO_ Try.func105 #[.agg #[.int .i64 a0_0, .string a0_1], .int .i64 t1033] ?_; with_reducible refine (spec_l14Exchange.calls a0_0 a0_1 t1033 t1034 t1035 _ A12.out).mono ?_
                 rintro e w22 ⟨rfl, hb⟩; refine ⟨_, rfl, ?_⟩; replace HO_5 := am_ (Kd.S_below (sx_ HO_5.out) hb); replace BK1029 := bb_ BK1029 hb; replace BK1036 := bb_ BK1036 hb; replace HB := bs2_ HB hb GE1029 GE1036; try clear hb
                 refine hK.out _ _ ⟨c0_ BK1029, c1_ BK1029⟩ (fun hHeld => ?_); clear hK K; refine nm_ 40 (h := ?_); exact norm_ (by simp only [putAll, Act.put, sA_, sZ_, sS_]) (hCont (gb1036) _ ⟨hHeld, (sx_ HO_5.out), (kx_ BK1029.out), (kx_ BK1036.out), GW1036.out, GE1036.out, NB1029_1036.out, NB1036_1029.out, (bx2 HB.out GE1029.out GE1036.out)⟩)
               ·skip
                refine box_step ?hg (N := 9) ?hd (cs := #[.int .i64 0, .string (⟨#[]⟩ : ByteArray)]) (t := 31) ?hr ?_; (case hd => rfl); (case hg => rfl); (case hr => first | (go_simp; done) | (go_simp; rfl)); intro gb1036 hg w21 hbox hb; replace HO_5 := am_ (Kd.S_below (sx_ HO_5.out) hb); have BK1036 := am_ hbox; have GW1036 := gw1_ HB hg GE1029; have GE1036 := GW1036; replace HB := bs1_ HB hb GE1029; have NB1029_1036 := nl_ BK1029 hg; have NB1036_1029 := ng_ BK1029 hg; replace BK1029 := bb_ BK1029 hb; clear hb hbox hg; refine hK.out _ _ ⟨c0_ BK1029, c1_ BK1029⟩ (fun hHeld => ?_); clear hK K; refine nm_ 9 (h := ?_); refine oN_ 6 (some 39) HT_ (fun K hK => ?_); refine gO_ Try.func106 #[.int .i64 a0_0, .int .i64 x6_1, .int .i64 x7_2, .int .i64 x8_3] ?_; with_reducible refine (spec_l3Index.calls k3 a0_0 x6_1 x7_2 x8_3 t1033 _ A11.out).mono ?_
                rintro e w' ⟨rfl, ⟨nd, rfl⟩⟩; refine ⟨_, rfl, ?_⟩; refine hK.out _ _ ⟨c0_ BK1029, c1_ BK1029⟩ (fun hHeld => ?_); clear hK K; refine nm_ 39 (h := ?_); refine oN_ 7 (some 40) HT_ (fun K hK => ?_); refine gO_ Try.func105 #[.agg #[.int .i64 a0_0, .string a0_1], .int .i64 t1033] ?_; with_reducible refine (spec_l14Exchange.calls a0_0 a0_1 t1033 t1034 t1035 _ A12.out).mono ?_
                rintro e w22 ⟨rfl, hb⟩; refine ⟨_, rfl, ?_⟩; replace HO_5 := am_ (Kd.S_below (sx_ HO_5.out) hb); replace BK1029 := bb_ BK1029 hb; replace BK1036 := bb_ BK1036 hb; replace HB := bs2_ HB hb GE1029 GE1036; try clear hb
                refine hK.out _ _ ⟨c0_ BK1029, c1_ BK1029⟩ (fun hHeld => ?_); clear hK K; refine nm_ 40 (h := ?_); exact norm_ (by simp only [putAll, Act.put, sA_, sZ_, sS_]) (hCont (gb1036) _ ⟨hHeld, (sx_ HO_5.out), (kx_ BK1029.out), (kx_ BK1036.out), GW1036.out, GE1036.out, NB1029_1036.out, NB1036_1029.out, (bx2 HB.out GE1029.out GE1036.out)⟩)
              rintro gb1036 w23 ⟨hS_, h0_, h1_, h2_, h3_, h4_, h5_, h6_, h7_⟩; have n0_ : Aside0 (Kd.S (Kd.slice 3 (Kd.int .i64)) 34 w23 w.heap.size (fun _ => True) u5 x5_3) := ⟨h0_⟩; have n1_ : Aside0 (w23.heap[gb1029]? = some (.cells #[.int .i64 a0_0, .string a0_1] 31 (0, 0))) := ⟨h1_⟩; have n2_ : Aside0 (w23.heap[gb1036]? = some (.cells #[.int .i64 0, .string (⟨#[]⟩ : ByteArray)] 31 (0, 0))) := ⟨h2_⟩; have n3_ : Aside0 (w.heap.size ≤ gb1036) := ⟨h3_⟩; have n4_ : Aside0 (w.heap.size ≤ gb1036) := ⟨h4_⟩; have n5_ : Aside0 (gb1029 ≠ gb1036) := ⟨h5_⟩; have n6_ : Aside0 (gb1036 ≠ gb1029) := ⟨h6_⟩; have n7_ : Aside0 (Below w.heap.size w w23) := ⟨h7_⟩; clear HO_5; clear BK1029; clear HB; clear h0_ h1_ h2_ h3_ h4_ h5_ h6_ h7_; have HO_5 := n0_; have BK1029 := n1_; have BK1036 := n2_; have GW1036 := n3_; have GE1036 := n4_; have NB1029_1036 := n5_; have NB1036_1029 := n6_; have HB := n7_; clear n0_ n1_ n2_ n3_ n4_ n5_ n6_ n7_; have hHeld : w23.cell? ⟨gb1029, 0, none⟩ = some (.int .i64 a0_0) ∧ w23.cell? ⟨gb1029, 1, none⟩ = some (.string a0_1) := hS_; refine norm_ (a' := ?_) ?_ ?_; rotate_left
              ·simp only [putAll, Act.put, sA_, sZ_, sS_]
               rfl
              refine oN_ 9 (none) HT_ (fun K hK => ?_); have hs24 : w23.cell? ⟨gb1036, 0, none⟩ = some (.int .i64 0) := (blk_cell BK1036.out 0).trans rfl; have hfs24 := blk_frozen BK1036.out 0; have hns24_0 := NB1029_1036.out; have hms24_0 := NB1036_1029.out; have hs25 : w23.cell? ⟨gb1036, 1, none⟩ = some (.string (⟨#[]⟩ : ByteArray)) := (blk_cell BK1036.out 1).trans rfl; have hfs25 := blk_frozen BK1036.out 1; have hns25_0 := NB1029_1036.out; have hms25_0 := NB1036_1029.out; refine skip_ (w1 := ?_) (by rfl) rfl ?_ ?_; rotate_left
              ·go_simp
               rfl
              refine hK.out _ _ ⟨((cell_far (p := ⟨gb1036, _, none⟩) NB1029_1036.out _).trans (((cell_far (p := ⟨gb1036, _, none⟩) NB1029_1036.out _).trans (hHeld.1)))), ((cell_far (p := ⟨gb1036, _, none⟩) NB1029_1036.out _).trans (((cell_far (p := ⟨gb1036, _, none⟩) NB1029_1036.out _).trans (hHeld.2))))⟩ (fun hHeld => ?_); clear hK K; refine done_ (done_of HT_.out (by kernel_rfl)) ?_; have hnb26 := NB1036_1029.out; have hnc26 := NB1029_1036.out; obtain ⟨hcz27_0, hfz27_0, hcz27_1, hfz27_1⟩ := bk2_ BK1036; try go_wp2_with (first | ((with_reducible refine gc_ 61 rfl ?_); refine gB_ (some 42) Try.func61 #[.agg #[.int .i64 t1034, .string t1035]] (spec_IsMatroid.calls k3 t1034 t1035 true _ A13.out) ?_; intro w28 hb; replace HO_5 := am_ (Kd.S_below (by refine sx_ ?_; exact (Kd.S_mono (Kd.S_far (p := ⟨gb1036, 1, none⟩) (Kd.S_far (p := ⟨gb1036, 0, none⟩) (Kd.S_types HO_5.out BK1036.out (by decide)) (fun _ hk => hk.2) (.int .i64 t1034)) (fun _ hk => hk.2) (.string t1035)) (fun _ h_ => h_.1))) hb); replace BK1029 := am_ (blk_below (g := gb1029) (o := .cells #[.int .i64 a0_0, .string a0_1] 31 (0, 0)) (by refine kx_ ?_; refine blk_far ?_ NB1029_1036.out _; refine kx_ ?_; refine blk_far ?_ NB1029_1036.out _; refine kx_ ?_; exact BK1029.out) hb); replace BK1036 := am_ (blk_below (g := gb1036) (o := .cells #[.int .i64 t1034, .string t1035] 31 (0, 0)) (by refine kx_ ?_; refine blk_put (cs := #[.int .i64 t1034, .string (⟨#[]⟩ : ByteArray)]) ?_ 1 _ rfl; refine kx_ ?_; refine blk_put (cs := #[.int .i64 0, .string (⟨#[]⟩ : ByteArray)]) ?_ 0 _ rfl; refine kx_ ?_; exact BK1036.out) hb); replace HB := bs2_ HB hb GE1029 GE1036; try clear hb; obtain ⟨hcz29_0, hfz29_0, hcz29_1, hfz29_1⟩ := bk2_ BK1036) | (go_at_call 139; (with_reducible refine (spec_l4Acyclic.calls k3 t1034 t1035 true _ A16.out).mono ?_); rintro e w30 ⟨rfl, hb⟩; replace HO_5 := am_ (Kd.S_below (sx_ HO_5.out) hb); replace BK1029 := bb_ BK1029 hb; replace BK1036 := bb_ BK1036 hb; replace HB := bs2_ HB hb GE1029 GE1036; try clear hb) | ((with_reducible refine gd_ 55 rfl ?_); refine Kd.R_lit (Kd.int .i64) _ 3 ?hg (N := 55) ?hd (xs := ([x6_1, x7_2, x8_3] : List Int)) (inner := [.int .i64 x6_1, .int .i64 x7_2, .int .i64 x8_3]) (ok := fun _ => True) (okp := fun _ => True) ?hr ?hp (fun _ hk => hk) trivial (Below.refl _ _) (Nat.le_refl _) (by simp) ?_; (case hd => rfl); (case hg => rfl); (case hr => first | (go_simp; done) | (go_simp; rfl)); (case hp => exact (Reps.one (show Kd.M (Kd.int .i64) _ _ _ x6_1 [.int .i64 x6_1] from rfl) (Reps.one (show Kd.M (Kd.int .i64) _ _ _ x7_2 [.int .i64 x7_2] from rfl) (Reps.one (show Kd.M (Kd.int .i64) _ _ _ x8_3 [.int .i64 x8_3] from rfl) (Reps.none _ _))))); intro v1040 w31 ho32 hb hg_ hnew_; clear hg_ hnew_; (first | rw [← Ny1039.out] at ho32 | (simp only [Int.reduceToNat] at ho32; rw [← Ny1039.out] at ho32)); replace HO_5 := am_ (Kd.S_elder' (sx_ HO_5.out) (Kd.R_base ho32) hb); have HO1041 := rl2_ ho32 HB GE1029 GE1036; replace BK1029 := bb_ BK1029 hb; replace BK1036 := bb_ BK1036 hb; replace HB := bs2_ HB hb GE1029 GE1036; clear hb ho32; obtain ⟨Ao34, co34, eo34⟩ := Kd.R_slice HO1041.out; subst eo34) | ((with_reducible refine gate_builtin (b := .append) (xs := #[.tmp 51, .tmp 56]) rfl ?_); at_builtin; refine Kd.S_append (Kd.slice 3 (Kd.int .i64)) (w0 := w) w.heap.size rfl (.tmp 51) (.tmp 56) 39 34 (.slice none 0 0) 24 rfl Try.underlying39 info34 rfl (by decide) (by omega) u5 x5_3 y1039 [.slice Ao34 y1039.length co34] (fun _ => True) (fun k_ => some k_ = (.slice Ao34 y1039.length co34 : Value).ownBlock) rfl rfl ?aP (fun k_ hk_ => ((Kd.R_mono (ok' := fun k_ => ((fun _ => True)) k_ ∧ some k_ ≠ (u5 : Value).ownBlock) (Kd.R_apart' (HO1041.out) (Kd.S_typed HO_5.out) (by decide)) (fun k_ hk => ⟨trivial, hk.2⟩))).1 k_ hk_.symm) ?aF ?aO ?aB ?aS ?aL ?_; (case aP => exact Kd.M_row (Kd.R_mono (Kd.R_tight rfl (Kd.R_mono (ok' := fun k_ => ((fun _ => True)) k_ ∧ some k_ ≠ (u5 : Value).ownBlock) (Kd.R_apart' (HO1041.out) (Kd.S_typed HO_5.out) (by decide)) (fun k_ hk => ⟨trivial, hk.2⟩))) (fun _ h_ => h_))); (case aB => exact (bx2 HB.out GE1029.out GE1036.out)); (case aF => exact (fun _ _ => trivial)); (case aO => exact (by refine sx_ ?_; exact Kd.S_mono HO_5.out (fun k_ hk => ⟨trivial, fun e_ => hk.2 e_⟩))); (case aS => exact (below_size (bx2 HB.out GE1029.out GE1036.out))); (case aL => have := LMc18.out; omega); intro v1043 w33 ho hb hg hat; rw [← Ny1042.out] at ho; replace BK1029 := am_ (blk_grown (g := gb1029) (o := .cells #[.int .i64 a0_0, .string a0_1] 31 (0, 0)) (kx_ BK1029.out) hg (Kd.S_ne HO_5.out BK1029.out (by decide))); replace BK1036 := am_ (blk_grown (g := gb1036) (o := .cells #[.int .i64 t1034, .string t1035] 31 (0, 0)) (kx_ BK1036.out) hg (Kd.S_ne HO_5.out BK1036.out (by decide))); replace HB := am_ hb; have HO1044 := am_ ho; clear HO_5; clear HO1041; clear ho hb hg hat))
              go_roundg k3
              case measure => have := HK1.out; have := HK2.out; have := HK3.out; omega
              case rel => exact ⟨(y1042), (wrap64 (x8_3 + 1)), vt_, H', hl3_ HK1 HK2 HK3, ⟨sx_ HO1044.out⟩, kX_ BK1029, bX2_ HB GE1029 GE1036⟩
             ·rw [if_neg c18] at H; exact absurd H (by simp)
            ·replace c17 := Bool.eq_false_iff.mpr c17; subst c17; replace H := ifF_ H; have H' := am_ H; clear H; obtain ⟨hcz35_0, hfz35_0, hcz35_1, hfz35_1⟩ := bk2_ BK1029; try go_wp2
             replace HO_5 := am_ (Kd.S_drew HO_5.out); replace BK1029 := am_ (blk_drew BK1029.out); replace HB := bd_ HB; refine start_ (n := 10) (S := fun w' => w'.cell? ⟨gb1029, 0, none⟩ = some (.int .i64 a0_0) ∧ w'.cell? ⟨gb1029, 1, none⟩ = some (.string a0_1)) (ds := []) #[false, false, false, false, false, false, false, false, false, false] (by kernel_rfl) rfl rfl ⟨c0_ BK1029, c1_ BK1029⟩ (fun hHeld => ?_); refine with_tabW spec_l18All.tab11 spec_l18All.bits11 (fun HT_ HW_ => ?_); generalize wr.drew = w36 at HO_5 BK1029 HB hHeld ⊢
             refine pD_ 1 (some 34) HT_ (h := ?_); refine pD_ 3 (some 36) HT_ (h := ?_); refine pD_ 4 (some 37) HT_ (h := ?_); refine pD_ 5 (some 38) HT_ (h := ?_); refine tD2_ 0 (some 33) HT_ HW_ hHeld (h := ?_); refine tD2_ 2 (some 35) HT_ HW_ hHeld (h := ?_); refine join_ (σ := Nat) 1 #[true, true, true, true, true, true, true, true, true, false] (fun s_ => [(39, .int .i64 t1033), (40, .agg #[.int .i64 t1034, .string t1035]), (9, .pointer (some ⟨s_, 0, none⟩))]) (fun s_ w' => (w'.cell? ⟨gb1029, 0, none⟩ = some (.int .i64 a0_0) ∧ w'.cell? ⟨gb1029, 1, none⟩ = some (.string a0_1)) ∧ (Kd.S (Kd.slice 3 (Kd.int .i64)) 34 w' w.heap.size (fun _ => True) u5 x5_3) ∧ (w'.heap[gb1029]? = some (.cells #[.int .i64 a0_0, .string a0_1] 31 (0, 0))) ∧ (w'.heap[s_]? = some (.cells #[.int .i64 0, .string (⟨#[]⟩ : ByteArray)] 31 (0, 0))) ∧ (w.heap.size ≤ s_) ∧ (w.heap.size ≤ s_) ∧ (gb1029 ≠ s_) ∧ (s_ ≠ gb1029) ∧ (Below w.heap.size w w')) ?_ ?_; rotate_left
             ·intro hCont; refine two_ (i := 6) (j := 8) (Ni := some 39) (Nj := some 9) #[true, true, true, true, true, true, true, false, false, false] #[true, true, true, true, true, true, false, false, true, false] rfl rfl rfl rfl (two_of HT_.out (by kernel_rfl)) (by decide) (by decide) (fun K hK => ?_) (fun K hK => ?_)
              ·skip
               refine gO_ Try.func106 #[.int .i64 a0_0, .int .i64 x6_1, .int .i64 x7_2, .int .i64 x8_3] ?_; with_reducible refine (spec_l3Index.calls k3 a0_0 x6_1 x7_2 x8_3 t1033 _ A11.out).mono ?_
               rintro e w' ⟨rfl, ⟨nd, rfl⟩⟩; refine ⟨_, rfl, ?_⟩; refine hK.out _ _ ⟨c0_ BK1029, c1_ BK1029⟩ (fun hHeld => ?_); clear hK K; refine nm_ 39 (h := ?_); refine two_ (i := 7) (j := 8) (Ni := some 40) (Nj := some 9) #[true, true, true, true, true, true, true, true, false, false] #[true, true, true, true, true, true, true, false, true, false] rfl rfl rfl rfl (two_of HT_.out (by kernel_rfl)) (by decide) (by decide) (fun K hK => ?_) (fun K hK => ?_)
               ·skip
                refine gO_ Try.func105 #[.agg #[.int .i64 a0_0, .string a0_1], .int .i64 t1033] ?_; with_reducible refine (spec_l14Exchange.calls a0_0 a0_1 t1033 t1034 t1035 _ A12.out).mono ?_
                rintro e w37 ⟨rfl, hb⟩; refine ⟨_, rfl, ?_⟩; replace HO_5 := am_ (Kd.S_below (sx_ HO_5.out) hb); replace BK1029 := bb_ BK1029 hb; replace HB := bs1_ HB hb GE1029; try clear hb
                refine hK.out _ _ ⟨c0_ BK1029, c1_ BK1029⟩ (fun hHeld => ?_); clear hK K; refine nm_ 40 (h := ?_); refine oN_ 8 (some 9) HT_ (fun K hK => ?_); refine box_step ?hg (N := 9) ?hd (cs := #[.int .i64 0, .string (⟨#[]⟩ : ByteArray)]) (t := 31) ?hr ?_; (case hd => rfl); (case hg => rfl); (case hr => first | (go_simp; done) | (go_simp; rfl)); intro gb1036 hg w38 hbox hb; replace HO_5 := am_ (Kd.S_below (sx_ HO_5.out) hb); have BK1036 := am_ hbox; have GW1036 := gw1_ HB hg GE1029; have GE1036 := GW1036; replace HB := bs1_ HB hb GE1029; have NB1029_1036 := nl_ BK1029 hg; have NB1036_1029 := ng_ BK1029 hg; replace BK1029 := bb_ BK1029 hb; clear hb hbox hg; refine hK.out _ _ ⟨c0_ BK1029, c1_ BK1029⟩ (fun hHeld => ?_); clear hK K; refine nm_ 9 (h := ?_); exact norm_ (by simp only [putAll, Act.put, sA_, sZ_, sS_]) (hCont (gb1036) _ ⟨hHeld, (sx_ HO_5.out), (kx_ BK1029.out), (kx_ BK1036.out), GW1036.out, GE1036.out, NB1029_1036.out, NB1036_1029.out, (bx2 HB.out GE1029.out GE1036.out)⟩)
               ·skip
                refine box_step ?hg (N := 9) ?hd (cs := #[.int .i64 0, .string (⟨#[]⟩ : ByteArray)]) (t := 31) ?hr ?_; (case hd => rfl); (case hg => rfl); (case hr => first | (go_simp; done) | (go_simp; rfl)); intro gb1036 hg w37 hbox hb; replace HO_5 := am_ (Kd.S_below (sx_ HO_5.out) hb); have BK1036 := am_ hbox; have GW1036 := gw1_ HB hg GE1029; have GE1036 := GW1036; replace HB := bs1_ HB hb GE1029; have NB1029_1036 := nl_ BK1029 hg; have NB1036_1029 := ng_ BK1029 hg; replace BK1029 := bb_ BK1029 hb; clear hb hbox hg; refine hK.out _ _ ⟨c0_ BK1029, c1_ BK1029⟩ (fun hHeld => ?_); clear hK K; refine nm_ 9 (h := ?_); refine oN_ 7 (some 40) HT_ (fun K hK => ?_); refine gO_ Try.func105 #[.agg #[.int .i64 a0_0, .string a0_1], .int .i64 t1033] ?_; with_reducible refine (spec_l14Exchange.calls a0_0 a0_1 t1033 t1034 t1035 _ A12.out).mono ?_
                rintro e w38 ⟨rfl, hb⟩; refine ⟨_, rfl, ?_⟩; replace HO_5 := am_ (Kd.S_below (sx_ HO_5.out) hb); replace BK1029 := bb_ BK1029 hb; replace BK1036 := bb_ BK1036 hb; replace HB := bs2_ HB hb GE1029 GE1036; try clear hb
                refine hK.out _ _ ⟨c0_ BK1029, c1_ BK1029⟩ (fun hHeld => ?_); clear hK K; refine nm_ 40 (h := ?_); exact norm_ (by simp only [putAll, Act.put, sA_, sZ_, sS_]) (hCont (gb1036) _ ⟨hHeld, (sx_ HO_5.out), (kx_ BK1029.out), (kx_ BK1036.out), GW1036.out, GE1036.out, NB1029_1036.out, NB1036_1029.out, (bx2 HB.out GE1029.out GE1036.out)⟩)
              ·skip
               refine box_step ?hg (N := 9) ?hd (cs := #[.int .i64 0, .string (⟨#[]⟩ : ByteArray)]) (t := 31) ?hr ?_; (case hd => rfl); (case hg => rfl); (case hr => first | (go_simp; done) | (go_simp; rfl)); intro gb1036 hg w37 hbox hb; replace HO_5 := am_ (Kd.S_below (sx_ HO_5.out) hb); have BK1036 := am_ hbox; have GW1036 := gw1_ HB hg GE1029; have GE1036 := GW1036; replace HB := bs1_ HB hb GE1029; have NB1029_1036 := nl_ BK1029 hg; have NB1036_1029 := ng_ BK1029 hg; replace BK1029 := bb_ BK1029 hb; clear hb hbox hg; refine hK.out _ _ ⟨c0_ BK1029, c1_ BK1029⟩ (fun hHeld => ?_); clear hK K; refine nm_ 9 (h := ?_); refine oN_ 6 (some 39) HT_ (fun K hK => ?_); refine gO_ Try.func106 #[.int .i64 a0_0, .int .i64 x6_1, .int .i64 x7_2, .int .i64 x8_3] ?_; with_reducible refine (spec_l3Index.calls k3 a0_0 x6_1 x7_2 x8_3 t1033 _ A11.out).mono ?_
               rintro e w' ⟨rfl, ⟨nd, rfl⟩⟩; refine ⟨_, rfl, ?_⟩; refine hK.out _ _ ⟨c0_ BK1029, c1_ BK1029⟩ (fun hHeld => ?_); clear hK K; refine nm_ 39 (h := ?_); refine oN_ 7 (some 40) HT_ (fun K hK => ?_); refine gO_ Try.func105 #[.agg #[.int .i64 a0_0, .string a0_1], .int .i64 t1033] ?_; with_reducible refine (spec_l14Exchange.calls a0_0 a0_1 t1033 t1034 t1035 _ A12.out).mono ?_
               rintro e w38 ⟨rfl, hb⟩; refine ⟨_, rfl, ?_⟩; replace HO_5 := am_ (Kd.S_below (sx_ HO_5.out) hb); replace BK1029 := bb_ BK1029 hb; replace BK1036 := bb_ BK1036 hb; replace HB := bs2_ HB hb GE1029 GE1036; try clear hb
               refine hK.out _ _ ⟨c0_ BK1029, c1_ BK1029⟩ (fun hHeld => ?_); clear hK K; refine nm_ 40 (h := ?_); exact norm_ (by simp only [putAll, Act.put, sA_, sZ_, sS_]) (hCont (gb1036) _ ⟨hHeld, (sx_ HO_5.out), (kx_ BK1029.out), (kx_ BK1036.out), GW1036.out, GE1036.out, NB1029_1036.out, NB1036_1029.out, (bx2 HB.out GE1029.out GE1036.out)⟩)
             rintro gb1036 w39 ⟨hS_, h0_, h1_, h2_, h3_, h4_, h5_, h6_, h7_⟩; have n0_ : Aside0 (Kd.S (Kd.slice 3 (Kd.int .i64)) 34 w39 w.heap.size (fun _ => True) u5 x5_3) := ⟨h0_⟩; have n1_ : Aside0 (w39.heap[gb1029]? = some (.cells #[.int .i64 a0_0, .string a0_1] 31 (0, 0))) := ⟨h1_⟩; have n2_ : Aside0 (w39.heap[gb1036]? = some (.cells #[.int .i64 0, .string (⟨#[]⟩ : ByteArray)] 31 (0, 0))) := ⟨h2_⟩; have n3_ : Aside0 (w.heap.size ≤ gb1036) := ⟨h3_⟩; have n4_ : Aside0 (w.heap.size ≤ gb1036) := ⟨h4_⟩; have n5_ : Aside0 (gb1029 ≠ gb1036) := ⟨h5_⟩; have n6_ : Aside0 (gb1036 ≠ gb1029) := ⟨h6_⟩; have n7_ : Aside0 (Below w.heap.size w w39) := ⟨h7_⟩; clear HO_5; clear BK1029; clear HB; clear h0_ h1_ h2_ h3_ h4_ h5_ h6_ h7_; have HO_5 := n0_; have BK1029 := n1_; have BK1036 := n2_; have GW1036 := n3_; have GE1036 := n4_; have NB1029_1036 := n5_; have NB1036_1029 := n6_; have HB := n7_; clear n0_ n1_ n2_ n3_ n4_ n5_ n6_ n7_; have hHeld : w39.cell? ⟨gb1029, 0, none⟩ = some (.int .i64 a0_0) ∧ w39.cell? ⟨gb1029, 1, none⟩ = some (.string a0_1) := hS_; refine norm_ (a' := ?_) ?_ ?_; rotate_left
             ·simp only [putAll, Act.put, sA_, sZ_, sS_]
              rfl
             refine oN_ 9 (none) HT_ (fun K hK => ?_); have hs40 : w39.cell? ⟨gb1036, 0, none⟩ = some (.int .i64 0) := (blk_cell BK1036.out 0).trans rfl; have hfs40 := blk_frozen BK1036.out 0; have hns40_0 := NB1029_1036.out; have hms40_0 := NB1036_1029.out; have hs41 : w39.cell? ⟨gb1036, 1, none⟩ = some (.string (⟨#[]⟩ : ByteArray)) := (blk_cell BK1036.out 1).trans rfl; have hfs41 := blk_frozen BK1036.out 1; have hns41_0 := NB1029_1036.out; have hms41_0 := NB1036_1029.out; refine skip_ (w1 := ?_) (by rfl) rfl ?_ ?_; rotate_left
             ·go_simp
              rfl
             refine hK.out _ _ ⟨((cell_far (p := ⟨gb1036, _, none⟩) NB1029_1036.out _).trans (((cell_far (p := ⟨gb1036, _, none⟩) NB1029_1036.out _).trans (hHeld.1)))), ((cell_far (p := ⟨gb1036, _, none⟩) NB1029_1036.out _).trans (((cell_far (p := ⟨gb1036, _, none⟩) NB1029_1036.out _).trans (hHeld.2))))⟩ (fun hHeld => ?_); clear hK K; refine done_ (done_of HT_.out (by kernel_rfl)) ?_; have hnb42 := NB1036_1029.out; have hnc42 := NB1029_1036.out; obtain ⟨hcz43_0, hfz43_0, hcz43_1, hfz43_1⟩ := bk2_ BK1036; try go_wp2_with (first | ((with_reducible refine gc_ 61 rfl ?_); refine gB_ (some 42) Try.func61 #[.agg #[.int .i64 t1034, .string t1035]] (spec_IsMatroid.calls k3 t1034 t1035 true _ A13.out) ?_; intro w44 hb; replace HO_5 := am_ (Kd.S_below (by refine sx_ ?_; exact (Kd.S_mono (Kd.S_far (p := ⟨gb1036, 1, none⟩) (Kd.S_far (p := ⟨gb1036, 0, none⟩) (Kd.S_types HO_5.out BK1036.out (by decide)) (fun _ hk => hk.2) (.int .i64 t1034)) (fun _ hk => hk.2) (.string t1035)) (fun _ h_ => h_.1))) hb); replace BK1029 := am_ (blk_below (g := gb1029) (o := .cells #[.int .i64 a0_0, .string a0_1] 31 (0, 0)) (by refine kx_ ?_; refine blk_far ?_ NB1029_1036.out _; refine kx_ ?_; refine blk_far ?_ NB1029_1036.out _; refine kx_ ?_; exact BK1029.out) hb); replace BK1036 := am_ (blk_below (g := gb1036) (o := .cells #[.int .i64 t1034, .string t1035] 31 (0, 0)) (by refine kx_ ?_; refine blk_put (cs := #[.int .i64 t1034, .string (⟨#[]⟩ : ByteArray)]) ?_ 1 _ rfl; refine kx_ ?_; refine blk_put (cs := #[.int .i64 0, .string (⟨#[]⟩ : ByteArray)]) ?_ 0 _ rfl; refine kx_ ?_; exact BK1036.out) hb); replace HB := bs2_ HB hb GE1029 GE1036; try clear hb; obtain ⟨hcz45_0, hfz45_0, hcz45_1, hfz45_1⟩ := bk2_ BK1036) | (go_at_call 139; (with_reducible refine (spec_l4Acyclic.calls k3 t1034 t1035 false _ A16.out).mono ?_); rintro e w46 ⟨rfl, hb⟩; replace HO_5 := am_ (Kd.S_below (sx_ HO_5.out) hb); replace BK1029 := bb_ BK1029 hb; replace BK1036 := bb_ BK1036 hb; replace HB := bs2_ HB hb GE1029 GE1036; try clear hb))
             go_roundg k3
             case measure => have := HK1.out; have := HK2.out; have := HK3.out; omega
             case rel => exact ⟨(x5_3), (wrap64 (x8_3 + 1)), vt_, H', hl3_ HK1 HK2 HK3, ⟨sx_ HO_5.out⟩, kX_ BK1029, bX2_ HB GE1029 GE1036⟩
           ·replace c15 := Bool.eq_false_iff.mpr c15; subst c15; replace H := ifF_ H; obtain ⟨y1045, hy1045⟩ : ∃ y_ : List Int, y_ = (([x6_1, x7_2, x8_3] : List Int)) := ⟨_, rfl⟩; replace H : (if x5_3.length < 5864062014805 then (spec_l18All.l2 k3 false (x5_3 ++ [y1045]) x6_1 x7_2 (wrap64 (x8_3 + 1)) a0_0 a0_1) else (none)) = some r := yH_ hy1045 H; have Ny1045 := am_ hy1045; clear hy1045; by_cases c47 : x5_3.length < 5864062014805
            ·rw [if_pos c47] at H; have LMc47 := am_ c47; clear c47; obtain ⟨y1048, hy1048⟩ : ∃ y_ : List (List Int), y_ = (x5_3 ++ [y1045]) := ⟨_, rfl⟩; replace H : (spec_l18All.l2 k3 false y1048 x6_1 x7_2 (wrap64 (x8_3 + 1)) a0_0 a0_1) = some r := yH_ hy1048 H; have Ny1048 := am_ hy1048; clear hy1048; have H' := am_ H; clear H; obtain ⟨hcz48_0, hfz48_0, hcz48_1, hfz48_1⟩ := bk2_ BK1029; try go_wp2
             replace HO_5 := am_ (Kd.S_drew HO_5.out); replace BK1029 := am_ (blk_drew BK1029.out); replace HB := bd_ HB; refine start_ (n := 10) (S := fun w' => w'.cell? ⟨gb1029, 0, none⟩ = some (.int .i64 a0_0) ∧ w'.cell? ⟨gb1029, 1, none⟩ = some (.string a0_1)) (ds := []) #[false, false, false, false, false, false, false, false, false, false] (by kernel_rfl) rfl rfl ⟨c0_ BK1029, c1_ BK1029⟩ (fun hHeld => ?_); refine with_tabW spec_l18All.tab11 spec_l18All.bits11 (fun HT_ HW_ => ?_); generalize wr.drew = w49 at HO_5 BK1029 HB hHeld ⊢
             refine pD_ 1 (some 34) HT_ (h := ?_); refine pD_ 3 (some 36) HT_ (h := ?_); refine pD_ 4 (some 37) HT_ (h := ?_); refine pD_ 5 (some 38) HT_ (h := ?_); refine tD2_ 0 (some 33) HT_ HW_ hHeld (h := ?_); refine tD2_ 2 (some 35) HT_ HW_ hHeld (h := ?_); refine join_ (σ := Nat) 1 #[true, true, true, true, true, true, true, true, true, false] (fun s_ => [(39, .int .i64 t1033), (40, .agg #[.int .i64 t1034, .string t1035]), (9, .pointer (some ⟨s_, 0, none⟩))]) (fun s_ w' => (w'.cell? ⟨gb1029, 0, none⟩ = some (.int .i64 a0_0) ∧ w'.cell? ⟨gb1029, 1, none⟩ = some (.string a0_1)) ∧ (Kd.S (Kd.slice 3 (Kd.int .i64)) 34 w' w.heap.size (fun _ => True) u5 x5_3) ∧ (w'.heap[gb1029]? = some (.cells #[.int .i64 a0_0, .string a0_1] 31 (0, 0))) ∧ (w'.heap[s_]? = some (.cells #[.int .i64 0, .string (⟨#[]⟩ : ByteArray)] 31 (0, 0))) ∧ (w.heap.size ≤ s_) ∧ (w.heap.size ≤ s_) ∧ (gb1029 ≠ s_) ∧ (s_ ≠ gb1029) ∧ (Below w.heap.size w w')) ?_ ?_; rotate_left
             ·intro hCont; refine two_ (i := 6) (j := 8) (Ni := some 39) (Nj := some 9) #[true, true, true, true, true, true, true, false, false, false] #[true, true, true, true, true, true, false, false, true, false] rfl rfl rfl rfl (two_of HT_.out (by kernel_rfl)) (by decide) (by decide) (fun K hK => ?_) (fun K hK => ?_)
              ·skip
               refine gO_ Try.func106 #[.int .i64 a0_0, .int .i64 x6_1, .int .i64 x7_2, .int .i64 x8_3] ?_; with_reducible refine (spec_l3Index.calls k3 a0_0 x6_1 x7_2 x8_3 t1033 _ A11.out).mono ?_
               rintro e w' ⟨rfl, ⟨nd, rfl⟩⟩; refine ⟨_, rfl, ?_⟩; refine hK.out _ _ ⟨c0_ BK1029, c1_ BK1029⟩ (fun hHeld => ?_); clear hK K; refine nm_ 39 (h := ?_); refine two_ (i := 7) (j := 8) (Ni := some 40) (Nj := some 9) #[true, true, true, true, true, true, true, true, false, false] #[true, true, true, true, true, true, true, false, true, false] rfl rfl rfl rfl (two_of HT_.out (by kernel_rfl)) (by decide) (by decide) (fun K hK => ?_) (fun K hK => ?_)
               ·skip
                refine gO_ Try.func105 #[.agg #[.int .i64 a0_0, .string a0_1], .int .i64 t1033] ?_; with_reducible refine (spec_l14Exchange.calls a0_0 a0_1 t1033 t1034 t1035 _ A12.out).mono ?_
                rintro e w50 ⟨rfl, hb⟩; refine ⟨_, rfl, ?_⟩; replace HO_5 := am_ (Kd.S_below (sx_ HO_5.out) hb); replace BK1029 := bb_ BK1029 hb; replace HB := bs1_ HB hb GE1029; try clear hb
                refine hK.out _ _ ⟨c0_ BK1029, c1_ BK1029⟩ (fun hHeld => ?_); clear hK K; refine nm_ 40 (h := ?_); refine oN_ 8 (some 9) HT_ (fun K hK => ?_); refine box_step ?hg (N := 9) ?hd (cs := #[.int .i64 0, .string (⟨#[]⟩ : ByteArray)]) (t := 31) ?hr ?_; (case hd => rfl); (case hg => rfl); (case hr => first | (go_simp; done) | (go_simp; rfl)); intro gb1036 hg w51 hbox hb; replace HO_5 := am_ (Kd.S_below (sx_ HO_5.out) hb); have BK1036 := am_ hbox; have GW1036 := gw1_ HB hg GE1029; have GE1036 := GW1036; replace HB := bs1_ HB hb GE1029; have NB1029_1036 := nl_ BK1029 hg; have NB1036_1029 := ng_ BK1029 hg; replace BK1029 := bb_ BK1029 hb; clear hb hbox hg; refine hK.out _ _ ⟨c0_ BK1029, c1_ BK1029⟩ (fun hHeld => ?_); clear hK K; refine nm_ 9 (h := ?_); exact norm_ (by simp only [putAll, Act.put, sA_, sZ_, sS_]) (hCont (gb1036) _ ⟨hHeld, (sx_ HO_5.out), (kx_ BK1029.out), (kx_ BK1036.out), GW1036.out, GE1036.out, NB1029_1036.out, NB1036_1029.out, (bx2 HB.out GE1029.out GE1036.out)⟩)
               ·skip
                refine box_step ?hg (N := 9) ?hd (cs := #[.int .i64 0, .string (⟨#[]⟩ : ByteArray)]) (t := 31) ?hr ?_; (case hd => rfl); (case hg => rfl); (case hr => first | (go_simp; done) | (go_simp; rfl)); intro gb1036 hg w50 hbox hb; replace HO_5 := am_ (Kd.S_below (sx_ HO_5.out) hb); have BK1036 := am_ hbox; have GW1036 := gw1_ HB hg GE1029; have GE1036 := GW1036; replace HB := bs1_ HB hb GE1029; have NB1029_1036 := nl_ BK1029 hg; have NB1036_1029 := ng_ BK1029 hg; replace BK1029 := bb_ BK1029 hb; clear hb hbox hg; refine hK.out _ _ ⟨c0_ BK1029, c1_ BK1029⟩ (fun hHeld => ?_); clear hK K; refine nm_ 9 (h := ?_); refine oN_ 7 (some 40) HT_ (fun K hK => ?_); refine gO_ Try.func105 #[.agg #[.int .i64 a0_0, .string a0_1], .int .i64 t1033] ?_; with_reducible refine (spec_l14Exchange.calls a0_0 a0_1 t1033 t1034 t1035 _ A12.out).mono ?_
                rintro e w51 ⟨rfl, hb⟩; refine ⟨_, rfl, ?_⟩; replace HO_5 := am_ (Kd.S_below (sx_ HO_5.out) hb); replace BK1029 := bb_ BK1029 hb; replace BK1036 := bb_ BK1036 hb; replace HB := bs2_ HB hb GE1029 GE1036; try clear hb
                refine hK.out _ _ ⟨c0_ BK1029, c1_ BK1029⟩ (fun hHeld => ?_); clear hK K; refine nm_ 40 (h := ?_); exact norm_ (by simp only [putAll, Act.put, sA_, sZ_, sS_]) (hCont (gb1036) _ ⟨hHeld, (sx_ HO_5.out), (kx_ BK1029.out), (kx_ BK1036.out), GW1036.out, GE1036.out, NB1029_1036.out, NB1036_1029.out, (bx2 HB.out GE1029.out GE1036.out)⟩)
              ·skip
               refine box_step ?hg (N := 9) ?hd (cs := #[.int .i64 0, .string (⟨#[]⟩ : ByteArray)]) (t := 31) ?hr ?_; (case hd => rfl); (case hg => rfl); (case hr => first | (go_simp; done) | (go_simp; rfl)); intro gb1036 hg w50 hbox hb; replace HO_5 := am_ (Kd.S_below (sx_ HO_5.out) hb); have BK1036 := am_ hbox; have GW1036 := gw1_ HB hg GE1029; have GE1036 := GW1036; replace HB := bs1_ HB hb GE1029; have NB1029_1036 := nl_ BK1029 hg; have NB1036_1029 := ng_ BK1029 hg; replace BK1029 := bb_ BK1029 hb; clear hb hbox hg; refine hK.out _ _ ⟨c0_ BK1029, c1_ BK1029⟩ (fun hHeld => ?_); clear hK K; refine nm_ 9 (h := ?_); refine oN_ 6 (some 39) HT_ (fun K hK => ?_); refine gO_ Try.func106 #[.int .i64 a0_0, .int .i64 x6_1, .int .i64 x7_2, .int .i64 x8_3] ?_; with_reducible refine (spec_l3Index.calls k3 a0_0 x6_1 x7_2 x8_3 t1033 _ A11.out).mono ?_
               rintro e w' ⟨rfl, ⟨nd, rfl⟩⟩; refine ⟨_, rfl, ?_⟩; refine hK.out _ _ ⟨c0_ BK1029, c1_ BK1029⟩ (fun hHeld => ?_); clear hK K; refine nm_ 39 (h := ?_); refine oN_ 7 (some 40) HT_ (fun K hK => ?_); refine gO_ Try.func105 #[.agg #[.int .i64 a0_0, .string a0_1], .int .i64 t1033] ?_; with_reducible refine (spec_l14Exchange.calls a0_0 a0_1 t1033 t1034 t1035 _ A12.out).mono ?_
               rintro e w51 ⟨rfl, hb⟩; refine ⟨_, rfl, ?_⟩; replace HO_5 := am_ (Kd.S_below (sx_ HO_5.out) hb); replace BK1029 := bb_ BK1029 hb; replace BK1036 := bb_ BK1036 hb; replace HB := bs2_ HB hb GE1029 GE1036; try clear hb
               refine hK.out _ _ ⟨c0_ BK1029, c1_ BK1029⟩ (fun hHeld => ?_); clear hK K; refine nm_ 40 (h := ?_); exact norm_ (by simp only [putAll, Act.put, sA_, sZ_, sS_]) (hCont (gb1036) _ ⟨hHeld, (sx_ HO_5.out), (kx_ BK1029.out), (kx_ BK1036.out), GW1036.out, GE1036.out, NB1029_1036.out, NB1036_1029.out, (bx2 HB.out GE1029.out GE1036.out)⟩)
             rintro gb1036 w52 ⟨hS_, h0_, h1_, h2_, h3_, h4_, h5_, h6_, h7_⟩; have n0_ : Aside0 (Kd.S (Kd.slice 3 (Kd.int .i64)) 34 w52 w.heap.size (fun _ => True) u5 x5_3) := ⟨h0_⟩; have n1_ : Aside0 (w52.heap[gb1029]? = some (.cells #[.int .i64 a0_0, .string a0_1] 31 (0, 0))) := ⟨h1_⟩; have n2_ : Aside0 (w52.heap[gb1036]? = some (.cells #[.int .i64 0, .string (⟨#[]⟩ : ByteArray)] 31 (0, 0))) := ⟨h2_⟩; have n3_ : Aside0 (w.heap.size ≤ gb1036) := ⟨h3_⟩; have n4_ : Aside0 (w.heap.size ≤ gb1036) := ⟨h4_⟩; have n5_ : Aside0 (gb1029 ≠ gb1036) := ⟨h5_⟩; have n6_ : Aside0 (gb1036 ≠ gb1029) := ⟨h6_⟩; have n7_ : Aside0 (Below w.heap.size w w52) := ⟨h7_⟩; clear HO_5; clear BK1029; clear HB; clear h0_ h1_ h2_ h3_ h4_ h5_ h6_ h7_; have HO_5 := n0_; have BK1029 := n1_; have BK1036 := n2_; have GW1036 := n3_; have GE1036 := n4_; have NB1029_1036 := n5_; have NB1036_1029 := n6_; have HB := n7_; clear n0_ n1_ n2_ n3_ n4_ n5_ n6_ n7_; have hHeld : w52.cell? ⟨gb1029, 0, none⟩ = some (.int .i64 a0_0) ∧ w52.cell? ⟨gb1029, 1, none⟩ = some (.string a0_1) := hS_; refine norm_ (a' := ?_) ?_ ?_; rotate_left
             ·simp only [putAll, Act.put, sA_, sZ_, sS_]
              rfl
             refine oN_ 9 (none) HT_ (fun K hK => ?_); have hs53 : w52.cell? ⟨gb1036, 0, none⟩ = some (.int .i64 0) := (blk_cell BK1036.out 0).trans rfl; have hfs53 := blk_frozen BK1036.out 0; have hns53_0 := NB1029_1036.out; have hms53_0 := NB1036_1029.out; have hs54 : w52.cell? ⟨gb1036, 1, none⟩ = some (.string (⟨#[]⟩ : ByteArray)) := (blk_cell BK1036.out 1).trans rfl; have hfs54 := blk_frozen BK1036.out 1; have hns54_0 := NB1029_1036.out; have hms54_0 := NB1036_1029.out; refine skip_ (w1 := ?_) (by rfl) rfl ?_ ?_; rotate_left
             ·go_simp
              rfl
             refine hK.out _ _ ⟨((cell_far (p := ⟨gb1036, _, none⟩) NB1029_1036.out _).trans (((cell_far (p := ⟨gb1036, _, none⟩) NB1029_1036.out _).trans (hHeld.1)))), ((cell_far (p := ⟨gb1036, _, none⟩) NB1029_1036.out _).trans (((cell_far (p := ⟨gb1036, _, none⟩) NB1029_1036.out _).trans (hHeld.2))))⟩ (fun hHeld => ?_); clear hK K; refine done_ (done_of HT_.out (by kernel_rfl)) ?_; have hnb55 := NB1036_1029.out; have hnc55 := NB1029_1036.out; obtain ⟨hcz56_0, hfz56_0, hcz56_1, hfz56_1⟩ := bk2_ BK1036; try go_wp2_with (first | ((with_reducible refine gc_ 61 rfl ?_); refine gB_ (some 42) Try.func61 #[.agg #[.int .i64 t1034, .string t1035]] (spec_IsMatroid.calls k3 t1034 t1035 true _ A13.out) ?_; intro w57 hb; replace HO_5 := am_ (Kd.S_below (by refine sx_ ?_; exact (Kd.S_mono (Kd.S_far (p := ⟨gb1036, 1, none⟩) (Kd.S_far (p := ⟨gb1036, 0, none⟩) (Kd.S_types HO_5.out BK1036.out (by decide)) (fun _ hk => hk.2) (.int .i64 t1034)) (fun _ hk => hk.2) (.string t1035)) (fun _ h_ => h_.1))) hb); replace BK1029 := am_ (blk_below (g := gb1029) (o := .cells #[.int .i64 a0_0, .string a0_1] 31 (0, 0)) (by refine kx_ ?_; refine blk_far ?_ NB1029_1036.out _; refine kx_ ?_; refine blk_far ?_ NB1029_1036.out _; refine kx_ ?_; exact BK1029.out) hb); replace BK1036 := am_ (blk_below (g := gb1036) (o := .cells #[.int .i64 t1034, .string t1035] 31 (0, 0)) (by refine kx_ ?_; refine blk_put (cs := #[.int .i64 t1034, .string (⟨#[]⟩ : ByteArray)]) ?_ 1 _ rfl; refine kx_ ?_; refine blk_put (cs := #[.int .i64 0, .string (⟨#[]⟩ : ByteArray)]) ?_ 0 _ rfl; refine kx_ ?_; exact BK1036.out) hb); replace HB := bs2_ HB hb GE1029 GE1036; try clear hb) | ((with_reducible refine gd_ 55 rfl ?_); refine Kd.R_lit (Kd.int .i64) _ 3 ?hg (N := 55) ?hd (xs := ([x6_1, x7_2, x8_3] : List Int)) (inner := [.int .i64 x6_1, .int .i64 x7_2, .int .i64 x8_3]) (ok := fun _ => True) (okp := fun _ => True) ?hr ?hp (fun _ hk => hk) trivial (Below.refl _ _) (Nat.le_refl _) (by simp) ?_; (case hd => rfl); (case hg => rfl); (case hr => first | (go_simp; done) | (go_simp; rfl)); (case hp => exact (Reps.one (show Kd.M (Kd.int .i64) _ _ _ x6_1 [.int .i64 x6_1] from rfl) (Reps.one (show Kd.M (Kd.int .i64) _ _ _ x7_2 [.int .i64 x7_2] from rfl) (Reps.one (show Kd.M (Kd.int .i64) _ _ _ x8_3 [.int .i64 x8_3] from rfl) (Reps.none _ _))))); intro v1046 w58 ho59 hb hg_ hnew_; clear hg_ hnew_; (first | rw [← Ny1045.out] at ho59 | (simp only [Int.reduceToNat] at ho59; rw [← Ny1045.out] at ho59)); replace HO_5 := am_ (Kd.S_elder' (sx_ HO_5.out) (Kd.R_base ho59) hb); have HO1047 := rl2_ ho59 HB GE1029 GE1036; replace BK1029 := bb_ BK1029 hb; replace BK1036 := bb_ BK1036 hb; replace HB := bs2_ HB hb GE1029 GE1036; clear hb ho59; obtain ⟨Ao61, co61, eo61⟩ := Kd.R_slice HO1047.out; subst eo61) | ((with_reducible refine gate_builtin (b := .append) (xs := #[.tmp 51, .tmp 56]) rfl ?_); at_builtin; refine Kd.S_append (Kd.slice 3 (Kd.int .i64)) (w0 := w) w.heap.size rfl (.tmp 51) (.tmp 56) 39 34 (.slice none 0 0) 24 rfl Try.underlying39 info34 rfl (by decide) (by omega) u5 x5_3 y1045 [.slice Ao61 y1045.length co61] (fun _ => True) (fun k_ => some k_ = (.slice Ao61 y1045.length co61 : Value).ownBlock) rfl rfl ?aP (fun k_ hk_ => ((Kd.R_mono (ok' := fun k_ => ((fun _ => True)) k_ ∧ some k_ ≠ (u5 : Value).ownBlock) (Kd.R_apart' (HO1047.out) (Kd.S_typed HO_5.out) (by decide)) (fun k_ hk => ⟨trivial, hk.2⟩))).1 k_ hk_.symm) ?aF ?aO ?aB ?aS ?aL ?_; (case aP => exact Kd.M_row (Kd.R_mono (Kd.R_tight rfl (Kd.R_mono (ok' := fun k_ => ((fun _ => True)) k_ ∧ some k_ ≠ (u5 : Value).ownBlock) (Kd.R_apart' (HO1047.out) (Kd.S_typed HO_5.out) (by decide)) (fun k_ hk => ⟨trivial, hk.2⟩))) (fun _ h_ => h_))); (case aB => exact (bx2 HB.out GE1029.out GE1036.out)); (case aF => exact (fun _ _ => trivial)); (case aO => exact (by refine sx_ ?_; exact Kd.S_mono HO_5.out (fun k_ hk => ⟨trivial, fun e_ => hk.2 e_⟩))); (case aS => exact (below_size (bx2 HB.out GE1029.out GE1036.out))); (case aL => have := LMc47.out; omega); intro v1049 w60 ho hb hg hat; rw [← Ny1048.out] at ho; replace BK1029 := am_ (blk_grown (g := gb1029) (o := .cells #[.int .i64 a0_0, .string a0_1] 31 (0, 0)) (kx_ BK1029.out) hg (Kd.S_ne HO_5.out BK1029.out (by decide))); replace BK1036 := am_ (blk_grown (g := gb1036) (o := .cells #[.int .i64 t1034, .string t1035] 31 (0, 0)) (kx_ BK1036.out) hg (Kd.S_ne HO_5.out BK1036.out (by decide))); replace HB := am_ hb; have HO1050 := am_ ho; clear HO_5; clear HO1047; clear ho hb hg hat))
             go_roundg k3
             case measure => have := HK1.out; have := HK2.out; have := HK3.out; omega
             case rel => exact ⟨(y1048), (wrap64 (x8_3 + 1)), vt_, H', hl3_ HK1 HK2 HK3, ⟨sx_ HO1050.out⟩, kX_ BK1029, bX2_ HB GE1029 GE1036⟩
            ·rw [if_neg c47] at H; exact absurd H (by simp)
          ·replace c14 := Bool.eq_false_iff.mpr c14; subst c14; replace H := ifF_ H; have H' := am_ H; clear H; obtain ⟨hcz62_0, hfz62_0, hcz62_1, hfz62_1⟩ := bk2_ BK1029; try go_wp2
           replace HO_5 := am_ (Kd.S_drew HO_5.out); replace BK1029 := am_ (blk_drew BK1029.out); replace HB := bd_ HB; refine start_ (n := 10) (S := fun w' => w'.cell? ⟨gb1029, 0, none⟩ = some (.int .i64 a0_0) ∧ w'.cell? ⟨gb1029, 1, none⟩ = some (.string a0_1)) (ds := []) #[false, false, false, false, false, false, false, false, false, false] (by kernel_rfl) rfl rfl ⟨c0_ BK1029, c1_ BK1029⟩ (fun hHeld => ?_); refine with_tabW spec_l18All.tab11 spec_l18All.bits11 (fun HT_ HW_ => ?_); generalize wr.drew = w63 at HO_5 BK1029 HB hHeld ⊢
           refine pD_ 1 (some 34) HT_ (h := ?_); refine pD_ 3 (some 36) HT_ (h := ?_); refine pD_ 4 (some 37) HT_ (h := ?_); refine pD_ 5 (some 38) HT_ (h := ?_); refine tD2_ 0 (some 33) HT_ HW_ hHeld (h := ?_); refine tD2_ 2 (some 35) HT_ HW_ hHeld (h := ?_); refine join_ (σ := Nat) 1 #[true, true, true, true, true, true, true, true, true, false] (fun s_ => [(39, .int .i64 t1033), (40, .agg #[.int .i64 t1034, .string t1035]), (9, .pointer (some ⟨s_, 0, none⟩))]) (fun s_ w' => (w'.cell? ⟨gb1029, 0, none⟩ = some (.int .i64 a0_0) ∧ w'.cell? ⟨gb1029, 1, none⟩ = some (.string a0_1)) ∧ (Kd.S (Kd.slice 3 (Kd.int .i64)) 34 w' w.heap.size (fun _ => True) u5 x5_3) ∧ (w'.heap[gb1029]? = some (.cells #[.int .i64 a0_0, .string a0_1] 31 (0, 0))) ∧ (w'.heap[s_]? = some (.cells #[.int .i64 0, .string (⟨#[]⟩ : ByteArray)] 31 (0, 0))) ∧ (w.heap.size ≤ s_) ∧ (w.heap.size ≤ s_) ∧ (gb1029 ≠ s_) ∧ (s_ ≠ gb1029) ∧ (Below w.heap.size w w')) ?_ ?_; rotate_left
           ·intro hCont; refine two_ (i := 6) (j := 8) (Ni := some 39) (Nj := some 9) #[true, true, true, true, true, true, true, false, false, false] #[true, true, true, true, true, true, false, false, true, false] rfl rfl rfl rfl (two_of HT_.out (by kernel_rfl)) (by decide) (by decide) (fun K hK => ?_) (fun K hK => ?_)
            ·skip
             refine gO_ Try.func106 #[.int .i64 a0_0, .int .i64 x6_1, .int .i64 x7_2, .int .i64 x8_3] ?_; with_reducible refine (spec_l3Index.calls k3 a0_0 x6_1 x7_2 x8_3 t1033 _ A11.out).mono ?_
             rintro e w' ⟨rfl, ⟨nd, rfl⟩⟩; refine ⟨_, rfl, ?_⟩; refine hK.out _ _ ⟨c0_ BK1029, c1_ BK1029⟩ (fun hHeld => ?_); clear hK K; refine nm_ 39 (h := ?_); refine two_ (i := 7) (j := 8) (Ni := some 40) (Nj := some 9) #[true, true, true, true, true, true, true, true, false, false] #[true, true, true, true, true, true, true, false, true, false] rfl rfl rfl rfl (two_of HT_.out (by kernel_rfl)) (by decide) (by decide) (fun K hK => ?_) (fun K hK => ?_)
             ·skip
              refine gO_ Try.func105 #[.agg #[.int .i64 a0_0, .string a0_1], .int .i64 t1033] ?_; with_reducible refine (spec_l14Exchange.calls a0_0 a0_1 t1033 t1034 t1035 _ A12.out).mono ?_
              rintro e w64 ⟨rfl, hb⟩; refine ⟨_, rfl, ?_⟩; replace HO_5 := am_ (Kd.S_below (sx_ HO_5.out) hb); replace BK1029 := bb_ BK1029 hb; replace HB := bs1_ HB hb GE1029; try clear hb
              refine hK.out _ _ ⟨c0_ BK1029, c1_ BK1029⟩ (fun hHeld => ?_); clear hK K; refine nm_ 40 (h := ?_); refine oN_ 8 (some 9) HT_ (fun K hK => ?_); refine box_step ?hg (N := 9) ?hd (cs := #[.int .i64 0, .string (⟨#[]⟩ : ByteArray)]) (t := 31) ?hr ?_; (case hd => rfl); (case hg => rfl); (case hr => first | (go_simp; done) | (go_simp; rfl)); intro gb1036 hg w65 hbox hb; replace HO_5 := am_ (Kd.S_below (sx_ HO_5.out) hb); have BK1036 := am_ hbox; have GW1036 := gw1_ HB hg GE1029; have GE1036 := GW1036; replace HB := bs1_ HB hb GE1029; have NB1029_1036 := nl_ BK1029 hg; have NB1036_1029 := ng_ BK1029 hg; replace BK1029 := bb_ BK1029 hb; clear hb hbox hg; refine hK.out _ _ ⟨c0_ BK1029, c1_ BK1029⟩ (fun hHeld => ?_); clear hK K; refine nm_ 9 (h := ?_); exact norm_ (by simp only [putAll, Act.put, sA_, sZ_, sS_]) (hCont (gb1036) _ ⟨hHeld, (sx_ HO_5.out), (kx_ BK1029.out), (kx_ BK1036.out), GW1036.out, GE1036.out, NB1029_1036.out, NB1036_1029.out, (bx2 HB.out GE1029.out GE1036.out)⟩)
             ·skip
              refine box_step ?hg (N := 9) ?hd (cs := #[.int .i64 0, .string (⟨#[]⟩ : ByteArray)]) (t := 31) ?hr ?_; (case hd => rfl); (case hg => rfl); (case hr => first | (go_simp; done) | (go_simp; rfl)); intro gb1036 hg w64 hbox hb; replace HO_5 := am_ (Kd.S_below (sx_ HO_5.out) hb); have BK1036 := am_ hbox; have GW1036 := gw1_ HB hg GE1029; have GE1036 := GW1036; replace HB := bs1_ HB hb GE1029; have NB1029_1036 := nl_ BK1029 hg; have NB1036_1029 := ng_ BK1029 hg; replace BK1029 := bb_ BK1029 hb; clear hb hbox hg; refine hK.out _ _ ⟨c0_ BK1029, c1_ BK1029⟩ (fun hHeld => ?_); clear hK K; refine nm_ 9 (h := ?_); refine oN_ 7 (some 40) HT_ (fun K hK => ?_); refine gO_ Try.func105 #[.agg #[.int .i64 a0_0, .string a0_1], .int .i64 t1033] ?_; with_reducible refine (spec_l14Exchange.calls a0_0 a0_1 t1033 t1034 t1035 _ A12.out).mono ?_
              rintro e w65 ⟨rfl, hb⟩; refine ⟨_, rfl, ?_⟩; replace HO_5 := am_ (Kd.S_below (sx_ HO_5.out) hb); replace BK1029 := bb_ BK1029 hb; replace BK1036 := bb_ BK1036 hb; replace HB := bs2_ HB hb GE1029 GE1036; try clear hb
              refine hK.out _ _ ⟨c0_ BK1029, c1_ BK1029⟩ (fun hHeld => ?_); clear hK K; refine nm_ 40 (h := ?_); exact norm_ (by simp only [putAll, Act.put, sA_, sZ_, sS_]) (hCont (gb1036) _ ⟨hHeld, (sx_ HO_5.out), (kx_ BK1029.out), (kx_ BK1036.out), GW1036.out, GE1036.out, NB1029_1036.out, NB1036_1029.out, (bx2 HB.out GE1029.out GE1036.out)⟩)
            ·skip
             refine box_step ?hg (N := 9) ?hd (cs := #[.int .i64 0, .string (⟨#[]⟩ : ByteArray)]) (t := 31) ?hr ?_; (case hd => rfl); (case hg => rfl); (case hr => first | (go_simp; done) | (go_simp; rfl)); intro gb1036 hg w64 hbox hb; replace HO_5 := am_ (Kd.S_below (sx_ HO_5.out) hb); have BK1036 := am_ hbox; have GW1036 := gw1_ HB hg GE1029; have GE1036 := GW1036; replace HB := bs1_ HB hb GE1029; have NB1029_1036 := nl_ BK1029 hg; have NB1036_1029 := ng_ BK1029 hg; replace BK1029 := bb_ BK1029 hb; clear hb hbox hg; refine hK.out _ _ ⟨c0_ BK1029, c1_ BK1029⟩ (fun hHeld => ?_); clear hK K; refine nm_ 9 (h := ?_); refine oN_ 6 (some 39) HT_ (fun K hK => ?_); refine gO_ Try.func106 #[.int .i64 a0_0, .int .i64 x6_1, .int .i64 x7_2, .int .i64 x8_3] ?_; with_reducible refine (spec_l3Index.calls k3 a0_0 x6_1 x7_2 x8_3 t1033 _ A11.out).mono ?_
             rintro e w' ⟨rfl, ⟨nd, rfl⟩⟩; refine ⟨_, rfl, ?_⟩; refine hK.out _ _ ⟨c0_ BK1029, c1_ BK1029⟩ (fun hHeld => ?_); clear hK K; refine nm_ 39 (h := ?_); refine oN_ 7 (some 40) HT_ (fun K hK => ?_); refine gO_ Try.func105 #[.agg #[.int .i64 a0_0, .string a0_1], .int .i64 t1033] ?_; with_reducible refine (spec_l14Exchange.calls a0_0 a0_1 t1033 t1034 t1035 _ A12.out).mono ?_
             rintro e w65 ⟨rfl, hb⟩; refine ⟨_, rfl, ?_⟩; replace HO_5 := am_ (Kd.S_below (sx_ HO_5.out) hb); replace BK1029 := bb_ BK1029 hb; replace BK1036 := bb_ BK1036 hb; replace HB := bs2_ HB hb GE1029 GE1036; try clear hb
             refine hK.out _ _ ⟨c0_ BK1029, c1_ BK1029⟩ (fun hHeld => ?_); clear hK K; refine nm_ 40 (h := ?_); exact norm_ (by simp only [putAll, Act.put, sA_, sZ_, sS_]) (hCont (gb1036) _ ⟨hHeld, (sx_ HO_5.out), (kx_ BK1029.out), (kx_ BK1036.out), GW1036.out, GE1036.out, NB1029_1036.out, NB1036_1029.out, (bx2 HB.out GE1029.out GE1036.out)⟩)
           rintro gb1036 w66 ⟨hS_, h0_, h1_, h2_, h3_, h4_, h5_, h6_, h7_⟩; have n0_ : Aside0 (Kd.S (Kd.slice 3 (Kd.int .i64)) 34 w66 w.heap.size (fun _ => True) u5 x5_3) := ⟨h0_⟩; have n1_ : Aside0 (w66.heap[gb1029]? = some (.cells #[.int .i64 a0_0, .string a0_1] 31 (0, 0))) := ⟨h1_⟩; have n2_ : Aside0 (w66.heap[gb1036]? = some (.cells #[.int .i64 0, .string (⟨#[]⟩ : ByteArray)] 31 (0, 0))) := ⟨h2_⟩; have n3_ : Aside0 (w.heap.size ≤ gb1036) := ⟨h3_⟩; have n4_ : Aside0 (w.heap.size ≤ gb1036) := ⟨h4_⟩; have n5_ : Aside0 (gb1029 ≠ gb1036) := ⟨h5_⟩; have n6_ : Aside0 (gb1036 ≠ gb1029) := ⟨h6_⟩; have n7_ : Aside0 (Below w.heap.size w w66) := ⟨h7_⟩; clear HO_5; clear BK1029; clear HB; clear h0_ h1_ h2_ h3_ h4_ h5_ h6_ h7_; have HO_5 := n0_; have BK1029 := n1_; have BK1036 := n2_; have GW1036 := n3_; have GE1036 := n4_; have NB1029_1036 := n5_; have NB1036_1029 := n6_; have HB := n7_; clear n0_ n1_ n2_ n3_ n4_ n5_ n6_ n7_; have hHeld : w66.cell? ⟨gb1029, 0, none⟩ = some (.int .i64 a0_0) ∧ w66.cell? ⟨gb1029, 1, none⟩ = some (.string a0_1) := hS_; refine norm_ (a' := ?_) ?_ ?_; rotate_left
           ·simp only [putAll, Act.put, sA_, sZ_, sS_]
            rfl
           refine oN_ 9 (none) HT_ (fun K hK => ?_); have hs67 : w66.cell? ⟨gb1036, 0, none⟩ = some (.int .i64 0) := (blk_cell BK1036.out 0).trans rfl; have hfs67 := blk_frozen BK1036.out 0; have hns67_0 := NB1029_1036.out; have hms67_0 := NB1036_1029.out; have hs68 : w66.cell? ⟨gb1036, 1, none⟩ = some (.string (⟨#[]⟩ : ByteArray)) := (blk_cell BK1036.out 1).trans rfl; have hfs68 := blk_frozen BK1036.out 1; have hns68_0 := NB1029_1036.out; have hms68_0 := NB1036_1029.out; refine skip_ (w1 := ?_) (by rfl) rfl ?_ ?_; rotate_left
           ·go_simp
            rfl
           refine hK.out _ _ ⟨((cell_far (p := ⟨gb1036, _, none⟩) NB1029_1036.out _).trans (((cell_far (p := ⟨gb1036, _, none⟩) NB1029_1036.out _).trans (hHeld.1)))), ((cell_far (p := ⟨gb1036, _, none⟩) NB1029_1036.out _).trans (((cell_far (p := ⟨gb1036, _, none⟩) NB1029_1036.out _).trans (hHeld.2))))⟩ (fun hHeld => ?_); clear hK K; refine done_ (done_of HT_.out (by kernel_rfl)) ?_; have hnb69 := NB1036_1029.out; have hnc69 := NB1029_1036.out; obtain ⟨hcz70_0, hfz70_0, hcz70_1, hfz70_1⟩ := bk2_ BK1036; try go_wp2_with (first | ((with_reducible refine gc_ 61 rfl ?_); refine gB_ (some 42) Try.func61 #[.agg #[.int .i64 t1034, .string t1035]] (spec_IsMatroid.calls k3 t1034 t1035 false _ A13.out) ?_; intro w71 hb; replace HO_5 := am_ (Kd.S_below (by refine sx_ ?_; exact (Kd.S_mono (Kd.S_far (p := ⟨gb1036, 1, none⟩) (Kd.S_far (p := ⟨gb1036, 0, none⟩) (Kd.S_types HO_5.out BK1036.out (by decide)) (fun _ hk => hk.2) (.int .i64 t1034)) (fun _ hk => hk.2) (.string t1035)) (fun _ h_ => h_.1))) hb); replace BK1029 := am_ (blk_below (g := gb1029) (o := .cells #[.int .i64 a0_0, .string a0_1] 31 (0, 0)) (by refine kx_ ?_; refine blk_far ?_ NB1029_1036.out _; refine kx_ ?_; refine blk_far ?_ NB1029_1036.out _; refine kx_ ?_; exact BK1029.out) hb); replace BK1036 := am_ (blk_below (g := gb1036) (o := .cells #[.int .i64 t1034, .string t1035] 31 (0, 0)) (by refine kx_ ?_; refine blk_put (cs := #[.int .i64 t1034, .string (⟨#[]⟩ : ByteArray)]) ?_ 1 _ rfl; refine kx_ ?_; refine blk_put (cs := #[.int .i64 0, .string (⟨#[]⟩ : ByteArray)]) ?_ 0 _ rfl; refine kx_ ?_; exact BK1036.out) hb); replace HB := bs2_ HB hb GE1029 GE1036; try clear hb))
           go_roundg k3
           case measure => have := HK1.out; have := HK2.out; have := HK3.out; omega
           case rel => exact ⟨(x5_3), (wrap64 (x8_3 + 1)), vt_, H', hl3_ HK1 HK2 HK3, ⟨sx_ HO_5.out⟩, kX_ BK1029, bX2_ HB GE1029 GE1036⟩
         ·rw [if_neg c10] at H; have c10b0 := decide_eq_false c10; clear c10; have H' := am_ H; clear H; obtain ⟨hcz72_0, hfz72_0, hcz72_1, hfz72_1⟩ := bk2_ BK1029; go_wp2; go_roundg k3
          case measure => have := HK1.out; have := HK2.out; have := HK3.out; omega
          case rel => exact ⟨(x5_3), (wrap64 (x7_2 + 1)), vt_, H', hl3_ HK1 HK2 HK3, ⟨sx_ HO_5.out⟩, kX_ BK1029, bX1_ HB GE1029⟩
      ·rw [if_neg c8] at H; have c8b0 := decide_eq_false c8; clear c8; have H' := am_ H; clear H; obtain ⟨hcz73_0, hfz73_0, hcz73_1, hfz73_1⟩ := bk2_ BK1029; go_wp2; go_roundg k2
       case measure => have := HK1.out; have := HK2.out; omega
       case rel => exact ⟨(x5_2), (wrap64 (x6_1 + 1)), vt_, H', hl2_ HK1 HK2, ⟨sx_ HO_5.out⟩, kX_ BK1029, bX1_ HB GE1029⟩
   ·rw [if_neg c6] at H; have c6b0 := decide_eq_false c6; clear c6; obtain rfl := Option.some.inj H; obtain ⟨hcz74_0, hfz74_0, hcz74_1, hfz74_1⟩ := bk2_ BK1029; go_wp2; go_ret; exact ⟨_, by first | rfl | (simp [errW_none, errW_some] <;> rfl) | (simp [*, errW_none, errW_some] <;> rfl), sx_ HO_5.out, bx1 HB.out GE1029.out⟩
def spec_IsAcyclic.f (k : Nat) (a0_0 : Int) (a0_1 : ByteArray) : Option (Bool) := (spec_IsMatroid.f k a0_0 a0_1).bind fun t712 => (if t712 = true then ((spec_l4Acyclic.f k a0_0 a0_1).bind fun t713 => (some t713)) else (some false))
theorem spec_IsAcyclic.mono : ∀ a0 a1 k, LeO (spec_IsAcyclic.f k a0 a1) (spec_IsAcyclic.f (k + 1) a0 a1) := by
 intro a0 a1 k; unfold spec_IsAcyclic.f
 repeat' first | (with_reducible first | apply spec_IsMatroid.mono | apply spec_l4Acyclic.mono | exact LeO.refl _ | exact LeO.none _ | refine LeO.ite ?_ ?_ | refine LeO.bind ?_ (fun _ => ?_)) | exact LeO.none _
set_option maxHeartbeats 8000000 in
set_option maxRecDepth 100000 in
theorem spec_IsAcyclic.calls (k : Nat) (a0_0 : Int) (a0_1 : ByteArray) (r : Bool) (w : World) (h : spec_IsAcyclic.f k a0_0 a0_1 = some r) :
  Calls Try.prog 63 #[.agg #[.int .i64 a0_0, .string a0_1]] w fun e w' => e = .returned (.bool r) ∧ Below w.heap.size w w' := by
 have hu31 := Try.underlying31; have HB := am_ (Below.refl w.heap.size w); have H : ((spec_IsMatroid.f k a0_0 a0_1).bind fun t712 => (if t712 = true then ((spec_l4Acyclic.f k a0_0 a0_1).bind fun t713 => (some t713)) else (some false))) = some r := h; clear h; obtain ⟨t712, A2, H⟩ := bnd_ H; by_cases c3 : t712 = true
 ·subst c3; replace H := ifT_ H; obtain ⟨t713, A4, H⟩ := bnd_ H; obtain rfl := Option.some.inj H; go_enter Try.func63, Try.ntmps63
  go_wp2_with (first | ((with_reducible refine gd_ 1 rfl ?_); refine be_ 1 #[.int .i64 a0_0, .string a0_1] 31 ?_; intro gb711 hg w5 hbox hb; have BK711 := am_ hbox; have GW711 := gw0_ HB hg; have GE711 := GW711; replace HB := bs0_ HB hb; clear hb hbox hg; obtain ⟨hcz6_0, hfz6_0, hcz6_1, hfz6_1⟩ := bk2_ BK711) | ((with_reducible refine gc_ 61 rfl ?_); refine gB_ (some 4) Try.func61 #[.agg #[.int .i64 a0_0, .string a0_1]] (spec_IsMatroid.calls k a0_0 a0_1 true _ A2.out) ?_; intro w7 hb; replace BK711 := bb_ BK711 hb; replace HB := bs1_ HB hb GE711; try clear hb; obtain ⟨hcz8_0, hfz8_0, hcz8_1, hfz8_1⟩ := bk2_ BK711) | (go_at_call 139; (with_reducible refine (spec_l4Acyclic.calls k a0_0 a0_1 t713 _ A4.out).mono ?_); rintro e w9 ⟨rfl, hb⟩; replace BK711 := bb_ BK711 hb; replace HB := bs1_ HB hb GE711; try clear hb))
  go_ret; exact ⟨er_, bx1 HB.out GE711.out⟩
 ·replace c3 := Bool.eq_false_iff.mpr c3; subst c3; replace H := ifF_ H; obtain rfl := Option.some.inj H; go_enter Try.func63, Try.ntmps63
  go_wp2_with (first | ((with_reducible refine gd_ 1 rfl ?_); refine be_ 1 #[.int .i64 a0_0, .string a0_1] 31 ?_; intro gb711 hg w10 hbox hb; have BK711 := am_ hbox; have GW711 := gw0_ HB hg; have GE711 := GW711; replace HB := bs0_ HB hb; clear hb hbox hg; obtain ⟨hcz11_0, hfz11_0, hcz11_1, hfz11_1⟩ := bk2_ BK711) | ((with_reducible refine gc_ 61 rfl ?_); refine gB_ (some 4) Try.func61 #[.agg #[.int .i64 a0_0, .string a0_1]] (spec_IsMatroid.calls k a0_0 a0_1 false _ A2.out) ?_; intro w12 hb; replace BK711 := bb_ BK711 hb; replace HB := bs1_ HB hb GE711; try clear hb))
  go_ret; exact ⟨er_, bx1 HB.out GE711.out⟩
end Go.Proofs.Ytoajlmlobaccdaa.P
namespace Go.Proofs.Ytoajlmlobaccdaa.P
open Go.RowKit Go.Proofs.YtoajlmlobaccdaaW.PrintWords Go.Proofs.YtoajlmlobaccdaaW.PrintLast Go.Proofs.YtoajlmlobaccdaaW.PrintMore
attribute [local go_sem] ptrOf_slice
set_option linter.unusedVariables false
set_option linter.unusedSimpArgs false
theorem below_of_none {W w1 : World} (h : W.grownBy w1 none) : Below W.heap.size W w1 := ⟨h.os, h.tape, h.output, h.size, fun k hk => h.block k hk (by simp)⟩
open Go.Proofs.YtoajlmlobaccdaaW.PrintWords.Kd in
theorem Kd.F_single {α : Type} {d : Kd α} {w : World} {ok : Nat → Prop} {x : α} {v : Value} {e hb : Nat} (hF : FK d w ok x [v]) (hc : w.heap[hb]? = some (.cells #[v] e (0, 0))) : F d w (fun j => ok j ∨ j = hb) (some ⟨hb, 0, none⟩) 1 [x] := by
  intro W' hW
  have hK := hF W' (fun k hk hlt => hW k (.inl hk) hlt)
  have hb' : W'.heap[hb]? = some (.cells #[v] e (0, 0)) := (hW hb (.inr rfl) (blk_lt hc)).trans hc
  refine ⟨rfl, by decide, fun _ => ⟨⟨hb, 0, none⟩, rfl, fun j p hj => ?_⟩⟩
  cases j with
  | zero =>
    have e1 : x = p := by simpa using hj
    subst e1
    refine ⟨[v], d.K_len hK, hK, fun i u hi => ?_⟩
    cases i with
    | zero =>
      have e2 : v = u := by simpa using hi
      subst e2
      rw [Nat.zero_mul, show (0 + 0 : Nat) = 0 from rfl]
      exact (blk_cell hb' 0).trans rfl
    | succ i => simp at hi
  | succ j => simp at hj
def mp19.T19 : Bool × List (List Nat × List Nat) := (true, [([], []), ([], []), ([], []), ([1, 2], [1, 2]), ([3], [3]), ([0, 4], [0, 4]), ([], []), ([], []), ([6, 7], [6, 7]), ([8], [8]), ([9], [9]), ([5, 10, 5], [5, 10]), ([11, 11, 0, 1, 2, 3, 4, 5, 6, 7, 8, 9, 10, 11], [11])])
def mp19.B19 : List Nat := [0, 0, 0, 6, 14, 31, 0, 0, 192, 448, 960, 2047, 4095]
theorem mp19.tab19 : rtab .any (opsOf Try.f30 19) = mp19.T19 := by kernel_rfl
theorem mp19.bits19 : waitsOk mp19.T19.2 mp19.B19 = true := by kernel_rfl
set_option maxHeartbeats 8000000 in
set_option maxRecDepth 100000 in
theorem mp19_wp {u0 u1 u2 u3 u4 u5 u10 u11 u12 u13 u14 u15 u16 u17 u18 u19 u20 u21 u22 u23 u24 u25 u26 u27 u28 u29 u30 u31 u32 u33 u34 u35 u36 u37 u38 u39 u40 u41 u42 u43 u44 u45 u46 u47 u48 u49 u50 u51 u52 u53 u54 u55 u56 u57 u58 u59 u60 u61 u62 u63 u64 u65 u66 u67 u68 u69 u70 u71 u72 u73 u74 u75 u76 u77 u78 u79 u80 u81 u82 u83 u84 u85 u86 u87 u88 u89 u90 u91 u92 u93 u94 u95 u96 u97 u98 u99 u100 u101 u102 u103 u104 u105 u106 u107 u108 u109 u110 u111 u112 u113 u114 u115 u116 u117 u118 u119 u120 u121 u122 u123 u124 u125 u126 u127 u128 : Value} {k i : Int} {ad6 ad8 : Addr} {n6 c6 n8 c8 l1 c1 l2 c2 : Nat} {A1 A2 : Option Addr} {rowP : List (List Int)} {tri : List Int} {ok1 ok2 : Nat → Prop} {w : World} {Q : Exit → Act → World → Prop}
    (hQ : ∀ c (a : Act) (N : Option Tmp) (v : Value) w, Q (.panic c) (a.put N v) w → Q (.panic c) a w) (k0 : 0 ≤ k) (k1 : k < n6) (i0 : 0 ≤ i) (i1 : i < n8) (x1 : w.cell? (ad6.add k.toNat) = some (.slice A1 l1 c1)) (x2 : w.cell? (ad8.add i.toNat) = some (.slice A2 l2 c2))
    (F1 : Kd.F (Kd.slice 3 (Kd.int .i64)) w ok1 A1 l1 rowP) (F2 : Kd.FK (Kd.slice 3 (Kd.int .i64)) w ok2 tri [.slice A2 l2 c2]) (o1 : ∀ j, ok1 j → j < w.heap.size) (o2 : ∀ j, ok2 j → j < w.heap.size) (hl : l1 < 5864062014805)
    (h : ∀ (x103 x104 x105 x106 x107 x108 x109 x110 x111 x112 x113 x114 v : Value) (w' : World), Below w.heap.size w w' → Kd.N (Kd.slice 3 (Kd.int .i64)) 34 w' w.heap.size (fun j => ok1 j ∨ ok2 j ∨ w.heap.size ≤ j) v (rowP ++ [tri]) → Q .normal ⟨#[u0, u1, u2, u3, u4, u5, .slice (some ad6) n6 c6, .int .i64 k, .slice (some ad8) n8 c8, .int .i64 i, u10, u11, u12, v, u14, u15, u16, u17, u18, u19, u20, u21, u22, u23, u24, u25, u26, u27, u28, u29, u30, u31, u32, u33, u34, u35, u36, u37, u38, u39, u40, u41, u42, u43, u44, u45, u46, u47, u48, u49, u50, u51, u52, u53, u54, u55, u56, u57, u58, u59, u60, u61, u62, u63, u64, u65, u66, u67, u68, u69, u70, u71, u72, u73, u74, u75, u76, u77, u78, u79, u80, u81, u82, u83, u84, u85, u86, u87, u88, u89, u90, u91, u92, u93, u94, u95, u96, u97, u98, u99, u100, u101, u102, x103, x104, x105, x106, x107, x108, x109, x110, x111, x112, x113, x114, u115, u116, u117, u118, u119, u120, u121, u122, u123, u124, u125, u126, u127, u128], []⟩ w') :
    (Code.region 19 (opsOf Try.f30 19) true).wp Try.prog Q ⟨#[u0, u1, u2, u3, u4, u5, .slice (some ad6) n6 c6, .int .i64 k, .slice (some ad8) n8 c8, .int .i64 i, u10, u11, u12, u13, u14, u15, u16, u17, u18, u19, u20, u21, u22, u23, u24, u25, u26, u27, u28, u29, u30, u31, u32, u33, u34, u35, u36, u37, u38, u39, u40, u41, u42, u43, u44, u45, u46, u47, u48, u49, u50, u51, u52, u53, u54, u55, u56, u57, u58, u59, u60, u61, u62, u63, u64, u65, u66, u67, u68, u69, u70, u71, u72, u73, u74, u75, u76, u77, u78, u79, u80, u81, u82, u83, u84, u85, u86, u87, u88, u89, u90, u91, u92, u93, u94, u95, u96, u97, u98, u99, u100, u101, u102, u103, u104, u105, u106, u107, u108, u109, u110, u111, u112, u113, u114, u115, u116, u117, u118, u119, u120, u121, u122, u123, u124, u125, u126, u127, u128], []⟩ w := by
  conv in opsOf _ _ => whnf
  have P0_ := eq_true k0
  have P1_ := eq_true k1
  have Q0_ := eq_true i0
  have Q1_ := eq_true i1
  have P1b_ : decide (k < (n6 : Int)) = true := decide_eq_true k1
  have Q1b_ : decide (i < (n8 : Int)) = true := decide_eq_true i1
  have P0b_ : decide (0 ≤ k) = true := decide_eq_true k0
  have Q0b_ : decide (0 ≤ i) = true := decide_eq_true i0
  have F1 := Aside0.mk (Kd.F_drew F1)
  have F2 := Aside0.mk (show Kd.FK (Kd.slice 3 (Kd.int .i64)) w.drew ok2 tri [.slice A2 l2 c2] from Foot.step F2 (fun _ _ _ => rfl))
  have O1 := Aside0.mk o1
  have O2 := Aside0.mk o2
  have HL := Aside0.mk hl
  have HB := Aside0.mk (below_drew1 (Below.refl w.heap.size w))
  have HH := Aside0.mk h
  have RL := Aside0.mk (show rowP.length = l1 from Kd.F_len F1.out)
  have B6 := Aside0.mk (show (ad6.add k.toNat).block < w.heap.size from World.block_lt_of_cell? w _ x1)
  have B8 := Aside0.mk (show (ad8.add i.toNat).block < w.heap.size from World.block_lt_of_cell? w _ x2)
  clear o1 o2 hl k0 k1 i0 i1 h
  refine start_ (n := 13) (S := fun w' => w'.cell? (ad6.add k.toNat) = some (.slice A1 l1 c1) ∧ w'.cell? (ad8.add i.toNat) = some (.slice A2 l2 c2)) (ds := []) #[false, false, false, false, false, false, false, false, false, false, false, false, false] (by kernel_rfl) rfl rfl ⟨x1, x2⟩ (fun hHeld => ?_); refine with_tabW mp19.tab19 mp19.bits19 (fun HT_ HW_ => ?_)
  clear x1 x2
  generalize w.drew = wa at F1 F2 HB hHeld ⊢
  refine pD_ 1 (some 104) HT_ (h := ?_) (hQ := fun c a w h => hQ c a _ _ w h)
  refine pD_ 2 (some 105) HT_ (h := ?_) (hQ := fun c a w h => hQ c a _ _ w h)
  refine pD_ 6 (some 109) HT_ (h := ?_) (hQ := fun c a w h => hQ c a _ _ w h)
  refine pD_ 7 (some 110) HT_ (h := ?_) (hQ := fun c a w h => hQ c a _ _ w h)
  refine pD_ 3 (some 106) HT_ (h := ?_) (hQ := fun c a w h => hQ c a _ _ w h)
  refine tD2_ 4 (some 107) HT_ HW_ hHeld (h := ?_) (hQ := fun c a w h => hQ c a _ _ w h)
  refine pD_ 8 (some 111) HT_ (h := ?_) (hQ := fun c a w h => hQ c a _ _ w h)
  refine tD2_ 9 (some 112) HT_ HW_ hHeld (h := ?_) (hQ := fun c a w h => hQ c a _ _ w h)
  refine join_ (σ := Value × Value × Nat) 2 #[true, true, true, true, true, true, true, true, true, true, true, false, false] (fun s_ => [(103, s_.1), (108, s_.2.1), (113, .slice (some ⟨s_.2.2, 0, none⟩) 1 1)]) (fun s_ w' => (w'.cell? (ad6.add k.toNat) = some (.slice A1 l1 c1) ∧ w'.cell? (ad8.add i.toNat) = some (.slice A2 l2 c2)) ∧ Below w.heap.size w w' ∧ Kd.N (Kd.slice 3 (Kd.int .i64)) 34 w' w.heap.size (fun j => ok1 j ∨ ok2 j ∨ w.heap.size ≤ j) s_.2.1 rowP ∧ w'.heap[s_.2.2]? = some (.cells #[.slice A2 l2 c2] 34 (0, 0)) ∧ w.heap.size ≤ s_.2.2 ∧ some s_.2.2 ≠ s_.2.1.ownBlock ∧ Kd.FK (Kd.slice 3 (Kd.int .i64)) w' ok2 tri [.slice A2 l2 c2]) ?_ (fun hCont => ?_)
  rotate_left
  refine two_ (i := 0) (j := 10) (Ni := some 103) (Nj := some 113) #[true, true, true, true, true, false, true, true, true, true, false, false, false] #[false, true, true, true, true, false, true, true, true, true, true, false, false] rfl rfl rfl rfl (two_of HT_.out (by kernel_rfl)) (by decide) (by decide) (fun K hK => ?_) (fun K hK => ?_)
  · skip
    refine Kd.N_lit_step (Kd.slice 3 (Kd.int .i64)) (w0 := w) w.heap.size 34 (by rfl) (N' := 103) rfl (xs := ([] : List (List Int))) (inner := []) (ok := (fun j => ok1 j ∨ ok2 j ∨ w.heap.size ≤ j)) (okp := fun _ => False) ?hr (Reps.none _ _) (fun _ h_ => h_.elim) (.inr (.inr HB.out.size)) HB.out HB.out.size (by simp) ?_
    case hr => first | (go_simp; done) | (go_simp; rfl)
    intro v0 wb hN0 hB0 hg0 hnew0
    have N0 := Aside0.mk hN0
    have N0lt := Aside0.mk (Kd.N_lt hN0)
    have hb_ : Below (wa).heap.size (wa) wb := below_of_none hg0
    have HB := Aside0.mk hB0
    replace F1 := Aside0.mk (Kd.F_below F1.out hb_)
    replace F2 := Aside0.mk (show Kd.FK (Kd.slice 3 (Kd.int .i64)) wb ok2 tri [.slice A2 l2 c2] from Foot.step F2.out (fun k_ _ hlt => hb_.block k_ hlt))
    replace hHeld : wb.cell? (ad6.add k.toNat) = some (.slice A1 l1 c1) ∧ wb.cell? (ad8.add i.toNat) = some (.slice A2 l2 c2) := ⟨(hb_.cell (World.block_lt_of_cell? _ _ hHeld.1)).trans hHeld.1, (hb_.cell (World.block_lt_of_cell? _ _ hHeld.2)).trans hHeld.2⟩
    clear hN0 hB0 hg0 hnew0 hb_
    refine hK.out _ _ hHeld (fun hHeld => ?_)
    clear hK K
    refine norm_ (a' := ?_) ?_ ?_
    rotate_left
    · show Act.put _ (some 103) _ = _
      simp only [Act.put, List.setIfInBounds_toArray, List.set_cons_zero, List.set_cons_succ, i64_w, i32_w]
      rfl
    refine two_ (i := 5) (j := 10) (Ni := some 108) (Nj := some 113) #[true, true, true, true, true, true, true, true, true, true, false, false, false] #[true, true, true, true, true, false, true, true, true, true, true, false, false] rfl rfl rfl rfl (two_of HT_.out (by kernel_rfl)) (by decide) (by decide) (fun K hK => ?_) (fun K hK => ?_)
    · skip
      refine Kd.N_append_rows_step (Kd.slice 3 (Kd.int .i64)) (w0 := w) (W := wb) w.heap.size (by rfl) (.tmp 103) (.tmp 107) 39 34 (.slice none 0 0) 24 rfl Try.underlying39 info34 rfl (by decide) (by omega) v0 [] rowP A1 l1 c1 (fun j => ok1 j ∨ ok2 j ∨ w.heap.size ≤ j) ok1 rfl rfl N0.out F1.out (fun k_ hk => ⟨.inl hk, fun e => by have h1 := O1.out k_ hk; have h2 := Kd.N_base N0.out k_ e.symm; omega⟩) (fun k_ hk => .inr (.inr (Nat.le_trans HB.out.size hk))) HB.out HB.out.size (by have h1 := HL.out; simp only [List.length_nil]; omega) ?_
      intro v1 wc hN1 hB1 hg1 hat1
      rw [List.nil_append] at hN1
      have hb_ : Below w.heap.size w wc := hB1
      have N1 := Aside0.mk hN1
      have hm_ : ∀ k_, k_ < w.heap.size → wc.heap[k_]? = wb.heap[k_]? := fun k_ hk => hg1.block k_ (Nat.lt_of_lt_of_le hk HB.out.size) (fun e => by have h2 := Kd.N_base N0.out k_ e.symm; omega)
      replace F2 := Aside0.mk (show Kd.FK (Kd.slice 3 (Kd.int .i64)) wc ok2 tri [.slice A2 l2 c2] from Foot.step F2.out (fun k_ hk _ => hm_ k_ (O2.out k_ hk)))
      replace hHeld : wc.cell? (ad6.add k.toNat) = some (.slice A1 l1 c1) ∧ wc.cell? (ad8.add i.toNat) = some (.slice A2 l2 c2) := ⟨cell_grown hg1 hHeld.1 (fun e => by have h2 := Kd.N_base N0.out _ e.symm; have h3 := B6.out; omega), cell_grown hg1 hHeld.2 (fun e => by have h2 := Kd.N_base N0.out _ e.symm; have h3 := B8.out; omega)⟩
      have HB := Aside0.mk hB1
      clear hN1 hB1 hg1 hat1 hb_ hm_
      refine hK.out _ _ hHeld (fun hHeld => ?_)
      clear hK K
      refine norm_ (a' := ?_) ?_ ?_
      rotate_left
      · show Act.put _ (some 108) _ = _
        simp only [Act.put, List.setIfInBounds_toArray, List.set_cons_zero, List.set_cons_succ, i64_w, i32_w]
        rfl
      refine one_ (i := 10) (N := some 113) #[true, true, true, true, true, true, true, true, true, true, true, false, false] rfl rfl (one_of HT_.out (by kernel_rfl)) (by decide) (fun K hK => ?_)
      refine value_ (w1 := ?_) (v := ?_) (by rfl) rfl ?_ ?_
      rotate_left 2
      · go_simp
        constructor
        · rfl
        · rfl
      obtain ⟨hb, hhb⟩ : ∃ b, b = (wc).heap.size := ⟨_, rfl⟩
      obtain ⟨wd, hw_⟩ : ∃ w_, w_ = (wc).alloc (.cells #[.slice A2 l2 c2] 34 (0, 0)) := ⟨_, rfl⟩
      have hb_ : Below (wc).heap.size (wc) wd := by rw [hw_]; exact below_alloc (Below.refl _ _) _
      have HC := Aside0.mk (show wd.heap[hb]? = some (.cells #[.slice A2 l2 c2] 34 (0, 0)) from by rw [hw_, hhb]; exact blk_new _ _)
      have GE := Aside0.mk (show w.heap.size ≤ hb from by rw [hhb]; exact HB.out.size)
      have HH2 := Aside0.mk (show hb = (wc).heap.size from hhb)
      rw [← hw_, ← hhb]
      replace F2 := Aside0.mk (show Kd.FK (Kd.slice 3 (Kd.int .i64)) wd ok2 tri [.slice A2 l2 c2] from Foot.step F2.out (fun k_ _ hlt => hb_.block k_ hlt))
      replace hHeld : wd.cell? (ad6.add k.toNat) = some (.slice A1 l1 c1) ∧ wd.cell? (ad8.add i.toNat) = some (.slice A2 l2 c2) := ⟨(hb_.cell (World.block_lt_of_cell? _ _ hHeld.1)).trans hHeld.1, (hb_.cell (World.block_lt_of_cell? _ _ hHeld.2)).trans hHeld.2⟩
      have NE := Aside0.mk (show some hb ≠ v1.ownBlock from fun e => by have h1 := Kd.N_lt N1.out _ e.symm; have h2 := HH2.out; omega)
      replace N1 := Aside0.mk (Kd.N_below N1.out hb_)
      replace HB := Aside0.mk (below_then HB.out HB.out.size hb_)
      clear hb_ hw_ hhb
      refine hK.out _ _ hHeld (fun hHeld => ?_)
      clear hK K
      refine norm_ (a' := ?_) ?_ ?_
      rotate_left
      · show Act.put _ (some 113) _ = _
        simp only [Act.put, List.setIfInBounds_toArray, List.set_cons_zero, List.set_cons_succ, i64_w, i32_w]
        rfl
      exact norm_ (by simp only [putAll, Act.put, List.setIfInBounds_toArray, List.set_cons_zero, List.set_cons_succ]) (hCont (v0, v1, hb) _ ⟨hHeld, HB.out, N1.out, HC.out, GE.out, NE.out, F2.out⟩)
    · skip
      refine value_ (w1 := ?_) (v := ?_) (by rfl) rfl ?_ ?_
      rotate_left 2
      · go_simp
        constructor
        · rfl
        · rfl
      obtain ⟨hb, hhb⟩ : ∃ b, b = (wb).heap.size := ⟨_, rfl⟩
      obtain ⟨wc, hw_⟩ : ∃ w_, w_ = (wb).alloc (.cells #[.slice A2 l2 c2] 34 (0, 0)) := ⟨_, rfl⟩
      have hb_ : Below (wb).heap.size (wb) wc := by rw [hw_]; exact below_alloc (Below.refl _ _) _
      have HC := Aside0.mk (show wc.heap[hb]? = some (.cells #[.slice A2 l2 c2] 34 (0, 0)) from by rw [hw_, hhb]; exact blk_new _ _)
      have GE := Aside0.mk (show w.heap.size ≤ hb from by rw [hhb]; exact HB.out.size)
      have HH2 := Aside0.mk (show hb = (wb).heap.size from hhb)
      rw [← hw_, ← hhb]
      replace F1 := Aside0.mk (Kd.F_below F1.out hb_)
      replace F2 := Aside0.mk (show Kd.FK (Kd.slice 3 (Kd.int .i64)) wc ok2 tri [.slice A2 l2 c2] from Foot.step F2.out (fun k_ _ hlt => hb_.block k_ hlt))
      replace hHeld : wc.cell? (ad6.add k.toNat) = some (.slice A1 l1 c1) ∧ wc.cell? (ad8.add i.toNat) = some (.slice A2 l2 c2) := ⟨(hb_.cell (World.block_lt_of_cell? _ _ hHeld.1)).trans hHeld.1, (hb_.cell (World.block_lt_of_cell? _ _ hHeld.2)).trans hHeld.2⟩
      replace N0 := Aside0.mk (Kd.N_below N0.out hb_)
      have N0L := Aside0.mk (show ∀ k_, v0.ownBlock = some k_ → k_ ≠ hb from fun k_ e => by have h2 := HH2.out; have h1 := N0lt.out k_ e; omega)
      replace HB := Aside0.mk (below_then HB.out HB.out.size hb_)
      clear hb_ hw_ hhb
      refine hK.out _ _ hHeld (fun hHeld => ?_)
      clear hK K
      refine norm_ (a' := ?_) ?_ ?_
      rotate_left
      · show Act.put _ (some 113) _ = _
        simp only [Act.put, List.setIfInBounds_toArray, List.set_cons_zero, List.set_cons_succ, i64_w, i32_w]
        rfl
      refine one_ (i := 5) (N := some 108) #[true, true, true, true, true, true, true, true, true, true, true, false, false] rfl rfl (one_of HT_.out (by kernel_rfl)) (by decide) (fun K hK => ?_)
      refine Kd.N_append_rows_step (Kd.slice 3 (Kd.int .i64)) (w0 := w) (W := wc) w.heap.size (by rfl) (.tmp 103) (.tmp 107) 39 34 (.slice none 0 0) 24 rfl Try.underlying39 info34 rfl (by decide) (by omega) v0 [] rowP A1 l1 c1 (fun j => ok1 j ∨ ok2 j ∨ w.heap.size ≤ j) ok1 rfl rfl N0.out F1.out (fun k_ hk => ⟨.inl hk, fun e => by have h1 := O1.out k_ hk; have h2 := Kd.N_base N0.out k_ e.symm; omega⟩) (fun k_ hk => .inr (.inr (Nat.le_trans HB.out.size hk))) HB.out HB.out.size (by have h1 := HL.out; simp only [List.length_nil]; omega) ?_
      intro v1 wd hN1 hB1 hg1 hat1
      rw [List.nil_append] at hN1
      have N1 := Aside0.mk hN1
      have hm_ : ∀ k_, k_ < w.heap.size → wd.heap[k_]? = wc.heap[k_]? := fun k_ hk => hg1.block k_ (Nat.lt_of_lt_of_le hk HB.out.size) (fun e => by have h2 := Kd.N_base N0.out k_ e.symm; omega)
      replace F2 := Aside0.mk (show Kd.FK (Kd.slice 3 (Kd.int .i64)) wd ok2 tri [.slice A2 l2 c2] from Foot.step F2.out (fun k_ hk _ => hm_ k_ (O2.out k_ hk)))
      replace hHeld : wd.cell? (ad6.add k.toNat) = some (.slice A1 l1 c1) ∧ wd.cell? (ad8.add i.toNat) = some (.slice A2 l2 c2) := ⟨cell_grown hg1 hHeld.1 (fun e => by have h2 := Kd.N_base N0.out _ e.symm; have h3 := B6.out; omega), cell_grown hg1 hHeld.2 (fun e => by have h2 := Kd.N_base N0.out _ e.symm; have h3 := B8.out; omega)⟩
      have NE := Aside0.mk (show some hb ≠ v1.ownBlock from fun e => by
        rcases hat1 with h1 | ⟨b, h1, h2⟩
        · rw [h1] at e; exact N0L.out hb e.symm rfl
        · rw [h1] at e; injection e with e; have h3 := blk_lt HC.out; omega)
      have HC2 := Aside0.mk (show wd.heap[hb]? = some (.cells #[.slice A2 l2 c2] 34 (0, 0)) from (hg1.block hb (blk_lt HC.out) (fun e => N0L.out hb e.symm rfl)).trans HC.out)
      have HB := Aside0.mk hB1
      clear hN1 hB1 hg1 hat1 hm_
      refine hK.out _ _ hHeld (fun hHeld => ?_)
      clear hK K
      refine norm_ (a' := ?_) ?_ ?_
      rotate_left
      · show Act.put _ (some 108) _ = _
        simp only [Act.put, List.setIfInBounds_toArray, List.set_cons_zero, List.set_cons_succ, i64_w, i32_w]
        rfl
      exact norm_ (by simp only [putAll, Act.put, List.setIfInBounds_toArray, List.set_cons_zero, List.set_cons_succ]) (hCont (v0, v1, hb) _ ⟨hHeld, HB.out, N1.out, HC2.out, GE.out, NE.out, F2.out⟩)
  · skip
    refine value_ (w1 := ?_) (v := ?_) (by rfl) rfl ?_ ?_
    rotate_left 2
    · go_simp
      constructor
      · rfl
      · rfl
    obtain ⟨hb, hhb⟩ : ∃ b, b = (wa).heap.size := ⟨_, rfl⟩
    obtain ⟨wb, hw_⟩ : ∃ w_, w_ = (wa).alloc (.cells #[.slice A2 l2 c2] 34 (0, 0)) := ⟨_, rfl⟩
    have hb_ : Below (wa).heap.size (wa) wb := by rw [hw_]; exact below_alloc (Below.refl _ _) _
    have HC := Aside0.mk (show wb.heap[hb]? = some (.cells #[.slice A2 l2 c2] 34 (0, 0)) from by rw [hw_, hhb]; exact blk_new _ _)
    have GE := Aside0.mk (show w.heap.size ≤ hb from by rw [hhb]; exact HB.out.size)
    have HH2 := Aside0.mk (show hb = (wa).heap.size from hhb)
    rw [← hw_, ← hhb]
    replace F1 := Aside0.mk (Kd.F_below F1.out hb_)
    replace F2 := Aside0.mk (show Kd.FK (Kd.slice 3 (Kd.int .i64)) wb ok2 tri [.slice A2 l2 c2] from Foot.step F2.out (fun k_ _ hlt => hb_.block k_ hlt))
    replace hHeld : wb.cell? (ad6.add k.toNat) = some (.slice A1 l1 c1) ∧ wb.cell? (ad8.add i.toNat) = some (.slice A2 l2 c2) := ⟨(hb_.cell (World.block_lt_of_cell? _ _ hHeld.1)).trans hHeld.1, (hb_.cell (World.block_lt_of_cell? _ _ hHeld.2)).trans hHeld.2⟩
    replace HB := Aside0.mk (below_then HB.out HB.out.size hb_)
    clear hb_ hw_ hhb
    refine hK.out _ _ hHeld (fun hHeld => ?_)
    clear hK K
    refine norm_ (a' := ?_) ?_ ?_
    rotate_left
    · show Act.put _ (some 113) _ = _
      simp only [Act.put, List.setIfInBounds_toArray, List.set_cons_zero, List.set_cons_succ, i64_w, i32_w]
      rfl
    refine one_ (i := 0) (N := some 103) #[true, true, true, true, true, false, true, true, true, true, true, false, false] rfl rfl (one_of HT_.out (by kernel_rfl)) (by decide) (fun K hK => ?_)
    refine Kd.N_lit_step (Kd.slice 3 (Kd.int .i64)) (w0 := w) w.heap.size 34 (by rfl) (N' := 103) rfl (xs := ([] : List (List Int))) (inner := []) (ok := (fun j => ok1 j ∨ ok2 j ∨ w.heap.size ≤ j)) (okp := fun _ => False) ?hr (Reps.none _ _) (fun _ h_ => h_.elim) (.inr (.inr HB.out.size)) HB.out HB.out.size (by simp) ?_
    case hr => first | (go_simp; done) | (go_simp; rfl)
    intro v0 wc hN0 hB0 hg0 hnew0
    have N0 := Aside0.mk hN0
    have N0lt := Aside0.mk (Kd.N_lt hN0)
    have hb_ : Below (wb).heap.size (wb) wc := below_of_none hg0
    have HB := Aside0.mk hB0
    replace F1 := Aside0.mk (Kd.F_below F1.out hb_)
    replace F2 := Aside0.mk (show Kd.FK (Kd.slice 3 (Kd.int .i64)) wc ok2 tri [.slice A2 l2 c2] from Foot.step F2.out (fun k_ _ hlt => hb_.block k_ hlt))
    replace hHeld : wc.cell? (ad6.add k.toNat) = some (.slice A1 l1 c1) ∧ wc.cell? (ad8.add i.toNat) = some (.slice A2 l2 c2) := ⟨(hb_.cell (World.block_lt_of_cell? _ _ hHeld.1)).trans hHeld.1, (hb_.cell (World.block_lt_of_cell? _ _ hHeld.2)).trans hHeld.2⟩
    have N0L := Aside0.mk (show ∀ k_, v0.ownBlock = some k_ → k_ ≠ hb from fun k_ e => by
      obtain ⟨b, h1, h2⟩ := hnew0
      rw [h1] at e; injection e with e; have h3 := blk_lt HC.out; omega)
    replace HC := Aside0.mk (blk_below HC.out hb_)
    clear hN0 hB0 hg0 hnew0 hb_
    refine hK.out _ _ hHeld (fun hHeld => ?_)
    clear hK K
    refine norm_ (a' := ?_) ?_ ?_
    rotate_left
    · show Act.put _ (some 103) _ = _
      simp only [Act.put, List.setIfInBounds_toArray, List.set_cons_zero, List.set_cons_succ, i64_w, i32_w]
      rfl
    refine one_ (i := 5) (N := some 108) #[true, true, true, true, true, true, true, true, true, true, true, false, false] rfl rfl (one_of HT_.out (by kernel_rfl)) (by decide) (fun K hK => ?_)
    refine Kd.N_append_rows_step (Kd.slice 3 (Kd.int .i64)) (w0 := w) (W := wc) w.heap.size (by rfl) (.tmp 103) (.tmp 107) 39 34 (.slice none 0 0) 24 rfl Try.underlying39 info34 rfl (by decide) (by omega) v0 [] rowP A1 l1 c1 (fun j => ok1 j ∨ ok2 j ∨ w.heap.size ≤ j) ok1 rfl rfl N0.out F1.out (fun k_ hk => ⟨.inl hk, fun e => by have h1 := O1.out k_ hk; have h2 := Kd.N_base N0.out k_ e.symm; omega⟩) (fun k_ hk => .inr (.inr (Nat.le_trans HB.out.size hk))) HB.out HB.out.size (by have h1 := HL.out; simp only [List.length_nil]; omega) ?_
    intro v1 wd hN1 hB1 hg1 hat1
    rw [List.nil_append] at hN1
    have N1 := Aside0.mk hN1
    have hm_ : ∀ k_, k_ < w.heap.size → wd.heap[k_]? = wc.heap[k_]? := fun k_ hk => hg1.block k_ (Nat.lt_of_lt_of_le hk HB.out.size) (fun e => by have h2 := Kd.N_base N0.out k_ e.symm; omega)
    replace F2 := Aside0.mk (show Kd.FK (Kd.slice 3 (Kd.int .i64)) wd ok2 tri [.slice A2 l2 c2] from Foot.step F2.out (fun k_ hk _ => hm_ k_ (O2.out k_ hk)))
    replace hHeld : wd.cell? (ad6.add k.toNat) = some (.slice A1 l1 c1) ∧ wd.cell? (ad8.add i.toNat) = some (.slice A2 l2 c2) := ⟨cell_grown hg1 hHeld.1 (fun e => by have h2 := Kd.N_base N0.out _ e.symm; have h3 := B6.out; omega), cell_grown hg1 hHeld.2 (fun e => by have h2 := Kd.N_base N0.out _ e.symm; have h3 := B8.out; omega)⟩
    have NE := Aside0.mk (show some hb ≠ v1.ownBlock from fun e => by
      rcases hat1 with h1 | ⟨b, h1, h2⟩
      · rw [h1] at e; exact N0L.out hb e.symm rfl
      · rw [h1] at e; injection e with e; have h3 := blk_lt HC.out; omega)
    have HC2 := Aside0.mk (show wd.heap[hb]? = some (.cells #[.slice A2 l2 c2] 34 (0, 0)) from (hg1.block hb (blk_lt HC.out) (fun e => N0L.out hb e.symm rfl)).trans HC.out)
    have HB := Aside0.mk hB1
    clear hN1 hB1 hg1 hat1 hm_
    refine hK.out _ _ hHeld (fun hHeld => ?_)
    clear hK K
    refine norm_ (a' := ?_) ?_ ?_
    rotate_left
    · show Act.put _ (some 108) _ = _
      simp only [Act.put, List.setIfInBounds_toArray, List.set_cons_zero, List.set_cons_succ, i64_w, i32_w]
      rfl
    exact norm_ (by simp only [putAll, Act.put, List.setIfInBounds_toArray, List.set_cons_zero, List.set_cons_succ]) (hCont (v0, v1, hb) _ ⟨hHeld, HB.out, N1.out, HC2.out, GE.out, NE.out, F2.out⟩)
  rintro ⟨v0, v1, hb⟩ wj ⟨hHeld, HB_, N1_, HC_, GE_, NE_, F2_⟩
  have HB := Aside0.mk HB_
  have N1 := Aside0.mk N1_
  have HC := Aside0.mk HC_
  have GE := Aside0.mk GE_
  have NE := Aside0.mk NE_
  have F2 := Aside0.mk F2_
  clear HB_ N1_ HC_ GE_ NE_ F2_
  refine norm_ (a' := ?_) ?_ ?_
  rotate_left
  · simp only [putAll, Act.put, List.setIfInBounds_toArray, List.set_cons_zero, List.set_cons_succ]
    rfl
  refine one_ (i := 11) (N := some 114) #[true, true, true, true, true, true, true, true, true, true, true, true, false] rfl rfl (one_of HT_.out (by kernel_rfl)) (by decide) (fun K hK => ?_)
  have FR : Kd.F (Kd.slice 3 (Kd.int .i64)) wj (fun j => ok2 j ∨ j = hb) (some ⟨hb, 0, none⟩) 1 [tri] := Kd.F_single F2.out HC.out
  refine Kd.N_append_rows_step (Kd.slice 3 (Kd.int .i64)) (w0 := w) (W := wj) w.heap.size (by rfl) (.tmp 108) (.tmp 113) 39 34 (.slice none 0 0) 24 rfl Try.underlying39 info34 rfl (by decide) (by omega) v1 rowP [tri] (some ⟨hb, 0, none⟩) 1 1 (fun j => ok1 j ∨ ok2 j ∨ w.heap.size ≤ j) (fun j => ok2 j ∨ j = hb) rfl rfl N1.out FR (fun k_ hk => hk.elim (fun h1 => ⟨.inr (.inl h1), fun e => by have h2 := O2.out k_ h1; have h3 := Kd.N_base N1.out k_ e.symm; omega⟩) (fun h1 => ⟨.inr (.inr (by rw [h1]; exact GE.out)), fun e => NE.out (by rw [← h1]; exact e)⟩)) (fun k_ hk => .inr (.inr (Nat.le_trans HB.out.size hk))) HB.out HB.out.size (by rw [RL.out]; have h1 := HL.out; omega) ?_
  intro v wz hNz hBz hgz hatz
  have NZ := Aside0.mk hNz
  have hS_ : wz.cell? (ad6.add k.toNat) = some (.slice A1 l1 c1) ∧ wz.cell? (ad8.add i.toNat) = some (.slice A2 l2 c2) := ⟨cell_grown hgz hHeld.1 (fun e => by have h2 := Kd.N_base N1.out _ e.symm; have h3 := B6.out; omega), cell_grown hgz hHeld.2 (fun e => by have h2 := Kd.N_base N1.out _ e.symm; have h3 := B8.out; omega)⟩
  have BZ := Aside0.mk hBz
  clear hNz hBz hgz hatz
  refine hK.out _ _ hS_ (fun hHeld => ?_)
  clear hK K
  refine norm_ (a' := ?_) ?_ ?_
  rotate_left
  · show Act.put _ (some 114) _ = _
    simp only [Act.put, List.setIfInBounds_toArray, List.set_cons_zero, List.set_cons_succ, i64_w, i32_w]
    rfl
  refine pD_ 12 (some 13) HT_ (h := ?_) (hQ := fun c a w h => hQ c a _ _ w h)
  refine done_ (done_of HT_.out (by kernel_rfl)) ?_
  exact HH.out _ _ _ _ _ _ _ _ _ _ _ _ v wz BZ.out NZ.out
end Go.Proofs.Ytoajlmlobaccdaa.P
