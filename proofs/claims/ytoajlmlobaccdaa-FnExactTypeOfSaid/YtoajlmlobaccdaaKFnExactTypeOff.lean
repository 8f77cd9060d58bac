/- What the law FnExactTypeOf reaches, part 6: functions as plain Lean functions with the proofs that their calls come to them, and plain lemmas over these. Put together by a program (wip/pack.py). -/
import Derived.Test.YtoajlmlobaccdaaKFnExactTypeOfd
import Derived.Test.YtoajlmlobaccdaaKFnExactTypeOfc
import Derived.Test.YtoajlmlobaccdaaKFnExactTypeOfe
import Derived.Sort.Grow
namespace Go.Proofs.Ytoajlmlobaccdaa.P
open Go.RowKit Go.Proofs.YtoajlmlobaccdaaW.PrintWords Go.Proofs.YtoajlmlobaccdaaW.PrintLast Go.Proofs.YtoajlmlobaccdaaW.PrintMore
attribute [local go_sem] ptrOf_slice
attribute [local go_sem] min2_str max2_int min2_int max_two min_two max_three min_three max_four min_four
set_option linter.unusedVariables false
set_option linter.unusedSimpArgs false
def spec_l4Breaks.f (k : Nat) (a0_0 : Int) (a0_1 : ByteArray) (a1 : Int) (a2 : Int) (a3 : Int) (a4 : Int) (a5 : Int) : Option (Bool) := (spec_l3At.f k a0_0 a0_1 a1 a2 a3).bind fun t670 => ((spec_l3At.f k a0_0 a0_1 a1 a4 a5).bind fun t671 => ((spec_l3At.f k a0_0 a0_1 a1 a2 a5).bind fun t672 => ((spec_l3At.f k a0_0 a0_1 a1 a3 a4).bind fun t673 => ((spec_l3At.f k a0_0 a0_1 a1 a2 a4).bind fun t674 => ((spec_l3At.f k a0_0 a0_1 a1 a3 a5).bind fun t675 => (if (wrap64 (t670 * t671)) = (wrap64 (t672 * t673)) then (some ((wrap64 (t672 * t673)) == (wrap64 ((wrap64 (-t674)) * t675)))) else (some false)))))))
def spec_l4Breaks.T1 : Bool × List (List Nat × List Nat) := (true, [([], []), ([], []), ([], []), ([], []), ([0, 1, 2, 3], [0, 1, 2, 3]), ([], []), ([], []), ([], []), ([], []), ([5, 6, 7, 8, 4], [5, 6, 7, 8]), ([4, 9], [4, 9]), ([10, 9, 0, 1, 2, 3, 4, 5, 6, 7, 8, 9, 10], [10])])
def spec_l4Breaks.B1 : List Nat := [0, 0, 0, 0, 15, 0, 0, 0, 0, 511, 1023, 2047]
theorem spec_l4Breaks.tab1 : rtab .any (opsOf Try.f190 1) = spec_l4Breaks.T1 := by kernel_rfl
theorem spec_l4Breaks.bits1 : waitsOk spec_l4Breaks.T1.2 spec_l4Breaks.B1 = true := by kernel_rfl
def spec_l4Breaks.T2 : Bool × List (List Nat × List Nat) := (true, [([], []), ([], []), ([], []), ([], []), ([0, 1, 2, 3], [0, 1, 2, 3]), ([], []), ([], []), ([], []), ([], []), ([5, 6, 7, 8, 4], [5, 6, 7, 8]), ([4, 9], [4, 9]), ([10, 9, 0, 1, 2, 3, 4, 5, 6, 7, 8, 9, 10], [10])])
def spec_l4Breaks.B2 : List Nat := [0, 0, 0, 0, 15, 0, 0, 0, 0, 511, 1023, 2047]
theorem spec_l4Breaks.tab2 : rtab .any (opsOf Try.f190 2) = spec_l4Breaks.T2 := by kernel_rfl
theorem spec_l4Breaks.bits2 : waitsOk spec_l4Breaks.T2.2 spec_l4Breaks.B2 = true := by kernel_rfl
def spec_l4Breaks.T3 : Bool × List (List Nat × List Nat) := (true, [([], []), ([], []), ([], []), ([], []), ([0, 1, 2, 3], [0, 1, 2, 3]), ([4], [4]), ([], []), ([], []), ([], []), ([], []), ([6, 7, 8, 9, 4], [6, 7, 8, 9]), ([5, 10], [5, 10]), ([11, 10, 0, 1, 2, 3, 4, 5, 6, 7, 8, 9, 10, 11], [11])])
def spec_l4Breaks.B3 : List Nat := [0, 0, 0, 0, 15, 31, 0, 0, 0, 0, 991, 2047, 4095]
theorem spec_l4Breaks.tab3 : rtab .any (opsOf Try.f190 3) = spec_l4Breaks.T3 := by kernel_rfl
theorem spec_l4Breaks.bits3 : waitsOk spec_l4Breaks.T3.2 spec_l4Breaks.B3 = true := by kernel_rfl
set_option maxHeartbeats 8000000 in
set_option maxRecDepth 100000 in
theorem spec_l4Breaks.calls (k : Nat) (a0_0 : Int) (a0_1 : ByteArray) (a1 : Int) (a2 : Int) (a3 : Int) (a4 : Int) (a5 : Int) (r : Bool) (w : World) (h : spec_l4Breaks.f k a0_0 a0_1 a1 a2 a3 a4 a5 = some r) :
  Calls Try.prog 190 #[.agg #[.int .i64 a0_0, .string a0_1], .int .i64 a1, .int .i64 a2, .int .i64 a3, .int .i64 a4, .int .i64 a5] w fun e w' => e = .returned (.bool r) ∧ Below w.heap.size w w' := by
 have hu31 := Try.underlying31; have HB := am_ (Below.refl w.heap.size w); have H : ((spec_l3At.f k a0_0 a0_1 a1 a2 a3).bind fun t670 => ((spec_l3At.f k a0_0 a0_1 a1 a4 a5).bind fun t671 => ((spec_l3At.f k a0_0 a0_1 a1 a2 a5).bind fun t672 => ((spec_l3At.f k a0_0 a0_1 a1 a3 a4).bind fun t673 => ((spec_l3At.f k a0_0 a0_1 a1 a2 a4).bind fun t674 => ((spec_l3At.f k a0_0 a0_1 a1 a3 a5).bind fun t675 => (if (wrap64 (t670 * t671)) = (wrap64 (t672 * t673)) then (some ((wrap64 (t672 * t673)) == (wrap64 ((wrap64 (-t674)) * t675)))) else (some false)))))))) = some r := h; clear h; obtain ⟨t670, A7, H⟩ := bnd_ H; obtain ⟨t671, A8, H⟩ := bnd_ H; obtain ⟨t672, A9, H⟩ := bnd_ H; obtain ⟨t673, A10, H⟩ := bnd_ H; obtain ⟨t674, A11, H⟩ := bnd_ H; obtain ⟨t675, A12, H⟩ := bnd_ H; by_cases c13 : (wrap64 (t670 * t671)) = (wrap64 (t672 * t673))
 ·rw [if_pos c13] at H; obtain ⟨c13b0, c13b1⟩ := eqT_ c13; clear c13; obtain rfl := Option.some.inj H; go_enter Try.func190, Try.ntmps190
  try go_wp2_with (first | ((with_reducible refine gd_ 6 rfl ?_); refine be_ 6 #[.int .i64 a0_0, .string a0_1] 31 ?_; intro gb669 hg w14 hbox hb; have BK669 := am_ hbox; have GW669 := gw0_ HB hg; have GE669 := GW669; replace HB := bs0_ HB hb; clear hb hbox hg))
  replace BK669 := am_ (blk_drew BK669.out); replace HB := bd_ HB; refine start_ (n := 12) (S := fun w' => w'.cell? ⟨gb669, 0, none⟩ = some (.int .i64 a0_0) ∧ w'.cell? ⟨gb669, 1, none⟩ = some (.string a0_1)) (ds := []) #[false, false, false, false, false, false, false, false, false, false, false, false] (by kernel_rfl) rfl rfl ⟨c0_ BK669, c1_ BK669⟩ (fun hHeld => ?_); refine with_tabW spec_l4Breaks.tab1 spec_l4Breaks.bits1 (fun HT_ HW_ => ?_); generalize w14.drew = w15 at BK669 HB hHeld ⊢
  refine pD_ 1 (some 17) HT_ (h := ?_); refine pD_ 2 (some 18) HT_ (h := ?_); refine pD_ 3 (some 19) HT_ (h := ?_); refine pD_ 6 (some 22) HT_ (h := ?_); refine pD_ 7 (some 23) HT_ (h := ?_); refine pD_ 8 (some 24) HT_ (h := ?_); refine tD2_ 0 (some 16) HT_ HW_ hHeld (h := ?_); refine tD2_ 5 (some 21) HT_ HW_ hHeld (h := ?_); refine oN_ 4 (some 20) HT_ (fun K hK => ?_); refine gO_ Try.func186 #[.agg #[.int .i64 a0_0, .string a0_1], .int .i64 a1, .int .i64 a2, .int .i64 a3] ?_; with_reducible refine (spec_l3At.calls k a0_0 a0_1 a1 a2 a3 t670 _ A7.out).mono ?_
  rintro e w16 ⟨rfl, hb⟩; refine ⟨_, rfl, ?_⟩; replace BK669 := bb_ BK669 hb; replace HB := bs1_ HB hb GE669; try clear hb
  refine hK.out _ _ ⟨c0_ BK669, c1_ BK669⟩ (fun hHeld => ?_); clear hK K; refine nm_ 20 (h := ?_); refine oN_ 9 (some 25) HT_ (fun K hK => ?_); refine gO_ Try.func186 #[.agg #[.int .i64 a0_0, .string a0_1], .int .i64 a1, .int .i64 a4, .int .i64 a5] ?_; with_reducible refine (spec_l3At.calls k a0_0 a0_1 a1 a4 a5 t671 _ A8.out).mono ?_
  rintro e w17 ⟨rfl, hb⟩; refine ⟨_, rfl, ?_⟩; replace BK669 := bb_ BK669 hb; replace HB := bs1_ HB hb GE669; try clear hb
  refine hK.out _ _ ⟨c0_ BK669, c1_ BK669⟩ (fun hHeld => ?_); clear hK K; refine nm_ 25 (h := ?_); refine pD_ 10 (some 26) HT_ (h := ?_); refine pD_ 11 (some 13) HT_ (h := ?_); refine done_ (done_of HT_.out (by kernel_rfl)) ?_; try go_wp2
  replace BK669 := am_ (blk_drew BK669.out); replace HB := bd_ HB; refine start_ (n := 12) (S := fun w' => w'.cell? ⟨gb669, 0, none⟩ = some (.int .i64 a0_0) ∧ w'.cell? ⟨gb669, 1, none⟩ = some (.string a0_1)) (ds := []) #[false, false, false, false, false, false, false, false, false, false, false, false] (by kernel_rfl) rfl rfl ⟨c0_ BK669, c1_ BK669⟩ (fun hHeld => ?_); refine with_tabW spec_l4Breaks.tab2 spec_l4Breaks.bits2 (fun HT_ HW_ => ?_); generalize w17.drew = w18 at BK669 HB hHeld ⊢
  refine pD_ 1 (some 28) HT_ (h := ?_); refine pD_ 2 (some 29) HT_ (h := ?_); refine pD_ 3 (some 30) HT_ (h := ?_); refine pD_ 6 (some 33) HT_ (h := ?_); refine pD_ 7 (some 34) HT_ (h := ?_); refine pD_ 8 (some 35) HT_ (h := ?_); refine tD2_ 0 (some 27) HT_ HW_ hHeld (h := ?_); refine tD2_ 5 (some 32) HT_ HW_ hHeld (h := ?_); refine oN_ 4 (some 31) HT_ (fun K hK => ?_); refine gO_ Try.func186 #[.agg #[.int .i64 a0_0, .string a0_1], .int .i64 a1, .int .i64 a2, .int .i64 a5] ?_; with_reducible refine (spec_l3At.calls k a0_0 a0_1 a1 a2 a5 t672 _ A9.out).mono ?_
  rintro e w19 ⟨rfl, hb⟩; refine ⟨_, rfl, ?_⟩; replace BK669 := bb_ BK669 hb; replace HB := bs1_ HB hb GE669; try clear hb
  refine hK.out _ _ ⟨c0_ BK669, c1_ BK669⟩ (fun hHeld => ?_); clear hK K; refine nm_ 31 (h := ?_); refine oN_ 9 (some 36) HT_ (fun K hK => ?_); refine gO_ Try.func186 #[.agg #[.int .i64 a0_0, .string a0_1], .int .i64 a1, .int .i64 a3, .int .i64 a4] ?_; with_reducible refine (spec_l3At.calls k a0_0 a0_1 a1 a3 a4 t673 _ A10.out).mono ?_
  rintro e w20 ⟨rfl, hb⟩; refine ⟨_, rfl, ?_⟩; replace BK669 := bb_ BK669 hb; replace HB := bs1_ HB hb GE669; try clear hb
  refine hK.out _ _ ⟨c0_ BK669, c1_ BK669⟩ (fun hHeld => ?_); clear hK K; refine nm_ 36 (h := ?_); refine pD_ 10 (some 37) HT_ (h := ?_); refine pD_ 11 (some 14) HT_ (h := ?_); refine done_ (done_of HT_.out (by kernel_rfl)) ?_; try go_wp2
  replace BK669 := am_ (blk_drew BK669.out); replace HB := bd_ HB; refine start_ (n := 13) (S := fun w' => w'.cell? ⟨gb669, 0, none⟩ = some (.int .i64 a0_0) ∧ w'.cell? ⟨gb669, 1, none⟩ = some (.string a0_1)) (ds := []) #[false, false, false, false, false, false, false, false, false, false, false, false, false] (by kernel_rfl) rfl rfl ⟨c0_ BK669, c1_ BK669⟩ (fun hHeld => ?_); refine with_tabW spec_l4Breaks.tab3 spec_l4Breaks.bits3 (fun HT_ HW_ => ?_); generalize w20.drew = w21 at BK669 HB hHeld ⊢
  refine pD_ 1 (some 39) HT_ (h := ?_); refine pD_ 2 (some 40) HT_ (h := ?_); refine pD_ 3 (some 41) HT_ (h := ?_); refine pD_ 7 (some 45) HT_ (h := ?_); refine pD_ 8 (some 46) HT_ (h := ?_); refine pD_ 9 (some 47) HT_ (h := ?_); refine tD2_ 0 (some 38) HT_ HW_ hHeld (h := ?_); refine tD2_ 6 (some 44) HT_ HW_ hHeld (h := ?_); refine oN_ 4 (some 42) HT_ (fun K hK => ?_); refine gO_ Try.func186 #[.agg #[.int .i64 a0_0, .string a0_1], .int .i64 a1, .int .i64 a2, .int .i64 a4] ?_; with_reducible refine (spec_l3At.calls k a0_0 a0_1 a1 a2 a4 t674 _ A11.out).mono ?_
  rintro e w22 ⟨rfl, hb⟩; refine ⟨_, rfl, ?_⟩; replace BK669 := bb_ BK669 hb; replace HB := bs1_ HB hb GE669; try clear hb
  refine hK.out _ _ ⟨c0_ BK669, c1_ BK669⟩ (fun hHeld => ?_); clear hK K; refine nm_ 42 (h := ?_); refine pD_ 5 (some 43) HT_ (h := ?_); refine oN_ 10 (some 48) HT_ (fun K hK => ?_); refine gO_ Try.func186 #[.agg #[.int .i64 a0_0, .string a0_1], .int .i64 a1, .int .i64 a3, .int .i64 a5] ?_; with_reducible refine (spec_l3At.calls k a0_0 a0_1 a1 a3 a5 t675 _ A12.out).mono ?_
  rintro e w23 ⟨rfl, hb⟩; refine ⟨_, rfl, ?_⟩; replace BK669 := bb_ BK669 hb; replace HB := bs1_ HB hb GE669; try clear hb
  refine hK.out _ _ ⟨c0_ BK669, c1_ BK669⟩ (fun hHeld => ?_); clear hK K; refine nm_ 48 (h := ?_); refine pD_ 11 (some 49) HT_ (h := ?_); refine pD_ 12 (some 15) HT_ (h := ?_); refine done_ (done_of HT_.out (by kernel_rfl)) ?_; try go_wp2
  go_ret; exact ⟨er_, bx1 HB.out GE669.out⟩
 ·rw [if_neg c13] at H; obtain ⟨c13b0, c13b1⟩ := eqF_ c13; obtain rfl := Option.some.inj H; go_enter Try.func190, Try.ntmps190
  try go_wp2_with (first | ((with_reducible refine gd_ 6 rfl ?_); refine be_ 6 #[.int .i64 a0_0, .string a0_1] 31 ?_; intro gb669 hg w24 hbox hb; have BK669 := am_ hbox; have GW669 := gw0_ HB hg; have GE669 := GW669; replace HB := bs0_ HB hb; clear hb hbox hg))
  replace BK669 := am_ (blk_drew BK669.out); replace HB := bd_ HB; refine start_ (n := 12) (S := fun w' => w'.cell? ⟨gb669, 0, none⟩ = some (.int .i64 a0_0) ∧ w'.cell? ⟨gb669, 1, none⟩ = some (.string a0_1)) (ds := []) #[false, false, false, false, false, false, false, false, false, false, false, false] (by kernel_rfl) rfl rfl ⟨c0_ BK669, c1_ BK669⟩ (fun hHeld => ?_); refine with_tabW spec_l4Breaks.tab1 spec_l4Breaks.bits1 (fun HT_ HW_ => ?_); generalize w24.drew = w25 at BK669 HB hHeld ⊢
  refine pD_ 1 (some 17) HT_ (h := ?_); refine pD_ 2 (some 18) HT_ (h := ?_); refine pD_ 3 (some 19) HT_ (h := ?_); refine pD_ 6 (some 22) HT_ (h := ?_); refine pD_ 7 (some 23) HT_ (h := ?_); refine pD_ 8 (some 24) HT_ (h := ?_); refine tD2_ 0 (some 16) HT_ HW_ hHeld (h := ?_); refine tD2_ 5 (some 21) HT_ HW_ hHeld (h := ?_); refine oN_ 4 (some 20) HT_ (fun K hK => ?_); refine gO_ Try.func186 #[.agg #[.int .i64 a0_0, .string a0_1], .int .i64 a1, .int .i64 a2, .int .i64 a3] ?_; with_reducible refine (spec_l3At.calls k a0_0 a0_1 a1 a2 a3 t670 _ A7.out).mono ?_
  rintro e w26 ⟨rfl, hb⟩; refine ⟨_, rfl, ?_⟩; replace BK669 := bb_ BK669 hb; replace HB := bs1_ HB hb GE669; try clear hb
  refine hK.out _ _ ⟨c0_ BK669, c1_ BK669⟩ (fun hHeld => ?_); clear hK K; refine nm_ 20 (h := ?_); refine oN_ 9 (some 25) HT_ (fun K hK => ?_); refine gO_ Try.func186 #[.agg #[.int .i64 a0_0, .string a0_1], .int .i64 a1, .int .i64 a4, .int .i64 a5] ?_; with_reducible refine (spec_l3At.calls k a0_0 a0_1 a1 a4 a5 t671 _ A8.out).mono ?_
  rintro e w27 ⟨rfl, hb⟩; refine ⟨_, rfl, ?_⟩; replace BK669 := bb_ BK669 hb; replace HB := bs1_ HB hb GE669; try clear hb
  refine hK.out _ _ ⟨c0_ BK669, c1_ BK669⟩ (fun hHeld => ?_); clear hK K; refine nm_ 25 (h := ?_); refine pD_ 10 (some 26) HT_ (h := ?_); refine pD_ 11 (some 13) HT_ (h := ?_); refine done_ (done_of HT_.out (by kernel_rfl)) ?_; try go_wp2
  replace BK669 := am_ (blk_drew BK669.out); replace HB := bd_ HB; refine start_ (n := 12) (S := fun w' => w'.cell? ⟨gb669, 0, none⟩ = some (.int .i64 a0_0) ∧ w'.cell? ⟨gb669, 1, none⟩ = some (.string a0_1)) (ds := []) #[false, false, false, false, false, false, false, false, false, false, false, false] (by kernel_rfl) rfl rfl ⟨c0_ BK669, c1_ BK669⟩ (fun hHeld => ?_); refine with_tabW spec_l4Breaks.tab2 spec_l4Breaks.bits2 (fun HT_ HW_ => ?_); generalize w27.drew = w28 at BK669 HB hHeld ⊢
  refine pD_ 1 (some 28) HT_ (h := ?_); refine pD_ 2 (some 29) HT_ (h := ?_); refine pD_ 3 (some 30) HT_ (h := ?_); refine pD_ 6 (some 33) HT_ (h := ?_); refine pD_ 7 (some 34) HT_ (h := ?_); refine pD_ 8 (some 35) HT_ (h := ?_); refine tD2_ 0 (some 27) HT_ HW_ hHeld (h := ?_); refine tD2_ 5 (some 32) HT_ HW_ hHeld (h := ?_); refine oN_ 4 (some 31) HT_ (fun K hK => ?_); refine gO_ Try.func186 #[.agg #[.int .i64 a0_0, .string a0_1], .int .i64 a1, .int .i64 a2, .int .i64 a5] ?_; with_reducible refine (spec_l3At.calls k a0_0 a0_1 a1 a2 a5 t672 _ A9.out).mono ?_
  rintro e w29 ⟨rfl, hb⟩; refine ⟨_, rfl, ?_⟩; replace BK669 := bb_ BK669 hb; replace HB := bs1_ HB hb GE669; try clear hb
  refine hK.out _ _ ⟨c0_ BK669, c1_ BK669⟩ (fun hHeld => ?_); clear hK K; refine nm_ 31 (h := ?_); refine oN_ 9 (some 36) HT_ (fun K hK => ?_); refine gO_ Try.func186 #[.agg #[.int .i64 a0_0, .string a0_1], .int .i64 a1, .int .i64 a3, .int .i64 a4] ?_; with_reducible refine (spec_l3At.calls k a0_0 a0_1 a1 a3 a4 t673 _ A10.out).mono ?_
  rintro e w30 ⟨rfl, hb⟩; refine ⟨_, rfl, ?_⟩; replace BK669 := bb_ BK669 hb; replace HB := bs1_ HB hb GE669; try clear hb
  refine hK.out _ _ ⟨c0_ BK669, c1_ BK669⟩ (fun hHeld => ?_); clear hK K; refine nm_ 36 (h := ?_); refine pD_ 10 (some 37) HT_ (h := ?_); refine pD_ 11 (some 14) HT_ (h := ?_); refine done_ (done_of HT_.out (by kernel_rfl)) ?_; try go_wp2
  replace BK669 := am_ (blk_drew BK669.out); replace HB := bd_ HB; refine start_ (n := 13) (S := fun w' => w'.cell? ⟨gb669, 0, none⟩ = some (.int .i64 a0_0) ∧ w'.cell? ⟨gb669, 1, none⟩ = some (.string a0_1)) (ds := []) #[false, false, false, false, false, false, false, false, false, false, false, false, false] (by kernel_rfl) rfl rfl ⟨c0_ BK669, c1_ BK669⟩ (fun hHeld => ?_); refine with_tabW spec_l4Breaks.tab3 spec_l4Breaks.bits3 (fun HT_ HW_ => ?_); generalize w30.drew = w31 at BK669 HB hHeld ⊢
  refine pD_ 1 (some 39) HT_ (h := ?_); refine pD_ 2 (some 40) HT_ (h := ?_); refine pD_ 3 (some 41) HT_ (h := ?_); refine pD_ 7 (some 45) HT_ (h := ?_); refine pD_ 8 (some 46) HT_ (h := ?_); refine pD_ 9 (some 47) HT_ (h := ?_); refine tD2_ 0 (some 38) HT_ HW_ hHeld (h := ?_); refine tD2_ 6 (some 44) HT_ HW_ hHeld (h := ?_); refine oN_ 4 (some 42) HT_ (fun K hK => ?_); refine gO_ Try.func186 #[.agg #[.int .i64 a0_0, .string a0_1], .int .i64 a1, .int .i64 a2, .int .i64 a4] ?_; with_reducible refine (spec_l3At.calls k a0_0 a0_1 a1 a2 a4 t674 _ A11.out).mono ?_
  rintro e w32 ⟨rfl, hb⟩; refine ⟨_, rfl, ?_⟩; replace BK669 := bb_ BK669 hb; replace HB := bs1_ HB hb GE669; try clear hb
  refine hK.out _ _ ⟨c0_ BK669, c1_ BK669⟩ (fun hHeld => ?_); clear hK K; refine nm_ 42 (h := ?_); refine pD_ 5 (some 43) HT_ (h := ?_); refine oN_ 10 (some 48) HT_ (fun K hK => ?_); refine gO_ Try.func186 #[.agg #[.int .i64 a0_0, .string a0_1], .int .i64 a1, .int .i64 a3, .int .i64 a5] ?_; with_reducible refine (spec_l3At.calls k a0_0 a0_1 a1 a3 a5 t675 _ A12.out).mono ?_
  rintro e w33 ⟨rfl, hb⟩; refine ⟨_, rfl, ?_⟩; replace BK669 := bb_ BK669 hb; replace HB := bs1_ HB hb GE669; try clear hb
  refine hK.out _ _ ⟨c0_ BK669, c1_ BK669⟩ (fun hHeld => ?_); clear hK K; refine nm_ 48 (h := ?_); refine pD_ 11 (some 49) HT_ (h := ?_); refine pD_ 12 (some 15) HT_ (h := ?_); refine done_ (done_of HT_.out (by kernel_rfl)) ?_; try go_wp2
  go_ret; exact ⟨er_, bx1 HB.out GE669.out⟩
mutual
def spec_FirstBreak.l0 : Nat → Int → Int → ByteArray → Option (List Int)
 | 0, _, _, _ => none
 | k + 1, x3, x677000, x677001 => if x3 < x677000 then ((spec_AreSigns.f k x677000 x677001).bind fun t677 => (spec_FirstBreak.j1 k x3 t677 x677000 x677001)) else (spec_FirstBreak.j1 k x3 false x677000 x677001)
def spec_FirstBreak.j1 : Nat → Int → Bool → Int → ByteArray → Option (List Int)
 | 0, _, _, _, _ => none
 | k + 1, x3, x16, x677000, x677001 => if x16 = true then ((spec_l3Others.f k x677000 x3).bind fun t681 => (spec_FirstBreak.l1 k x3 t681 0 x677000 x677001)) else (some (([] : List Int)))
def spec_FirstBreak.l1 : Nat → Int → List Int → Int → Int → ByteArray → Option (List Int)
 | 0, _, _, _, _, _ => none
 | k + 1, x3, x4, x5, x677000, x677001 => if x5 < (x4.length : Int) then (spec_FirstBreak.l2 k x3 x4 x5 (wrap64 (x5 + 1)) x677000 x677001) else (spec_FirstBreak.l0 k (wrap64 (x3 + 1)) x677000 x677001)
def spec_FirstBreak.l2 : Nat → Int → List Int → Int → Int → Int → ByteArray → Option (List Int)
 | 0, _, _, _, _, _, _ => none
 | k + 1, x3, x4, x5, x6, x677000, x677001 => if x6 < (x4.length : Int) then (spec_FirstBreak.l3 k x3 x4 x5 x6 (wrap64 (x6 + 1)) x677000 x677001) else (spec_FirstBreak.l1 k x3 x4 (wrap64 (x5 + 1)) x677000 x677001)
def spec_FirstBreak.l3 : Nat → Int → List Int → Int → Int → Int → Int → ByteArray → Option (List Int)
 | 0, _, _, _, _, _, _, _ => none
 | k + 1, x3, x4, x5, x6, x7, x677000, x677001 => if x7 < (x4.length : Int) then (spec_FirstBreak.l4 k x3 x4 x5 x6 x7 (wrap64 (x7 + 1)) x677000 x677001) else (spec_FirstBreak.l2 k x3 x4 x5 (wrap64 (x6 + 1)) x677000 x677001)
def spec_FirstBreak.l4 : Nat → Int → List Int → Int → Int → Int → Int → Int → ByteArray → Option (List Int)
 | 0, _, _, _, _, _, _, _, _ => none
 | k + 1, x3, x4, x5, x6, x7, x8, x677000, x677001 => if x8 < (x4.length : Int) then (if 0 ≤ x5 then (if x5 < (x4.length : Int) then (if 0 ≤ x6 then (if x6 < (x4.length : Int) then (if 0 ≤ x7 then (if x7 < (x4.length : Int) then (if 0 ≤ x8 then ((spec_l4Breaks.f k x677000 x677001 x3 (rd x4 x5) (rd x4 x6) (rd x4 x7) (rd x4 x8)).bind fun t688 => (if t688 = true then (some (([x3, rd x4 x5, rd x4 x6, rd x4 x7, rd x4 x8] : List Int))) else (spec_FirstBreak.l4 k x3 x4 x5 x6 x7 (wrap64 (x8 + 1)) x677000 x677001))) else (none)) else (none)) else (none)) else (none)) else (none)) else (none)) else (none)) else (spec_FirstBreak.l3 k x3 x4 x5 x6 (wrap64 (x7 + 1)) x677000 x677001)
end
def spec_FirstBreak.f (k : Nat) (a0_0 : Int) (a0_1 : ByteArray) : Option (List Int) := spec_FirstBreak.l0 k 0 a0_0 a0_1
def spec_FirstBreak.T17 : Bool × List (List Nat × List Nat) := (true, [([], []), ([], []), ([], []), ([], []), ([2, 3], [2, 3]), ([4], [4]), ([], []), ([], []), ([6, 7], [6, 7]), ([8], [8]), ([], []), ([], []), ([10, 11], [10, 11]), ([12], [12]), ([], []), ([], []), ([14, 15], [14, 15]), ([16], [16]), ([0, 1, 5, 9, 13, 17], [0, 1, 5, 9, 13, 17])])
def spec_FirstBreak.B17 : List Nat := [0, 0, 0, 0, 12, 28, 0, 0, 192, 448, 0, 0, 3072, 7168, 0, 0, 49152, 114688, 262143]
theorem spec_FirstBreak.tab17 : rtab .any (opsOf Try.f138 17) = spec_FirstBreak.T17 := by kernel_rfl
theorem spec_FirstBreak.bits17 : waitsOk spec_FirstBreak.T17.2 spec_FirstBreak.B17 = true := by kernel_rfl
def spec_FirstBreak.T18 : Bool × List (List Nat × List Nat) := (true, [([], []), ([], []), ([], []), ([1, 2], [1, 2]), ([3], [3]), ([], []), ([], []), ([5, 6], [5, 6]), ([7], [7]), ([], []), ([], []), ([9, 10], [9, 10]), ([11], [11]), ([], []), ([], []), ([13, 14], [13, 14]), ([15], [15]), ([0, 4, 8, 12, 16], [0, 4, 8, 12, 16]), ([17, 0, 1, 2, 3, 4, 5, 6, 7, 8, 9, 10, 11, 12, 13, 14, 15, 16, 17], [17])])
def spec_FirstBreak.B18 : List Nat := [0, 0, 0, 6, 14, 0, 0, 96, 224, 0, 0, 1536, 3584, 0, 0, 24576, 57344, 131071, 262143]
theorem spec_FirstBreak.tab18 : rtab .any (opsOf Try.f138 18) = spec_FirstBreak.T18 := by kernel_rfl
theorem spec_FirstBreak.bits18 : waitsOk spec_FirstBreak.T18.2 spec_FirstBreak.B18 = true := by kernel_rfl
set_option maxHeartbeats 8000000 in
set_option maxRecDepth 100000 in
theorem spec_FirstBreak.calls (k : Nat) (a0_0 : Int) (a0_1 : ByteArray) (r : List Int) (w : World) (h : spec_FirstBreak.f k a0_0 a0_1 = some r) :
  Calls Try.prog 138 #[.agg #[.int .i64 a0_0, .string a0_1]] w fun e w' => ∃ v0_ : Value, e = .returned (v0_) ∧ Kd.R (Kd.int .i64) 3 w' w.heap.size (fun _ => True) v0_ r ∧ Below w.heap.size w w' := by
 have hu31 := Try.underlying31; have HB := am_ (Below.refl w.heap.size w); have H : (spec_FirstBreak.l0 k 0 a0_0 a0_1) = some r := h; clear h; have H' := am_ H; clear H; go_enter Try.func138, Try.ntmps138
 go_wp2_with (first | ((with_reducible refine gd_ 1 rfl ?_); refine be_ 1 #[.int .i64 a0_0, .string a0_1] 31 ?_; intro gb676 hg w2 hbox hb; have BK676 := am_ hbox; have GW676 := gw0_ HB hg; have GE676 := GW676; replace HB := bs0_ HB hb; clear hb hbox hg))
 go_loopg [3] k (fun kq v3 w' => ∃ (x3_1 : Int), v3 = .int .i64 x3_1 ∧ Aside0 (spec_FirstBreak.l0 kq x3_1 a0_0 a0_1 = some r) ∧ Aside0 (kq ≤ k) ∧ Aside0 (w'.heap[gb676]? = some (.cells #[.int .i64 a0_0, .string a0_1] 31 (0, 0))) ∧ Aside0 (Below w.heap.size w w'))
 case atStart => exact ⟨(0), vt_, H', ⟨Nat.le_refl _⟩, kX_ BK676, bX1_ HB GE676⟩
 case round =>
  clear H'; obtain ⟨x3_1, rfl, HA, HK1, BK676, HB⟩ := hrel; cases gk with
  | zero => exact absurd HA.out (by simp [spec_FirstBreak.l0])
  | succ k1 =>
   have H := HA.out; clear HA; simp only [spec_FirstBreak.l0] at H
   have HC3 := am_ H; clear H; go_upto_region 2 with (fail)
   go_cut [16] (fun v16 wc => ∃ (kq : Nat) (x16_2 : Bool), v16 = .bool x16_2 ∧ Aside0 (spec_FirstBreak.j1 kq x3_1 x16_2 a0_0 a0_1 = some r) ∧ Aside0 (kq ≤ k1) ∧ Aside0 (wc.heap[gb676]? = some (.cells #[.int .i64 a0_0, .string a0_1] 31 (0, 0))) ∧ Aside0 (Below w.heap.size w wc))
   case first =>
    have H := HC3.out; clear HC3; by_cases c4 : x3_1 < a0_0
    ·rw [if_pos c4] at H; have c4b0 := decide_eq_true c4; clear c4; (first | rw [c4b0] | (simp only [i64_w, i32_w]; rw [c4b0]) | skip)
     obtain ⟨t677, A5, H⟩ := bnd_ H; have H' := am_ H; clear H; obtain ⟨hcz6_0, hfz6_0, hcz6_1, hfz6_1⟩ := bk2_ BK676; go_wp2_with (first | (go_at_call 137; (with_reducible refine (spec_AreSigns.calls k1 a0_0 a0_1 t677 _ A5.out).mono ?_); rintro e w7 ⟨rfl, hb⟩; replace BK676 := bb_ BK676 hb; replace HB := bs1_ HB hb GE676; try clear hb))
     go_meet
     case rel => exact ⟨_, (t677), vt_, H', ⟨by have := HK1.out; first | omega | exact Nat.le_refl _⟩, kX_ BK676, bX1_ HB GE676⟩
    ·rw [if_neg c4] at H; have c4b0 := decide_eq_false c4; clear c4; (first | rw [c4b0] | (simp only [i64_w, i32_w]; rw [c4b0]) | skip)
     have H' := am_ H; clear H; obtain ⟨hcz8_0, hfz8_0, hcz8_1, hfz8_1⟩ := bk2_ BK676; go_wp2; go_meet
     case rel => exact ⟨_, (false), vt_, H', ⟨by have := HK1.out; first | omega | exact Nat.le_refl _⟩, kX_ BK676, bX1_ HB GE676⟩
   case rest =>
    clear HC3; obtain ⟨kq, x16_2, rfl, HA, HJ2, BK676, HB⟩ := hcut; cases kq with
    | zero => exact absurd HA.out (by simp [spec_FirstBreak.j1])
    | succ kj2 =>
     have H := HA.out; clear HA; simp only [spec_FirstBreak.j1] at H
     by_cases c9 : x16_2 = true
     ·subst c9; replace H := ifT_ H; obtain ⟨t681, A10, H⟩ := bnd_ H; have H' := am_ H; clear H; obtain ⟨hcz11_0, hfz11_0, hcz11_1, hfz11_1⟩ := bk2_ BK676; go_wp2_with (first | ((with_reducible refine gc_ 189 rfl ?_); refine gR_ (some 22) Try.func189 #[.int .i64 a0_0, .int .i64 x3_1] (spec_l3Others.calls kj2 a0_0 x3_1 t681 _ A10.out) ?_; intro w12 v682 ho0 hb; have HO683 := rl1_ ho0 HB GE676; replace BK676 := bb_ BK676 hb; replace HB := bs1_ HB hb GE676; try clear hb; (try clear ho0)))
      go_loopg [5] kj2 (fun kq v5 w' => ∃ (x5_3 : Int), v5 = .int .i64 x5_3 ∧ Aside0 (spec_FirstBreak.l1 kq x3_1 t681 x5_3 a0_0 a0_1 = some r) ∧ Aside0 (kq ≤ kj2) ∧ Aside0 (Kd.R (Kd.int .i64) 3 w' w.heap.size (fun _ => True) v682 t681) ∧ Aside0 (w'.heap[gb676]? = some (.cells #[.int .i64 a0_0, .string a0_1] 31 (0, 0))) ∧ Aside0 (Below w.heap.size w w'))
      case atStart => exact ⟨(0), vt_, H', ⟨Nat.le_refl _⟩, rX_ HO683, kX_ BK676, bX1_ HB GE676⟩
      case round =>
       clear H'; try clear c9 hcz11_0 hcz11_1 hfz11_0 hfz11_1
       obtain ⟨x5_3, rfl, HA, HK3, HO_4, BK676, HB⟩ := hrel; cases gk with
       | zero => exact absurd HA.out (by simp [spec_FirstBreak.l1])
       | succ k3 =>
        have H := HA.out; clear HA; simp only [spec_FirstBreak.l1] at H
        by_cases c13 : x5_3 < (t681.length : Int)
        ·rw [if_pos c13] at H; have c13b0 := decide_eq_true c13; clear c13; have H' := am_ H; clear H; obtain ⟨Ao14, co14, eo14⟩ := Kd.R_slice HO_4.out; subst eo14; go_wp2; go_loopg [6] k3 (fun kq v6 w' => ∃ (x6_4 : Int), v6 = .int .i64 x6_4 ∧ Aside0 (spec_FirstBreak.l2 kq x3_1 t681 x5_3 x6_4 a0_0 a0_1 = some r) ∧ Aside0 (kq ≤ k3) ∧ Aside0 (Kd.R (Kd.int .i64) 3 w' w.heap.size (fun _ => True) (.slice Ao14 t681.length co14) t681) ∧ Aside0 (w'.heap[gb676]? = some (.cells #[.int .i64 a0_0, .string a0_1] 31 (0, 0))) ∧ Aside0 (Below w.heap.size w w'))
         case atStart => exact ⟨(wrap64 (x5_3 + 1)), vt_, H', ⟨Nat.le_refl _⟩, rX_ HO_4, kX_ BK676, bX1_ HB GE676⟩
         case round =>
          clear H'; try clear c9 c13b0 hcz11_0 hcz11_1 hfz11_0 hfz11_1
          obtain ⟨x6_4, rfl, HA, HK4, HO_4, BK676, HB⟩ := hrel; cases gk with
          | zero => exact absurd HA.out (by simp [spec_FirstBreak.l2])
          | succ k4 =>
           have H := HA.out; clear HA; simp only [spec_FirstBreak.l2] at H
           by_cases c15 : x6_4 < (t681.length : Int)
           ·rw [if_pos c15] at H; have c15b0 := decide_eq_true c15; clear c15; have H' := am_ H; clear H; go_wp2; go_loopg [7] k4 (fun kq v7 w' => ∃ (x7_5 : Int), v7 = .int .i64 x7_5 ∧ Aside0 (spec_FirstBreak.l3 kq x3_1 t681 x5_3 x6_4 x7_5 a0_0 a0_1 = some r) ∧ Aside0 (kq ≤ k4) ∧ Aside0 (Kd.R (Kd.int .i64) 3 w' w.heap.size (fun _ => True) (.slice Ao14 t681.length co14) t681) ∧ Aside0 (w'.heap[gb676]? = some (.cells #[.int .i64 a0_0, .string a0_1] 31 (0, 0))) ∧ Aside0 (Below w.heap.size w w'))
            case atStart => exact ⟨(wrap64 (x6_4 + 1)), vt_, H', ⟨Nat.le_refl _⟩, rX_ HO_4, kX_ BK676, bX1_ HB GE676⟩
            case round =>
             clear H'; try clear c9 c13b0 c15b0 hcz11_0 hcz11_1 hfz11_0 hfz11_1
             obtain ⟨x7_5, rfl, HA, HK5, HO_4, BK676, HB⟩ := hrel; cases gk with
             | zero => exact absurd HA.out (by simp [spec_FirstBreak.l3])
             | succ k5 =>
              have H := HA.out; clear HA; simp only [spec_FirstBreak.l3] at H
              by_cases c16 : x7_5 < (t681.length : Int)
              ·rw [if_pos c16] at H; have c16b0 := decide_eq_true c16; clear c16; have H' := am_ H; clear H; go_wp2; go_loopg [8] k5 (fun kq v8 w' => ∃ (x8_6 : Int), v8 = .int .i64 x8_6 ∧ Aside0 (spec_FirstBreak.l4 kq x3_1 t681 x5_3 x6_4 x7_5 x8_6 a0_0 a0_1 = some r) ∧ Aside0 (kq ≤ k5) ∧ Aside0 (Kd.R (Kd.int .i64) 3 w' w.heap.size (fun _ => True) (.slice Ao14 t681.length co14) t681) ∧ Aside0 (w'.heap[gb676]? = some (.cells #[.int .i64 a0_0, .string a0_1] 31 (0, 0))) ∧ Aside0 (Below w.heap.size w w'))
               case atStart => exact ⟨(wrap64 (x7_5 + 1)), vt_, H', ⟨Nat.le_refl _⟩, rX_ HO_4, kX_ BK676, bX1_ HB GE676⟩
               case round =>
                clear H'; try clear c9 c13b0 c15b0 c16b0 hcz11_0 hcz11_1 hfz11_0 hfz11_1
                obtain ⟨x8_6, rfl, HA, HK6, HO_4, BK676, HB⟩ := hrel; cases gk with
                | zero => exact absurd HA.out (by simp [spec_FirstBreak.l4])
                | succ k6 =>
                 have H := HA.out; clear HA; simp only [spec_FirstBreak.l4] at H
                 by_cases c17 : x8_6 < (t681.length : Int)
                 ·rw [if_pos c17] at H; have c17b0 := decide_eq_true c17; clear c17; by_cases c18 : 0 ≤ x5_3
                  ·rw [if_pos c18] at H; have c18b0 := decide_eq_true c18; clear c18; by_cases c19 : x5_3 < (t681.length : Int)
                   ·rw [if_pos c19] at H; have c19b0 := decide_eq_true c19; clear c19; by_cases c20 : 0 ≤ x6_4
                    ·rw [if_pos c20] at H; have c20b0 := decide_eq_true c20; clear c20; by_cases c21 : x6_4 < (t681.length : Int)
                     ·rw [if_pos c21] at H; have c21b0 := decide_eq_true c21; clear c21; by_cases c22 : 0 ≤ x7_5
                      ·rw [if_pos c22] at H; have c22b0 := decide_eq_true c22; clear c22; by_cases c23 : x7_5 < (t681.length : Int)
                       ·rw [if_pos c23] at H; have c23b0 := decide_eq_true c23; clear c23; by_cases c24 : 0 ≤ x8_6
                        ·rw [if_pos c24] at H; have c24b0 := decide_eq_true c24; clear c24; obtain ⟨t688, A25, H⟩ := bnd_ H; by_cases c26 : t688 = true
                         ·subst c26; replace H := ifT_ H; obtain ⟨y693, hy693⟩ : ∃ y_ : List Int, y_ = (([x3_1, rd t681 x5_3, rd t681 x6_4, rd t681 x7_5, rd t681 x8_6] : List Int)) := ⟨_, rfl⟩; replace H : (some y693) = some r := yH_ hy693 H; have Ny693 := am_ hy693; clear hy693; obtain rfl := Option.some.inj H; try go_wp2
                          replace HO_4 := am_ (Kd.R_drew HO_4.out); replace BK676 := am_ (blk_drew BK676.out); replace HB := bd_ HB; have p684 : 0 ≤ (x5_3 : Int) := oda_; have q684 : x5_3 < (t681.length : Int) := oda_; obtain ⟨ad684, e684, hx684_0⟩ := Kd.at_int (Kd.R_reads' HO_4.out).2.2 x5_3 p684 q684; cases e684; replace p684 := eq_true p684; replace q684 := eq_true q684; have p685 : 0 ≤ (x6_4 : Int) := oda_; have q685 : x6_4 < (t681.length : Int) := oda_; obtain ⟨ad685, e685, hx685_0⟩ := Kd.at_int (Kd.R_reads' HO_4.out).2.2 x6_4 p685 q685; obtain rfl : ad684 = ad685 := (by injection e685); replace p685 := eq_true p685; replace q685 := eq_true q685; have p686 : 0 ≤ (x7_5 : Int) := oda_; have q686 : x7_5 < (t681.length : Int) := oda_; obtain ⟨ad686, e686, hx686_0⟩ := Kd.at_int (Kd.R_reads' HO_4.out).2.2 x7_5 p686 q686; obtain rfl : ad684 = ad686 := (by injection e686); replace p686 := eq_true p686; replace q686 := eq_true q686; have p687 : 0 ≤ (x8_6 : Int) := oda_; have q687 : x8_6 < (t681.length : Int) := oda_; obtain ⟨ad687, e687, hx687_0⟩ := Kd.at_int (Kd.R_reads' HO_4.out).2.2 x8_6 p687 q687; obtain rfl : ad684 = ad687 := (by injection e687); replace p687 := eq_true p687; replace q687 := eq_true q687; refine start_ (n := 19) (S := fun w' => w'.cell? ⟨gb676, 0, none⟩ = some (.int .i64 a0_0) ∧ w'.cell? ⟨gb676, 1, none⟩ = some (.string a0_1) ∧ w'.cell? (ad684.add (x5_3).toNat) = some (.int .i64 (rd t681 x5_3)) ∧ w'.cell? (ad684.add (x6_4).toNat) = some (.int .i64 (rd t681 x6_4)) ∧ w'.cell? (ad684.add (x7_5).toNat) = some (.int .i64 (rd t681 x7_5)) ∧ w'.cell? (ad684.add (x8_6).toNat) = some (.int .i64 (rd t681 x8_6))) (ds := []) #[false, false, false, false, false, false, false, false, false, false, false, false, false, false, false, false, false, false, false] (by kernel_rfl) rfl rfl ⟨c0_ BK676, c1_ BK676, hx684_0, hx685_0, hx686_0, hx687_0⟩ (fun hHeld => ?_); refine with_tabW spec_FirstBreak.tab17 spec_FirstBreak.bits17 (fun HT_ HW_ => ?_)
                          generalize wr.drew = w27 at HO_4 BK676 HB hx684_0 hx685_0 hx686_0 hx687_0 hHeld ⊢
                          refine pD_ 1 (some 54) HT_ (h := ?_); refine pD_ 2 (some 55) HT_ (h := ?_); refine pD_ 3 (some 56) HT_ (h := ?_); refine pD_ 4 (some 57) HT_ (h := ?_); refine pD_ 6 (some 59) HT_ (h := ?_); refine pD_ 7 (some 60) HT_ (h := ?_); refine pD_ 8 (some 61) HT_ (h := ?_); refine pD_ 10 (some 63) HT_ (h := ?_); refine pD_ 11 (some 64) HT_ (h := ?_); refine pD_ 12 (some 65) HT_ (h := ?_); refine pD_ 14 (some 67) HT_ (h := ?_); refine pD_ 15 (some 68) HT_ (h := ?_); refine pD_ 16 (some 69) HT_ (h := ?_); refine tD6_ 0 (some 53) HT_ HW_ hHeld (h := ?_); refine tD6_ 5 (some 58) HT_ HW_ hHeld (h := ?_); refine tD6_ 9 (some 62) HT_ HW_ hHeld (h := ?_); refine tD6_ 13 (some 66) HT_ HW_ hHeld (h := ?_); refine tD6_ 17 (some 70) HT_ HW_ hHeld (h := ?_); refine oN_ 18 (some 71) HT_ (fun K hK => ?_); refine gO_ Try.func190 #[.agg #[.int .i64 a0_0, .string a0_1], .int .i64 x3_1, .int .i64 (rd t681 x5_3), .int .i64 (rd t681 x6_4), .int .i64 (rd t681 x7_5), .int .i64 (rd t681 x8_6)] ?_; with_reducible refine (spec_l4Breaks.calls k6 a0_0 a0_1 x3_1 (rd t681 x5_3) (rd t681 x6_4) (rd t681 x7_5) (rd t681 x8_6) true _ A25.out).mono ?_
                          rintro e w28 ⟨rfl, hb⟩; have HS2_ := (hb.cell (World.block_lt_of_cell? _ _ (hHeld.2.2.1))).trans (hHeld.2.2.1); have HS3_ := (hb.cell (World.block_lt_of_cell? _ _ (hHeld.2.2.2.1))).trans (hHeld.2.2.2.1); have HS4_ := (hb.cell (World.block_lt_of_cell? _ _ (hHeld.2.2.2.2.1))).trans (hHeld.2.2.2.2.1); have HS5_ := (hb.cell (World.block_lt_of_cell? _ _ (hHeld.2.2.2.2.2))).trans (hHeld.2.2.2.2.2); refine ⟨_, rfl, ?_⟩; replace HO_4 := rb_ HO_4 hb; replace BK676 := bb_ BK676 hb; replace HB := bs1_ HB hb GE676; try clear hb
                          refine hK.out _ _ ⟨c0_ BK676, c1_ BK676, HS2_, HS3_, HS4_, HS5_⟩ (fun hHeld => ?_); clear hK K; refine nm_ 71 (h := ?_); refine done_ (done_of HT_.out (by kernel_rfl)) ?_; try go_wp2
                          replace HO_4 := am_ (Kd.R_drew HO_4.out); replace BK676 := am_ (blk_drew BK676.out); replace HB := bd_ HB; have p689 : 0 ≤ (x5_3 : Int) := oda_; have q689 : x5_3 < (t681.length : Int) := oda_; obtain ⟨ad689, e689, hx689_0⟩ := Kd.at_int (Kd.R_reads' HO_4.out).2.2 x5_3 p689 q689; obtain rfl : ad684 = ad689 := (by injection e689); replace p689 := eq_true p689; replace q689 := eq_true q689; have p690 : 0 ≤ (x6_4 : Int) := oda_; have q690 : x6_4 < (t681.length : Int) := oda_; obtain ⟨ad690, e690, hx690_0⟩ := Kd.at_int (Kd.R_reads' HO_4.out).2.2 x6_4 p690 q690; obtain rfl : ad684 = ad690 := (by injection e690); replace p690 := eq_true p690; replace q690 := eq_true q690; have p691 : 0 ≤ (x7_5 : Int) := oda_; have q691 : x7_5 < (t681.length : Int) := oda_; obtain ⟨ad691, e691, hx691_0⟩ := Kd.at_int (Kd.R_reads' HO_4.out).2.2 x7_5 p691 q691; obtain rfl : ad684 = ad691 := (by injection e691); replace p691 := eq_true p691; replace q691 := eq_true q691; have p692 : 0 ≤ (x8_6 : Int) := oda_; have q692 : x8_6 < (t681.length : Int) := oda_; obtain ⟨ad692, e692, hx692_0⟩ := Kd.at_int (Kd.R_reads' HO_4.out).2.2 x8_6 p692 q692; obtain rfl : ad684 = ad692 := (by injection e692); replace p692 := eq_true p692; replace q692 := eq_true q692; refine start_ (n := 19) (S := fun w' => w'.cell? (ad684.add (x5_3).toNat) = some (.int .i64 (rd t681 x5_3)) ∧ w'.cell? (ad684.add (x6_4).toNat) = some (.int .i64 (rd t681 x6_4)) ∧ w'.cell? (ad684.add (x7_5).toNat) = some (.int .i64 (rd t681 x7_5)) ∧ w'.cell? (ad684.add (x8_6).toNat) = some (.int .i64 (rd t681 x8_6))) (ds := []) #[false, false, false, false, false, false, false, false, false, false, false, false, false, false, false, false, false, false, false] (by kernel_rfl) rfl rfl ⟨hx689_0, hx690_0, hx691_0, hx692_0⟩ (fun hHeld => ?_); refine with_tabW spec_FirstBreak.tab18 spec_FirstBreak.bits18 (fun HT_ HW_ => ?_); generalize w28.drew = w29 at HO_4 BK676 HB hx689_0 hx690_0 hx691_0 hx692_0 hHeld ⊢
                          refine pD_ 0 (some 72) HT_ (h := ?_); refine pD_ 1 (some 73) HT_ (h := ?_); refine pD_ 2 (some 74) HT_ (h := ?_); refine pD_ 3 (some 75) HT_ (h := ?_); refine pD_ 5 (some 77) HT_ (h := ?_); refine pD_ 6 (some 78) HT_ (h := ?_); refine pD_ 7 (some 79) HT_ (h := ?_); refine pD_ 9 (some 81) HT_ (h := ?_); refine pD_ 10 (some 82) HT_ (h := ?_); refine pD_ 11 (some 83) HT_ (h := ?_); refine pD_ 13 (some 85) HT_ (h := ?_); refine pD_ 14 (some 86) HT_ (h := ?_); refine pD_ 15 (some 87) HT_ (h := ?_); refine tD4_ 4 (some 76) HT_ HW_ hHeld (h := ?_); refine tD4_ 8 (some 80) HT_ HW_ hHeld (h := ?_); refine tD4_ 12 (some 84) HT_ HW_ hHeld (h := ?_); refine tD4_ 16 (some 88) HT_ HW_ hHeld (h := ?_); refine oN_ 17 (some 89) HT_ (fun K hK => ?_); refine Kd.R_lit_step (Kd.int .i64) _ 3 ?hg (N := 89) ?hd (xs := ([x3_1, rd t681 x5_3, rd t681 x6_4, rd t681 x7_5, rd t681 x8_6] : List Int)) (inner := [.int .i64 x3_1, .int .i64 (rd t681 x5_3), .int .i64 (rd t681 x6_4), .int .i64 (rd t681 x7_5), .int .i64 (rd t681 x8_6)]) (ok := fun _ => True) (okp := fun _ => True) ?hr ?hp (fun _ hk => hk) trivial (Below.refl _ _) (Nat.le_refl _) (by simp) ?_; (case hd => rfl); (case hg => rfl); (case hr => first | (go_simp; done) | (go_simp; rfl)); (case hp => exact (Reps.one (show Kd.M (Kd.int .i64) _ _ _ x3_1 [.int .i64 x3_1] from rfl) (Reps.one (show Kd.M (Kd.int .i64) _ _ _ (rd t681 x5_3) [.int .i64 (rd t681 x5_3)] from rfl) (Reps.one (show Kd.M (Kd.int .i64) _ _ _ (rd t681 x6_4) [.int .i64 (rd t681 x6_4)] from rfl) (Reps.one (show Kd.M (Kd.int .i64) _ _ _ (rd t681 x7_5) [.int .i64 (rd t681 x7_5)] from rfl) (Reps.one (show Kd.M (Kd.int .i64) _ _ _ (rd t681 x8_6) [.int .i64 (rd t681 x8_6)] from rfl) (Reps.none _ _))))))); intro v694 w30 ho31 hb hg_ hnew_; have HS0_ := (hb.cell (World.block_lt_of_cell? _ _ (hHeld.1))).trans (hHeld.1); have HS1_ := (hb.cell (World.block_lt_of_cell? _ _ (hHeld.2.1))).trans (hHeld.2.1); have HS2_ := (hb.cell (World.block_lt_of_cell? _ _ (hHeld.2.2.1))).trans (hHeld.2.2.1)
                          have HS3_ := (hb.cell (World.block_lt_of_cell? _ _ (hHeld.2.2.2))).trans (hHeld.2.2.2); clear hg_ hnew_; (first | rw [← Ny693.out] at ho31 | (simp only [Int.reduceToNat] at ho31; rw [← Ny693.out] at ho31))
                          have HO695 := am_ (Kd.R_lower (Kd.R_new' ho31 (Kd.R_lt (rx_ HO_4.out))) (below_size (bx1 HB.out GE676.out))); replace HO_4 := re_ HO_4 ho31 hb; replace BK676 := bb_ BK676 hb; replace HB := bs1_ HB hb GE676; clear hb ho31; refine hK.out _ _ ⟨HS0_, HS1_, HS2_, HS3_⟩ (fun hHeld => ?_); clear hK K; refine nm_ 89 (h := ?_); refine pD_ 18 (some 2) HT_ (h := ?_); refine done_ (done_of HT_.out (by kernel_rfl)) ?_; try go_wp2
                          go_ret; exact ⟨_, by first | rfl | (simp [errW_none, errW_some] <;> rfl) | (simp [*, errW_none, errW_some] <;> rfl), by refine rx_ ?_; exact Kd.R_mono HO695.out (fun _ hk => trivial), bx1 HB.out GE676.out⟩
                         ·replace c26 := Bool.eq_false_iff.mpr c26; subst c26; replace H := ifF_ H; have H' := am_ H; clear H; try go_wp2
                          replace HO_4 := am_ (Kd.R_drew HO_4.out); replace BK676 := am_ (blk_drew BK676.out); replace HB := bd_ HB; have p684 : 0 ≤ (x5_3 : Int) := oda_; have q684 : x5_3 < (t681.length : Int) := oda_; obtain ⟨ad684, e684, hx684_0⟩ := Kd.at_int (Kd.R_reads' HO_4.out).2.2 x5_3 p684 q684; cases e684; replace p684 := eq_true p684; replace q684 := eq_true q684; have p685 : 0 ≤ (x6_4 : Int) := oda_; have q685 : x6_4 < (t681.length : Int) := oda_; obtain ⟨ad685, e685, hx685_0⟩ := Kd.at_int (Kd.R_reads' HO_4.out).2.2 x6_4 p685 q685; obtain rfl : ad684 = ad685 := (by injection e685); replace p685 := eq_true p685; replace q685 := eq_true q685; have p686 : 0 ≤ (x7_5 : Int) := oda_; have q686 : x7_5 < (t681.length : Int) := oda_; obtain ⟨ad686, e686, hx686_0⟩ := Kd.at_int (Kd.R_reads' HO_4.out).2.2 x7_5 p686 q686; obtain rfl : ad684 = ad686 := (by injection e686); replace p686 := eq_true p686; replace q686 := eq_true q686; have p687 : 0 ≤ (x8_6 : Int) := oda_; have q687 : x8_6 < (t681.length : Int) := oda_; obtain ⟨ad687, e687, hx687_0⟩ := Kd.at_int (Kd.R_reads' HO_4.out).2.2 x8_6 p687 q687; obtain rfl : ad684 = ad687 := (by injection e687); replace p687 := eq_true p687; replace q687 := eq_true q687; refine start_ (n := 19) (S := fun w' => w'.cell? ⟨gb676, 0, none⟩ = some (.int .i64 a0_0) ∧ w'.cell? ⟨gb676, 1, none⟩ = some (.string a0_1) ∧ w'.cell? (ad684.add (x5_3).toNat) = some (.int .i64 (rd t681 x5_3)) ∧ w'.cell? (ad684.add (x6_4).toNat) = some (.int .i64 (rd t681 x6_4)) ∧ w'.cell? (ad684.add (x7_5).toNat) = some (.int .i64 (rd t681 x7_5)) ∧ w'.cell? (ad684.add (x8_6).toNat) = some (.int .i64 (rd t681 x8_6))) (ds := []) #[false, false, false, false, false, false, false, false, false, false, false, false, false, false, false, false, false, false, false] (by kernel_rfl) rfl rfl ⟨c0_ BK676, c1_ BK676, hx684_0, hx685_0, hx686_0, hx687_0⟩ (fun hHeld => ?_); refine with_tabW spec_FirstBreak.tab17 spec_FirstBreak.bits17 (fun HT_ HW_ => ?_)
                          generalize wr.drew = w32 at HO_4 BK676 HB hx684_0 hx685_0 hx686_0 hx687_0 hHeld ⊢
                          refine pD_ 1 (some 54) HT_ (h := ?_); refine pD_ 2 (some 55) HT_ (h := ?_); refine pD_ 3 (some 56) HT_ (h := ?_); refine pD_ 4 (some 57) HT_ (h := ?_); refine pD_ 6 (some 59) HT_ (h := ?_); refine pD_ 7 (some 60) HT_ (h := ?_); refine pD_ 8 (some 61) HT_ (h := ?_); refine pD_ 10 (some 63) HT_ (h := ?_); refine pD_ 11 (some 64) HT_ (h := ?_); refine pD_ 12 (some 65) HT_ (h := ?_); refine pD_ 14 (some 67) HT_ (h := ?_); refine pD_ 15 (some 68) HT_ (h := ?_); refine pD_ 16 (some 69) HT_ (h := ?_); refine tD6_ 0 (some 53) HT_ HW_ hHeld (h := ?_); refine tD6_ 5 (some 58) HT_ HW_ hHeld (h := ?_); refine tD6_ 9 (some 62) HT_ HW_ hHeld (h := ?_); refine tD6_ 13 (some 66) HT_ HW_ hHeld (h := ?_); refine tD6_ 17 (some 70) HT_ HW_ hHeld (h := ?_); refine oN_ 18 (some 71) HT_ (fun K hK => ?_); refine gO_ Try.func190 #[.agg #[.int .i64 a0_0, .string a0_1], .int .i64 x3_1, .int .i64 (rd t681 x5_3), .int .i64 (rd t681 x6_4), .int .i64 (rd t681 x7_5), .int .i64 (rd t681 x8_6)] ?_; with_reducible refine (spec_l4Breaks.calls k6 a0_0 a0_1 x3_1 (rd t681 x5_3) (rd t681 x6_4) (rd t681 x7_5) (rd t681 x8_6) false _ A25.out).mono ?_
                          rintro e w33 ⟨rfl, hb⟩; have HS2_ := (hb.cell (World.block_lt_of_cell? _ _ (hHeld.2.2.1))).trans (hHeld.2.2.1); have HS3_ := (hb.cell (World.block_lt_of_cell? _ _ (hHeld.2.2.2.1))).trans (hHeld.2.2.2.1); have HS4_ := (hb.cell (World.block_lt_of_cell? _ _ (hHeld.2.2.2.2.1))).trans (hHeld.2.2.2.2.1); have HS5_ := (hb.cell (World.block_lt_of_cell? _ _ (hHeld.2.2.2.2.2))).trans (hHeld.2.2.2.2.2); refine ⟨_, rfl, ?_⟩; replace HO_4 := rb_ HO_4 hb; replace BK676 := bb_ BK676 hb; replace HB := bs1_ HB hb GE676; try clear hb
                          refine hK.out _ _ ⟨c0_ BK676, c1_ BK676, HS2_, HS3_, HS4_, HS5_⟩ (fun hHeld => ?_); clear hK K; refine nm_ 71 (h := ?_); refine done_ (done_of HT_.out (by kernel_rfl)) ?_; try go_wp2
                          go_roundg k6
                          case measure => have := HK1.out; have := HJ2.out; have := HK3.out; have := HK4.out; have := HK5.out; have := HK6.out; omega
                          case rel => exact ⟨(wrap64 (x8_6 + 1)), vt_, H', ⟨by have := HK1.out; have := HJ2.out; have := HK3.out; have := HK4.out; have := HK5.out; have := HK6.out; omega⟩, rX_ HO_4, kX_ BK676, bX1_ HB GE676⟩
                        ·rw [if_neg c24] at H; exact absurd H (by simp)
                       ·rw [if_neg c23] at H; exact absurd H (by simp)
                      ·rw [if_neg c22] at H; exact absurd H (by simp)
                     ·rw [if_neg c21] at H; exact absurd H (by simp)
                    ·rw [if_neg c20] at H; exact absurd H (by simp)
                   ·rw [if_neg c19] at H; exact absurd H (by simp)
                  ·rw [if_neg c18] at H; exact absurd H (by simp)
                 ·rw [if_neg c17] at H; have c17b0 := decide_eq_false c17; clear c17; have H' := am_ H; clear H; go_wp2; go_roundg k6
                  case measure => have := HK1.out; have := HJ2.out; have := HK3.out; have := HK4.out; have := HK5.out; have := HK6.out; omega
                  case rel => exact ⟨(wrap64 (x7_5 + 1)), vt_, H', ⟨by have := HK1.out; have := HJ2.out; have := HK3.out; have := HK4.out; have := HK5.out; have := HK6.out; omega⟩, rX_ HO_4, kX_ BK676, bX1_ HB GE676⟩
              ·rw [if_neg c16] at H; have c16b0 := decide_eq_false c16; clear c16; have H' := am_ H; clear H; go_wp2; go_roundg k5
               case measure => have := HK1.out; have := HJ2.out; have := HK3.out; have := HK4.out; have := HK5.out; omega
               case rel => exact ⟨(wrap64 (x6_4 + 1)), vt_, H', ⟨by have := HK1.out; have := HJ2.out; have := HK3.out; have := HK4.out; have := HK5.out; omega⟩, rX_ HO_4, kX_ BK676, bX1_ HB GE676⟩
           ·rw [if_neg c15] at H; have c15b0 := decide_eq_false c15; clear c15; have H' := am_ H; clear H; go_wp2; go_roundg k4
            case measure => have := HK1.out; have := HJ2.out; have := HK3.out; have := HK4.out; omega
            case rel => exact ⟨(wrap64 (x5_3 + 1)), vt_, H', hl4_ HK1 HJ2 HK3 HK4, rX_ HO_4, kX_ BK676, bX1_ HB GE676⟩
        ·rw [if_neg c13] at H; have c13b0 := decide_eq_false c13; clear c13; have H' := am_ H; clear H; obtain ⟨Ao34, co34, eo34⟩ := Kd.R_slice HO_4.out; subst eo34; go_wp2; go_roundg k3
         case measure => have := HK1.out; have := HJ2.out; have := HK3.out; omega
         case rel => exact ⟨(wrap64 (x3_1 + 1)), vt_, H', hl3_ HK1 HJ2 HK3, kX_ BK676, bX1_ HB GE676⟩
     ·replace c9 := Bool.eq_false_iff.mpr c9; subst c9; replace H := ifF_ H; obtain ⟨y678, hy678⟩ : ∃ y_ : List Int, y_ = (([] : List Int)) := ⟨_, rfl⟩; replace H : (some y678) = some r := yH_ hy678 H; have Ny678 := am_ hy678; clear hy678; obtain rfl := Option.some.inj H; go_wp2_with (first | ((with_reducible refine gd_ 90 rfl ?_); refine Kd.R_lit (Kd.int .i64) _ 3 ?hg (N := 90) ?hd (xs := ([] : List Int)) (inner := []) (ok := fun _ => True) (okp := fun _ => True) ?hr ?hp (fun _ hk => hk) trivial (Below.refl _ _) (Nat.le_refl _) (by simp) ?_; (case hd => rfl); (case hg => rfl); (case hr => first | (go_simp; done) | (go_simp; rfl)); (case hp => exact (Reps.none _ _)); intro v679 w35 ho36 hb hg_ hnew_; clear hg_ hnew_; (first | rw [← Ny678.out] at ho36 | (simp only [Int.reduceToNat] at ho36; rw [← Ny678.out] at ho36)); have HO680 := rl1_ ho36 HB GE676; replace BK676 := bb_ BK676 hb; replace HB := bs1_ HB hb GE676; clear hb ho36))
      go_ret; exact ⟨_, by first | rfl | (simp [errW_none, errW_some] <;> rfl) | (simp [*, errW_none, errW_some] <;> rfl), rx_ HO680.out, bx1 HB.out GE676.out⟩
def spec_IsMatroid.f (k : Nat) (a0_0 : Int) (a0_1 : ByteArray) : Option (Bool) := (spec_AreSigns.f k a0_0 a0_1).bind fun t697 => (if t697 = true then ((spec_FirstBreak.f k a0_0 a0_1).bind fun t698 => (some ((t698.length : Int) == 0))) else (some false))
set_option maxHeartbeats 8000000 in
set_option maxRecDepth 100000 in
theorem spec_IsMatroid.calls (k : Nat) (a0_0 : Int) (a0_1 : ByteArray) (r : Bool) (w : World) (h : spec_IsMatroid.f k a0_0 a0_1 = some r) :
  Calls Try.prog 61 #[.agg #[.int .i64 a0_0, .string a0_1]] w fun e w' => e = .returned (.bool r) ∧ Below w.heap.size w w' := by
 have hu31 := Try.underlying31; have HB := am_ (Below.refl w.heap.size w); have H : ((spec_AreSigns.f k a0_0 a0_1).bind fun t697 => (if t697 = true then ((spec_FirstBreak.f k a0_0 a0_1).bind fun t698 => (some ((t698.length : Int) == 0))) else (some false))) = some r := h; clear h; obtain ⟨t697, A2, H⟩ := bnd_ H; by_cases c3 : t697 = true
 ·subst c3; replace H := ifT_ H; obtain ⟨t698, A4, H⟩ := bnd_ H; obtain rfl := Option.some.inj H; go_enter Try.func61, Try.ntmps61
  go_wp2_with (first | ((with_reducible refine gd_ 1 rfl ?_); (try (refine gate_guard (by rfl) ?_; dsimp only)); refine be_ 1 #[.int .i64 a0_0, .string a0_1] 31 ?_; intro gb696 hg w5 hbox hb; have BK696 := am_ hbox; have GW696 := gw0_ HB hg; have GE696 := GW696; replace HB := bs0_ HB hb; clear hb hbox hg; obtain ⟨hcz6_0, hfz6_0, hcz6_1, hfz6_1⟩ := bk2_ BK696) | ((with_reducible refine gc_ 137 rfl ?_); refine gB_ (some 4) Try.func137 #[.agg #[.int .i64 a0_0, .string a0_1]] (spec_AreSigns.calls k a0_0 a0_1 true _ A2.out) ?_; intro w7 hb; replace BK696 := bb_ BK696 hb; replace HB := bs1_ HB hb GE696; try clear hb; obtain ⟨hcz8_0, hfz8_0, hcz8_1, hfz8_1⟩ := bk2_ BK696) | (go_at_call 138; (with_reducible refine (spec_FirstBreak.calls k a0_0 a0_1 t698 _ A4.out).mono ?_); rintro e w9 ⟨v699, rfl, ho0, hb⟩; have HO700 := rl1_ ho0 HB GE696; replace BK696 := bb_ BK696 hb; replace HB := bs1_ HB hb GE696; try clear hb; (try clear ho0); obtain ⟨Ao10, co10, eo10⟩ := Kd.R_slice HO700.out; subst eo10))
  go_ret; exact ⟨er_, bx1 HB.out GE696.out⟩
 ·replace c3 := Bool.eq_false_iff.mpr c3; subst c3; replace H := ifF_ H; obtain rfl := Option.some.inj H; go_enter Try.func61, Try.ntmps61
  go_wp2_with (first | ((with_reducible refine gd_ 1 rfl ?_); (try (refine gate_guard (by rfl) ?_; dsimp only)); refine be_ 1 #[.int .i64 a0_0, .string a0_1] 31 ?_; intro gb696 hg w11 hbox hb; have BK696 := am_ hbox; have GW696 := gw0_ HB hg; have GE696 := GW696; replace HB := bs0_ HB hb; clear hb hbox hg; obtain ⟨hcz12_0, hfz12_0, hcz12_1, hfz12_1⟩ := bk2_ BK696) | ((with_reducible refine gc_ 137 rfl ?_); refine gB_ (some 4) Try.func137 #[.agg #[.int .i64 a0_0, .string a0_1]] (spec_AreSigns.calls k a0_0 a0_1 false _ A2.out) ?_; intro w13 hb; replace BK696 := bb_ BK696 hb; replace HB := bs1_ HB hb GE696; try clear hb))
  go_ret; exact ⟨er_, bx1 HB.out GE696.out⟩
def spec_l4Circuit.f (k : Nat) (a0_0 : Int) (a0_1 : ByteArray) (a1 : Int) (a2 : Int) (a3 : Int) (a4 : Int) : Option (ByteArray) := (spec_l3At.f k a0_0 a0_1 a2 a3 a4).bind fun t702 => ((spec_l3At.f k a0_0 a0_1 a1 a3 a4).bind fun t703 => ((spec_l3Byte.f (wrap64 ((wrap64 (-t702)) * t703))).bind fun t704 => (if 1 + t704.size ≤ 9223372036854775807 then ((spec_l3At.f k a0_0 a0_1 a1 a2 a4).bind fun t705 => ((spec_l3Byte.f (wrap64 (t702 * t705))).bind fun t706 => (if ((⟨#[43]⟩ : ByteArray) ++ t704).size + t706.size ≤ 9223372036854775807 then ((spec_l3At.f k a0_0 a0_1 a1 a2 a3).bind fun t707 => ((spec_l3Byte.f (wrap64 ((wrap64 (-t702)) * t707))).bind fun t708 => (if (((⟨#[43]⟩ : ByteArray) ++ t704) ++ t706).size + t708.size ≤ 9223372036854775807 then (some ((((⟨#[43]⟩ : ByteArray) ++ t704) ++ t706) ++ t708)) else (none)))) else (none)))) else (none))))
def spec_l4Circuit.T2 : Bool × List (List Nat × List Nat) := (true, [([], []), ([0], [0]), ([], []), ([], []), ([], []), ([], []), ([2, 3, 4, 5], [2, 3, 4, 5]), ([1, 6], [1, 6]), ([7, 6], [7]), ([8], [8]), ([], []), ([], []), ([], []), ([], []), ([], []), ([11, 12, 13, 14, 8], [11, 12, 13, 14]), ([10, 15], [10, 15]), ([16, 15], [16]), ([9, 17], [9, 17]), ([18, 17, 0, 1, 2, 3, 4, 5, 6, 7, 8, 9, 10, 11, 12, 13, 14, 15, 16, 17, 18], [18])])
def spec_l4Circuit.B2 : List Nat := [0, 1, 0, 0, 0, 0, 60, 127, 255, 511, 0, 0, 0, 0, 0, 31231, 65023, 130559, 262143, 524287]
theorem spec_l4Circuit.tab2 : rtab .any (opsOf Try.f191 2) = spec_l4Circuit.T2 := by kernel_rfl
theorem spec_l4Circuit.bits2 : waitsOk spec_l4Circuit.T2.2 spec_l4Circuit.B2 = true := by kernel_rfl
set_option maxHeartbeats 8000000 in
set_option maxRecDepth 100000 in
theorem spec_l4Circuit.calls (k : Nat) (a0_0 : Int) (a0_1 : ByteArray) (a1 : Int) (a2 : Int) (a3 : Int) (a4 : Int) (r : ByteArray) (w : World) (h : spec_l4Circuit.f k a0_0 a0_1 a1 a2 a3 a4 = some r) :
  Calls Try.prog 191 #[.agg #[.int .i64 a0_0, .string a0_1], .int .i64 a1, .int .i64 a2, .int .i64 a3, .int .i64 a4] w fun e w' => e = .returned (.string r) ∧ Below w.heap.size w w' := by
 have hu31 := Try.underlying31; have HB := am_ (Below.refl w.heap.size w); have H : ((spec_l3At.f k a0_0 a0_1 a2 a3 a4).bind fun t702 => ((spec_l3At.f k a0_0 a0_1 a1 a3 a4).bind fun t703 => ((spec_l3Byte.f (wrap64 ((wrap64 (-t702)) * t703))).bind fun t704 => (if 1 + t704.size ≤ 9223372036854775807 then ((spec_l3At.f k a0_0 a0_1 a1 a2 a4).bind fun t705 => ((spec_l3Byte.f (wrap64 (t702 * t705))).bind fun t706 => (if ((⟨#[43]⟩ : ByteArray) ++ t704).size + t706.size ≤ 9223372036854775807 then ((spec_l3At.f k a0_0 a0_1 a1 a2 a3).bind fun t707 => ((spec_l3Byte.f (wrap64 ((wrap64 (-t702)) * t707))).bind fun t708 => (if (((⟨#[43]⟩ : ByteArray) ++ t704) ++ t706).size + t708.size ≤ 9223372036854775807 then (some ((((⟨#[43]⟩ : ByteArray) ++ t704) ++ t706) ++ t708)) else (none)))) else (none)))) else (none))))) = some r := h; clear h; obtain ⟨t702, A6, H⟩ := bnd_ H; obtain ⟨t703, A7, H⟩ := bnd_ H; obtain ⟨t704, A8, H⟩ := bnd_ H; by_cases c9 : 1 + t704.size ≤ 9223372036854775807
 ·rw [if_pos c9] at H; have c9b0 := eq_true c9; have c9b1 := decide_eq_true c9; try have c9b2 : (9223372036854775807 < 1 + t704.size) = False := eq_false (Nat.not_lt.2 c9)
  obtain ⟨t705, A10, H⟩ := bnd_ H; obtain ⟨t706, A11, H⟩ := bnd_ H; by_cases c12 : ((⟨#[43]⟩ : ByteArray) ++ t704).size + t706.size ≤ 9223372036854775807
  ·rw [if_pos c12] at H; have c12b0 := eq_true c12; have c12b1 := decide_eq_true c12; try have c12b2 : (9223372036854775807 < ((⟨#[43]⟩ : ByteArray) ++ t704).size + t706.size) = False := eq_false (Nat.not_lt.2 c12)
   (try have c12b3 : (9223372036854775807 < 1 + t704.size + t706.size) = False := eq_false (by clear H; have h_ := c12; simp only [ByteArray.size_append, ByteArray.size_extract, show (⟨#[43]⟩ : ByteArray).size = 1 from rfl, eq_iff_iff, iff_true, decide_eq_true_eq] at *; (try simp at h_); omega))
   obtain ⟨t707, A13, H⟩ := bnd_ H; obtain ⟨t708, A14, H⟩ := bnd_ H; by_cases c15 : (((⟨#[43]⟩ : ByteArray) ++ t704) ++ t706).size + t708.size ≤ 9223372036854775807
   ·rw [if_pos c15] at H; have c15b0 := eq_true c15; have c15b1 := decide_eq_true c15; try have c15b2 : (9223372036854775807 < (((⟨#[43]⟩ : ByteArray) ++ t704) ++ t706).size + t708.size) = False := eq_false (Nat.not_lt.2 c15)
    (try have c15b3 : (9223372036854775807 < 1 + t704.size + t706.size + t708.size) = False := eq_false (by clear H; have h_ := c15; simp only [ByteArray.size_append, ByteArray.size_extract, show (⟨#[43]⟩ : ByteArray).size = 1 from rfl, eq_iff_iff, iff_true, decide_eq_true_eq] at *; (try simp at h_); omega))
    obtain rfl := Option.some.inj H; go_enter Try.func191, Try.ntmps191
    try go_wp2_with (first | ((with_reducible refine gd_ 5 rfl ?_); refine be_ 5 #[.int .i64 a0_0, .string a0_1] 31 ?_; intro gb701 hg w16 hbox hb; have BK701 := am_ hbox; have GW701 := gw0_ HB hg; have GE701 := GW701; replace HB := bs0_ HB hb; clear hb hbox hg; obtain ⟨hcz17_0, hfz17_0, hcz17_1, hfz17_1⟩ := bk2_ BK701) | ((with_reducible refine gc_ 186 rfl ?_); refine gB_ (some 17) Try.func186 #[.agg #[.int .i64 a0_0, .string a0_1], .int .i64 a2, .int .i64 a3, .int .i64 a4] (spec_l3At.calls k a0_0 a0_1 a2 a3 a4 t702 _ A6.out) ?_; intro w18 hb; replace BK701 := bb_ BK701 hb; replace HB := bs1_ HB hb GE701; try clear hb))
    replace BK701 := am_ (blk_drew BK701.out); replace HB := bd_ HB; refine start_ (n := 20) (S := fun w' => w'.cell? ⟨gb701, 0, none⟩ = some (.int .i64 a0_0) ∧ w'.cell? ⟨gb701, 1, none⟩ = some (.string a0_1)) (ds := []) #[false, false, false, false, false, false, false, false, false, false, false, false, false, false, false, false, false, false, false, false] (by kernel_rfl) rfl rfl ⟨c0_ BK701, c1_ BK701⟩ (fun hHeld => ?_); refine with_tabW spec_l4Circuit.tab2 spec_l4Circuit.bits2 (fun HT_ HW_ => ?_); generalize w18.drew = w19 at BK701 HB hHeld ⊢
    refine pD_ 0 (some 18) HT_ (h := ?_); refine pD_ 1 (some 19) HT_ (h := ?_); refine pD_ 3 (some 21) HT_ (h := ?_); refine pD_ 4 (some 22) HT_ (h := ?_); refine pD_ 5 (some 23) HT_ (h := ?_); refine pD_ 10 (some 28) HT_ (h := ?_); refine pD_ 12 (some 30) HT_ (h := ?_); refine pD_ 13 (some 31) HT_ (h := ?_); refine pD_ 14 (some 32) HT_ (h := ?_); refine tD2_ 2 (some 20) HT_ HW_ hHeld (h := ?_); refine tD2_ 11 (some 29) HT_ HW_ hHeld (h := ?_); refine oN_ 6 (some 24) HT_ (fun K hK => ?_); refine gO_ Try.func186 #[.agg #[.int .i64 a0_0, .string a0_1], .int .i64 a1, .int .i64 a3, .int .i64 a4] ?_; with_reducible refine (spec_l3At.calls k a0_0 a0_1 a1 a3 a4 t703 _ A7.out).mono ?_
    rintro e w20 ⟨rfl, hb⟩; refine ⟨_, rfl, ?_⟩; replace BK701 := bb_ BK701 hb; replace HB := bs1_ HB hb GE701; try clear hb
    refine hK.out _ _ ⟨c0_ BK701, c1_ BK701⟩ (fun hHeld => ?_); clear hK K; refine nm_ 24 (h := ?_); refine pD_ 7 (some 25) HT_ (h := ?_); refine oN_ 8 (some 26) HT_ (fun K hK => ?_); refine gO_ Try.func152 #[.int .i64 (wrap64 ((wrap64 (-t702)) * t703))] ?_; with_reducible refine (spec_l3Byte.calls (wrap64 ((wrap64 (-t702)) * t703)) t704 _ A8.out).mono ?_
    rintro e w' ⟨rfl, ⟨nd, rfl⟩⟩; refine ⟨_, rfl, ?_⟩; refine hK.out _ _ ⟨c0_ BK701, c1_ BK701⟩ (fun hHeld => ?_); clear hK K; refine nm_ 26 (h := ?_); refine pD_ 9 (some 27) HT_ (h := ?_); refine oN_ 15 (some 33) HT_ (fun K hK => ?_); refine gO_ Try.func186 #[.agg #[.int .i64 a0_0, .string a0_1], .int .i64 a1, .int .i64 a2, .int .i64 a4] ?_; with_reducible refine (spec_l3At.calls k a0_0 a0_1 a1 a2 a4 t705 _ A10.out).mono ?_
    rintro e w21 ⟨rfl, hb⟩; refine ⟨_, rfl, ?_⟩; replace BK701 := bb_ BK701 hb; replace HB := bs1_ HB hb GE701; try clear hb
    refine hK.out _ _ ⟨c0_ BK701, c1_ BK701⟩ (fun hHeld => ?_); clear hK K; refine nm_ 33 (h := ?_); refine pD_ 16 (some 34) HT_ (h := ?_); refine oN_ 17 (some 35) HT_ (fun K hK => ?_); refine gO_ Try.func152 #[.int .i64 (wrap64 (t702 * t705))] ?_; with_reducible refine (spec_l3Byte.calls (wrap64 (t702 * t705)) t706 _ A11.out).mono ?_
    rintro e w' ⟨rfl, ⟨nd, rfl⟩⟩; refine ⟨_, rfl, ?_⟩; refine hK.out _ _ ⟨c0_ BK701, c1_ BK701⟩ (fun hHeld => ?_); clear hK K; refine nm_ 35 (h := ?_); refine pD_ 18 (some 36) HT_ (h := ?_); refine pD_ 19 (some 12) HT_ (h := ?_); refine done_ (done_of HT_.out (by kernel_rfl)) ?_; obtain ⟨hcz22_0, hfz22_0, hcz22_1, hfz22_1⟩ := bk2_ BK701; try go_wp2_with (first | ((with_reducible refine gc_ 186 rfl ?_); refine gB_ (some 44) Try.func186 #[.agg #[.int .i64 a0_0, .string a0_1], .int .i64 a1, .int .i64 a2, .int .i64 a3] (spec_l3At.calls k a0_0 a0_1 a1 a2 a3 t707 _ A13.out) ?_; intro w23 hb; replace BK701 := bb_ BK701 hb; replace HB := bs1_ HB hb GE701; try clear hb) | ((with_reducible refine gc_ 152 rfl ?_); refine gP_ (some 46) Try.func152 #[.int .i64 (wrap64 ((wrap64 (-t702)) * t707))] (spec_l3Byte.calls (wrap64 ((wrap64 (-t702)) * t707)) t708 _ A14.out) ?_; intro nd))
    go_ret; exact ⟨er_, bx1 HB.out GE701.out⟩
   ·rw [if_neg c15] at H; exact absurd H (by simp)
  ·rw [if_neg c12] at H; exact absurd H (by simp)
 ·rw [if_neg c9] at H; exact absurd H (by simp)
mutual
def spec_l4Acyclic.l0 : Nat → Int → Int → ByteArray → Option (Bool)
 | 0, _, _, _ => none
 | k + 1, x3, x710000, x710001 => if x3 < x710000 then (spec_l4Acyclic.l1 k x3 (wrap64 (x3 + 1)) x710000 x710001) else (some true)
def spec_l4Acyclic.l1 : Nat → Int → Int → Int → ByteArray → Option (Bool)
 | 0, _, _, _, _ => none
 | k + 1, x3, x4, x710000, x710001 => if x4 < x710000 then (spec_l4Acyclic.l2 k x3 x4 (wrap64 (x4 + 1)) x710000 x710001) else (spec_l4Acyclic.l0 k (wrap64 (x3 + 1)) x710000 x710001)
def spec_l4Acyclic.l2 : Nat → Int → Int → Int → Int → ByteArray → Option (Bool)
 | 0, _, _, _, _, _ => none
 | k + 1, x3, x4, x5, x710000, x710001 => if x5 < x710000 then (spec_l4Acyclic.l3 k x3 x4 x5 (wrap64 (x5 + 1)) x710000 x710001) else (spec_l4Acyclic.l1 k x3 (wrap64 (x4 + 1)) x710000 x710001)
def spec_l4Acyclic.l3 : Nat → Int → Int → Int → Int → Int → ByteArray → Option (Bool)
 | 0, _, _, _, _, _, _ => none
 | k + 1, x3, x4, x5, x6, x710000, x710001 => if x6 < x710000 then ((spec_l4Circuit.f k x710000 x710001 x3 x4 x5 x6).bind fun t710 => (if t710.toList = ([43, 43, 43, 43] : List UInt8) then (some false) else (spec_l4Acyclic.l3 k x3 x4 x5 (wrap64 (x6 + 1)) x710000 x710001))) else (spec_l4Acyclic.l2 k x3 x4 (wrap64 (x5 + 1)) x710000 x710001)
end
def spec_l4Acyclic.f (k : Nat) (a0_0 : Int) (a0_1 : ByteArray) : Option (Bool) := spec_l4Acyclic.l0 k 0 a0_0 a0_1
set_option maxHeartbeats 8000000 in
set_option maxRecDepth 100000 in
theorem spec_l4Acyclic.calls (k : Nat) (a0_0 : Int) (a0_1 : ByteArray) (r : Bool) (w : World) (h : spec_l4Acyclic.f k a0_0 a0_1 = some r) :
  Calls Try.prog 139 #[.agg #[.int .i64 a0_0, .string a0_1]] w fun e w' => e = .returned (.bool r) ∧ Below w.heap.size w w' := by
 have hu31 := Try.underlying31; have HB := am_ (Below.refl w.heap.size w); have H : (spec_l4Acyclic.l0 k 0 a0_0 a0_1) = some r := h; clear h; have H' := am_ H; clear H; go_enter Try.func139, Try.ntmps139
 go_wp2_with (first | ((with_reducible refine gd_ 1 rfl ?_); refine be_ 1 #[.int .i64 a0_0, .string a0_1] 31 ?_; intro gb709 hg w2 hbox hb; have BK709 := am_ hbox; have GW709 := gw0_ HB hg; have GE709 := GW709; replace HB := bs0_ HB hb; clear hb hbox hg))
 go_loopg [3] k (fun kq v3 w' => ∃ (x3_1 : Int), v3 = .int .i64 x3_1 ∧ Aside0 (spec_l4Acyclic.l0 kq x3_1 a0_0 a0_1 = some r) ∧ Aside0 (kq ≤ k) ∧ Aside0 (w'.heap[gb709]? = some (.cells #[.int .i64 a0_0, .string a0_1] 31 (0, 0))) ∧ Aside0 (Below w.heap.size w w'))
 case atStart => exact ⟨(0), vt_, H', ⟨Nat.le_refl _⟩, kX_ BK709, bX1_ HB GE709⟩
 case round =>
  clear H'; obtain ⟨x3_1, rfl, HA, HK1, BK709, HB⟩ := hrel; cases gk with
  | zero => exact absurd HA.out (by simp [spec_l4Acyclic.l0])
  | succ k1 =>
   have H := HA.out; clear HA; simp only [spec_l4Acyclic.l0] at H
   by_cases c3 : x3_1 < a0_0
   ·rw [if_pos c3] at H; have c3b0 := decide_eq_true c3; clear c3; have H' := am_ H; clear H; obtain ⟨hcz4_0, hfz4_0, hcz4_1, hfz4_1⟩ := bk2_ BK709; go_wp2; go_loopg [4] k1 (fun kq v4 w' => ∃ (x4_2 : Int), v4 = .int .i64 x4_2 ∧ Aside0 (spec_l4Acyclic.l1 kq x3_1 x4_2 a0_0 a0_1 = some r) ∧ Aside0 (kq ≤ k1) ∧ Aside0 (w'.heap[gb709]? = some (.cells #[.int .i64 a0_0, .string a0_1] 31 (0, 0))) ∧ Aside0 (Below w.heap.size w w'))
    case atStart => exact ⟨(wrap64 (x3_1 + 1)), vt_, H', ⟨Nat.le_refl _⟩, kX_ BK709, bX1_ HB GE709⟩
    case round =>
     clear H'; try clear c3b0 hcz4_0 hcz4_1 hfz4_0 hfz4_1
     obtain ⟨x4_2, rfl, HA, HK2, BK709, HB⟩ := hrel; cases gk with
     | zero => exact absurd HA.out (by simp [spec_l4Acyclic.l1])
     | succ k2 =>
      have H := HA.out; clear HA; simp only [spec_l4Acyclic.l1] at H
      by_cases c5 : x4_2 < a0_0
      ·rw [if_pos c5] at H; have c5b0 := decide_eq_true c5; clear c5; have H' := am_ H; clear H; obtain ⟨hcz6_0, hfz6_0, hcz6_1, hfz6_1⟩ := bk2_ BK709; go_wp2; go_loopg [5] k2 (fun kq v5 w' => ∃ (x5_3 : Int), v5 = .int .i64 x5_3 ∧ Aside0 (spec_l4Acyclic.l2 kq x3_1 x4_2 x5_3 a0_0 a0_1 = some r) ∧ Aside0 (kq ≤ k2) ∧ Aside0 (w'.heap[gb709]? = some (.cells #[.int .i64 a0_0, .string a0_1] 31 (0, 0))) ∧ Aside0 (Below w.heap.size w w'))
       case atStart => exact ⟨(wrap64 (x4_2 + 1)), vt_, H', ⟨Nat.le_refl _⟩, kX_ BK709, bX1_ HB GE709⟩
       case round =>
        clear H'; try clear c3b0 c5b0 hcz4_0 hcz4_1 hcz6_0 hcz6_1 hfz4_0 hfz4_1 hfz6_0 hfz6_1
        obtain ⟨x5_3, rfl, HA, HK3, BK709, HB⟩ := hrel; cases gk with
        | zero => exact absurd HA.out (by simp [spec_l4Acyclic.l2])
        | succ k3 =>
         have H := HA.out; clear HA; simp only [spec_l4Acyclic.l2] at H
         by_cases c7 : x5_3 < a0_0
         ·rw [if_pos c7] at H; have c7b0 := decide_eq_true c7; clear c7; have H' := am_ H; clear H; obtain ⟨hcz8_0, hfz8_0, hcz8_1, hfz8_1⟩ := bk2_ BK709; go_wp2; go_loopg [6] k3 (fun kq v6 w' => ∃ (x6_4 : Int), v6 = .int .i64 x6_4 ∧ Aside0 (spec_l4Acyclic.l3 kq x3_1 x4_2 x5_3 x6_4 a0_0 a0_1 = some r) ∧ Aside0 (kq ≤ k3) ∧ Aside0 (w'.heap[gb709]? = some (.cells #[.int .i64 a0_0, .string a0_1] 31 (0, 0))) ∧ Aside0 (Below w.heap.size w w'))
          case atStart => exact ⟨(wrap64 (x5_3 + 1)), vt_, H', ⟨Nat.le_refl _⟩, kX_ BK709, bX1_ HB GE709⟩
          case round =>
           clear H'; try clear c3b0 c5b0 c7b0 hcz4_0 hcz4_1 hcz6_0 hcz6_1 hcz8_0 hcz8_1 hfz4_0 hfz4_1 hfz6_0 hfz6_1 hfz8_0 hfz8_1
           obtain ⟨x6_4, rfl, HA, HK4, BK709, HB⟩ := hrel; cases gk with
           | zero => exact absurd HA.out (by simp [spec_l4Acyclic.l3])
           | succ k4 =>
            have H := HA.out; clear HA; simp only [spec_l4Acyclic.l3] at H
            by_cases c9 : x6_4 < a0_0
            ·rw [if_pos c9] at H; have c9b0 := decide_eq_true c9; clear c9; obtain ⟨t710, A10, H⟩ := bnd_ H; by_cases c11 : t710.toList = ([43, 43, 43, 43] : List UInt8)
             ·rw [if_pos c11] at H; obtain ⟨c11b0, c11b1⟩ := eqT_ c11; clear c11; obtain rfl := Option.some.inj H; obtain ⟨hcz12_0, hfz12_0, hcz12_1, hfz12_1⟩ := bk2_ BK709; go_wp2_with (first | ((with_reducible refine gc_ 191 rfl ?_); refine gB_ (some 42) Try.func191 #[.agg #[.int .i64 a0_0, .string a0_1], .int .i64 x3_1, .int .i64 x4_2, .int .i64 x5_3, .int .i64 x6_4] (spec_l4Circuit.calls k4 a0_0 a0_1 x3_1 x4_2 x5_3 x6_4 t710 _ A10.out) ?_; intro w13 hb; replace BK709 := bb_ BK709 hb; replace HB := bs1_ HB hb GE709; try clear hb))
              go_ret; exact ⟨er_, bx1 HB.out GE709.out⟩
             ·rw [if_neg c11] at H; obtain ⟨c11b0, c11b1⟩ := eqF_ c11; have H' := am_ H; clear H; obtain ⟨hcz14_0, hfz14_0, hcz14_1, hfz14_1⟩ := bk2_ BK709; go_wp2_with (first | ((with_reducible refine gc_ 191 rfl ?_); refine gB_ (some 42) Try.func191 #[.agg #[.int .i64 a0_0, .string a0_1], .int .i64 x3_1, .int .i64 x4_2, .int .i64 x5_3, .int .i64 x6_4] (spec_l4Circuit.calls k4 a0_0 a0_1 x3_1 x4_2 x5_3 x6_4 t710 _ A10.out) ?_; intro w15 hb; replace BK709 := bb_ BK709 hb; replace HB := bs1_ HB hb GE709; try clear hb))
              go_roundg k4
              case measure => have := HK1.out; have := HK2.out; have := HK3.out; have := HK4.out; omega
              case rel => exact ⟨(wrap64 (x6_4 + 1)), vt_, H', hl4_ HK1 HK2 HK3 HK4, kX_ BK709, bX1_ HB GE709⟩
            ·rw [if_neg c9] at H; have c9b0 := decide_eq_false c9; clear c9; have H' := am_ H; clear H; obtain ⟨hcz16_0, hfz16_0, hcz16_1, hfz16_1⟩ := bk2_ BK709; go_wp2; go_roundg k4
             case measure => have := HK1.out; have := HK2.out; have := HK3.out; have := HK4.out; omega
             case rel => exact ⟨(wrap64 (x5_3 + 1)), vt_, H', hl4_ HK1 HK2 HK3 HK4, kX_ BK709, bX1_ HB GE709⟩
         ·rw [if_neg c7] at H; have c7b0 := decide_eq_false c7; clear c7; have H' := am_ H; clear H; obtain ⟨hcz17_0, hfz17_0, hcz17_1, hfz17_1⟩ := bk2_ BK709; go_wp2; go_roundg k3
          case measure => have := HK1.out; have := HK2.out; have := HK3.out; omega
          case rel => exact ⟨(wrap64 (x4_2 + 1)), vt_, H', hl3_ HK1 HK2 HK3, kX_ BK709, bX1_ HB GE709⟩
      ·rw [if_neg c5] at H; have c5b0 := decide_eq_false c5; clear c5; have H' := am_ H; clear H; obtain ⟨hcz18_0, hfz18_0, hcz18_1, hfz18_1⟩ := bk2_ BK709; go_wp2; go_roundg k2
       case measure => have := HK1.out; have := HK2.out; omega
       case rel => exact ⟨(wrap64 (x3_1 + 1)), vt_, H', hl2_ HK1 HK2, kX_ BK709, bX1_ HB GE709⟩
   ·rw [if_neg c3] at H; have c3b0 := decide_eq_false c3; clear c3; obtain rfl := Option.some.inj H; obtain ⟨hcz19_0, hfz19_0, hcz19_1, hfz19_1⟩ := bk2_ BK709; go_wp2; go_ret; exact ⟨er_, bx1 HB.out GE709.out⟩
def spec_IsAcyclic.f (k : Nat) (a0_0 : Int) (a0_1 : ByteArray) : Option (Bool) := (spec_IsMatroid.f k a0_0 a0_1).bind fun t712 => (if t712 = true then ((spec_l4Acyclic.f k a0_0 a0_1).bind fun t713 => (some t713)) else (some false))
set_option maxHeartbeats 8000000 in
set_option maxRecDepth 100000 in
theorem spec_IsAcyclic.calls (k : Nat) (a0_0 : Int) (a0_1 : ByteArray) (r : Bool) (w : World) (h : spec_IsAcyclic.f k a0_0 a0_1 = some r) :
  Calls Try.prog 63 #[.agg #[.int .i64 a0_0, .string a0_1]] w fun e w' => e = .returned (.bool r) ∧ Below w.heap.size w w' := by
 have hu31 := Try.underlying31; have HB := am_ (Below.refl w.heap.size w); have H : ((spec_IsMatroid.f k a0_0 a0_1).bind fun t712 => (if t712 = true then ((spec_l4Acyclic.f k a0_0 a0_1).bind fun t713 => (some t713)) else (some false))) = some r := h; clear h; obtain ⟨t712, A2, H⟩ := bnd_ H; by_cases c3 : t712 = true
 ·subst c3; replace H := ifT_ H; obtain ⟨t713, A4, H⟩ := bnd_ H; obtain rfl := Option.some.inj H; go_enter Try.func63, Try.ntmps63
  go_wp2_with (first | ((with_reducible refine gd_ 1 rfl ?_); refine be_ 1 #[.int .i64 a0_0, .string a0_1] 31 ?_; intro gb711 hg w5 hbox hb; have BK711 := am_ hbox; have GW711 := gw0_ HB hg; have GE711 := GW711; replace HB := bs0_ HB hb; clear hb hbox hg; obtain ⟨hcz6_0, hfz6_0, hcz6_1, hfz6_1⟩ := bk2_ BK711) | ((with_reducible refine gc_ 61 rfl ?_); refine gB_ (some 4) Try.func61 #[.agg #[.int .i64 a0_0, .string a0_1]] (spec_IsMatroid.calls k a0_0 a0_1 true _ A2.out) ?_; intro w7 hb; replace BK711 := bb_ BK711 hb; replace HB := bs1_ HB hb GE711; try clear hb; obtain ⟨hcz8_0, hfz8_0, hcz8_1, hfz8_1⟩ := bk2_ BK711) | (go_at_call 139; (with_reducible refine (spec_l4Acyclic.calls k a0_0 a0_1 t713 _ A4.out).mono ?_); rintro e w9 ⟨rfl, hb⟩; replace BK711 := bb_ BK711 hb; replace HB := bs1_ HB hb GE711; try clear hb))
  go_ret; exact ⟨er_, bx1 HB.out GE711.out⟩
 ·replace c3 := Bool.eq_false_iff.mpr c3; subst c3; replace H := ifF_ H; obtain rfl := Option.some.inj H; go_enter Try.func63, Try.ntmps63
  go_wp2_with (first | ((with_reducible refine gd_ 1 rfl ?_); refine be_ 1 #[.int .i64 a0_0, .string a0_1] 31 ?_; intro gb711 hg w10 hbox hb; have BK711 := am_ hbox; have GW711 := gw0_ HB hg; have GE711 := GW711; replace HB := bs0_ HB hb; clear hb hbox hg; obtain ⟨hcz11_0, hfz11_0, hcz11_1, hfz11_1⟩ := bk2_ BK711) | ((with_reducible refine gc_ 61 rfl ?_); refine gB_ (some 4) Try.func61 #[.agg #[.int .i64 a0_0, .string a0_1]] (spec_IsMatroid.calls k a0_0 a0_1 false _ A2.out) ?_; intro w12 hb; replace BK711 := bb_ BK711 hb; replace HB := bs1_ HB hb GE711; try clear hb))
  go_ret; exact ⟨er_, bx1 HB.out GE711.out⟩
end Go.Proofs.Ytoajlmlobaccdaa.P
namespace Go.Proofs.Ytoajlmlobaccdaa.P
open Go.RowKit Go.Proofs.YtoajlmlobaccdaaW.PrintWords Go.Proofs.YtoajlmlobaccdaaW.PrintLast Go.Proofs.YtoajlmlobaccdaaW.PrintMore
set_option linter.unusedVariables false
set_option linter.unusedSimpArgs false
section
variable {α : Type} [Inhabited α] {enc : α → Value} {h1 : ∀ x, (enc x).oneCell' = true} {e base : Nat} {ok : Nat → Prop} {w : World} {v : Value} {xs : List α}
theorem row_blk (h : (Kd.scalar enc h1).R e w base ok v xs) (hne : 0 < xs.length) :
    ∃ g cap cur, v = .slice (some ⟨g, 0, none⟩) xs.length cap ∧ base ≤ g ∧ ok g ∧ w.heap[g]? = some (.cells cur e (0, 0)) ∧ xs.length ≤ cap ∧ cap ≤ maxLen ∧ cur.size = cap ∧ ∀ j, j < xs.length → cur[j]? = some (enc xs[j]!) := by
  obtain ⟨h0, inner, ⟨hl, ho⟩, hr⟩ := h
  rcases ho with ⟨rfl, h2⟩ | ⟨g, cap, cur, rfl, hg, hh, hc, hm, hs, ht⟩
  · omega
  · refine ⟨g, cap, cur, rfl, hg, h0 g rfl, hh, hc, hm, ?_, ?_⟩
    · rw [hs]; exact Nat.mul_one _
    · intro j hj
      have h3 := hr.2 j xs[j]! (by rw [List.getElem?_eq_getElem hj, getElem!_pos xs j hj])
      have h3' : (inner.drop (j * 1)).take 1 = [enc xs[j]!] := h3
      rw [Nat.mul_one] at h3'
      have h4 : inner[j]? = some (enc xs[j]!) := by
        have h5 : ((inner.drop j).take 1)[0]? = some (enc xs[j]!) := by rw [h3']; rfl
        rw [List.getElem?_take_of_lt (by omega), List.getElem?_drop, Nat.add_zero] at h5
        exact h5
      rw [← ht] at h4
      have hjl : j < xs.length * (Kd.scalar enc h1).sz := by show j < xs.length * 1; omega
      rw [List.getElem?_take_of_lt hjl, Array.getElem?_toList] at h4
      exact h4
theorem blk_row {g cap : Nat} {cur : Array Value} (hg : base ≤ g) (hok : ok g) (hh : w.heap[g]? = some (.cells cur e (0, 0))) (hc : xs.length ≤ cap) (hm : cap ≤ maxLen) (hs : cur.size = cap) (hj : ∀ j, j < xs.length → cur[j]? = some (enc xs[j]!)) :
    (Kd.scalar enc h1).R e w base ok (.slice (some ⟨g, 0, none⟩) xs.length cap) xs := by
  refine ⟨fun k hk => ?_, cur.toList.take xs.length, ⟨?_, .inr ⟨g, cap, cur, rfl, hg, hh, hc, hm, ?_, ?_⟩⟩, ?_, ?_⟩
  · have : g = k := by simpa [Value.ownBlock] using hk
    subst this; exact hok
  · show (cur.toList.take xs.length).length = xs.length * 1
    have hcl : cur.toList.length = cur.size := Array.length_toList
    rw [List.length_take, hcl]; omega
  · show cur.size = cap * 1
    omega
  · show cur.toList.take (xs.length * 1) = _
    rw [Nat.mul_one]
  · show (cur.toList.take xs.length).length = xs.length * 1
    have hcl : cur.toList.length = cur.size := Array.length_toList
    rw [List.length_take, hcl]; omega
  · intro j p hp
    have hjl := (List.getElem?_eq_some_iff.1 hp).1
    have hpx : p = xs[j]! := by rw [getElem!_pos xs j hjl]; exact (List.getElem?_eq_some_iff.1 hp).2.symm
    subst hpx
    show ((cur.toList.take xs.length).drop (j * 1)).take 1 = [enc xs[j]!]
    rw [Nat.mul_one]
    have h4 : (cur.toList.take xs.length)[j]? = some (enc xs[j]!) := by
      rw [List.getElem?_take_of_lt hjl, Array.getElem?_toList]; exact hj j hjl
    apply List.ext_getElem?
    intro i
    cases i with
    | zero => rw [List.getElem?_take_of_lt (by omega), List.getElem?_drop, Nat.add_zero, h4]; rfl
    | succ i =>
      rw [List.getElem?_eq_none (by rw [List.length_take]; omega)]
      rfl
theorem put_cur (enc : α → Value) (w : World) (n g off : Nat) (D : Array α) (os : Array Obj) {cur : Array Value} (hb : w.heap[g]? = some (.cells cur e (0, 0))) :
    (Sort.grow (Sort.putRow enc (Sort.ahead w n) g off D) os).heap[g]? = some (.cells (Sort.putCells enc off D cur) e (0, 0)) := by
  have hlt : g < w.heap.size := (Array.getElem?_eq_some_iff.1 hb).1
  show ((w.heap.modify g (Sort.onCells (Sort.putCells enc off D))) ++ os)[g]? = _
  rw [Array.getElem?_append_left (by rw [Array.size_modify]; exact hlt), Array.getElem?_modify, if_pos rfl, hb]
  rfl
theorem put_far (enc : α → Value) (w : World) (n g off : Nat) (D : Array α) (os : Array Obj) (k : Nat) (hk : k < w.heap.size) (hne : k ≠ g) :
    (Sort.grow (Sort.putRow enc (Sort.ahead w n) g off D) os).heap[k]? = w.heap[k]? := by
  show ((w.heap.modify g (Sort.onCells (Sort.putCells enc off D))) ++ os)[k]? = _
  rw [Array.getElem?_append_left (by rw [Array.size_modify]; exact hk), Array.getElem?_modify, if_neg (Ne.symm hne)]
theorem put_size (enc : α → Value) (w : World) (n g off : Nat) (D : Array α) (os : Array Obj) : w.heap.size ≤ (Sort.grow (Sort.putRow enc (Sort.ahead w n) g off D) os).heap.size := by
  show _ ≤ ((w.heap.modify g (Sort.onCells (Sort.putCells enc off D))) ++ os).size
  rw [Array.size_append, Array.size_modify]; omega
theorem put_below (enc : α → Value) (w : World) (n g off : Nat) (D : Array α) (os : Array Obj) (hg : base ≤ g) (hlt : g < w.heap.size) : Below base w (Sort.grow (Sort.putRow enc (Sort.ahead w n) g off D) os) :=
  ⟨rfl, rfl, rfl, put_size enc w n g off D os, fun k hk => put_far enc w n g off D os k (by omega) (by omega)⟩
theorem put_kept (enc : α → Value) (w : World) (n g off : Nat) (D : Array α) (os : Array Obj) (hok : ok g) : Kept w (Sort.grow (Sort.putRow enc (Sort.ahead w n) g off D) os) ok :=
  ⟨put_size enc w n g off D os, fun k hk hn => put_far enc w n g off D os k hk (fun e => hn (e ▸ hok))⟩
theorem putCells_size (enc : α → Value) (off : Nat) (D : Array α) (c : Array Value) : (Sort.putCells enc off D c).size = c.size := by simp [Sort.putCells]
theorem putCells_in (enc : α → Value) (off : Nat) (D : Array α) (c : Array Value) (j : Nat) (hj : j < D.size) (hc : off + D.size ≤ c.size) : (Sort.putCells enc off D c)[off + j]? = some (enc D[j]!) := by
  unfold Sort.putCells
  rw [Array.getElem?_mapIdx, Array.getElem?_eq_getElem (by omega)]
  simp only [Option.map_some]
  rw [if_pos ⟨by omega, by omega⟩, Nat.add_sub_cancel_left]
theorem putCells_at (enc : α → Value) (D : Array α) (c : Array Value) (j : Nat) (hj : j < D.size) (hc : D.size ≤ c.size) : (Sort.putCells enc 0 D c)[j]? = some (enc D[j]!) := by
  have h := putCells_in enc 0 D c j hj (by omega)
  rwa [Nat.zero_add] at h
theorem row_holds (h : (Kd.scalar enc h1).R e w base ok v xs) {g cap : Nat} {cur : Array Value} (hh : w.heap[g]? = some (.cells cur e (0, 0))) (hj : ∀ j, j < xs.length → cur[j]? = some (enc xs[j]!)) : Sort.Holds enc w g 0 xs.toArray := by
  intro j hlt
  have hl : j < xs.length := by simpa using hlt
  have e1 : xs.toArray[j]! = xs[j]! := by simp
  refine ⟨?_, ?_⟩
  · rw [e1]
    have := hj j hl
    simp [World.cell?, hh, this]
  · simp [World.frozen?, hh]
end
end Go.Proofs.Ytoajlmlobaccdaa.P
namespace Go.Proofs.Ytoajlmlobaccdaa.P
open Go.RowKit Go.Proofs.YtoajlmlobaccdaaW.PrintWords Go.Proofs.YtoajlmlobaccdaaW.PrintLast Go.Proofs.YtoajlmlobaccdaaW.PrintMore
attribute [local go_sem] ptrOf_slice
attribute [local go_sem] min2_str max2_int min2_int max_two min_two max_three min_three max_four min_four
set_option linter.unusedVariables false
set_option linter.unusedSimpArgs false
def spec_l14Less.l0 : Nat → List Int → List Int → Int → Option (Bool)
 | 0, _, _, _ => none
 | k + 1, x0, x1, x5 => if x5 < (x0.length : Int) then (if 0 ≤ x5 then (if x5 < (x1.length : Int) then (if (rd x0 x5) = (rd x1 x5) then (spec_l14Less.l0 k x0 x1 (wrap64 (x5 + 1))) else (some (decide ((rd x0 x5) < (rd x1 x5))))) else (none)) else (none)) else (some false)
def spec_l14Less.f (k : Nat) (l0 : List Int) (l1 : List Int) : Option (Bool) := spec_l14Less.l0 k l0 l1 0
theorem spec_l14Less.mono_l : ∀ k, (∀ y0 y1 y2, LeO (spec_l14Less.l0 k y0 y1 y2) (spec_l14Less.l0 (k + 1) y0 y1 y2))
 | 0 => fun _ _ _ r h => by simp [spec_l14Less.l0] at h
 | k + 1 => by
  have ih0 := spec_l14Less.mono_l k
  ·intro y0 y1 y2; unfold spec_l14Less.l0
   repeat' first | (with_reducible first | apply ih0 | exact LeO.refl _ | exact LeO.none _ | refine LeO.ite ?_ ?_ | refine LeO.bind ?_ (fun _ => ?_)) | exact LeO.none _
theorem spec_l14Less.mono : ∀ a0 a1 k, LeO (spec_l14Less.f k a0 a1) (spec_l14Less.f (k + 1) a0 a1) := by
 intro a0 a1 k; have ih0 := spec_l14Less.mono_l k; unfold spec_l14Less.f
 repeat' first | (with_reducible first | apply ih0 | exact LeO.refl _ | exact LeO.none _ | refine LeO.ite ?_ ?_ | refine LeO.bind ?_ (fun _ => ?_)) | exact LeO.none _
set_option maxHeartbeats 8000000 in
set_option maxRecDepth 100000 in
theorem spec_l14Less.calls (k : Nat) (A0 : Option Addr) (c0 : Nat) (l0 : List Int) (A1 : Option Addr) (c1 : Nat) (l1 : List Int) (r : Bool) (w : World) (hr0 : Kd.C (Kd.int .i64) w A0 l0.length l0) (hc0 : l0.length ≤ c0) (hr1 : Kd.C (Kd.int .i64) w A1 l1.length l1) (hc1 : l1.length ≤ c1) (h : spec_l14Less.f k l0 l1 = some r) :
  Calls Try.prog 195 #[.slice A0 l0.length c0, .slice A1 l1.length c1] w fun e w' => e = .returned (.bool r) ∧ Drawn0 w w' := by
 have HR0 := am_ hr0; have HC0 := am_ hc0; clear hr0 hc0; have HR1 := am_ hr1; have HC1 := am_ hc1; clear hr1 hc1; have H : (spec_l14Less.l0 k l0 l1 0) = some r := h; clear h; have H' := am_ H; clear H; go_enter Try.func195, Try.ntmps195
 go_wp2; repeat (go_quiet (fail); try go_wp2)
 go_loopg [5] k (fun kq v5 w' => ∃ (x5_1 : Int), v5 = .int .i64 x5_1 ∧ Aside0 (spec_l14Less.l0 kq l0 l1 x5_1 = some r) ∧ Aside0 (kq ≤ k) ∧ Drawn0 w w')
 case atStart => exact ⟨(0), vt_, H', ⟨Nat.le_refl _⟩, dr_⟩
 case round =>
  clear H'; obtain ⟨x5_1, rfl, HA, HK1, ⟨m1, rfl⟩⟩ := hrel; cases gk with
  | zero => exact absurd HA.out (by simp [spec_l14Less.l0])
  | succ k1 =>
   have H := HA.out; clear HA; simp only [spec_l14Less.l0] at H
   by_cases c3 : x5_1 < (l0.length : Int)
   ·rw [if_pos c3] at H; have c3b0 := decide_eq_true c3; clear c3; by_cases c4 : 0 ≤ x5_1
    ·rw [if_pos c4] at H; have c4b0 := decide_eq_true c4; clear c4; by_cases c5 : x5_1 < (l1.length : Int)
     ·rw [if_pos c5] at H; have c5b0 := decide_eq_true c5; clear c5; by_cases c6 : (rd l0 x5_1) = (rd l1 x5_1)
      ·rw [if_pos c6] at H; obtain ⟨c6b0, c6b1⟩ := eqT_ c6; clear c6; have H' := am_ H; clear H; have p226 : 0 ≤ (x5_1 : Int) := oda_; have q226 : x5_1 < (l0.length : Int) := oda_; obtain ⟨ad226, e226, hx226_0⟩ := Kd.at_int HR0.out x5_1 p226 q226; cases e226; replace p226 := eq_true p226; replace q226 := eq_true q226; have p227 : 0 ≤ (x5_1 : Int) := oda_; have q227 : x5_1 < (l1.length : Int) := oda_; obtain ⟨ad227, e227, hx227_0⟩ := Kd.at_int HR1.out x5_1 p227 q227; cases e227; replace p227 := eq_true p227; replace q227 := eq_true q227; go_wp2; repeat (go_quiet (fail); try go_wp2)
       go_roundg k1
       case measure => have := HK1.out; omega
       case rel => exact ⟨(wrap64 (x5_1 + 1)), vt_, H', hl_ HK1, dr_⟩
      ·rw [if_neg c6] at H; obtain ⟨c6b0, c6b1⟩ := eqF_ c6; obtain rfl := Option.some.inj H; have p226 : 0 ≤ (x5_1 : Int) := oda_; have q226 : x5_1 < (l0.length : Int) := oda_; obtain ⟨ad226, e226, hx226_0⟩ := Kd.at_int HR0.out x5_1 p226 q226; cases e226; replace p226 := eq_true p226; replace q226 := eq_true q226; have p227 : 0 ≤ (x5_1 : Int) := oda_; have q227 : x5_1 < (l1.length : Int) := oda_; obtain ⟨ad227, e227, hx227_0⟩ := Kd.at_int HR1.out x5_1 p227 q227; cases e227; replace p227 := eq_true p227; replace q227 := eq_true q227; have p228 : 0 ≤ (x5_1 : Int) := oda_; have q228 : x5_1 < (l0.length : Int) := oda_; obtain ⟨ad228, e228, hx228_0⟩ := Kd.at_int HR0.out x5_1 p228 q228; obtain rfl : ad226 = ad228 := (by injection e228); replace p228 := eq_true p228; replace q228 := eq_true q228; have p229 : 0 ≤ (x5_1 : Int) := oda_; have q229 : x5_1 < (l1.length : Int) := oda_; obtain ⟨ad229, e229, hx229_0⟩ := Kd.at_int HR1.out x5_1 p229 q229; obtain rfl : ad227 = ad229 := (by injection e229); replace p229 := eq_true p229; replace q229 := eq_true q229; go_wp2; repeat (go_quiet (fail); try go_wp2)
       go_ret; exact ⟨by first | rfl | (simp; done) | (simp [*]; done), dr_⟩
     ·rw [if_neg c5] at H; exact absurd H (by simp)
    ·rw [if_neg c4] at H; exact absurd H (by simp)
   ·rw [if_neg c3] at H; have c3b0 := decide_eq_false c3; clear c3; obtain rfl := Option.some.inj H; go_wp2; repeat (go_quiet (fail); try go_wp2)
    go_ret; exact ⟨by first | rfl | (simp; done) | (simp [*]; done), dr_⟩
end Go.Proofs.Ytoajlmlobaccdaa.P
namespace Go.Proofs.Ytoajlmlobaccdaa.P
open Go.RowKit Go.Proofs.YtoajlmlobaccdaaW.PrintWords Go.Proofs.YtoajlmlobaccdaaW.PrintLast Go.Proofs.YtoajlmlobaccdaaW.PrintMore
attribute [local go_sem] ptrOf_slice
set_option linter.unusedVariables false
set_option linter.unusedSimpArgs false
abbrev Hd := Option Addr × Nat × Nat
abbrev encH (h : Hd) : Value := .slice h.1 h.2.1 h.2.2
def hdrK : Kd Hd := Kd.scalar encH (fun _ => rfl)
def Fr35 (w w1 : World) : Prop := ∀ (g : Nat) (o : Obj), w.heap[g]? = some o → (∀ cells, o ≠ .cells cells 34 (0, 0)) → w1.heap[g]? = some o
theorem Fr35.refl (w : World) : Fr35 w w := fun _ _ h _ => h
theorem Fr35.trans {w w1 w2 : World} (h : Fr35 w w1) (h2 : Fr35 w1 w2) : Fr35 w w2 := fun g o ho hn => h2 g o (h g o ho hn) hn
theorem Fr35.below {w w1 : World} (h : Below w.heap.size w w1) : Fr35 w w1 := fun g o ho _ => (h.block g (Array.getElem?_eq_some_iff.1 ho).1).trans ho
theorem Fr35.grown {w w1 : World} {row : Option Nat} (hg : w.grownBy w1 row) (hr : ∀ k, row = some k → ∃ cells, w.heap[k]? = some (.cells cells 34 (0, 0))) : Fr35 w w1 := fun g o ho hn => by
  refine (hg.block g (Array.getElem?_eq_some_iff.1 ho).1 (fun e => ?_)).trans ho; obtain ⟨cells, hc⟩ := hr g e.symm; rw [hc] at ho; exact hn cells (Option.some.inj ho).symm
def Row3 (w : World) (okI : Nat → Prop) (h : Hd) (x : List Int) : Prop := Kd.R (Kd.int .i64) 3 w 0 okI (encH h) x
theorem Row3.fr {w w1 : World} {okI : Nat → Prop} {h : Hd} {x : List Int} (hr : Row3 w okI h x) (hf : Fr35 w w1) : Row3 w1 okI h x := by
  refine Kd.R_mono (Kd.R_move (Kd.R_bound hr) (fun k hk => ?_)) (fun _ hk => hk.1); obtain ⟨_, _, hlt, q, hq, cells, hc⟩ := hk; rw [hc]; refine hf k _ hc (fun c2 e => ?_); have hq3 : q = 3 := by
    rcases List.mem_cons.1 hq with e | e
    · exact e
    · cases (show q ∈ ([] : List TypeId) from e)
  subst hq3; injection e with _ e
  exact absurd e (by decide)
structure LL (w : World) (base : Nat) (ok okI : Nat → Prop) (v : Value) (hs : List Hd) (xs : List (List Int)) : Prop where
  own : Kd.R hdrK 34 w base ok v hs
  len : hs.length = xs.length
  row : ∀ (j : Nat) (h : Hd) (x : List Int), hs[j]? = some h → xs[j]? = some x → Row3 w okI h x
theorem Row3.read {w : World} {okI : Nat → Prop} {h : Hd} {x : List Int} (hr : Row3 w okI h x) : encH h = .slice h.1 x.length h.2.2 ∧ Kd.C (Kd.int .i64) w h.1 x.length x ∧ x.length ≤ h.2.2 := by
  obtain ⟨e, h1, h2⟩ := Kd.R_reads' hr; exact ⟨by unfold encH; rw [e], h2, by rw [← e]; exact h1⟩
theorem own_same (A : Option Addr) (n m c : Nat) : (Value.slice A n c).ownBlock = (Value.slice A m c).ownBlock := by cases A <;> rfl
def scanL (k : Nat) (x : List Int) (xs : List (List Int)) : Nat → Option Nat
  | 0 => some 0
  | i + 1 => (spec_l14Less.f k x (xs.getD i [])).bind fun b => if b = true then scanL k x xs i else some (i + 1)
theorem scanL_mono (k : Nat) (x : List Int) (xs : List (List Int)) : ∀ i, LeO (scanL k x xs i) (scanL (k + 1) x xs i)
  | 0 => LeO.refl _
  | i + 1 => LeO.bind (spec_l14Less.mono _ _ _) (fun _ => LeO.ite (scanL_mono k x xs i) (LeO.refl _))
def spec_l14Put.f (k : Nat) (xs : List (List Int)) (x : List Int) : Option (List (List Int)) := if xs.length ≤ 1000000 then (scanL k x xs xs.length).bind fun a => some (xs.take a ++ x :: xs.drop a) else none
theorem spec_l14Put.mono : ∀ a0 a1 k, LeO (spec_l14Put.f k a0 a1) (spec_l14Put.f (k + 1) a0 a1) := fun a0 a1 k => LeO.ite (LeO.bind (scanL_mono _ _ _ _) (fun _ => LeO.refl _)) (LeO.refl _)
theorem LL.insert {w : World} {base : Nat} {ok okI : Nat → Prop} {v : Value} {hs : List Hd} {xs : List (List Int)} {hx : Hd} {x : List Int} {a : Nat} (hlen : hs.length = xs.length) (hrow : ∀ (j : Nat) (h : Hd) (x : List Int), hs[j]? = some h → xs[j]? = some x → Row3 w okI h x) (hX : Row3 w okI hx x) (ha : a ≤ hs.length) (ho : Kd.R hdrK 34 w base ok v (hs.take a ++ hx :: hs.drop a)) : LL w base ok okI v (hs.take a ++ hx :: hs.drop a) (xs.take a ++ x :: xs.drop a) := by
  have l1 : (hs.take a).length = a := by rw [List.length_take]; omega
  have l2 : (xs.take a).length = a := by rw [List.length_take]; omega
  refine ⟨ho, by simp only [List.length_append, List.length_cons, List.length_drop, l1, l2]; omega, fun j h y hj hy => ?_⟩; rcases Nat.lt_trichotomy j a with hlt | rfl | hgt
  · rw [List.getElem?_append_left (by omega), List.getElem?_take_of_lt hlt] at hj hy; exact hrow j h y hj hy
  · rw [List.getElem?_append_right (by omega), l1, Nat.sub_self, List.getElem?_cons_zero] at hj; rw [List.getElem?_append_right (by omega), l2, Nat.sub_self, List.getElem?_cons_zero] at hy; obtain rfl := Option.some.inj hj; obtain rfl := Option.some.inj hy; exact hX
  · rw [List.getElem?_append_right (by omega), l1, show j - a = (j - a - 1) + 1 by omega, List.getElem?_cons_succ, List.getElem?_drop] at hj; rw [List.getElem?_append_right (by omega), l2, show j - a = (j - a - 1) + 1 by omega, List.getElem?_cons_succ, List.getElem?_drop] at hy; exact hrow _ h y hj hy
theorem at_hd {w : World} {A : Option Addr} {n : Nat} {hs : List Hd} (h : Kd.C hdrK w A n hs) (i : Int) (h0 : 0 ≤ i) (h1 : i < n) : ∃ ad, A = some ad ∧ w.cell? (ad.add i.toNat) = some (encH (rdOf (none, 0, 0) hs i)) :=
  ReadsOf.at_ (Kd.reads_of_C (enc := encH) (d := (none, 0, 0)) (h1 := fun _ => rfl) h) i h0 h1
set_option maxHeartbeats 8000000 in
set_option maxRecDepth 100000 in
theorem spec_l14Put.calls (k : Nat) (P0_ okI : Nat → Prop) (u : Value) (hx : Hd) (hs : List Hd) (xs : List (List Int)) (x : List Int) (r : List (List Int)) (w0 w : World) (hB : Below w0.heap.size w0 w) (hL : LL w w0.heap.size P0_ okI u hs xs) (hX : Row3 w okI hx x) (h : spec_l14Put.f k xs x = some r) :
    Calls Try.prog 151 #[u, encH hx] w fun e w' => ∃ (v : Value) (hs' : List Hd), e = .returned v ∧ LL w' w0.heap.size (fun k_ => P0_ k_ ∨ w.heap.size ≤ k_) okI v hs' r ∧ Below w0.heap.size w0 w' ∧ Kept w w' (fun k_ => P0_ k_) ∧ Fr35 w w' := by
  unfold spec_l14Put.f at h
  by_cases hz : xs.length ≤ 1000000
  case neg => rw [if_neg hz] at h; cases h
  rw [if_pos hz] at h; obtain ⟨a, hsc, h⟩ := Option.bind_eq_some_iff.mp h; obtain rfl := Option.some.inj h; clear h; have HLN := am_ hL.len; have HRW := am_ hL.row; have HX := am_ hX; have HSZ := am_ (show hs.length ≤ 1000000 by rw [hL.len]; exact hz); obtain ⟨A, c, rfl⟩ := Kd.R_slice hL.own; have HCAP := am_ (Kd.R_reads' hL.own).2.1; have HO0 := am_ hL.own; have HB0 := am_ hB; have HSC := am_ (show scanL k x xs hs.length = some a from by rw [hL.len]; exact hsc); have hxe := hX.read.1; obtain ⟨hA, hn, hc⟩ := hx; obtain rfl : hn = x.length := by unfold encH at hxe; injection hxe
  clear hB hL hX hz hsc hxe; show Calls Try.prog 151 #[.slice A hs.length c, .slice hA x.length hc] w _
  go_enter Try.func151, Try.ntmps151
  go_wp2; go_loopg [5] (hs.length + 1) (fun kq v5 w' => ∃ (i : Nat) (x5 : Int), v5 = .int .i64 x5 ∧ Aside0 (x5 = (i : Int) ∧ i ≤ hs.length ∧ kq = i + 1) ∧ Aside0 (scanL k x xs i = some a) ∧ Aside0 (Kd.R hdrK 34 w' w0.heap.size P0_ (.slice A hs.length c) hs) ∧ Aside0 (Below w0.heap.size w0 w') ∧ Aside0 (Kept w w' (fun k_ => P0_ k_)) ∧ Aside0 (Fr35 w w'))
  case atStart => exact ⟨hs.length, _, rfl, ⟨rfl, Nat.le_refl _, rfl⟩, HSC, HO0, HB0, ⟨Kept.refl _ _⟩, ⟨Fr35.refl _⟩⟩
  case round =>
    clear HSC HO0 HB0; obtain ⟨i, x5, rfl, HI, HS, HO, HB, HK, HF⟩ := hrel; obtain ⟨hi0, hi1, hi2⟩ := HI.out; cases i with
    | zero =>
      obtain rfl := Option.some.inj (show some 0 = some a from HS.out); have X0 : decide (x5 > 0) = false := decide_eq_false (by omega); have X1 := eq_false (show ¬ x5 > 0 by omega); have X2 := eq_false (show ¬ 0 < x5 by omega); have X3 : decide (0 < x5) = false := decide_eq_false (by omega); have HN := am_ (show x5.toNat = 0 ∧ 0 ≤ hs.length from ⟨by omega, by omega⟩); have q0 : (0 : Int) ≤ x5 := by omega
      have q1 : x5 ≤ (hs.length : Int) := by omega
      obtain ⟨i0, hi0_, _, hsz0, _⟩ := info_parts info34; have hcut0 := cut_from (P := Try.prog) 39 34 .i64 Try.underlying39 hi0_ 1 hsz0 A hs.length c x5 q0 q1; have hcut1 := cut_to (P := Try.prog) 39 34 .i64 Try.underlying39 hi0_ A hs.length c x5 q0 q1 HCAP.out; obtain ⟨A2, hA2⟩ : ∃ A2, A2 = (if c = x5.toNat then A else A.map (·.add (x5.toNat * 1))) := ⟨_, rfl⟩; obtain ⟨c2, hc2⟩ : ∃ c2, c2 = c - x5.toNat := ⟨_, rfl⟩; obtain ⟨n2, hn2⟩ : ∃ n2, n2 = (hs.drop 0).length := ⟨_, rfl⟩; rw [show hs.length - x5.toNat = n2 from by rw [hn2, List.length_drop]; omega, ← hA2, ← hc2] at hcut0; obtain ⟨n1, hn1⟩ : ∃ n1, n1 = (hs.take 0).length := ⟨_, rfl⟩; rw [show x5.toNat = n1 from by rw [hn1, List.length_take]; omega] at hcut1; have HA2 := am_ (show A2 = (if c = 0 then A else A.map (·.add (0 * 1))) ∧ n2 = (hs.drop 0).length ∧ n2 ≤ c2 ∧ n1 = (hs.take 0).length ∧ n2 ≤ 1000000 ∧ n1 ≤ 1000000 from ⟨by rw [hA2, show x5.toNat = 0 from by omega], hn2, by rw [hn2, hc2, List.length_drop]; have := HCAP.out; omega, hn1, by rw [hn2, List.length_drop]; have := HSZ.out; omega, by rw [hn1, List.length_take]; have := HSZ.out; omega⟩); clear q0 q1 hA2 hc2 hn2 hn1 hi0_ hsz0 hi0 hi1 hi2; go_wp2_with (first
        | ((with_reducible refine gd_ 22 rfl ?_); refine Kd.R_lit hdrK _ 34 ?hg (N := 22) ?hd (xs := ([] : List Hd)) (inner := []) (ok := fun _ => True) (okp := fun _ => True) ?hr ?hp (fun _ hk => hk) trivial (Below.refl _ _) (Nat.le_refl _) (by simp) ?_; (case hd => rfl); (case hg => rfl); (case hr => first | (go_simp; done) | (go_simp; rfl)); (case hp => exact (Reps.none _ _)); intro v1 w16 ho hb hg_ hnew_; clear hg_ hnew_
           have HOu := am_ (Kd.R_elder' HO.out (Kd.R_base ho) hb); have HOr := am_ (Kd.R_lower (Kd.R_mono (Kd.R_bound (Kd.R_new' ho (Kd.R_lt HO.out))) (fun k_ hk => (⟨Nat.le_trans HK.out.1 hk.2.1, hk.1.2⟩ : w.heap.size ≤ k_ ∧ some k_ ≠ (Value.slice A hs.length c).ownBlock))) HB.out.size); have HB1 := am_ (below_step HB.out hb); have HK1 := am_ (Kept.below HK.out hb); have HF1 := am_ (HF.out.trans (Fr35.below hb)); clear ho hb HO HB HK HF)
        | ((with_reducible refine gate_builtin (b := .append) (xs := #[.tmp 22, .tmp 25]) rfl ?_); at_builtin
           have hrd : Kd.C hdrK w16 A2 n2 (hs.drop 0) := by
             have h1 := Kd.C_drop (m := 0) (c := c) (Kd.R_reads' HOu.out).2.2 HN.out.2 HCAP.out; rw [HA2.out.1, HA2.out.2.1]; exact h1
           refine Kd.R_append_rows hdrK (w0 := w0) w0.heap.size rfl (.tmp 22) (.tmp 25) 39 34 (.slice none 0 0) 24 rfl Try.underlying39 info34 rfl (by decide) (by omega) v1 [] (hs.drop 0) A2 n2 c2 (fun k_ => w.heap.size ≤ k_ ∧ some k_ ≠ (Value.slice A hs.length c).ownBlock) (fun _ => False) rfl rfl HOr.out hrd (fun _ _ h => h) (fun _ h => h.elim) (fun k_ hk => ⟨Nat.le_trans HK1.out.1 hk, Kd.fresh' (Kd.R_lt HOu.out) k_ hk⟩) HB1.out HB1.out.size (by have := HA2.out; simp only [List.length_nil]; omega) ?_; intro v2 w19 ho hb hg hat; have HOu2 := am_ (Kd.R_after (ok := P0_) HOu.out hg hat); have HB2 := am_ hb; have HK2 := am_ (Kept.of_grown (S := P0_) hg HK1.out (fun k_ e_ => .inr (HOr.out.1 k_ e_).1)); have HF2 := am_ (HF1.out.trans (Fr35.grown hg (Kd.R_typed HOr.out))); have HOr2 := am_ ho; have HOt := am_ (show Kd.R hdrK 34 w19 w0.heap.size (fun k_ => P0_ k_ ∧ some k_ ≠ v2.ownBlock) (.slice A n1 c) (hs.take 0) from by have h1 := Kd.R_take (m := 0) HOu2.out HN.out.2; have e := HA2.out.2.2.2.1; have e2 : 0 = n1 := (by rw [e, List.length_take]; have := HN.out.2; omega); rw [← e2]; exact h1); clear ho hb hg hat hrd HOu HOr HB1 HK1 HF1)
        | ((with_reducible refine gate_builtin (b := .append) (xs := #[.tmp 29, .tmp 31]) rfl ?_); at_builtin
           refine Kd.R_append hdrK (w0 := w0) w0.heap.size rfl (.tmp 29) (.tmp 31) 39 34 (.slice none 0 0) 24 rfl Try.underlying39 info34 rfl (by decide) (by omega) (.slice A n1 c) (hs.take 0) ((hA, x.length, hc) : Hd) [.slice hA x.length hc] (fun k_ => (P0_ k_ ∨ w.heap.size ≤ k_) ∧ some k_ ≠ v2.ownBlock) (fun _ => False) rfl rfl rfl (fun _ h => h.elim) (fun k_ hk => ⟨.inr (Nat.le_trans HK2.out.1 hk), Kd.fresh' (Kd.R_lt HOr2.out) k_ hk⟩) (Kd.R_mono HOt.out (fun k_ hk => ⟨.inl hk.1, hk.2⟩)) HB2.out HB2.out.size (by have := HA2.out; omega) ?_; intro v3 w21 ho hb hg hat; have HOr3 := am_ (Kd.R_after (ok := fun k_ => w.heap.size ≤ k_) (v := .slice A n1 c) (Kd.R_mono HOr2.out (fun k_ hk => ⟨hk.1, by rw [own_same A _ hs.length c]; exact hk.2⟩)) hg hat); have HB3 := am_ hb; have HK3 := am_ (Kept.of_grown (S := P0_) hg HK2.out (fun k_ e_ => .inl (HOt.out.1 k_ e_).1)); have HF3 := am_ (HF2.out.trans (Fr35.grown hg (Kd.R_typed HOt.out))); have HO3 := am_ ho; obtain ⟨A3, c3, hv2⟩ := Kd.R_slice HOr3.out; replace hv2 : v2 = .slice A3 n2 c3 := hv2.trans (congrArg (fun n_ => Value.slice A3 n_ c3) (show (([] : List Hd) ++ hs.drop 0).length = n2 from HA2.out.2.1.symm)); subst hv2; clear ho hb hg hat HOu2 HOr2 HOt HB2 HK2 HF2)
        | ((with_reducible refine gate_builtin (b := .append) (xs := #[.tmp 32, .tmp 33]) rfl ?_); at_builtin
           refine Kd.R_append_rows hdrK (w0 := w0) w0.heap.size rfl (.tmp 32) (.tmp 33) 39 34 (.slice none 0 0) 24 rfl Try.underlying39 info34 rfl (by decide) (by omega) v3 (hs.take 0 ++ [((hA, x.length, hc) : Hd)]) (hs.drop 0) A3 n2 c3 (fun k_ => (P0_ k_ ∨ w.heap.size ≤ k_) ∧ some k_ ≠ (Value.slice A3 n2 c3).ownBlock) (fun _ => False) rfl rfl HO3.out (by rw [HA2.out.2.1]; exact (Kd.R_reads' HOr3.out).2.2) (fun _ _ h => h) (fun _ h => h.elim) (fun k_ hk => ⟨.inr (Nat.le_trans HK3.out.1 hk), Kd.fresh' (Kd.R_lt HOr3.out) k_ hk⟩) HB3.out HB3.out.size (by have := HA2.out; rw [List.length_append, List.length_singleton]; omega) ?_; intro v4 w22 ho hb hg hat; have HB4 := am_ hb; have HK4 := am_ (Kept.of_grown (S := P0_) hg HK3.out (fun k_ e_ => (HO3.out.1 k_ e_).1)); have HF4 := am_ (HF3.out.trans (Fr35.grown hg (Kd.R_typed HO3.out))); have HO4 := am_ (show Kd.R hdrK 34 w22 w0.heap.size (fun k_ => P0_ k_ ∨ w.heap.size ≤ k_) v4 (hs.take 0 ++ ((hA, x.length, hc) : Hd) :: hs.drop 0) from by rw [show hs.take 0 ++ ((hA, x.length, hc) : Hd) :: hs.drop 0 = (hs.take 0 ++ [((hA, x.length, hc) : Hd)]) ++ hs.drop 0 from by simp]; exact Kd.R_mono ho (fun k_ hk => hk.1)); clear ho hb hg hat HO3 HOr3 HB3 HK3 HF3))
      go_ret; exact ⟨_, _, rfl, LL.insert HLN.out (fun j h y hj hy => (HRW.out j h y hj hy).fr HF4.out) (HX.out.fr HF4.out) HN.out.2 HO4.out, HB4.out, HK4.out, HF4.out⟩
    | succ i =>
      obtain ⟨b, hb, hsc⟩ := Option.bind_eq_some_iff.mp HS.out; have X0 : decide (x5 > 0) = true := decide_eq_true (by omega); have X1 := eq_true (show x5 > 0 by omega); have X2 := eq_true (show 0 < x5 by omega); have X3 : decide (0 < x5) = true := decide_eq_true (by omega); obtain ⟨y, hy⟩ : ∃ y : Int, wrap64 (x5 - 1) = y := ⟨_, rfl⟩; have hyi : (IntKind.i64.wrap (x5 - 1)) = y := (i64_w _).trans hy; have hyp : y = (i : Int) := by rw [← hy, hi0]; have := HSZ.out; unfold wrap64; omega
      obtain ⟨ad, e0, z0⟩ := at_hd (Kd.R_reads' HO.out).2.2 y (by omega) (by omega); subst e0; have hil : i < hs.length := by omega
      have hix : i < xs.length := by rw [← HLN.out]; exact hil
      obtain ⟨h0, hh0⟩ : ∃ h0, h0 = rdOf (none, 0, 0) hs y := ⟨_, rfl⟩; rw [← hh0] at z0; have hg0 : hs[i]? = some h0 := by
        rw [hh0, hyp]; unfold rdOf
        rw [Int.toNat_natCast, List.getD_eq_getElem?_getD, List.getElem?_eq_getElem hil]; rfl
      obtain ⟨x0, hx0⟩ : ∃ x0, x0 = xs.getD i [] := ⟨_, rfl⟩; have hg1 : xs[i]? = some x0 := by
        rw [hx0, List.getD_eq_getElem?_getD, List.getElem?_eq_getElem hix]; rfl
      rw [← hx0] at hb; have HR0 := am_ (HRW.out i h0 x0 hg0 hg1); have hre := HR0.out.read.1; obtain ⟨hA0, hn0, hc0⟩ := h0; obtain rfl : hn0 = x0.length := by unfold encH at hre; injection hre
      replace z0 : _ = some (Value.slice hA0 x0.length hc0) := z0; have Y0 := eq_true (show 0 ≤ y by omega); have Y1 := eq_true (show y < (hs.length : Int) by omega); have Y0b : decide (0 ≤ y) = true := decide_eq_true (by omega); have Y1b : decide (y < (hs.length : Int)) = true := decide_eq_true (by omega); have HLS := am_ hb; have HSC := am_ hsc; have HY := am_ (show y = (i : Int) ∧ i + 1 ≤ hs.length ∧ gk = i + 2 from ⟨hyp, by omega, by omega⟩); have HXC := am_ ((HX.out.fr HF.out).read); have HRC := am_ ((HR0.out.fr HF.out).read); clear hb hsc hyp hil hix hh0 hg0 hx0 hg1 hre HS HR0; cases b with
      | true =>
        clear hi0 hi1 hi2 HI; go_wp2_with (first | (go_at_call 195; refine (spec_l14Less.calls k hA hc x hA0 hc0 x0 true _ HXC.out.2.1 HXC.out.2.2 HRC.out.2.1 HRC.out.2.2 HLS.out).mono ?_; rintro e w5 ⟨rfl, ⟨nd, hw5⟩⟩; have BL := am_ (show Below wr.heap.size wr w5 from by rw [hw5]; exact pw_below_drewN (Below.refl _ _) nd); clear hw5))
        go_roundg (i + 1)
        case measure => have := HY.out; omega
        case rel => exact ⟨i, y, by first | rfl | (simp; done), ⟨HY.out.1, by have := HY.out; omega, rfl⟩, ⟨by have h := HSC.out; simpa using h⟩, ⟨Kd.R_below HO.out BL.out⟩, ⟨below_step HB.out BL.out⟩, ⟨Kept.below HK.out BL.out⟩, ⟨HF.out.trans (Fr35.below BL.out)⟩⟩
      | false =>
        obtain rfl := Option.some.inj (show some (i + 1) = some a from by have h := HSC.out; simpa using h); have HN := am_ (show x5.toNat = (i + 1) ∧ (i + 1) ≤ hs.length from ⟨by omega, by omega⟩); have q0 : (0 : Int) ≤ x5 := by omega
        have q1 : x5 ≤ (hs.length : Int) := by omega
        obtain ⟨i0, hi0_, _, hsz0, _⟩ := info_parts info34; have hcut0 := cut_from (P := Try.prog) 39 34 .i64 Try.underlying39 hi0_ 1 hsz0 (some ad) hs.length c x5 q0 q1; have hcut1 := cut_to (P := Try.prog) 39 34 .i64 Try.underlying39 hi0_ (some ad) hs.length c x5 q0 q1 HCAP.out; obtain ⟨A2, hA2⟩ : ∃ A2, A2 = (if c = x5.toNat then (some ad) else (some ad : Option Addr).map (·.add (x5.toNat * 1))) := ⟨_, rfl⟩; obtain ⟨c2, hc2⟩ : ∃ c2, c2 = c - x5.toNat := ⟨_, rfl⟩; obtain ⟨n2, hn2⟩ : ∃ n2, n2 = (hs.drop (i + 1)).length := ⟨_, rfl⟩; rw [show hs.length - x5.toNat = n2 from by rw [hn2, List.length_drop]; omega, ← hA2, ← hc2] at hcut0; obtain ⟨n1, hn1⟩ : ∃ n1, n1 = (hs.take (i + 1)).length := ⟨_, rfl⟩; rw [show x5.toNat = n1 from by rw [hn1, List.length_take]; omega] at hcut1; have HA2 := am_ (show A2 = (if c = (i + 1) then (some ad) else (some ad : Option Addr).map (·.add ((i + 1) * 1))) ∧ n2 = (hs.drop (i + 1)).length ∧ n2 ≤ c2 ∧ n1 = (hs.take (i + 1)).length ∧ n2 ≤ 1000000 ∧ n1 ≤ 1000000 from ⟨by rw [hA2, show x5.toNat = (i + 1) from by omega], hn2, by rw [hn2, hc2, List.length_drop]; have := HCAP.out; omega, hn1, by rw [hn2, List.length_drop]; have := HSZ.out; omega, by rw [hn1, List.length_take]; have := HSZ.out; omega⟩); clear q0 q1 hA2 hc2 hn2 hn1 hi0_ hsz0 hi0 hi1 hi2; go_wp2_with (first
          | (go_at_call 195; refine (spec_l14Less.calls k hA hc x hA0 hc0 x0 false _ HXC.out.2.1 HXC.out.2.2 HRC.out.2.1 HRC.out.2.2 HLS.out).mono ?_; rintro e w5 ⟨rfl, ⟨nd, hw5⟩⟩; have BL := am_ (show Below wr.heap.size wr w5 from by rw [hw5]; exact pw_below_drewN (Below.refl _ _) nd); clear hw5
             have HB_ := am_ (below_step HB.out BL.out); have HO_ := am_ (Kd.R_below HO.out BL.out); have HK_ := am_ (Kept.below HK.out BL.out); have HF_ := am_ (HF.out.trans (Fr35.below BL.out)); clear HB HO HK HF BL; have HB := HB_; have HO := HO_; have HK := HK_; have HF := HF_; clear HB_ HO_ HK_ HF_)
          | ((with_reducible refine gd_ 22 rfl ?_); refine Kd.R_lit hdrK _ 34 ?hg (N := 22) ?hd (xs := ([] : List Hd)) (inner := []) (ok := fun _ => True) (okp := fun _ => True) ?hr ?hp (fun _ hk => hk) trivial (Below.refl _ _) (Nat.le_refl _) (by simp) ?_; (case hd => rfl); (case hg => rfl); (case hr => first | (go_simp; done) | (go_simp; rfl)); (case hp => exact (Reps.none _ _)); intro v1 w16 ho hb hg_ hnew_; clear hg_ hnew_
             have HOu := am_ (Kd.R_elder' HO.out (Kd.R_base ho) hb); have HOr := am_ (Kd.R_lower (Kd.R_mono (Kd.R_bound (Kd.R_new' ho (Kd.R_lt HO.out))) (fun k_ hk => (⟨Nat.le_trans HK.out.1 hk.2.1, hk.1.2⟩ : w.heap.size ≤ k_ ∧ some k_ ≠ (Value.slice (some ad) hs.length c).ownBlock))) HB.out.size); have HB1 := am_ (below_step HB.out hb); have HK1 := am_ (Kept.below HK.out hb); have HF1 := am_ (HF.out.trans (Fr35.below hb)); clear ho hb HO HB HK HF)
          | ((with_reducible refine gate_builtin (b := .append) (xs := #[.tmp 22, .tmp 25]) rfl ?_); at_builtin
             have hrd : Kd.C hdrK w16 A2 n2 (hs.drop (i + 1)) := by
               have h1 := Kd.C_drop (m := i + 1) (c := c) (Kd.R_reads' HOu.out).2.2 HN.out.2 HCAP.out; rw [HA2.out.1, HA2.out.2.1]; exact h1
             refine Kd.R_append_rows hdrK (w0 := w0) w0.heap.size rfl (.tmp 22) (.tmp 25) 39 34 (.slice none 0 0) 24 rfl Try.underlying39 info34 rfl (by decide) (by omega) v1 [] (hs.drop (i + 1)) A2 n2 c2 (fun k_ => w.heap.size ≤ k_ ∧ some k_ ≠ (Value.slice (some ad) hs.length c).ownBlock) (fun _ => False) rfl rfl HOr.out hrd (fun _ _ h => h) (fun _ h => h.elim) (fun k_ hk => ⟨Nat.le_trans HK1.out.1 hk, Kd.fresh' (Kd.R_lt HOu.out) k_ hk⟩) HB1.out HB1.out.size (by have := HA2.out; simp only [List.length_nil]; omega) ?_; intro v2 w19 ho hb hg hat; have HOu2 := am_ (Kd.R_after (ok := P0_) HOu.out hg hat); have HB2 := am_ hb; have HK2 := am_ (Kept.of_grown (S := P0_) hg HK1.out (fun k_ e_ => .inr (HOr.out.1 k_ e_).1)); have HF2 := am_ (HF1.out.trans (Fr35.grown hg (Kd.R_typed HOr.out))); have HOr2 := am_ ho; have HOt := am_ (show Kd.R hdrK 34 w19 w0.heap.size (fun k_ => P0_ k_ ∧ some k_ ≠ v2.ownBlock) (.slice (some ad) n1 c) (hs.take (i + 1)) from by have h1 := Kd.R_take (m := i + 1) HOu2.out HN.out.2; have e := HA2.out.2.2.2.1; have e2 : (i + 1) = n1 := (by rw [e, List.length_take]; have := HN.out.2; omega); rw [← e2]; exact h1); clear ho hb hg hat hrd HOu HOr HB1 HK1 HF1)
          | ((with_reducible refine gate_builtin (b := .append) (xs := #[.tmp 29, .tmp 31]) rfl ?_); at_builtin
             refine Kd.R_append hdrK (w0 := w0) w0.heap.size rfl (.tmp 29) (.tmp 31) 39 34 (.slice none 0 0) 24 rfl Try.underlying39 info34 rfl (by decide) (by omega) (.slice (some ad) n1 c) (hs.take (i + 1)) ((hA, x.length, hc) : Hd) [.slice hA x.length hc] (fun k_ => (P0_ k_ ∨ w.heap.size ≤ k_) ∧ some k_ ≠ v2.ownBlock) (fun _ => False) rfl rfl rfl (fun _ h => h.elim) (fun k_ hk => ⟨.inr (Nat.le_trans HK2.out.1 hk), Kd.fresh' (Kd.R_lt HOr2.out) k_ hk⟩) (Kd.R_mono HOt.out (fun k_ hk => ⟨.inl hk.1, hk.2⟩)) HB2.out HB2.out.size (by have := HA2.out; omega) ?_; intro v3 w21 ho hb hg hat; have HOr3 := am_ (Kd.R_after (ok := fun k_ => w.heap.size ≤ k_) (v := .slice (some ad) n1 c) (Kd.R_mono HOr2.out (fun k_ hk => ⟨hk.1, by rw [own_same (some ad) _ hs.length c]; exact hk.2⟩)) hg hat); have HB3 := am_ hb; have HK3 := am_ (Kept.of_grown (S := P0_) hg HK2.out (fun k_ e_ => .inl (HOt.out.1 k_ e_).1)); have HF3 := am_ (HF2.out.trans (Fr35.grown hg (Kd.R_typed HOt.out))); have HO3 := am_ ho; obtain ⟨A3, c3, hv2⟩ := Kd.R_slice HOr3.out; replace hv2 : v2 = .slice A3 n2 c3 := hv2.trans (congrArg (fun n_ => Value.slice A3 n_ c3) (show (([] : List Hd) ++ hs.drop (i + 1)).length = n2 from HA2.out.2.1.symm)); subst hv2; clear ho hb hg hat HOu2 HOr2 HOt HB2 HK2 HF2)
          | ((with_reducible refine gate_builtin (b := .append) (xs := #[.tmp 32, .tmp 33]) rfl ?_); at_builtin
             refine Kd.R_append_rows hdrK (w0 := w0) w0.heap.size rfl (.tmp 32) (.tmp 33) 39 34 (.slice none 0 0) 24 rfl Try.underlying39 info34 rfl (by decide) (by omega) v3 (hs.take (i + 1) ++ [((hA, x.length, hc) : Hd)]) (hs.drop (i + 1)) A3 n2 c3 (fun k_ => (P0_ k_ ∨ w.heap.size ≤ k_) ∧ some k_ ≠ (Value.slice A3 n2 c3).ownBlock) (fun _ => False) rfl rfl HO3.out (by rw [HA2.out.2.1]; exact (Kd.R_reads' HOr3.out).2.2) (fun _ _ h => h) (fun _ h => h.elim) (fun k_ hk => ⟨.inr (Nat.le_trans HK3.out.1 hk), Kd.fresh' (Kd.R_lt HOr3.out) k_ hk⟩) HB3.out HB3.out.size (by have := HA2.out; rw [List.length_append, List.length_singleton]; omega) ?_; intro v4 w22 ho hb hg hat; have HB4 := am_ hb; have HK4 := am_ (Kept.of_grown (S := P0_) hg HK3.out (fun k_ e_ => (HO3.out.1 k_ e_).1)); have HF4 := am_ (HF3.out.trans (Fr35.grown hg (Kd.R_typed HO3.out))); have HO4 := am_ (show Kd.R hdrK 34 w22 w0.heap.size (fun k_ => P0_ k_ ∨ w.heap.size ≤ k_) v4 (hs.take (i + 1) ++ ((hA, x.length, hc) : Hd) :: hs.drop (i + 1)) from by rw [show hs.take (i + 1) ++ ((hA, x.length, hc) : Hd) :: hs.drop (i + 1) = (hs.take (i + 1) ++ [((hA, x.length, hc) : Hd)]) ++ hs.drop (i + 1) from by simp]; exact Kd.R_mono ho (fun k_ hk => hk.1)); clear ho hb hg hat HO3 HOr3 HB3 HK3 HF3))
        go_ret; exact ⟨_, _, rfl, LL.insert HLN.out (fun j h y hj hy => (HRW.out j h y hj hy).fr HF4.out) (HX.out.fr HF4.out) HN.out.2 HO4.out, HB4.out, HK4.out, HF4.out⟩
end Go.Proofs.Ytoajlmlobaccdaa.P
