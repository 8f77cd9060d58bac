/- What the law FnExactTypeOf reaches, part 12: functions as plain Lean functions with the proofs that their calls come to them, and plain lemmas over these. Put together by a program (wip/pack.py). -/
import Derived.Test.YtoajlmlobaccdaaKFnExactTypeOfd
import Derived.Test.YtoajlmlobaccdaaKFnExactTypeOfc
import Derived.Test.YtoajlmlobaccdaaKFnExactTypeOfj
import Derived.Test.YtoajlmlobaccdaaKFnExactTypeOfk
import Derived.Test.YtoajlmlobaccdaaKFnExactTypeOff
import Derived.Shelf.SortM.Plain
import Derived.Shelf.SortM.SortNone
import Derived.Shelf.SlicesG.CompactS
namespace Go.Proofs.Ytoajlmlobaccdaa.P
open Go.RowKit Go.Proofs.YtoajlmlobaccdaaW.PrintWords Go.Proofs.YtoajlmlobaccdaaW.PrintLast Go.Proofs.YtoajlmlobaccdaaW.PrintMore
attribute [local go_sem] ptrOf_slice
attribute [local go_sem] min2_str max2_int min2_int max_two min_two max_three min_three max_four min_four
set_option linter.unusedVariables false
set_option linter.unusedSimpArgs false
def impl_chi_signs.l0 : Nat → List Int → List Int → List (S89) → Int → Int → Option (Int × ByteArray)
 | 0, _, _, _, _, _ => none
 | k + 1, x0, x3, x10, x11, x12 => if x12 < x11 then (if 0 ≤ x12 then (if x12 < (x10.length : Int) then (if 344 ≤ (x0.length : Int) then (if 0 ≤ ((rd_T89 x10 x12).f0) then (if ((rd_T89 x10 x12).f0) < 7 then (if 0 ≤ ((rd_T89 x10 x12).f1) then (if ((rd_T89 x10 x12).f1) < 7 then (if 0 ≤ ((rd_T89 x10 x12).f2) then (if ((rd_T89 x10 x12).f2) < 7 then (if (chiA x0 ((rd_T89 x10 x12).f0) ((rd_T89 x10 x12).f1) ((rd_T89 x10 x12).f2)) > 0 then (if x3.length < 140737488355328 then (impl_chi_signs.l0 k x0 (x3 ++ [43]) x10 x11 (wrap64 (x12 + 1))) else (none)) else (if x3.length < 140737488355328 then (impl_chi_signs.l0 k x0 (x3 ++ [45]) x10 x11 (wrap64 (x12 + 1))) else (none))) else (none)) else (none)) else (none)) else (none)) else (none)) else (none)) else (none)) else (none)) else (none)) else (if 344 ≤ (x0.length : Int) then (some (chiN x0, strOfNums x3)) else (none))
def impl_chi_signs.f (k : Nat) (l0 : List Int) : Option (Int × ByteArray) := if 344 ≤ (l0.length : Int) then ((impl_triplesOf.f k (chiN l0)).bind fun t337 => (impl_chi_signs.l0 k l0 ([] : List Int) t337 (t337.length : Int) 0)) else (none)
def impl_chi_signs.T5 : Bool × List (List Nat × List Nat) := (true, [([], []), ([], []), ([1], [1]), ([], []), ([3], [3]), ([], []), ([5], [5]), ([0], [0]), ([7], [7]), ([8, 2], [2, 8]), ([9, 4], [4, 9]), ([10, 6], [6, 10]), ([11], [11]), ([12], [12])])
def impl_chi_signs.B5 : List Nat := [0, 0, 2, 0, 8, 0, 32, 1, 129, 391, 927, 2047, 4095, 8191]
theorem impl_chi_signs.tab5 : rtab .any (opsOf Try.f86 5) = impl_chi_signs.T5 := by kernel_rfl
theorem impl_chi_signs.bits5 : waitsOk impl_chi_signs.T5.2 impl_chi_signs.B5 = true := by kernel_rfl
def impl_chi_signs.T9 : Bool × List (List Nat × List Nat) := (true, [([], []), ([0], [0]), ([1], [1]), ([2], [2]), ([], []), ([4], [4]), ([3, 5], [3, 5]), ([6, 0, 1, 2, 3, 4, 5, 6], [6])])
def impl_chi_signs.B9 : List Nat := [0, 1, 3, 7, 0, 16, 63, 127]
theorem impl_chi_signs.tab9 : rtab .any (opsOf Try.f86 9) = impl_chi_signs.T9 := by kernel_rfl
theorem impl_chi_signs.bits9 : waitsOk impl_chi_signs.T9.2 impl_chi_signs.B9 = true := by kernel_rfl
set_option maxHeartbeats 8000000 in
set_option maxRecDepth 100000 in
theorem impl_chi_signs.calls (k : Nat) (A0 : Option Addr) (c0 : Nat) (l0 : List Int) (r1 : Int) (r2 : ByteArray) (w : World) (hr0 : Kd.C (Kd.int .i64) w A0 l0.length l0) (hc0 : l0.length ≤ c0) (h : impl_chi_signs.f k l0 = some (r1, r2)) :
  Calls Try.prog 86 #[.pointer A0] w fun e w' => e = .returned (.agg #[.int .i64 r1, .string r2]) ∧ Below w.heap.size w w' := by
 have hu31 := Try.underlying31; have hu89 := Try.underlying89; have HR0 := am_ hr0; have HC0 := am_ hc0; clear hr0 hc0; have HB := am_ (Below.refl w.heap.size w); have H : (if 344 ≤ (l0.length : Int) then ((impl_triplesOf.f k (chiN l0)).bind fun t337 => (impl_chi_signs.l0 k l0 ([] : List Int) t337 (t337.length : Int) 0)) else (none)) = some (r1, r2) := h; clear h; by_cases c2 : 344 ≤ (l0.length : Int)
 ·rw [if_pos c2] at H; have c2b0 := eq_true c2; have c2b1 := decide_eq_true c2; clear c2; obtain ⟨t337, A3, H⟩ := bnd_ H; have H' := am_ H; clear H; go_enter Try.func86, Try.ntmps86
  go_wp2_with (first | ((with_reducible refine gd_ 2 rfl ?_); refine be_ 2 #[.int .i64 0, .string (⟨#[]⟩ : ByteArray)] 31 ?_; intro gb335 hg w4 hbox hb; have BK335 := am_ hbox; have GW335 := gw0_ HB hg; have GE335 := GW335; replace HB := bs0_ HB hb; clear hb hbox hg; have q336 : 344 ≤ (l0.length : Int) := oda_; obtain ⟨ad336, e336, hx336_0⟩ := chi_n HR0.out q336; cases e336; replace hx336_0 := (HB.out.cell (World.block_lt_of_cell? w _ hx336_0)).trans hx336_0) | ((with_reducible refine gc_ 84 rfl ?_); refine gR_ (some 10) Try.func84 #[.int .i64 (chiN l0)] (impl_triplesOf.calls k (chiN l0) t337 _ A3.out) ?_; intro w5 v338 ho0 hb; have HO339 := rl1_ ho0 HB GE335; replace BK335 := bb_ BK335 hb; replace HB := bs1_ HB hb GE335; try clear hb; (try clear ho0); obtain ⟨Ao6, co6, eo6⟩ := Kd.R_slice HO339.out; subst eo6))
  go_loopg [3, 12] k (fun kq v3 v12 w' => ∃ (x3_1 : List Int) (x12_1 : Int), v12 = .int .i64 x12_1 ∧ Aside0 (impl_chi_signs.l0 kq l0 x3_1 t337 (t337.length : Int) x12_1 = some (r1, r2)) ∧ Aside0 (kq ≤ k) ∧ Aside0 (Kd.R (Kd.int .u8) 5 w' w.heap.size (fun _ => True) v3 x3_1) ∧ Aside0 (Kd.R k89 89 w' w.heap.size (fun _ => True) (.slice Ao6 t337.length co6) t337) ∧ Aside0 (w'.heap[gb335]? = some (.cells #[.int .i64 0, .string (⟨#[]⟩ : ByteArray)] 31 (0, 0))) ∧ Aside0 (Below w.heap.size w w'))
  case atStart => exact ⟨(([] : List Int)), (0), vt_, H', ⟨Nat.le_refl _⟩, ⟨by first | exact Kd.R_nil _ _ _ _ _ | exact Kd.N_nil _ _ _ _ _ | exact Kd.V_nil _ _ _ _ _ | exact Kd.Q_nil _ _ _ _ _ | exact Kd.S_nil _ _ _ _ _⟩, rX_ HO339, kX_ BK335, bX1_ HB GE335⟩
  case round =>
   clear H'; try clear c2b0 c2b1 hx336_0 q336
   obtain ⟨x3_1, x12_1, rfl, HA, HK1, HO_3, HO_10, BK335, HB⟩ := hrel; cases gk with
   | zero => exact absurd HA.out (by simp [impl_chi_signs.l0])
   | succ k1 =>
    have H := HA.out; clear HA; simp only [impl_chi_signs.l0] at H
    by_cases c7 : x12_1 < (t337.length : Int)
    ·rw [if_pos c7] at H; have c7b0 := decide_eq_true c7; clear c7; by_cases c8 : 0 ≤ x12_1
     ·rw [if_pos c8] at H; have c8b0 := decide_eq_true c8; clear c8; by_cases c9 : x12_1 < (t337.length : Int)
      ·rw [if_pos c9] at H; have c9b0 := decide_eq_true c9; clear c9; by_cases c10 : 344 ≤ (l0.length : Int)
       ·rw [if_pos c10] at H; have c10b0 := eq_true c10; have c10b1 := decide_eq_true c10; clear c10; by_cases c11 : 0 ≤ ((rd_T89 t337 x12_1).f0)
        ·rw [if_pos c11] at H; have c11b0 := decide_eq_true c11; clear c11; by_cases c12 : ((rd_T89 t337 x12_1).f0) < 7
         ·rw [if_pos c12] at H; have c12b0 := decide_eq_true c12; clear c12; by_cases c13 : 0 ≤ ((rd_T89 t337 x12_1).f1)
          ·rw [if_pos c13] at H; have c13b0 := decide_eq_true c13; clear c13; by_cases c14 : ((rd_T89 t337 x12_1).f1) < 7
           ·rw [if_pos c14] at H; have c14b0 := decide_eq_true c14; clear c14; by_cases c15 : 0 ≤ ((rd_T89 t337 x12_1).f2)
            ·rw [if_pos c15] at H; have c15b0 := decide_eq_true c15; clear c15; by_cases c16 : ((rd_T89 t337 x12_1).f2) < 7
             ·rw [if_pos c16] at H; have c16b0 := decide_eq_true c16; clear c16; by_cases c17 : (chiA l0 ((rd_T89 t337 x12_1).f0) ((rd_T89 t337 x12_1).f1) ((rd_T89 t337 x12_1).f2)) > 0
              ·rw [if_pos c17] at H; have c17b0 := decide_eq_true c17; clear c17; by_cases c18 : x3_1.length < 140737488355328
               ·rw [if_pos c18] at H; have LMc18 := am_ c18; clear c18; obtain ⟨y343, hy343⟩ : ∃ y_ : List Int, y_ = (x3_1 ++ [43]) := ⟨_, rfl⟩; replace H : (impl_chi_signs.l0 k1 l0 y343 t337 (t337.length : Int) (wrap64 (x12_1 + 1))) = some (r1, r2) := yH_ hy343 H; have Ny343 := am_ hy343; clear hy343; have H' := am_ H; clear H; have p340 : 0 ≤ (x12_1 : Int) := oda_; have q340 : x12_1 < (t337.length : Int) := oda_; obtain ⟨ad340, e340, hx340_0, hx340_1, hx340_2⟩ := at_T89 (Kd.R_reads' HO_10.out).2.2 x12_1 p340 q340; cases e340; replace p340 := eq_true p340; replace q340 := eq_true q340; try go_wp2_with (first | ((with_reducible refine gd_ 5 rfl ?_); refine be_ 5 #[.int .i64 0, .int .i64 0, .int .i64 0] 89 ?_; intro gb341 hg w19 hbox hb; replace HO_3 := rb_ HO_3 hb; replace HO_10 := am_ (Kd.R_below (Kd.R_elderB (rx_ HO_10.out) gb341 (Nat.le_of_eq hg.symm)) hb); have BK341 := am_ hbox; have GW341 := gw1_ HB hg GE335; have GE341 := GW341; replace HB := bs1_ HB hb GE335; have NB335_341 := nl_ BK335 hg; have NB341_335 := ng_ BK335 hg; replace BK335 := bb_ BK335 hb; clear hb hbox hg; have hnb20 := NB341_335.out; have hnc20 := NB335_341.out; obtain ⟨hcz21_0, hfz21_0, hcz21_1, hfz21_1, hcz21_2, hfz21_2⟩ := bk3_ BK341))
                have n0_ : Aside0 (Kd.R (Kd.int .u8) 5 (((w19.setCell ⟨gb341, 0, none⟩ (.int .i64 ((rd_T89 t337 x12_1).f0))).setCell ⟨gb341, 1, none⟩ (.int .i64 ((rd_T89 t337 x12_1).f1))).setCell ⟨gb341, 2, none⟩ (.int .i64 ((rd_T89 t337 x12_1).f2))) w.heap.size (fun _ => True) u3 x3_1) := ⟨by refine rx_ ?_; exact Kd.R_mono (Kd.R_far (p := ⟨gb341, 2, none⟩) (Kd.R_far (p := ⟨gb341, 1, none⟩) (Kd.R_far (p := ⟨gb341, 0, none⟩) (Kd.R_types HO_3.out BK341.out (by decide)) (fun _ hk => hk.2) (.int .i64 ((rd_T89 t337 x12_1).f0))) (fun _ hk => hk.2) (.int .i64 ((rd_T89 t337 x12_1).f1))) (fun _ hk => hk.2) (.int .i64 ((rd_T89 t337 x12_1).f2))) (fun _ hk => trivial)⟩; have n1_ : Aside0 (Kd.R k89 89 (((w19.setCell ⟨gb341, 0, none⟩ (.int .i64 ((rd_T89 t337 x12_1).f0))).setCell ⟨gb341, 1, none⟩ (.int .i64 ((rd_T89 t337 x12_1).f1))).setCell ⟨gb341, 2, none⟩ (.int .i64 ((rd_T89 t337 x12_1).f2))) w.heap.size (fun k_ => k_ ≠ gb341) (.slice (some ad340) t337.length co6) t337) := ⟨by refine rx_ ?_; exact Kd.R_mono (Kd.R_far (p := ⟨gb341, 2, none⟩) (Kd.R_far (p := ⟨gb341, 1, none⟩) (Kd.R_far (p := ⟨gb341, 0, none⟩) (Kd.R_mono HO_10.out (fun k_ hk => (⟨hk, hk.2⟩ : _ ∧ k_ ≠ gb341))) (fun _ hk => hk.2) (.int .i64 ((rd_T89 t337 x12_1).f0))) (fun _ hk => hk.2) (.int .i64 ((rd_T89 t337 x12_1).f1))) (fun _ hk => hk.2) (.int .i64 ((rd_T89 t337 x12_1).f2))) (fun _ hk => hk.1.2)⟩; have n2_ : Aside0 ((((w19.setCell ⟨gb341, 0, none⟩ (.int .i64 ((rd_T89 t337 x12_1).f0))).setCell ⟨gb341, 1, none⟩ (.int .i64 ((rd_T89 t337 x12_1).f1))).setCell ⟨gb341, 2, none⟩ (.int .i64 ((rd_T89 t337 x12_1).f2))).heap[gb335]? = some (.cells #[.int .i64 0, .string (⟨#[]⟩ : ByteArray)] 31 (0, 0))) := ⟨by refine kx_ ?_; refine blk_far ?_ NB335_341.out _; refine kx_ ?_; refine blk_far ?_ NB335_341.out _; refine kx_ ?_; refine blk_far ?_ NB335_341.out _; refine kx_ ?_; exact BK335.out⟩; have n3_ : Aside0 ((((w19.setCell ⟨gb341, 0, none⟩ (.int .i64 ((rd_T89 t337 x12_1).f0))).setCell ⟨gb341, 1, none⟩ (.int .i64 ((rd_T89 t337 x12_1).f1))).setCell ⟨gb341, 2, none⟩ (.int .i64 ((rd_T89 t337 x12_1).f2))).heap[gb341]? = some (.cells #[.int .i64 ((rd_T89 t337 x12_1).f0), .int .i64 ((rd_T89 t337 x12_1).f1), .int .i64 ((rd_T89 t337 x12_1).f2)] 89 (0, 0))) := ⟨by refine kx_ ?_; refine blk_put (cs := #[.int .i64 ((rd_T89 t337 x12_1).f0), .int .i64 ((rd_T89 t337 x12_1).f1), .int .i64 0]) ?_ 2 _ rfl; refine kx_ ?_; refine blk_put (cs := #[.int .i64 ((rd_T89 t337 x12_1).f0), .int .i64 0, .int .i64 0]) ?_ 1 _ rfl; refine kx_ ?_; refine blk_put (cs := #[.int .i64 0, .int .i64 0, .int .i64 0]) ?_ 0 _ rfl; refine kx_ ?_; exact BK341.out⟩
                have n4_ : Aside0 (Below w.heap.size w (((w19.setCell ⟨gb341, 0, none⟩ (.int .i64 ((rd_T89 t337 x12_1).f0))).setCell ⟨gb341, 1, none⟩ (.int .i64 ((rd_T89 t337 x12_1).f1))).setCell ⟨gb341, 2, none⟩ (.int .i64 ((rd_T89 t337 x12_1).f2)))) := bX2_ HB GE335 GE341; (try clear HO_3)
                (try clear HO_10)
                (try clear BK335)
                (try clear BK341)
                (try clear HB)
                generalize (((w19.setCell ⟨gb341, 0, none⟩ (.int .i64 ((rd_T89 t337 x12_1).f0))).setCell ⟨gb341, 1, none⟩ (.int .i64 ((rd_T89 t337 x12_1).f1))).setCell ⟨gb341, 2, none⟩ (.int .i64 ((rd_T89 t337 x12_1).f2))) = w22 at n0_ n1_ n2_ n3_ n4_ ⊢
                have HO_3 := n0_; have HO_10 := n1_; have BK335 := n2_; have BK341 := n3_; have HB := n4_; clear n0_ n1_ n2_ n3_ n4_; replace HO_3 := am_ (Kd.R_drew HO_3.out); replace HO_10 := am_ (Kd.R_drew HO_10.out); replace BK335 := am_ (blk_drew BK335.out); replace BK341 := am_ (blk_drew BK341.out); replace HB := bd_ HB; have q342 : 344 ≤ (l0.length : Int) := oda_; have p342_0a : 0 ≤ (((rd_T89 t337 x12_1).f0) : Int) := oda_; have p342_0b : (((rd_T89 t337 x12_1).f0) : Int) < 7 := oda_; have p342_1a : 0 ≤ (((rd_T89 t337 x12_1).f1) : Int) := oda_; have p342_1b : (((rd_T89 t337 x12_1).f1) : Int) < 7 := oda_; have p342_2a : 0 ≤ (((rd_T89 t337 x12_1).f2) : Int) := oda_; have p342_2b : (((rd_T89 t337 x12_1).f2) : Int) < 7 := oda_; obtain ⟨ad342, e342, hx342_0⟩ := chi_at HR0.out q342 p342_0a p342_0b p342_1a p342_1b p342_2a p342_2b; have hw342_0 := hx342_0; obtain rfl : ad336 = ad342 := (by injection e342); replace hx342_0 := hc_ HB hx342_0; replace p342_0a := eq_true p342_0a; replace p342_0b := eq_true p342_0b; replace p342_1a := eq_true p342_1a; replace p342_1b := eq_true p342_1b; replace p342_2a := eq_true p342_2a; replace p342_2b := eq_true p342_2b; refine start_ (n := 14) (S := fun w' => w'.cell? ⟨gb341, 0, none⟩ = some (.int .i64 ((rd_T89 t337 x12_1).f0)) ∧ w'.cell? ⟨gb341, 1, none⟩ = some (.int .i64 ((rd_T89 t337 x12_1).f1)) ∧ w'.cell? ⟨gb341, 2, none⟩ = some (.int .i64 ((rd_T89 t337 x12_1).f2)) ∧ w'.cell? ⟨ad336.block, ad336.off + 1 + (((rd_T89 t337 x12_1).f0) : Int).toNat * 49 + (((rd_T89 t337 x12_1).f1) : Int).toNat * 7 + (((rd_T89 t337 x12_1).f2) : Int).toNat, none⟩ = some (.int .i64 (chiA l0 ((rd_T89 t337 x12_1).f0) ((rd_T89 t337 x12_1).f1) ((rd_T89 t337 x12_1).f2)))) (ds := []) #[false, false, false, false, false, false, false, false, false, false, false, false, false, false] (by kernel_rfl) rfl rfl ⟨c0_ BK341, c1_ BK341, c2_ BK341, (hc_ HB hw342_0)⟩ (fun hHeld => ?_); refine with_tabW impl_chi_signs.tab5 impl_chi_signs.bits5 (fun HT_ HW_ => ?_)
                generalize w22.drew = w23 at HO_3 HO_10 BK335 BK341 HB hx342_0 hHeld ⊢
                refine pD_ 0 (some 16) HT_ (h := ?_); refine pD_ 1 (some 17) HT_ (h := ?_); refine pD_ 3 (some 19) HT_ (h := ?_); refine pD_ 5 (some 21) HT_ (h := ?_); refine pD_ 7 (some 23) HT_ (h := ?_); refine pD_ 8 (some 24) HT_ (h := ?_); refine tD4_ 2 (some 18) HT_ HW_ hHeld (h := ?_); refine pD_ 9 (some 25) HT_ (h := ?_); refine tD4_ 4 (some 20) HT_ HW_ hHeld (h := ?_); refine pD_ 10 (some 26) HT_ (h := ?_); refine tD4_ 6 (some 22) HT_ HW_ hHeld (h := ?_); refine pD_ 11 (some 27) HT_ (h := ?_); refine tD4_ 12 (some 28) HT_ HW_ hHeld (h := ?_); refine pD_ 13 (some 29) HT_ (h := ?_); refine done_ (done_of HT_.out (by kernel_rfl)) ?_; try go_wp2_with (first | ((with_reducible refine gate_builtin (b := .append) (xs := #[.tmp 30, .tmp 31]) rfl ?_); at_builtin; refine Kd.R_append (Kd.int .u8) (w0 := w) w.heap.size rfl (.tmp 30) (.tmp 31) 46 5 (.int .u8 0) 1 rfl Try.underlying46 info5 rfl (by decide) (by omega) u3 x3_1 43 [.int .u8 43] (fun _ => True) (fun _ => False) rfl rfl ?aP (fun _ hk => hk.elim) ?aF ?aO ?aB ?aS ?aL ?_; (case aP => exact rfl); (case aB => exact (bx2 HB.out GE335.out GE341.out)); (case aF => exact (fun _ _ => trivial)); (case aO => exact (rx_ HO_3.out)); (case aS => exact (below_size (bx2 HB.out GE335.out GE341.out))); (case aL => have := LMc18.out; omega); intro v344 w24 ho hb hg hat; rw [← Ny343.out] at ho; replace HO_10 := am_ (Kd.R_over' (rx_ HO_10.out) (Kd.R_typed (rx_ HO_3.out)) (by decide) hg); replace BK335 := am_ (blk_grown (g := gb335) (o := .cells #[.int .i64 0, .string (⟨#[]⟩ : ByteArray)] 31 (0, 0)) (kx_ BK335.out) hg (Kd.R_ne HO_3.out BK335.out (by decide))); replace BK341 := am_ (blk_grown (g := gb341) (o := .cells #[.int .i64 ((rd_T89 t337 x12_1).f0), .int .i64 ((rd_T89 t337 x12_1).f1), .int .i64 ((rd_T89 t337 x12_1).f2)] 89 (0, 0)) (kx_ BK341.out) hg (Kd.R_ne HO_3.out BK341.out (by decide))); replace HB := am_ hb; have HO345 := am_ ho; clear HO_3; clear ho hb hg hat))
                go_roundg k1
                case measure => have := HK1.out; omega
                case rel => exact ⟨(y343), (wrap64 (x12_1 + 1)), vt_, H', hl_ HK1, rX_ HO345, ⟨by refine rx_ ?_; exact Kd.R_mono HO_10.out (fun _ hk => trivial)⟩, kX_ BK335, bX2_ HB GE335 GE341⟩
               ·rw [if_neg c18] at H; exact absurd H (by simp)
              ·rw [if_neg c17] at H; have c17b0 := decide_eq_false c17; clear c17; by_cases c25 : x3_1.length < 140737488355328
               ·rw [if_pos c25] at H; have LMc25 := am_ c25; clear c25; obtain ⟨y346, hy346⟩ : ∃ y_ : List Int, y_ = (x3_1 ++ [45]) := ⟨_, rfl⟩; replace H : (impl_chi_signs.l0 k1 l0 y346 t337 (t337.length : Int) (wrap64 (x12_1 + 1))) = some (r1, r2) := yH_ hy346 H; have Ny346 := am_ hy346; clear hy346; have H' := am_ H; clear H; have p340 : 0 ≤ (x12_1 : Int) := oda_; have q340 : x12_1 < (t337.length : Int) := oda_; obtain ⟨ad340, e340, hx340_0, hx340_1, hx340_2⟩ := at_T89 (Kd.R_reads' HO_10.out).2.2 x12_1 p340 q340; cases e340; replace p340 := eq_true p340; replace q340 := eq_true q340; try go_wp2_with (first | ((with_reducible refine gd_ 5 rfl ?_); refine be_ 5 #[.int .i64 0, .int .i64 0, .int .i64 0] 89 ?_; intro gb341 hg w26 hbox hb; replace HO_3 := rb_ HO_3 hb; replace HO_10 := am_ (Kd.R_below (Kd.R_elderB (rx_ HO_10.out) gb341 (Nat.le_of_eq hg.symm)) hb); have BK341 := am_ hbox; have GW341 := gw1_ HB hg GE335; have GE341 := GW341; replace HB := bs1_ HB hb GE335; have NB335_341 := nl_ BK335 hg; have NB341_335 := ng_ BK335 hg; replace BK335 := bb_ BK335 hb; clear hb hbox hg; have hnb27 := NB341_335.out; have hnc27 := NB335_341.out; obtain ⟨hcz28_0, hfz28_0, hcz28_1, hfz28_1, hcz28_2, hfz28_2⟩ := bk3_ BK341))
                have n0_ : Aside0 (Kd.R (Kd.int .u8) 5 (((w26.setCell ⟨gb341, 0, none⟩ (.int .i64 ((rd_T89 t337 x12_1).f0))).setCell ⟨gb341, 1, none⟩ (.int .i64 ((rd_T89 t337 x12_1).f1))).setCell ⟨gb341, 2, none⟩ (.int .i64 ((rd_T89 t337 x12_1).f2))) w.heap.size (fun _ => True) u3 x3_1) := ⟨by refine rx_ ?_; exact Kd.R_mono (Kd.R_far (p := ⟨gb341, 2, none⟩) (Kd.R_far (p := ⟨gb341, 1, none⟩) (Kd.R_far (p := ⟨gb341, 0, none⟩) (Kd.R_types HO_3.out BK341.out (by decide)) (fun _ hk => hk.2) (.int .i64 ((rd_T89 t337 x12_1).f0))) (fun _ hk => hk.2) (.int .i64 ((rd_T89 t337 x12_1).f1))) (fun _ hk => hk.2) (.int .i64 ((rd_T89 t337 x12_1).f2))) (fun _ hk => trivial)⟩; have n1_ : Aside0 (Kd.R k89 89 (((w26.setCell ⟨gb341, 0, none⟩ (.int .i64 ((rd_T89 t337 x12_1).f0))).setCell ⟨gb341, 1, none⟩ (.int .i64 ((rd_T89 t337 x12_1).f1))).setCell ⟨gb341, 2, none⟩ (.int .i64 ((rd_T89 t337 x12_1).f2))) w.heap.size (fun k_ => k_ ≠ gb341) (.slice (some ad340) t337.length co6) t337) := ⟨by refine rx_ ?_; exact Kd.R_mono (Kd.R_far (p := ⟨gb341, 2, none⟩) (Kd.R_far (p := ⟨gb341, 1, none⟩) (Kd.R_far (p := ⟨gb341, 0, none⟩) (Kd.R_mono HO_10.out (fun k_ hk => (⟨hk, hk.2⟩ : _ ∧ k_ ≠ gb341))) (fun _ hk => hk.2) (.int .i64 ((rd_T89 t337 x12_1).f0))) (fun _ hk => hk.2) (.int .i64 ((rd_T89 t337 x12_1).f1))) (fun _ hk => hk.2) (.int .i64 ((rd_T89 t337 x12_1).f2))) (fun _ hk => hk.1.2)⟩; have n2_ : Aside0 ((((w26.setCell ⟨gb341, 0, none⟩ (.int .i64 ((rd_T89 t337 x12_1).f0))).setCell ⟨gb341, 1, none⟩ (.int .i64 ((rd_T89 t337 x12_1).f1))).setCell ⟨gb341, 2, none⟩ (.int .i64 ((rd_T89 t337 x12_1).f2))).heap[gb335]? = some (.cells #[.int .i64 0, .string (⟨#[]⟩ : ByteArray)] 31 (0, 0))) := ⟨by refine kx_ ?_; refine blk_far ?_ NB335_341.out _; refine kx_ ?_; refine blk_far ?_ NB335_341.out _; refine kx_ ?_; refine blk_far ?_ NB335_341.out _; refine kx_ ?_; exact BK335.out⟩; have n3_ : Aside0 ((((w26.setCell ⟨gb341, 0, none⟩ (.int .i64 ((rd_T89 t337 x12_1).f0))).setCell ⟨gb341, 1, none⟩ (.int .i64 ((rd_T89 t337 x12_1).f1))).setCell ⟨gb341, 2, none⟩ (.int .i64 ((rd_T89 t337 x12_1).f2))).heap[gb341]? = some (.cells #[.int .i64 ((rd_T89 t337 x12_1).f0), .int .i64 ((rd_T89 t337 x12_1).f1), .int .i64 ((rd_T89 t337 x12_1).f2)] 89 (0, 0))) := ⟨by refine kx_ ?_; refine blk_put (cs := #[.int .i64 ((rd_T89 t337 x12_1).f0), .int .i64 ((rd_T89 t337 x12_1).f1), .int .i64 0]) ?_ 2 _ rfl; refine kx_ ?_; refine blk_put (cs := #[.int .i64 ((rd_T89 t337 x12_1).f0), .int .i64 0, .int .i64 0]) ?_ 1 _ rfl; refine kx_ ?_; refine blk_put (cs := #[.int .i64 0, .int .i64 0, .int .i64 0]) ?_ 0 _ rfl; refine kx_ ?_; exact BK341.out⟩
                have n4_ : Aside0 (Below w.heap.size w (((w26.setCell ⟨gb341, 0, none⟩ (.int .i64 ((rd_T89 t337 x12_1).f0))).setCell ⟨gb341, 1, none⟩ (.int .i64 ((rd_T89 t337 x12_1).f1))).setCell ⟨gb341, 2, none⟩ (.int .i64 ((rd_T89 t337 x12_1).f2)))) := bX2_ HB GE335 GE341; (try clear HO_3)
                (try clear HO_10)
                (try clear BK335)
                (try clear BK341)
                (try clear HB)
                generalize (((w26.setCell ⟨gb341, 0, none⟩ (.int .i64 ((rd_T89 t337 x12_1).f0))).setCell ⟨gb341, 1, none⟩ (.int .i64 ((rd_T89 t337 x12_1).f1))).setCell ⟨gb341, 2, none⟩ (.int .i64 ((rd_T89 t337 x12_1).f2))) = w29 at n0_ n1_ n2_ n3_ n4_ ⊢
                have HO_3 := n0_; have HO_10 := n1_; have BK335 := n2_; have BK341 := n3_; have HB := n4_; clear n0_ n1_ n2_ n3_ n4_; replace HO_3 := am_ (Kd.R_drew HO_3.out); replace HO_10 := am_ (Kd.R_drew HO_10.out); replace BK335 := am_ (blk_drew BK335.out); replace BK341 := am_ (blk_drew BK341.out); replace HB := bd_ HB; have q342 : 344 ≤ (l0.length : Int) := oda_; have p342_0a : 0 ≤ (((rd_T89 t337 x12_1).f0) : Int) := oda_; have p342_0b : (((rd_T89 t337 x12_1).f0) : Int) < 7 := oda_; have p342_1a : 0 ≤ (((rd_T89 t337 x12_1).f1) : Int) := oda_; have p342_1b : (((rd_T89 t337 x12_1).f1) : Int) < 7 := oda_; have p342_2a : 0 ≤ (((rd_T89 t337 x12_1).f2) : Int) := oda_; have p342_2b : (((rd_T89 t337 x12_1).f2) : Int) < 7 := oda_; obtain ⟨ad342, e342, hx342_0⟩ := chi_at HR0.out q342 p342_0a p342_0b p342_1a p342_1b p342_2a p342_2b; have hw342_0 := hx342_0; obtain rfl : ad336 = ad342 := (by injection e342); replace hx342_0 := hc_ HB hx342_0; replace p342_0a := eq_true p342_0a; replace p342_0b := eq_true p342_0b; replace p342_1a := eq_true p342_1a; replace p342_1b := eq_true p342_1b; replace p342_2a := eq_true p342_2a; replace p342_2b := eq_true p342_2b; refine start_ (n := 14) (S := fun w' => w'.cell? ⟨gb341, 0, none⟩ = some (.int .i64 ((rd_T89 t337 x12_1).f0)) ∧ w'.cell? ⟨gb341, 1, none⟩ = some (.int .i64 ((rd_T89 t337 x12_1).f1)) ∧ w'.cell? ⟨gb341, 2, none⟩ = some (.int .i64 ((rd_T89 t337 x12_1).f2)) ∧ w'.cell? ⟨ad336.block, ad336.off + 1 + (((rd_T89 t337 x12_1).f0) : Int).toNat * 49 + (((rd_T89 t337 x12_1).f1) : Int).toNat * 7 + (((rd_T89 t337 x12_1).f2) : Int).toNat, none⟩ = some (.int .i64 (chiA l0 ((rd_T89 t337 x12_1).f0) ((rd_T89 t337 x12_1).f1) ((rd_T89 t337 x12_1).f2)))) (ds := []) #[false, false, false, false, false, false, false, false, false, false, false, false, false, false] (by kernel_rfl) rfl rfl ⟨c0_ BK341, c1_ BK341, c2_ BK341, (hc_ HB hw342_0)⟩ (fun hHeld => ?_); refine with_tabW impl_chi_signs.tab5 impl_chi_signs.bits5 (fun HT_ HW_ => ?_)
                generalize w29.drew = w30 at HO_3 HO_10 BK335 BK341 HB hx342_0 hHeld ⊢
                refine pD_ 0 (some 16) HT_ (h := ?_); refine pD_ 1 (some 17) HT_ (h := ?_); refine pD_ 3 (some 19) HT_ (h := ?_); refine pD_ 5 (some 21) HT_ (h := ?_); refine pD_ 7 (some 23) HT_ (h := ?_); refine pD_ 8 (some 24) HT_ (h := ?_); refine tD4_ 2 (some 18) HT_ HW_ hHeld (h := ?_); refine pD_ 9 (some 25) HT_ (h := ?_); refine tD4_ 4 (some 20) HT_ HW_ hHeld (h := ?_); refine pD_ 10 (some 26) HT_ (h := ?_); refine tD4_ 6 (some 22) HT_ HW_ hHeld (h := ?_); refine pD_ 11 (some 27) HT_ (h := ?_); refine tD4_ 12 (some 28) HT_ HW_ hHeld (h := ?_); refine pD_ 13 (some 29) HT_ (h := ?_); refine done_ (done_of HT_.out (by kernel_rfl)) ?_; try go_wp2_with (first | ((with_reducible refine gate_builtin (b := .append) (xs := #[.tmp 33, .tmp 34]) rfl ?_); at_builtin; refine Kd.R_append (Kd.int .u8) (w0 := w) w.heap.size rfl (.tmp 33) (.tmp 34) 46 5 (.int .u8 0) 1 rfl Try.underlying46 info5 rfl (by decide) (by omega) u3 x3_1 45 [.int .u8 45] (fun _ => True) (fun _ => False) rfl rfl ?aP (fun _ hk => hk.elim) ?aF ?aO ?aB ?aS ?aL ?_; (case aP => exact rfl); (case aB => exact (bx2 HB.out GE335.out GE341.out)); (case aF => exact (fun _ _ => trivial)); (case aO => exact (rx_ HO_3.out)); (case aS => exact (below_size (bx2 HB.out GE335.out GE341.out))); (case aL => have := LMc25.out; omega); intro v347 w31 ho hb hg hat; rw [← Ny346.out] at ho; replace HO_10 := am_ (Kd.R_over' (rx_ HO_10.out) (Kd.R_typed (rx_ HO_3.out)) (by decide) hg); replace BK335 := am_ (blk_grown (g := gb335) (o := .cells #[.int .i64 0, .string (⟨#[]⟩ : ByteArray)] 31 (0, 0)) (kx_ BK335.out) hg (Kd.R_ne HO_3.out BK335.out (by decide))); replace BK341 := am_ (blk_grown (g := gb341) (o := .cells #[.int .i64 ((rd_T89 t337 x12_1).f0), .int .i64 ((rd_T89 t337 x12_1).f1), .int .i64 ((rd_T89 t337 x12_1).f2)] 89 (0, 0)) (kx_ BK341.out) hg (Kd.R_ne HO_3.out BK341.out (by decide))); replace HB := am_ hb; have HO348 := am_ ho; clear HO_3; clear ho hb hg hat))
                go_roundg k1
                case measure => have := HK1.out; omega
                case rel => exact ⟨(y346), (wrap64 (x12_1 + 1)), vt_, H', hl_ HK1, rX_ HO348, ⟨by refine rx_ ?_; exact Kd.R_mono HO_10.out (fun _ hk => trivial)⟩, kX_ BK335, bX2_ HB GE335 GE341⟩
               ·rw [if_neg c25] at H; exact absurd H (by simp)
             ·rw [if_neg c16] at H; exact absurd H (by simp)
            ·rw [if_neg c15] at H; exact absurd H (by simp)
           ·rw [if_neg c14] at H; exact absurd H (by simp)
          ·rw [if_neg c13] at H; exact absurd H (by simp)
         ·rw [if_neg c12] at H; exact absurd H (by simp)
        ·rw [if_neg c11] at H; exact absurd H (by simp)
       ·rw [if_neg c10] at H; exact absurd H (by simp)
      ·rw [if_neg c9] at H; exact absurd H (by simp)
     ·rw [if_neg c8] at H; exact absurd H (by simp)
    ·rw [if_neg c7] at H; have c7b0 := decide_eq_false c7; clear c7; by_cases c32 : 344 ≤ (l0.length : Int)
     ·rw [if_pos c32] at H; have c32b0 := eq_true c32; have c32b1 := decide_eq_true c32; clear c32; simp only [Option.some.injEq, Prod.mk.injEq] at H
      obtain ⟨rfl, rfl⟩ := H; try go_wp2
      replace HO_3 := am_ (Kd.R_drew HO_3.out); replace HO_10 := am_ (Kd.R_drew HO_10.out); replace BK335 := am_ (blk_drew BK335.out); replace HB := bd_ HB; have q349 : 344 ≤ (l0.length : Int) := oda_; obtain ⟨ad349, e349, hx349_0⟩ := chi_n HR0.out q349; have hw349_0 := hx349_0; obtain rfl : ad336 = ad349 := (by injection e349); replace hx349_0 := hc_ HB hx349_0; obtain ⟨Ao34, co34, eo34⟩ := Kd.R_slice HO_3.out; (first | subst eo34 | (injection eo34 with f1_ f2_ f3_; have f4_ := f1_.symm; have f5_ := f3_.symm; clear f1_ f2_ f3_; subst f4_; subst f5_))
      have hcv35 := own_string (P := Try.prog) Try.underlying46 Try.underlying5 Try.underlying9 (Kd.own_of_R HO_3.out); refine start_ (n := 8) (S := fun w' => w'.cell? ad336 = some (.int .i64 (chiN l0)) ∧ (convert 46 9 (.slice Ao34 x3_1.length co34)).run Try.prog w' = .ok (.string (strOfNums x3_1)) w') (ds := [7]) #[false, false, false, false, false, false, false, false] (by kernel_rfl) rfl rfl ⟨(hc_ HB hw349_0), hcv35⟩ (fun hHeld => ?_); refine with_tabW impl_chi_signs.tab9 impl_chi_signs.bits9 (fun HT_ HW_ => ?_); generalize wr.drew = w33 at HO_3 HO_10 BK335 HB hx349_0 hHeld ⊢
      refine pD_ 0 (some 37) HT_ (h := ?_); refine pD_ 1 (some 38) HT_ (h := ?_); refine pD_ 2 (some 39) HT_ (h := ?_); refine pD_ 4 (some 41) HT_ (h := ?_); refine tD2_ 3 (some 40) HT_ HW_ hHeld (h := ?_); refine tD2_ 5 (some 42) HT_ HW_ hHeld (h := ?_); refine pD_ 6 (some 43) HT_ (h := ?_); refine last_ (i := 7) (N := none) #[true, true, true, true, true, true, true, true] rfl rfl (one_of HT_.out (by kernel_rfl)) (by decide) (fun K hK => ?_); have hs36 : w33.cell? ⟨gb335, 0, none⟩ = some (.int .i64 0) := (blk_cell BK335.out 0).trans rfl; have hfs36 := blk_frozen BK335.out 0; have hs37 : w33.cell? ⟨gb335, 1, none⟩ = some (.string (⟨#[]⟩ : ByteArray)) := (blk_cell BK335.out 1).trans rfl; have hfs37 := blk_frozen BK335.out 1; refine skip_ (w1 := ?_) (by rfl) rfl ?_ ?_; rotate_left
      ·go_simp
       rfl
      refine hK.out _ _ ?_; clear hK K; refine done_ (done_of HT_.out (by kernel_rfl)) ?_; try go_wp2
      refine bodyPost_ret (results_cell_row rfl _ _ gb335 31 #[.int .i64 (chiN l0), .string (strOfNums x3_1)] (0, 0) _ rfl (by refine kx_ ?_; refine blk_put (cs := #[.int .i64 (chiN l0), .string (⟨#[]⟩ : ByteArray)]) ?_ 1 _ rfl; refine kx_ ?_; refine blk_put (cs := #[.int .i64 0, .string (⟨#[]⟩ : ByteArray)]) ?_ 0 _ rfl; refine kx_ ?_; exact BK335.out) Try.underlying31 rfl (by kernel_rfl)) rfl ?_; exact ⟨er_, bx1 HB.out GE335.out⟩
     ·rw [if_neg c32] at H; exact absurd H (by simp)
 ·rw [if_neg c2] at H; exact absurd H (by simp)
def impl_chi_rename.l0 : Nat → List Int → List Int → List Int → List (S89) → Int → Int → Option (Int × ByteArray)
 | 0, _, _, _, _, _, _ => none
 | k + 1, x0, x1, x5, x18, x19, x20 => if x20 < x19 then (if 0 ≤ x20 then (if x20 < (x18.length : Int) then (if 0 ≤ ((rd_T89 x18 x20).f0) then (if ((rd_T89 x18 x20).f0) < (x1.length : Int) then (if 0 ≤ ((rd_T89 x18 x20).f1) then (if ((rd_T89 x18 x20).f1) < (x1.length : Int) then (if 0 ≤ ((rd_T89 x18 x20).f2) then (if ((rd_T89 x18 x20).f2) < (x1.length : Int) then (if 344 ≤ (x0.length : Int) then (if ((rd_T89 x18 x20).f0) < 7 then (if ((rd_T89 x18 x20).f1) < 7 then (if ((rd_T89 x18 x20).f2) < 7 then ((impl_chi_set.f x5 (rd x1 ((rd_T89 x18 x20).f0)) (rd x1 ((rd_T89 x18 x20).f1)) (rd x1 ((rd_T89 x18 x20).f2)) (chiA x0 ((rd_T89 x18 x20).f0) ((rd_T89 x18 x20).f1) ((rd_T89 x18 x20).f2))).bind fun t466 => (impl_chi_rename.l0 k x0 x1 t466 x18 x19 (wrap64 (x20 + 1)))) else (none)) else (none)) else (none)) else (none)) else (none)) else (none)) else (none)) else (none)) else (none)) else (none)) else (none)) else (none)) else ((impl_chi_signs.f k x5).bind fun bt467 => (some (bt467.1, bt467.2)))
def impl_chi_rename.f (k : Nat) (l0 : List Int) (l1 : List Int) : Option (Int × ByteArray) := if 344 ≤ (l0.length : Int) then ((impl_triplesOf.f k (chiN l0)).bind fun t457 => (impl_chi_rename.l0 k l0 l1 (chiNew (chiN l0)) t457 (t457.length : Int) 0)) else (none)
def impl_chi_rename.T5 : Bool × List (List Nat × List Nat) := (true, [([], []), ([], []), ([], []), ([2], [2]), ([1, 3], [1, 3]), ([4], [4]), ([], []), ([], []), ([7], [7]), ([6, 8], [6, 8]), ([9], [9]), ([], []), ([], []), ([12], [12]), ([11, 13], [11, 13]), ([14], [14]), ([], []), ([], []), ([17], [17]), ([], []), ([19], [19]), ([], []), ([21], [21]), ([16], [16]), ([23], [23]), ([24, 18], [18, 24]), ([25, 20], [20, 25]), ([26, 22], [22, 26]), ([27], [27]), ([0, 5, 10, 15, 28], [0, 5, 10, 15, 28])])
def impl_chi_rename.B5 : List Nat := [0, 0, 0, 4, 14, 30, 0, 0, 128, 448, 960, 0, 0, 4096, 14336, 30720, 0, 0, 131072, 0, 524288, 0, 2097152, 65536, 8454144, 25624576, 60751872, 134152192, 268369920, 536870911]
theorem impl_chi_rename.tab5 : rtab .any (opsOf Try.f199 5) = impl_chi_rename.T5 := by kernel_rfl
theorem impl_chi_rename.bits5 : waitsOk impl_chi_rename.T5.2 impl_chi_rename.B5 = true := by kernel_rfl
set_option maxHeartbeats 8000000 in
set_option maxRecDepth 100000 in
theorem impl_chi_rename.calls (k : Nat) (A0 : Option Addr) (c0 : Nat) (l0 : List Int) (A1 : Option Addr) (c1 : Nat) (l1 : List Int) (r1 : Int) (r2 : ByteArray) (w : World) (hr0 : Kd.C (Kd.int .i64) w A0 l0.length l0) (hc0 : l0.length ≤ c0) (hr1 : Kd.C (Kd.int .i64) w A1 l1.length l1) (hc1 : l1.length ≤ c1) (h : impl_chi_rename.f k l0 l1 = some (r1, r2)) :
  Calls Try.prog 199 #[.pointer A0, .slice A1 l1.length c1] w fun e w' => e = .returned (.agg #[.int .i64 r1, .string r2]) ∧ Below w.heap.size w w' := by
 have hu31 := Try.underlying31; have hu89 := Try.underlying89; have HR0 := am_ hr0; have HC0 := am_ hc0; clear hr0 hc0; have HR1 := am_ hr1; have HC1 := am_ hc1; clear hr1 hc1; have HB := am_ (Below.refl w.heap.size w); have H : (if 344 ≤ (l0.length : Int) then ((impl_triplesOf.f k (chiN l0)).bind fun t457 => (impl_chi_rename.l0 k l0 l1 (chiNew (chiN l0)) t457 (t457.length : Int) 0)) else (none)) = some (r1, r2) := h; clear h; by_cases c3 : 344 ≤ (l0.length : Int)
 ·rw [if_pos c3] at H; have c3b0 := eq_true c3; have c3b1 := decide_eq_true c3; clear c3; obtain ⟨y453, hy453⟩ : ∃ y_ : List Int, y_ = (chiNew (chiN l0)) := ⟨_, rfl⟩; replace H : ((impl_triplesOf.f k (chiN l0)).bind fun t457 => (impl_chi_rename.l0 k l0 l1 y453 t457 (t457.length : Int) 0)) = some (r1, r2) := yH_ hy453 H; have Ny453 := am_ hy453; clear hy453; obtain ⟨t457, A4, H⟩ := bnd_ H; have H' := am_ H; clear H; go_enter Try.func199, Try.ntmps199
  go_wp2_with (first | ((with_reducible refine gd_ 4 rfl ?_); refine be_ 4 #[.int .i64 0, .string (⟨#[]⟩ : ByteArray)] 31 ?_; intro gb451 hg w5 hbox hb; have BK451 := am_ hbox; have GW451 := gw0_ HB hg; have GE451 := GW451; replace HB := bs0_ HB hb; clear hb hbox hg; have q452 : 344 ≤ (l0.length : Int) := oda_; obtain ⟨ad452, e452, hx452_0⟩ := chi_n HR0.out q452; cases e452; replace hx452_0 := (HB.out.cell (World.block_lt_of_cell? w _ hx452_0)).trans hx452_0) | ((with_reducible refine gd_ 12 rfl ?_); refine chi_build (N := 12) ?hg ?hd (n := (chiN l0)) ?hr ?_; (case hd => rfl); (case hg => rfl); (case hr => first | (go_simp; done) | (go_simp; rfl))) | ((with_reducible refine gd_ 13 rfl ?_); refine chi_make _ 88 ?hg (N := 13) ?hd (n := (chiN l0)) (ok := fun _ => True) ?hr trivial (Below.refl _ _) (Nat.le_refl _) ?_; (case hd => rfl); (case hg => rfl); (case hr => first | (go_simp; done) | (go_simp; rfl)); intro v454 w6 ho7 hb hg_ hnew_; clear hg_ hnew_; (first | rw [← Ny453.out] at ho7 | (simp only [Int.reduceToNat] at ho7; rw [← Ny453.out] at ho7)); have HO455 := rl1_ ho7 HB GE451; replace BK451 := bb_ BK451 hb; replace HB := bs1_ HB hb GE451; clear hb ho7; have q456 : 344 ≤ (l0.length : Int) := oda_; obtain ⟨ad456, e456, hx456_0⟩ := chi_n HR0.out q456; obtain rfl : ad452 = ad456 := (by injection e456); replace hx456_0 := (HB.out.cell (World.block_lt_of_cell? w _ hx456_0)).trans hx456_0) | ((with_reducible refine gc_ 84 rfl ?_); refine gR_ (some 18) Try.func84 #[.int .i64 (chiN l0)] (impl_triplesOf.calls k (chiN l0) t457 _ A4.out) ?_; intro w8 v458 ho0 hb; replace HO455 := rb_ HO455 hb; have HO459 := rl1_ ho0 HB GE451; replace BK451 := bb_ BK451 hb; replace HB := bs1_ HB hb GE451; try clear hb; (try clear ho0); obtain ⟨Ao9, co9, eo9⟩ := Kd.R_slice HO459.out; subst eo9))
  go_loopg [20] k (fun kq v20 w' => ∃ (x5_1 : List Int) (x20_1 : Int), v20 = .int .i64 x20_1 ∧ Aside0 (impl_chi_rename.l0 kq l0 l1 x5_1 t457 (t457.length : Int) x20_1 = some (r1, r2)) ∧ Aside0 (kq ≤ k) ∧ Aside0 (Kd.R (Kd.int .i64) 88 w' w.heap.size (fun _ => True) v454 x5_1) ∧ Aside0 (Kd.R k89 89 w' w.heap.size (fun _ => True) (.slice Ao9 t457.length co9) t457) ∧ Aside0 (w'.heap[gb451]? = some (.cells #[.int .i64 0, .string (⟨#[]⟩ : ByteArray)] 31 (0, 0))) ∧ Aside0 (Below w.heap.size w w'))
  case atStart => exact ⟨(y453), (0), vt_, H', ⟨Nat.le_refl _⟩, rX_ HO455, rX_ HO459, kX_ BK451, bX1_ HB GE451⟩
  case round =>
   clear H'; try clear c3b0 c3b1 hx452_0 hx456_0 q452 q456
   obtain ⟨x5_1, x20_1, rfl, HA, HK1, HO_5, HO_18, BK451, HB⟩ := hrel; cases gk with
   | zero => exact absurd HA.out (by simp [impl_chi_rename.l0])
   | succ k1 =>
    have H := HA.out; clear HA; simp only [impl_chi_rename.l0] at H
    by_cases c10 : x20_1 < (t457.length : Int)
    ·rw [if_pos c10] at H; have c10b0 := decide_eq_true c10; clear c10; by_cases c11 : 0 ≤ x20_1
     ·rw [if_pos c11] at H; have c11b0 := decide_eq_true c11; clear c11; by_cases c12 : x20_1 < (t457.length : Int)
      ·rw [if_pos c12] at H; have c12b0 := decide_eq_true c12; clear c12; by_cases c13 : 0 ≤ ((rd_T89 t457 x20_1).f0)
       ·rw [if_pos c13] at H; have c13b0 := decide_eq_true c13; clear c13; by_cases c14 : ((rd_T89 t457 x20_1).f0) < (l1.length : Int)
        ·rw [if_pos c14] at H; have c14b0 := decide_eq_true c14; clear c14; by_cases c15 : 0 ≤ ((rd_T89 t457 x20_1).f1)
         ·rw [if_pos c15] at H; have c15b0 := decide_eq_true c15; clear c15; by_cases c16 : ((rd_T89 t457 x20_1).f1) < (l1.length : Int)
          ·rw [if_pos c16] at H; have c16b0 := decide_eq_true c16; clear c16; by_cases c17 : 0 ≤ ((rd_T89 t457 x20_1).f2)
           ·rw [if_pos c17] at H; have c17b0 := decide_eq_true c17; clear c17; by_cases c18 : ((rd_T89 t457 x20_1).f2) < (l1.length : Int)
            ·rw [if_pos c18] at H; have c18b0 := decide_eq_true c18; clear c18; by_cases c19 : 344 ≤ (l0.length : Int)
             ·rw [if_pos c19] at H; have c19b0 := eq_true c19; have c19b1 := decide_eq_true c19; clear c19; by_cases c20 : ((rd_T89 t457 x20_1).f0) < 7
              ·rw [if_pos c20] at H; have c20b0 := decide_eq_true c20; clear c20; by_cases c21 : ((rd_T89 t457 x20_1).f1) < 7
               ·rw [if_pos c21] at H; have c21b0 := decide_eq_true c21; clear c21; by_cases c22 : ((rd_T89 t457 x20_1).f2) < 7
                ·rw [if_pos c22] at H; have c22b0 := decide_eq_true c22; clear c22; obtain ⟨t466, A23, H⟩ := bnd_ H; have H' := am_ H; clear H; have p460 : 0 ≤ (x20_1 : Int) := oda_; have q460 : x20_1 < (t457.length : Int) := oda_; obtain ⟨ad460, e460, hx460_0, hx460_1, hx460_2⟩ := at_T89 (Kd.R_reads' HO_18.out).2.2 x20_1 p460 q460; cases e460; replace p460 := eq_true p460; replace q460 := eq_true q460; try go_wp2_with (first | ((with_reducible refine gd_ 7 rfl ?_); refine be_ 7 #[.int .i64 0, .int .i64 0, .int .i64 0] 89 ?_; intro gb461 hg w24 hbox hb; replace HO_5 := rb_ HO_5 hb; replace HO_18 := am_ (Kd.R_below (Kd.R_elderB (rx_ HO_18.out) gb461 (Nat.le_of_eq hg.symm)) hb); have BK461 := am_ hbox; have GW461 := gw1_ HB hg GE451; have GE461 := GW461; replace HB := bs1_ HB hb GE451; have NB451_461 := nl_ BK451 hg; have NB461_451 := ng_ BK451 hg; replace BK451 := bb_ BK451 hb; clear hb hbox hg; have hnb25 := NB461_451.out; have hnc25 := NB451_461.out; obtain ⟨hcz26_0, hfz26_0, hcz26_1, hfz26_1, hcz26_2, hfz26_2⟩ := bk3_ BK461))
                 have n0_ : Aside0 (Kd.R (Kd.int .i64) 88 (((w24.setCell ⟨gb461, 0, none⟩ (.int .i64 ((rd_T89 t457 x20_1).f0))).setCell ⟨gb461, 1, none⟩ (.int .i64 ((rd_T89 t457 x20_1).f1))).setCell ⟨gb461, 2, none⟩ (.int .i64 ((rd_T89 t457 x20_1).f2))) w.heap.size (fun _ => True) v454 x5_1) := ⟨by refine rx_ ?_; exact Kd.R_mono (Kd.R_far (p := ⟨gb461, 2, none⟩) (Kd.R_far (p := ⟨gb461, 1, none⟩) (Kd.R_far (p := ⟨gb461, 0, none⟩) (Kd.R_types HO_5.out BK461.out (by decide)) (fun _ hk => hk.2) (.int .i64 ((rd_T89 t457 x20_1).f0))) (fun _ hk => hk.2) (.int .i64 ((rd_T89 t457 x20_1).f1))) (fun _ hk => hk.2) (.int .i64 ((rd_T89 t457 x20_1).f2))) (fun _ hk => trivial)⟩; have n1_ : Aside0 (Kd.R k89 89 (((w24.setCell ⟨gb461, 0, none⟩ (.int .i64 ((rd_T89 t457 x20_1).f0))).setCell ⟨gb461, 1, none⟩ (.int .i64 ((rd_T89 t457 x20_1).f1))).setCell ⟨gb461, 2, none⟩ (.int .i64 ((rd_T89 t457 x20_1).f2))) w.heap.size (fun k_ => k_ ≠ gb461) (.slice (some ad460) t457.length co9) t457) := ⟨by refine rx_ ?_; exact Kd.R_mono (Kd.R_far (p := ⟨gb461, 2, none⟩) (Kd.R_far (p := ⟨gb461, 1, none⟩) (Kd.R_far (p := ⟨gb461, 0, none⟩) (Kd.R_mono HO_18.out (fun k_ hk => (⟨hk, hk.2⟩ : _ ∧ k_ ≠ gb461))) (fun _ hk => hk.2) (.int .i64 ((rd_T89 t457 x20_1).f0))) (fun _ hk => hk.2) (.int .i64 ((rd_T89 t457 x20_1).f1))) (fun _ hk => hk.2) (.int .i64 ((rd_T89 t457 x20_1).f2))) (fun _ hk => hk.1.2)⟩; have n2_ : Aside0 ((((w24.setCell ⟨gb461, 0, none⟩ (.int .i64 ((rd_T89 t457 x20_1).f0))).setCell ⟨gb461, 1, none⟩ (.int .i64 ((rd_T89 t457 x20_1).f1))).setCell ⟨gb461, 2, none⟩ (.int .i64 ((rd_T89 t457 x20_1).f2))).heap[gb451]? = some (.cells #[.int .i64 0, .string (⟨#[]⟩ : ByteArray)] 31 (0, 0))) := ⟨by refine kx_ ?_; refine blk_far ?_ NB451_461.out _; refine kx_ ?_; refine blk_far ?_ NB451_461.out _; refine kx_ ?_; refine blk_far ?_ NB451_461.out _; refine kx_ ?_; exact BK451.out⟩; have n3_ : Aside0 ((((w24.setCell ⟨gb461, 0, none⟩ (.int .i64 ((rd_T89 t457 x20_1).f0))).setCell ⟨gb461, 1, none⟩ (.int .i64 ((rd_T89 t457 x20_1).f1))).setCell ⟨gb461, 2, none⟩ (.int .i64 ((rd_T89 t457 x20_1).f2))).heap[gb461]? = some (.cells #[.int .i64 ((rd_T89 t457 x20_1).f0), .int .i64 ((rd_T89 t457 x20_1).f1), .int .i64 ((rd_T89 t457 x20_1).f2)] 89 (0, 0))) := ⟨by refine kx_ ?_; refine blk_put (cs := #[.int .i64 ((rd_T89 t457 x20_1).f0), .int .i64 ((rd_T89 t457 x20_1).f1), .int .i64 0]) ?_ 2 _ rfl; refine kx_ ?_; refine blk_put (cs := #[.int .i64 ((rd_T89 t457 x20_1).f0), .int .i64 0, .int .i64 0]) ?_ 1 _ rfl; refine kx_ ?_; refine blk_put (cs := #[.int .i64 0, .int .i64 0, .int .i64 0]) ?_ 0 _ rfl; refine kx_ ?_; exact BK461.out⟩
                 have n4_ : Aside0 (Below w.heap.size w (((w24.setCell ⟨gb461, 0, none⟩ (.int .i64 ((rd_T89 t457 x20_1).f0))).setCell ⟨gb461, 1, none⟩ (.int .i64 ((rd_T89 t457 x20_1).f1))).setCell ⟨gb461, 2, none⟩ (.int .i64 ((rd_T89 t457 x20_1).f2)))) := bX2_ HB GE451 GE461; (try clear HO_5)
                 (try clear HO_18)
                 (try clear BK451)
                 (try clear BK461)
                 (try clear HB)
                 generalize (((w24.setCell ⟨gb461, 0, none⟩ (.int .i64 ((rd_T89 t457 x20_1).f0))).setCell ⟨gb461, 1, none⟩ (.int .i64 ((rd_T89 t457 x20_1).f1))).setCell ⟨gb461, 2, none⟩ (.int .i64 ((rd_T89 t457 x20_1).f2))) = w27 at n0_ n1_ n2_ n3_ n4_ ⊢
                 have HO_5 := n0_; have HO_18 := n1_; have BK451 := n2_; have BK461 := n3_; have HB := n4_; clear n0_ n1_ n2_ n3_ n4_; replace HO_5 := am_ (Kd.R_drew HO_5.out); replace HO_18 := am_ (Kd.R_drew HO_18.out); replace BK451 := am_ (blk_drew BK451.out); replace BK461 := am_ (blk_drew BK461.out); replace HB := bd_ HB; have p462 : 0 ≤ (((rd_T89 t457 x20_1).f0) : Int) := oda_; have q462 : ((rd_T89 t457 x20_1).f0) < (l1.length : Int) := oda_; obtain ⟨ad462, e462, hx462_0⟩ := Kd.at_int HR1.out ((rd_T89 t457 x20_1).f0) p462 q462; have hw462_0 := hx462_0; cases e462; replace hx462_0 := hc_ HB hx462_0; replace p462 := eq_true p462; replace q462 := eq_true q462; have p463 : 0 ≤ (((rd_T89 t457 x20_1).f1) : Int) := oda_; have q463 : ((rd_T89 t457 x20_1).f1) < (l1.length : Int) := oda_; obtain ⟨ad463, e463, hx463_0⟩ := Kd.at_int HR1.out ((rd_T89 t457 x20_1).f1) p463 q463; have hw463_0 := hx463_0; obtain rfl : ad462 = ad463 := (by injection e463); replace hx463_0 := hc_ HB hx463_0; replace p463 := eq_true p463; replace q463 := eq_true q463; have p464 : 0 ≤ (((rd_T89 t457 x20_1).f2) : Int) := oda_; have q464 : ((rd_T89 t457 x20_1).f2) < (l1.length : Int) := oda_; obtain ⟨ad464, e464, hx464_0⟩ := Kd.at_int HR1.out ((rd_T89 t457 x20_1).f2) p464 q464; have hw464_0 := hx464_0; obtain rfl : ad462 = ad464 := (by injection e464); replace hx464_0 := hc_ HB hx464_0; replace p464 := eq_true p464; replace q464 := eq_true q464; have q465 : 344 ≤ (l0.length : Int) := oda_; have p465_0a : 0 ≤ (((rd_T89 t457 x20_1).f0) : Int) := oda_; have p465_0b : (((rd_T89 t457 x20_1).f0) : Int) < 7 := oda_; have p465_1a : 0 ≤ (((rd_T89 t457 x20_1).f1) : Int) := oda_; have p465_1b : (((rd_T89 t457 x20_1).f1) : Int) < 7 := oda_; have p465_2a : 0 ≤ (((rd_T89 t457 x20_1).f2) : Int) := oda_; have p465_2b : (((rd_T89 t457 x20_1).f2) : Int) < 7 := oda_; obtain ⟨ad465, e465, hx465_0⟩ := chi_at HR0.out q465 p465_0a p465_0b p465_1a p465_1b p465_2a p465_2b; have hw465_0 := hx465_0; obtain rfl : ad452 = ad465 := (by injection e465)
                 replace hx465_0 := hc_ HB hx465_0; replace p465_0a := eq_true p465_0a; replace p465_0b := eq_true p465_0b; replace p465_1a := eq_true p465_1a; replace p465_1b := eq_true p465_1b; replace p465_2a := eq_true p465_2a; replace p465_2b := eq_true p465_2b; obtain ⟨Ao29, co29, eo29⟩ := Kd.R_slice HO_5.out; (first | subst eo29 | (injection eo29 with f1_ f2_ f3_; have f4_ := f1_.symm; have f5_ := f3_.symm; clear f1_ f2_ f3_; subst f4_; subst f5_))
                 refine start_ (n := 30) (S := fun w' => w'.cell? ⟨gb461, 0, none⟩ = some (.int .i64 ((rd_T89 t457 x20_1).f0)) ∧ w'.cell? ⟨gb461, 1, none⟩ = some (.int .i64 ((rd_T89 t457 x20_1).f1)) ∧ w'.cell? ⟨gb461, 2, none⟩ = some (.int .i64 ((rd_T89 t457 x20_1).f2)) ∧ w'.cell? (ad462.add (((rd_T89 t457 x20_1).f0)).toNat) = some (.int .i64 (rd l1 ((rd_T89 t457 x20_1).f0))) ∧ w'.cell? (ad462.add (((rd_T89 t457 x20_1).f1)).toNat) = some (.int .i64 (rd l1 ((rd_T89 t457 x20_1).f1))) ∧ w'.cell? (ad462.add (((rd_T89 t457 x20_1).f2)).toNat) = some (.int .i64 (rd l1 ((rd_T89 t457 x20_1).f2))) ∧ w'.cell? ⟨ad452.block, ad452.off + 1 + (((rd_T89 t457 x20_1).f0) : Int).toNat * 49 + (((rd_T89 t457 x20_1).f1) : Int).toNat * 7 + (((rd_T89 t457 x20_1).f2) : Int).toNat, none⟩ = some (.int .i64 (chiA l0 ((rd_T89 t457 x20_1).f0) ((rd_T89 t457 x20_1).f1) ((rd_T89 t457 x20_1).f2)))) (ds := []) #[false, false, false, false, false, false, false, false, false, false, false, false, false, false, false, false, false, false, false, false, false, false, false, false, false, false, false, false, false, false] (by kernel_rfl) rfl rfl ⟨c0_ BK461, c1_ BK461, c2_ BK461, (hc_ HB hw462_0), (hc_ HB hw463_0), (hc_ HB hw464_0), (hc_ HB hw465_0)⟩ (fun hHeld => ?_); refine with_tabW impl_chi_rename.tab5 impl_chi_rename.bits5 (fun HT_ HW_ => ?_); generalize w27.drew = w28 at HO_5 HO_18 BK451 BK461 HB hx462_0 hx463_0 hx464_0 hx465_0 hHeld ⊢
                 refine pD_ 0 (some 24) HT_ (h := ?_); refine pD_ 1 (some 25) HT_ (h := ?_); refine pD_ 2 (some 26) HT_ (h := ?_); refine pD_ 6 (some 30) HT_ (h := ?_); refine pD_ 7 (some 31) HT_ (h := ?_); refine pD_ 11 (some 35) HT_ (h := ?_); refine pD_ 12 (some 36) HT_ (h := ?_); refine pD_ 16 (some 40) HT_ (h := ?_); refine pD_ 17 (some 41) HT_ (h := ?_); refine pD_ 19 (some 43) HT_ (h := ?_); refine pD_ 21 (some 45) HT_ (h := ?_); refine pD_ 23 (some 47) HT_ (h := ?_); refine pD_ 24 (some 48) HT_ (h := ?_); refine tD7_ 3 (some 27) HT_ HW_ hHeld (h := ?_); refine pD_ 4 (some 28) HT_ (h := ?_); refine tD7_ 5 (some 29) HT_ HW_ hHeld (h := ?_); refine tD7_ 8 (some 32) HT_ HW_ hHeld (h := ?_); refine pD_ 9 (some 33) HT_ (h := ?_); refine tD7_ 10 (some 34) HT_ HW_ hHeld (h := ?_); refine tD7_ 13 (some 37) HT_ HW_ hHeld (h := ?_); refine pD_ 14 (some 38) HT_ (h := ?_); refine tD7_ 15 (some 39) HT_ HW_ hHeld (h := ?_); refine tD7_ 18 (some 42) HT_ HW_ hHeld (h := ?_); refine pD_ 25 (some 49) HT_ (h := ?_); refine tD7_ 20 (some 44) HT_ HW_ hHeld (h := ?_); refine pD_ 26 (some 50) HT_ (h := ?_); refine tD7_ 22 (some 46) HT_ HW_ hHeld (h := ?_); refine pD_ 27 (some 51) HT_ (h := ?_); refine tD7_ 28 (some 52) HT_ HW_ hHeld (h := ?_); refine oN_ 29 (some 53) HT_ (fun K hK => ?_); refine gO_ Try.func85 #[.pointer Ao29, .int .i64 (rd l1 ((rd_T89 t457 x20_1).f0)), .int .i64 (rd l1 ((rd_T89 t457 x20_1).f1)), .int .i64 (rd l1 ((rd_T89 t457 x20_1).f2)), .int .i64 (chiA l0 ((rd_T89 t457 x20_1).f0) ((rd_T89 t457 x20_1).f1) ((rd_T89 t457 x20_1).f2))] ?_; refine (impl_chi_set.calls (fun k_ => some k_ = (.slice Ao29 x5_1.length co29 : Value).ownBlock) (.slice Ao29 x5_1.length co29) x5_1 (rd l1 ((rd_T89 t457 x20_1).f0)) (rd l1 ((rd_T89 t457 x20_1).f1)) (rd l1 ((rd_T89 t457 x20_1).f2)) (chiA l0 ((rd_T89 t457 x20_1).f0) ((rd_T89 t457 x20_1).f1) ((rd_T89 t457 x20_1).f2)) t466 w _ ?side1 ?side2 A23.out).mono ?_; (case side1 => exact bx2 HB.out GE451.out GE461.out)
                 (case side2 => exact Kd.R_tight rfl HO_5.out)
                 rintro e w30 ⟨rfl, hy0, hb, hkp⟩; refine ⟨_, rfl, ?_⟩; replace HO_18 := am_ (Kd.R_mono (ok' := fun k_ => k_ ≠ gb461) (Kd.R_keptB ((Kd.R_apart' HO_18.out (Kd.R_typed HO_5.out) (by decide))) hkp (fun k_ hk_ hs_ => (hk_.2) hs_)) (fun k_ hk_ => hk_.1.1)); replace BK451 := am_ (blk_kept (kx_ BK451.out) hkp (fun hs_ => (fun e_ => (Kd.R_ne HO_5.out BK451.out (by decide)) e_) hs_)); replace BK461 := am_ (blk_kept (kx_ BK461.out) hkp (fun hs_ => (fun e_ => (Kd.R_ne HO_5.out BK461.out (by decide)) e_) hs_)); replace HO_5 := am_ (Kd.R_reok rfl hy0 (fun k_ e_ => HO_5.out.1 k_ e_)); replace HB := am_ hb; (try clear hb)
                 (try clear hkp)
                 (try clear hy0)
                 refine hK.out _ _ ⟨c0_ BK461, c1_ BK461, c2_ BK461, (hc_ HB hw462_0), (hc_ HB hw463_0), (hc_ HB hw464_0), (hc_ HB hw465_0)⟩ (fun hHeld => ?_); clear hK K; refine nm_ 53 (h := ?_); refine done_ (done_of HT_.out (by kernel_rfl)) ?_; try go_wp2
                 go_roundg k1
                 case measure => have := HK1.out; omega
                 case rel => exact ⟨(t466), (wrap64 (x20_1 + 1)), vt_, H', hl_ HK1, rX_ HO_5, ⟨by refine rx_ ?_; exact Kd.R_mono HO_18.out (fun _ hk => trivial)⟩, kX_ BK451, bX2_ HB GE451 GE461⟩
                ·rw [if_neg c22] at H; exact absurd H (by simp)
               ·rw [if_neg c21] at H; exact absurd H (by simp)
              ·rw [if_neg c20] at H; exact absurd H (by simp)
             ·rw [if_neg c19] at H; exact absurd H (by simp)
            ·rw [if_neg c18] at H; exact absurd H (by simp)
           ·rw [if_neg c17] at H; exact absurd H (by simp)
          ·rw [if_neg c16] at H; exact absurd H (by simp)
         ·rw [if_neg c15] at H; exact absurd H (by simp)
        ·rw [if_neg c14] at H; exact absurd H (by simp)
       ·rw [if_neg c13] at H; exact absurd H (by simp)
      ·rw [if_neg c12] at H; exact absurd H (by simp)
     ·rw [if_neg c11] at H; exact absurd H (by simp)
    ·rw [if_neg c10] at H; have c10b0 := decide_eq_false c10; clear c10; replace H := Option.bind_eq_some_iff.mp H; obtain ⟨⟨t467, t468⟩, A310, H⟩ := H; replace H : (some (t467, t468)) = some (r1, r2) := H; have A31 := am_ A310; clear A310; simp only [Option.some.injEq, Prod.mk.injEq] at H
     obtain ⟨rfl, rfl⟩ := H; obtain ⟨Ao32, co32, eo32⟩ := Kd.R_slice HO_5.out; subst eo32; go_wp2_with (first | ((with_reducible refine gc_ 86 rfl ?_); refine gL_ (some 56) Try.func86 #[.pointer Ao32] ?_; (refine (impl_chi_signs.calls k1 _ co32 x5_1 t467 t468 _ ?side1 ?side2 A31.out).mono ?_); (case side1 => exact cR_ HO_5); (case side2 => exact (Kd.R_reads' HO_5.out).2.1); rintro e w33 ⟨rfl, hb⟩; refine ⟨_, rfl, ?_⟩; replace HO_5 := rb_ HO_5 hb; replace HO_18 := rb_ HO_18 hb; replace BK451 := bb_ BK451 hb; replace HB := bs1_ HB hb GE451; try clear hb; obtain ⟨hcz34_0, hfz34_0, hcz34_1, hfz34_1⟩ := bk2_ BK451))
     refine bodyPost_ret (results_cell_row rfl _ _ gb451 31 #[.int .i64 t467, .string t468] (0, 0) _ rfl (by refine kx_ ?_; refine blk_put (cs := #[.int .i64 t467, .string (⟨#[]⟩ : ByteArray)]) ?_ 1 _ rfl; refine kx_ ?_; refine blk_put (cs := #[.int .i64 0, .string (⟨#[]⟩ : ByteArray)]) ?_ 0 _ rfl; refine kx_ ?_; exact BK451.out) Try.underlying31 rfl (by kernel_rfl)) rfl ?_; exact ⟨er_, bx1 HB.out GE451.out⟩
 ·rw [if_neg c3] at H; exact absurd H (by simp)
mutual
def impl_renamed.j0 : Nat → Bool → Int → ByteArray → Option (List ByteArray × Bool)
 | 0, _, _, _ => none
 | k + 1, x15, x470000, x470001 => if x15 = true then (some (([] : List ByteArray), false)) else ((impl_tableOf.f k x470000 x470001).bind fun t471 => ((impl_allNames.f k x470000).bind fun t474 => (impl_renamed.l0 k t471 ([] : List ByteArray) t474 (t474.length : Int) 0)))
def impl_renamed.l0 : Nat → List Int → List ByteArray → List (List Int) → Int → Int → Option (List ByteArray × Bool)
 | 0, _, _, _, _, _ => none
 | k + 1, x4, x5, x20, x21, x22 => if x22 < x21 then (if 0 ≤ x22 then (if x22 < (x20.length : Int) then ((impl_chi_rename.f k x4 (rd_L1 x20 x22)).bind fun bt478 => (if x5.length < 8796093022208 then (impl_renamed.l0 k x4 (x5 ++ [bt478.2]) x20 x21 (wrap64 (x22 + 1))) else (none))) else (none)) else (none)) else (some (x5, true))
end
def impl_renamed.f (k : Nat) (a0_0 : Int) (a0_1 : ByteArray) : Option (List ByteArray × Bool) := (impl_AreSigns.f k a0_0 a0_1).bind fun t470 => (if t470 = true then (impl_renamed.j0 k (decide (a0_0 > 6)) a0_0 a0_1) else (impl_renamed.j0 k true a0_0 a0_1))
set_option maxHeartbeats 8000000 in
set_option maxRecDepth 100000 in
theorem impl_renamed.calls (k : Nat) (a0_0 : Int) (a0_1 : ByteArray) (r1 : List ByteArray) (r2 : Bool) (w : World) (h : impl_renamed.f k a0_0 a0_1 = some (r1, r2)) :
  Calls Try.prog 158 #[.agg #[.int .i64 a0_0, .string a0_1]] w fun e w' => ∃ v0_ : Value, e = .returned (.tuple #[v0_, .bool r2]) ∧ Kd.R Kd.string 9 w' w.heap.size (fun _ => True) v0_ r1 ∧ Below w.heap.size w w' := by
 have hu31 := Try.underlying31; have HB := am_ (Below.refl w.heap.size w); have hud31_1 := Try.underlying31; have hfd31_1 : ∀ (x0 x1 : Value) (w : World), (Instr.field 31 (.agg #[x0, x1]) 1).run Try.prog w = .ok x1 w := by
  intro x0 x1 w; first | (go_simp; done) | (go_simp; rfl) | kernel_rfl
 clear hud31_1; have H : ((impl_AreSigns.f k a0_0 a0_1).bind fun t470 => (if t470 = true then (impl_renamed.j0 k (decide (a0_0 > 6)) a0_0 a0_1) else (impl_renamed.j0 k true a0_0 a0_1))) = some (r1, r2) := h; clear h; have HC2 := am_ H; clear H; go_enter Try.func158, Try.ntmps158
 go_upto_region 1 with (first | ((with_reducible refine gd_ 1 rfl ?_); refine be_ 1 #[.int .i64 a0_0, .string a0_1] 31 ?_; intro gb469 hg w3 hbox hb; have BK469 := am_ hbox; have GW469 := gw0_ HB hg; have GE469 := GW469; replace HB := bs0_ HB hb; clear hb hbox hg))
 (try simp only [Act.put, sA_, sZ_, sS_])
 go_cut [15] (fun v15 wc => ∃ (kq : Nat) (x15_1 : Bool), v15 = .bool x15_1 ∧ Aside0 (impl_renamed.j0 kq x15_1 a0_0 a0_1 = some (r1, r2)) ∧ Aside0 (kq ≤ k) ∧ Aside0 (wc.heap[gb469]? = some (.cells #[.int .i64 a0_0, .string a0_1] 31 (0, 0))) ∧ Aside0 (Below w.heap.size w wc))
 case first =>
  have H := HC2.out; clear HC2; obtain ⟨t470, A4, H⟩ := bnd_ H; by_cases c5 : t470 = true
  ·subst c5; replace H := ifT_ H; have H' := am_ H; clear H; obtain ⟨hcz6_0, hfz6_0, hcz6_1, hfz6_1⟩ := bk2_ BK469; go_wp2_with (first | ((with_reducible refine gc_ 130 rfl ?_); refine gB_ (some 9) Try.func130 #[.agg #[.int .i64 a0_0, .string a0_1]] (impl_AreSigns.calls k a0_0 a0_1 true _ A4.out) ?_; intro w7 hb; replace BK469 := bb_ BK469 hb; replace HB := bs1_ HB hb GE469; try clear hb; obtain ⟨hcz8_0, hfz8_0, hcz8_1, hfz8_1⟩ := bk2_ BK469))
   go_meet
   case rel => exact ⟨_, (decide (a0_0 > 6)), vt_, H', le_, kX_ BK469, bX1_ HB GE469⟩
  ·replace c5 := Bool.eq_false_iff.mpr c5; subst c5; replace H := ifF_ H; have H' := am_ H; clear H; obtain ⟨hcz9_0, hfz9_0, hcz9_1, hfz9_1⟩ := bk2_ BK469; go_wp2_with (first | ((with_reducible refine gc_ 130 rfl ?_); refine gB_ (some 9) Try.func130 #[.agg #[.int .i64 a0_0, .string a0_1]] (impl_AreSigns.calls k a0_0 a0_1 false _ A4.out) ?_; intro w10 hb; replace BK469 := bb_ BK469 hb; replace HB := bs1_ HB hb GE469; try clear hb))
   go_meet
   case rel => exact ⟨_, (true), vt_, H', le_, kX_ BK469, bX1_ HB GE469⟩
 case rest =>
  clear HC2; obtain ⟨kq, x15_1, rfl, HA, HJ1, BK469, HB⟩ := hcut; cases kq with
  | zero => exact absurd HA.out (by simp [impl_renamed.j0])
  | succ kj1 =>
   have H := HA.out; clear HA; simp only [impl_renamed.j0] at H
   by_cases c11 : x15_1 = true
   ·subst c11; replace H := ifT_ H; simp only [Option.some.injEq, Prod.mk.injEq] at H
    obtain ⟨rfl, rfl⟩ := H; go_wp2; go_ret2
    exact ⟨_, by first | rfl | (simp [errW_none, errW_some] <;> rfl) | (simp [*, errW_none, errW_some] <;> rfl), by first | exact Kd.R_nil _ _ _ _ _ | exact Kd.N_nil _ _ _ _ _ | exact Kd.V_nil _ _ _ _ _ | exact Kd.Q_nil _ _ _ _ _ | exact Kd.S_nil _ _ _ _ _, bx1 HB.out GE469.out⟩
   ·replace c11 := Bool.eq_false_iff.mpr c11; subst c11; replace H := ifF_ H; obtain ⟨t471, A12, H⟩ := bnd_ H; obtain ⟨t474, A13, H⟩ := bnd_ H; have H' := am_ H; clear H; obtain ⟨hcz14_0, hfz14_0, hcz14_1, hfz14_1⟩ := bk2_ BK469; go_wp2_with (first | ((with_reducible refine gc_ 98 rfl ?_); refine gR_ (some 17) Try.func98 #[.agg #[.int .i64 a0_0, .string a0_1]] (impl_tableOf.calls kj1 a0_0 a0_1 t471 _ A12.out) ?_; intro w15 v472 ho0 hb; have HO473 := rl1_ ho0 HB GE469; replace BK469 := bb_ BK469 hb; replace HB := bs1_ HB hb GE469; try clear hb; (try clear ho0); obtain ⟨hcz16_0, hfz16_0, hcz16_1, hfz16_1⟩ := bk2_ BK469) | ((with_reducible refine gc_ 198 rfl ?_); refine gR_ (some 20) Try.func198 #[.int .i64 a0_0] (impl_allNames.calls kj1 a0_0 t474 _ A13.out) ?_; intro w17 v475 ho0 hb; replace HO473 := rb_ HO473 hb; have HO476 := am_ (Kd.S_lower ho0 (below_size (bx1 HB.out GE469.out))); replace BK469 := bb_ BK469 hb; replace HB := bs1_ HB hb GE469; try clear hb; (try clear ho0); obtain ⟨Ao18, co18, eo18⟩ := Kd.S_slice HO476.out; subst eo18))
    go_loopg [5, 22] kj1 (fun kq v5 v22 w' => ∃ (x5_2 : List ByteArray) (x22_2 : Int), v22 = .int .i64 x22_2 ∧ Aside0 (impl_renamed.l0 kq t471 x5_2 t474 (t474.length : Int) x22_2 = some (r1, r2)) ∧ Aside0 (kq ≤ kj1) ∧ Aside0 (Kd.R (Kd.int .i64) 88 w' w.heap.size (fun _ => True) v472 t471) ∧ Aside0 (Kd.R Kd.string 9 w' w.heap.size (fun _ => True) v5 x5_2) ∧ Aside0 (Kd.S (Kd.slice 3 (Kd.int .i64)) 34 w' w.heap.size (fun _ => True) (.slice Ao18 t474.length co18) t474) ∧ Aside0 (w'.heap[gb469]? = some (.cells #[.int .i64 a0_0, .string a0_1] 31 (0, 0))) ∧ Aside0 (Below w.heap.size w w'))
    case atStart => exact ⟨(([] : List ByteArray)), (0), vt_, H', ⟨Nat.le_refl _⟩, rX_ HO473, ⟨by first | exact Kd.R_nil _ _ _ _ _ | exact Kd.N_nil _ _ _ _ _ | exact Kd.V_nil _ _ _ _ _ | exact Kd.Q_nil _ _ _ _ _ | exact Kd.S_nil _ _ _ _ _⟩, ⟨sx_ HO476.out⟩, kX_ BK469, bX1_ HB GE469⟩
    case round =>
     clear H'; try clear c11 hcz14_0 hcz14_1 hcz16_0 hcz16_1 hfz14_0 hfz14_1 hfz16_0 hfz16_1
     obtain ⟨x5_2, x22_2, rfl, HA, HK2, HO_4, HO_5, HO_20, BK469, HB⟩ := hrel; cases gk with
     | zero => exact absurd HA.out (by simp [impl_renamed.l0])
     | succ k2 =>
      have H := HA.out; clear HA; simp only [impl_renamed.l0] at H
      by_cases c19 : x22_2 < (t474.length : Int)
      ·rw [if_pos c19] at H; have c19b0 := decide_eq_true c19; clear c19; by_cases c20 : 0 ≤ x22_2
       ·rw [if_pos c20] at H; have c20b0 := decide_eq_true c20; clear c20; by_cases c21 : x22_2 < (t474.length : Int)
        ·rw [if_pos c21] at H; have c21b0 := decide_eq_true c21; clear c21; replace H := Option.bind_eq_some_iff.mp H; obtain ⟨⟨t478, t479⟩, A220, H⟩ := H; replace H : (if x5_2.length < 8796093022208 then (impl_renamed.l0 k2 t471 (x5_2 ++ [t479]) t474 (t474.length : Int) (wrap64 (x22_2 + 1))) else (none)) = some (r1, r2) := H; have A22 := am_ A220; clear A220; by_cases c23 : x5_2.length < 8796093022208
         ·rw [if_pos c23] at H; have LMc23 := am_ c23; clear c23; obtain ⟨y480, hy480⟩ : ∃ y_ : List ByteArray, y_ = (x5_2 ++ [t479]) := ⟨_, rfl⟩; replace H : (impl_renamed.l0 k2 t471 y480 t474 (t474.length : Int) (wrap64 (x22_2 + 1))) = some (r1, r2) := yH_ hy480 H; have Ny480 := am_ hy480; clear hy480; have H' := am_ H; clear H; have p477 : 0 ≤ (x22_2 : Int) := oda_; have q477 : x22_2 < (t474.length : Int) := oda_; obtain ⟨ad477, A477_0, c477_0, e477, hx477_0, hl477_0, hi477_0⟩ := at_L1 (Kd.S_reads' HO_20.out).2.2 x22_2 p477 q477; cases e477; obtain ⟨ce477, hce477, hMe477, hcc477⟩ := Kd.S_get HO_20.out [] x22_2 p477 (by first | exact q477 | exact oda_ | (have e_ := (Kd.S_reads' HO_20.out).1; omega)); obtain ⟨ve477_0, rfl, ge477_0⟩ := hMe477; have hv477_0 := hcc477 0 _ rfl; rw [Nat.add_zero, show ((Kd.slice 3 (Kd.int .i64))).sz = 1 from rfl, Nat.mul_one] at hv477_0; replace hv477_0 := Option.some.inj (hv477_0.symm.trans hx477_0); rw [hv477_0] at ge477_0; have HL477_0 := am_ (show Kd.R (Kd.int .i64) 3 _ _ _ _ (rd_L1 t474 x22_2) from ge477_0); clear hv477_0 ge477_0; clear hcc477 hce477; have HR477_0 := am_ hi477_0; have HC477_0 := am_ hl477_0; clear hi477_0 hl477_0; replace p477 := eq_true p477; replace q477 := eq_true q477; obtain ⟨Ao24, co24, eo24⟩ := Kd.R_slice HO_4.out; subst eo24; go_wp2_with (first | ((with_reducible refine gc_ 199 rfl ?_); refine gL_ (some 29) Try.func199 #[.pointer Ao24, .slice A477_0 (rd_L1 t474 x22_2).length c477_0] ?_; (refine (impl_chi_rename.calls k2 _ co24 t471 _ _ (rd_L1 t474 x22_2) t478 t479 _ ?side1 ?side2 ?side3 ?side4 A22.out).mono ?_); (case side1 => exact cR_ HO_4); (case side2 => exact (Kd.R_reads' HO_4.out).2.1); (case side3 => repeat (first | exact (by repeat (first | (with_reducible exact HR477_0.out) | (with_reducible refine Kd.C_alloc ?_ _) | (with_reducible refine Kd.C_drewN ?_ _) | (with_reducible refine Kd.C_drew ?_) | exact HR477_0.out)) | (with_reducible refine Kd.C_alloc ?_ _) | (with_reducible refine Kd.C_drewN ?_ _) | (with_reducible refine Kd.C_drew ?_))); (case side4 => exact HC477_0.out); rintro e w25 ⟨rfl, hb⟩; refine ⟨_, rfl, ?_⟩; replace HO_4 := rb_ HO_4 hb; replace HO_5 := rb_ HO_5 hb; replace HO_20 := am_ (Kd.S_below (sx_ HO_20.out) hb); replace HL477_0 := rb_ HL477_0 hb; replace BK469 := bb_ BK469 hb; replace HR477_0 := am_ (Kd.C_below (by repeat (first | (with_reducible exact HR477_0.out) | (with_reducible refine Kd.C_alloc ?_ _) | (with_reducible refine Kd.C_drewN ?_ _) | (with_reducible refine Kd.C_drew ?_) | exact HR477_0.out)) hb); replace HB := bs1_ HB hb GE469; try clear hb) | ((with_reducible refine gate_builtin (b := .append) (xs := #[.tmp 26, .tmp 31]) rfl ?_); at_builtin; refine Kd.R_append Kd.string (w0 := w) w.heap.size rfl (.tmp 26) (.tmp 31) 22 9 (.string ⟨#[]⟩) 16 rfl Try.underlying22 info9 rfl (by decide) (by omega) u5 x5_2 t479 [.string t479] (fun _ => True) (fun _ => False) rfl rfl ?aP (fun _ hk => hk.elim) ?aF ?aO ?aB ?aS ?aL ?_; (case aP => exact rfl); (case aB => exact (bx1 HB.out GE469.out)); (case aF => exact (fun _ _ => trivial)); (case aO => exact (rx_ HO_5.out)); (case aS => exact (below_size (bx1 HB.out GE469.out))); (case aL => have := LMc23.out; omega); intro v481 w26 ho hb hg hat; rw [← Ny480.out] at ho; replace HO_4 := am_ (Kd.R_over' (rx_ HO_4.out) (Kd.R_typed (rx_ HO_5.out)) (by decide) hg); replace HO_20 := am_ (Kd.S_over' (sx_ HO_20.out) (Kd.R_typed (rx_ HO_5.out)) (by decide) hg); replace BK469 := am_ (blk_grown (g := gb469) (o := .cells #[.int .i64 a0_0, .string a0_1] 31 (0, 0)) (kx_ BK469.out) hg (Kd.R_ne HO_5.out BK469.out (by decide))); replace HL477_0 := am_ (Kd.R_over' (rx_ HL477_0.out) (Kd.R_typed (rx_ HO_5.out)) (by decide) hg); replace HB := am_ hb; have HO482 := am_ ho; clear HO_5; clear ho hb hg hat))
          go_roundg k2
          case measure => have := HJ1.out; have := HK2.out; omega
          case rel => exact ⟨(y480), (wrap64 (x22_2 + 1)), vt_, H', hl2_ HJ1 HK2, rX_ HO_4, rX_ HO482, ⟨sx_ HO_20.out⟩, kX_ BK469, bX1_ HB GE469⟩
         ·rw [if_neg c23] at H; exact absurd H (by simp)
        ·rw [if_neg c21] at H; exact absurd H (by simp)
       ·rw [if_neg c20] at H; exact absurd H (by simp)
      ·rw [if_neg c19] at H; have c19b0 := decide_eq_false c19; clear c19; simp only [Option.some.injEq, Prod.mk.injEq] at H
       obtain ⟨rfl, rfl⟩ := H; go_wp2; go_ret2
       exact ⟨_, by first | rfl | (simp [errW_none, errW_some] <;> rfl) | (simp [*, errW_none, errW_some] <;> rfl), rx_ HO_5.out, bx1 HB.out GE469.out⟩
def impl_LeastSigns.l0 : Nat → ByteArray → List ByteArray → Int → Int → Int → ByteArray → Option (Int × ByteArray × Bool)
 | 0, _, _, _, _, _, _ => none
 | k + 1, x6, x20, x21, x22, x484000, x484001 => if x22 < x21 then (if 0 ≤ x22 then (if x22 < (x20.length : Int) then ((impl_opposite.f (rdOf ByteArray.empty x20 x22)).bind fun t491 => (impl_LeastSigns.l0 k (mnT (mnT x6 (rdOf ByteArray.empty x20 x22)) t491) x20 x21 (wrap64 (x22 + 1)) x484000 x484001)) else (none)) else (none)) else (some (x484000, x6, true))
def impl_LeastSigns.f (k : Nat) (a0_0 : Int) (a0_1 : ByteArray) : Option (Int × ByteArray × Bool) := (impl_renamed.f k a0_0 a0_1).bind fun bt485 => (if bt485.2 = true then (if 0 < (bt485.1.length : Int) then (impl_LeastSigns.l0 k (rdOf ByteArray.empty bt485.1 0) bt485.1 (bt485.1.length : Int) 0 a0_0 a0_1) else (none)) else (some (0, (⟨#[]⟩ : ByteArray), false)))
set_option maxHeartbeats 8000000 in
set_option maxRecDepth 100000 in
theorem impl_LeastSigns.calls (k : Nat) (a0_0 : Int) (a0_1 : ByteArray) (r1 : Int) (r2 : ByteArray) (r3 : Bool) (w : World) (h : impl_LeastSigns.f k a0_0 a0_1 = some (r1, r2, r3)) :
  Calls Try.prog 88 #[.agg #[.int .i64 a0_0, .string a0_1]] w fun e w' => e = .returned (.tuple #[.agg #[.int .i64 r1, .string r2], .bool r3]) ∧ Below w.heap.size w w' := by
 have hu31 := Try.underlying31; have HB := am_ (Below.refl w.heap.size w); have H : ((impl_renamed.f k a0_0 a0_1).bind fun bt485 => (if bt485.2 = true then (if 0 < (bt485.1.length : Int) then (impl_LeastSigns.l0 k (rdOf ByteArray.empty bt485.1 0) bt485.1 (bt485.1.length : Int) 0 a0_0 a0_1) else (none)) else (some (0, (⟨#[]⟩ : ByteArray), false)))) = some (r1, r2, r3) := h; clear h; replace H := Option.bind_eq_some_iff.mp H; obtain ⟨⟨t485, t488⟩, A20, H⟩ := H; replace H : (if t488 = true then (if 0 < (t485.length : Int) then (impl_LeastSigns.l0 k (rdOf ByteArray.empty t485 0) t485 (t485.length : Int) 0 a0_0 a0_1) else (none)) else (some (0, (⟨#[]⟩ : ByteArray), false))) = some (r1, r2, r3) := H; have A2 := am_ A20; clear A20; by_cases c3 : t488 = true
 ·subst c3; replace H := ifT_ H; by_cases c4 : 0 < (t485.length : Int)
  ·rw [if_pos c4] at H; have c4b0 := decide_eq_true c4; have c4b1 : decide (0 < t485.length) = true := decide_eq_true (by omega); clear c4; have H' := am_ H; clear H; go_enter Try.func88, Try.ntmps88
   go_wp2_with (first | ((with_reducible refine gd_ 1 rfl ?_); refine be_ 1 #[.int .i64 a0_0, .string a0_1] 31 ?_; intro gb483 hg w5 hbox hb; have BK483 := am_ hbox; have GW483 := gw0_ HB hg; have GE483 := GW483; replace HB := bs0_ HB hb; clear hb hbox hg) | ((with_reducible refine gd_ 2 rfl ?_); refine be_ 2 #[.int .i64 0, .string (⟨#[]⟩ : ByteArray)] 31 ?_; intro gb484 hg w6 hbox hb; have BK484 := am_ hbox; have GW484 := gw1_ HB hg GE483; have GE484 := GW484; replace HB := bs1_ HB hb GE483; have NB483_484 := nl_ BK483 hg; have NB484_483 := ng_ BK483 hg; replace BK483 := bb_ BK483 hb; clear hb hbox hg; have hnb7 := NB483_484.out; have hnc7 := NB484_483.out; obtain ⟨hcz8_0, hfz8_0, hcz8_1, hfz8_1⟩ := bk2_ BK483) | ((with_reducible refine gc_ 158 rfl ?_); refine gR_ (some 11) Try.func158 #[.agg #[.int .i64 a0_0, .string a0_1]] (impl_renamed.calls k a0_0 a0_1 t485 true _ A2.out) ?_; intro w9 v486 ho0 hb; have HO487 := rl2_ ho0 HB GE483 GE484; replace BK483 := bb_ BK483 hb; replace BK484 := bb_ BK484 hb; replace HB := bs2_ HB hb GE483 GE484; try clear hb; (try clear ho0); obtain ⟨Ao10, co10, eo10⟩ := Kd.R_slice HO487.out; subst eo10; have p489 : 0 ≤ (0 : Int) := (by omega); have q489 : 0 < (t485.length : Int) := oda_; obtain ⟨ad489, e489, hx489_0⟩ := Kd.at_string (Kd.R_reads' HO487.out).2.2 0 p489 q489; cases e489; have qi489 : (0 < t485.length) = True := eq_true (by omega); (try rw [show ((0 : Int)).toNat = 0 from rfl] at hx489_0); (try rw [Addr.add_zero'] at hx489_0); replace p489 := eq_true p489; replace q489 := eq_true q489))
   go_loopg [6, 22] k (fun kq v6 v22 w' => ∃ (x6_1 : ByteArray) (x22_1 : Int), v6 = .string x6_1 ∧ v22 = .int .i64 x22_1 ∧ Aside0 (impl_LeastSigns.l0 kq x6_1 t485 (t485.length : Int) x22_1 a0_0 a0_1 = some (r1, r2, r3)) ∧ Aside0 (kq ≤ k) ∧ Aside0 (Kd.R Kd.string 9 w' w.heap.size (fun _ => True) (.slice (some ad489) t485.length co10) t485) ∧ Aside0 (w'.heap[gb483]? = some (.cells #[.int .i64 a0_0, .string a0_1] 31 (0, 0))) ∧ Aside0 (w'.heap[gb484]? = some (.cells #[.int .i64 0, .string (⟨#[]⟩ : ByteArray)] 31 (0, 0))) ∧ Aside0 (Below w.heap.size w w'))
   case atStart => exact ⟨(rdOf ByteArray.empty t485 0), (0), vt_, vt_, H', ⟨Nat.le_refl _⟩, rX_ HO487, kX_ BK483, kX_ BK484, bX2_ HB GE483 GE484⟩
   case round =>
    clear H'; try clear c3 c4b0 c4b1 hcz8_0 hcz8_1 hfz8_0 hfz8_1 hx489_0 p489 q489
    obtain ⟨x6_1, x22_1, rfl, rfl, HA, HK1, HO_20, BK483, BK484, HB⟩ := hrel; cases gk with
    | zero => exact absurd HA.out (by simp [impl_LeastSigns.l0])
    | succ k1 =>
     have H := HA.out; clear HA; simp only [impl_LeastSigns.l0] at H
     by_cases c11 : x22_1 < (t485.length : Int)
     ·rw [if_pos c11] at H; have c11b0 := decide_eq_true c11; clear c11; by_cases c12 : 0 ≤ x22_1
      ·rw [if_pos c12] at H; have c12b0 := decide_eq_true c12; clear c12; by_cases c13 : x22_1 < (t485.length : Int)
       ·rw [if_pos c13] at H; have c13b0 := decide_eq_true c13; clear c13; obtain ⟨t491, A14, H⟩ := bnd_ H; have H' := am_ H; clear H; have p490 : 0 ≤ (x22_1 : Int) := oda_; have q490 : x22_1 < (t485.length : Int) := oda_; obtain ⟨ad490, e490, hx490_0⟩ := Kd.at_string (Kd.R_reads' HO_20.out).2.2 x22_1 p490 q490; obtain rfl : ad489 = ad490 := (by injection e490); replace p490 := eq_true p490; replace q490 := eq_true q490; go_wp2_with (first | ((with_reducible refine gc_ 159 rfl ?_); refine gB_ (some 29) Try.func159 #[.string (rdOf ByteArray.empty t485 x22_1)] (impl_opposite.calls (rdOf ByteArray.empty t485 x22_1) t491 _ A14.out) ?_; intro w15 hb; replace HO_20 := rb_ HO_20 hb; replace BK483 := bb_ BK483 hb; replace BK484 := bb_ BK484 hb; replace HB := bs2_ HB hb GE483 GE484; try clear hb))
        go_roundg k1
        case measure => have := HK1.out; omega
        case rel => exact ⟨((mnT (mnT x6_1 (rdOf ByteArray.empty t485 x22_1)) t491)), (wrap64 (x22_1 + 1)), vt_, vt_, H', hl_ HK1, rX_ HO_20, kX_ BK483, kX_ BK484, bX2_ HB GE483 GE484⟩
       ·rw [if_neg c13] at H; exact absurd H (by simp)
      ·rw [if_neg c12] at H; exact absurd H (by simp)
     ·rw [if_neg c11] at H; have c11b0 := decide_eq_false c11; clear c11; simp only [Option.some.injEq, Prod.mk.injEq] at H
      obtain ⟨rfl, rfl, rfl⟩ := H; have hnb16 := NB483_484.out; have hnc16 := NB484_483.out; obtain ⟨hcz17_0, hfz17_0, hcz17_1, hfz17_1⟩ := bk2_ BK483; obtain ⟨hcz18_0, hfz18_0, hcz18_1, hfz18_1⟩ := bk2_ BK484; go_wp2; refine bodyPost_ret (results_ct rfl _ _ gb484 31 #[.int .i64 a0_0, .string x6_1] (0, 0) _ rfl (by refine kx_ ?_; refine blk_put (cs := #[.int .i64 a0_0, .string (⟨#[]⟩ : ByteArray)]) ?_ 1 _ rfl; refine kx_ ?_; refine blk_put (cs := #[.int .i64 0, .string (⟨#[]⟩ : ByteArray)]) ?_ 0 _ rfl; refine kx_ ?_; exact BK484.out) Try.underlying31 rfl (by kernel_rfl)) rfl ?_; exact ⟨er_, bx2 HB.out GE483.out GE484.out⟩
  ·rw [if_neg c4] at H; exact absurd H (by simp)
 ·replace c3 := Bool.eq_false_iff.mpr c3; subst c3; replace H := ifF_ H; simp only [Option.some.injEq, Prod.mk.injEq] at H
  obtain ⟨rfl, rfl, rfl⟩ := H; go_enter Try.func88, Try.ntmps88
  go_wp2_with (first | ((with_reducible refine gd_ 1 rfl ?_); refine be_ 1 #[.int .i64 a0_0, .string a0_1] 31 ?_; intro gb483 hg w19 hbox hb; have BK483 := am_ hbox; have GW483 := gw0_ HB hg; have GE483 := GW483; replace HB := bs0_ HB hb; clear hb hbox hg) | ((with_reducible refine gd_ 2 rfl ?_); refine be_ 2 #[.int .i64 0, .string (⟨#[]⟩ : ByteArray)] 31 ?_; intro gb484 hg w20 hbox hb; have BK484 := am_ hbox; have GW484 := gw1_ HB hg GE483; have GE484 := GW484; replace HB := bs1_ HB hb GE483; have NB483_484 := nl_ BK483 hg; have NB484_483 := ng_ BK483 hg; replace BK483 := bb_ BK483 hb; clear hb hbox hg; have hnb21 := NB483_484.out; have hnc21 := NB484_483.out; obtain ⟨hcz22_0, hfz22_0, hcz22_1, hfz22_1⟩ := bk2_ BK483) | ((with_reducible refine gc_ 158 rfl ?_); refine gR_ (some 11) Try.func158 #[.agg #[.int .i64 a0_0, .string a0_1]] (impl_renamed.calls k a0_0 a0_1 t485 false _ A2.out) ?_; intro w23 v486 ho0 hb; have HO487 := rl2_ ho0 HB GE483 GE484; replace BK483 := bb_ BK483 hb; replace BK484 := bb_ BK484 hb; replace HB := bs2_ HB hb GE483 GE484; try clear hb; (try clear ho0); obtain ⟨hcz24_0, hfz24_0, hcz24_1, hfz24_1⟩ := bk2_ BK484))
  refine bodyPost_ret (results_ct rfl _ _ gb484 31 #[.int .i64 0, .string (⟨#[]⟩ : ByteArray)] (0, 0) _ rfl (by refine kx_ ?_; refine blk_put (cs := #[.int .i64 0, .string (⟨#[]⟩ : ByteArray)]) ?_ 1 _ rfl; refine kx_ ?_; refine blk_put (cs := #[.int .i64 0, .string (⟨#[]⟩ : ByteArray)]) ?_ 0 _ rfl; refine kx_ ?_; exact BK484.out) Try.underlying31 rfl (by kernel_rfl)) rfl ?_; exact ⟨er_, bx2 HB.out GE483.out GE484.out⟩
end Go.Proofs.Ytoajlmlobaccdaa.P
namespace Go.Proofs.Ytoajlmlobaccdaa.P
open Go.RowKit Go.Proofs.YtoajlmlobaccdaaW.PrintWords Go.Proofs.YtoajlmlobaccdaaW.PrintLast Go.Proofs.YtoajlmlobaccdaaW.PrintMore
set_option linter.unusedVariables false
set_option linter.unusedSimpArgs false
open Go.Shelf in
def sortM6_ren : Go.Shelf.Ren := ⟨fun | 6 => 89 | 8 => 161 | 9 => 160 | 19 => 209 | 20 => 210 | 21 => 200 | 22 => 201 | 23 => 202 | 24 => 203 | 25 => 204 | 26 => 205 | 27 => 206 | 28 => 207 | 29 => 208 | 36 => 247 | 31 => 248 | 32 => 249 | 37 => 250 | 38 => 251 | 39 => 252 | 41 => 264 | n => n, fun | 27 => 22 | 29 => 9 | 3 => 3 | 32 => 153 | 26 => 22 | 0 => 0 | 44 => 192 | 46 => 194 | 4 => 4 | 36 => 185 | 35 => 184 | 41 => 118 | 5 => 5 | 9 => 9 | 53 => 218 | 57 => 222 | 63 => 233 | 64 => 234 | n => n, fun | n => n⟩
theorem sortM6 : Go.Proofs.SlLaysM.n6 Try.prog sortM6_ren :=
  { mixed := by kernel_rfl,
    f6 := ⟨Try.f89.name, by decide, Try.func89.trans (congrArg some (by kernel_rfl))⟩,
    f8 := Try.func161.trans (congrArg some (by kernel_rfl)),
    f9 := ⟨Try.f160.name, by decide, Try.func160.trans (congrArg some (by kernel_rfl))⟩,
    f19 := Try.func209.trans (congrArg some (by kernel_rfl)),
    f20 := Try.func210.trans (congrArg some (by kernel_rfl)),
    f21 := ⟨Try.f200.name, by decide, Try.func200.trans (congrArg some (by kernel_rfl))⟩,
    f22 := ⟨Try.f201.name, by decide, Try.func201.trans (congrArg some (by kernel_rfl))⟩,
    f23 := ⟨Try.f202.name, by decide, Try.func202.trans (congrArg some (by kernel_rfl))⟩,
    f24 := ⟨Try.f203.name, by decide, Try.func203.trans (congrArg some (by kernel_rfl))⟩,
    f25 := ⟨Try.f204.name, by decide, Try.func204.trans (congrArg some (by kernel_rfl))⟩,
    f26 := ⟨Try.f205.name, by decide, Try.func205.trans (congrArg some (by kernel_rfl))⟩,
    f27 := ⟨Try.f206.name, by decide, Try.func206.trans (congrArg some (by kernel_rfl))⟩,
    f28 := ⟨Try.f207.name, by decide, Try.func207.trans (congrArg some (by kernel_rfl))⟩,
    f29 := ⟨Try.f208.name, by decide, Try.func208.trans (congrArg some (by kernel_rfl))⟩,
    f31 := Try.func248.trans (congrArg some (by kernel_rfl)),
    f32 := Try.func249.trans (congrArg some (by kernel_rfl)),
    f36 := ⟨Try.f247.name, by decide, Try.func247.trans (congrArg some (by kernel_rfl))⟩,
    f37 := ⟨Try.f250.name, by decide, Try.func250.trans (congrArg some (by kernel_rfl))⟩,
    f38 := ⟨Try.f251.name, by decide, Try.func251.trans (congrArg some (by kernel_rfl))⟩,
    f39 := ⟨Try.f252.name, by decide, Try.func252.trans (congrArg some (by kernel_rfl))⟩,
    f41 := ⟨Try.f264.name, by decide, Try.func264.trans (congrArg some (by kernel_rfl))⟩,
    t0 := Try.underlying0,
    a0 := Try.isAgg0,
    z0 := Try.sizeOf0,
    v0 := Try.zeroValue0,
    t3 := Try.underlying3,
    a3 := Try.isAgg3,
    z3 := Try.sizeOf3,
    v3 := Try.zeroValue3,
    t4 := Try.underlying4,
    a4 := Try.isAgg4,
    z4 := Try.sizeOf4,
    v4 := Try.zeroValue4,
    t5 := Try.underlying5,
    a5 := Try.isAgg5,
    z5 := Try.sizeOf5,
    v5 := Try.zeroValue5,
    t9 := Try.underlying9,
    a9 := Try.isAgg9,
    z9 := Try.sizeOf9,
    v9 := Try.zeroValue9,
    t26 := Try.underlying22,
    a26 := Try.isAgg22,
    z26 := Try.sizeOf22,
    v26 := Try.zeroValue22,
    t27 := Try.underlying22,
    a27 := Try.isAgg22,
    z27 := Try.sizeOf22,
    v27 := Try.zeroValue22,
    t29 := Try.underlying9,
    a29 := Try.isAgg9,
    z29 := Try.sizeOf9,
    v29 := Try.zeroValue9,
    t32 := Try.underlying153,
    a32 := Try.isAgg153,
    z32 := Try.sizeOf153,
    v32 := Try.zeroValue153,
    t35 := Try.underlying184,
    a35 := Try.isAgg184,
    z35 := Try.sizeOf184,
    v35 := Try.zeroValue184,
    t36 := Try.underlying185,
    a36 := Try.isAgg185,
    z36 := Try.sizeOf185,
    v36 := Try.zeroValue185,
    t41 := Try.underlying118,
    a41 := Try.isAgg118,
    z41 := Try.sizeOf118,
    v41 := Try.zeroValue118,
    t44 := Try.underlying192,
    a44 := Try.isAgg192,
    z44 := Try.sizeOf192,
    v44 := Try.zeroValue192,
    t46 := Try.underlying194,
    a46 := Try.isAgg194,
    z46 := Try.sizeOf194,
    v46 := Try.zeroValue194,
    t53 := Try.underlying218,
    a53 := Try.isAgg218,
    z53 := Try.sizeOf218,
    v53 := Try.zeroValue218,
    t57 := Try.underlying222,
    a57 := Try.isAgg222,
    z57 := Try.sizeOf222,
    v57 := Try.zeroValue222,
    t63 := Try.underlying233,
    a63 := Try.isAgg233,
    z63 := Try.sizeOf233,
    v63 := Try.zeroValue233,
    t64 := Try.underlying234,
    a64 := Try.isAgg234,
    z64 := Try.sizeOf234,
    v64 := Try.zeroValue234 }
def toS (s : ByteArray) : List UInt8 := s.data.toList
def ofS (s : List UInt8) : ByteArray := ⟨s.toArray⟩
theorem ofS_toS (s : ByteArray) : ofS (toS s) = s := rfl
def sortS (l : List ByteArray) : List ByteArray := ((l.map toS).mergeSort fun x y => decide (x ≤ y)).map ofS
theorem sortS_length (l : List ByteArray) : (sortS l).length = l.length := by
  unfold sortS
  rw [List.length_map, List.length_mergeSort, List.length_map]
def slices_Sort_Sstring_string.f (l : List ByteArray) : Option (List ByteArray) := if l.length < 4611686018427387904 then some (sortS l) else none
theorem slices_Sort_Sstring_string.calls (P0_ : Nat → Prop) (u9000_ : Value) (l : List ByteArray) (r : List ByteArray) (w0 w : World) (hB : Below w0.heap.size w0 w) (ho0 : Kd.R Kd.string 9 w w0.heap.size P0_ u9000_ l) (h : slices_Sort_Sstring_string.f l = some r) :
    Calls Try.prog 89 #[u9000_] w fun e w' => e = .returned (.tuple #[]) ∧ Kd.R Kd.string 9 w' w0.heap.size (fun k_ => (P0_ k_ ∨ w.heap.size ≤ k_)) u9000_ r ∧ Below w0.heap.size w0 w' ∧ Kept w w' (fun k_ => P0_ k_) := by
  unfold slices_Sort_Sstring_string.f at h
  by_cases hl : l.length < 4611686018427387904
  case neg => rw [if_neg hl] at h; cases h
  rw [if_pos hl] at h
  obtain rfl := Option.some.inj h
  by_cases hne : 0 < l.length
  · obtain ⟨g, cap, cur, rfl, hg, hok, hcur, hlc, hcm, hcs, hj⟩ := row_blk ho0 hne
    have hlt : g < w.heap.size := (Array.getElem?_eq_some_iff.1 hcur).1
    have hH : Sort.Holds encStr w g 0 (l.map toS).toArray := by
      intro j hjl
      have hl : j < l.length := by simpa using hjl
      have h1 := row_holds (cap := cap) ho0 hcur hj j (by simpa using hl)
      refine ⟨?_, h1.2⟩
      rw [h1.1]
      have e1 : l.toArray[j]! = l[j] := by rw [getElem!_pos _ _ (by simpa using hl)]; simp
      have e2 : (l.map toS).toArray[j]! = toS l[j] := by rw [getElem!_pos _ _ (by simpa using hl)]; simp
      rw [e1, e2]
      rfl
    have hcon := AnyM.slices_Sort_string sortM6 g 0 cap (l.map toS) w hH hlt (by rw [List.length_map]; exact hl)
    rw [List.length_map] at hcon
    refine hcon.mono ?_
    rintro e w' ⟨rfl, n, os, rfl⟩
    refine ⟨rfl, ?_, hB.trans (put_below encStr w n g 0 _ os hg hlt), put_kept encStr w n g 0 _ os hok⟩
    have hlen := sortS_length l
    have hlen2 : ((l.map toS).mergeSort fun x y => decide (x ≤ y)).length = l.length := by rw [List.length_mergeSort, List.length_map]
    have hR := blk_row (enc := Value.string) (h1 := fun _ => rfl) (ok := P0_) (xs := sortS l) (cap := cap) hg hok (put_cur encStr w n g 0 ((l.map toS).mergeSort fun x y => decide (x ≤ y)).toArray os hcur) (by omega) hcm (by rw [putCells_size]; exact hcs) (fun j hj => by
      rw [putCells_at _ _ _ j (by simp; omega) (by simp; omega)]
      congr 1
      rw [getElem!_pos _ _ (by simp; omega), getElem!_pos (sortS l) j hj]
      simp only [sortS, List.getElem_map]
      simp [encStr, ofS])
    rw [hlen] at hR
    exact Kd.R_mono hR (fun k_ hk => .inl hk)
  · have hnil : l = [] := List.eq_nil_of_length_eq_zero (by omega)
    subst hnil
    obtain ⟨A, c, rfl⟩ := Kd.R_slice ho0
    have hS := AnyM.slices_Sort_string_none sortM6 A c w
    refine hS.mono ?_
    rintro e w' ⟨rfl, rfl⟩
    exact ⟨rfl, Kd.R_mono (by rw [show sortS [] = [] by simp [sortS]]; exact ho0) (fun k_ hk => .inl hk), hB, Kept.refl _ _⟩
def compN44_ren : Go.Shelf.Ren := ⟨fun | 44 => 90 | n => n, fun | 25 => 22 | 26 => 9 | 3 => 3 | 4 => 4 | 0 => 0 | n => n, fun | n => n⟩
theorem compN44 : Go.Proofs.SlLaysN.n44 Try.prog compN44_ren :=
  { mixed := by kernel_rfl,
    f44 := ⟨Try.f90.name, by decide, Try.func90.trans (congrArg some (by kernel_rfl))⟩,
    t0 := Try.underlying0,
    a0 := Try.isAgg0,
    z0 := Try.sizeOf0,
    v0 := Try.zeroValue0,
    t3 := Try.underlying3,
    a3 := Try.isAgg3,
    z3 := Try.sizeOf3,
    v3 := Try.zeroValue3,
    t4 := Try.underlying4,
    a4 := Try.isAgg4,
    z4 := Try.sizeOf4,
    v4 := Try.zeroValue4,
    t25 := Try.underlying22,
    a25 := Try.isAgg22,
    z25 := Try.sizeOf22,
    v25 := Try.zeroValue22,
    t26 := Try.underlying9,
    a26 := Try.isAgg9,
    z26 := Try.sizeOf9,
    v26 := Try.zeroValue9,
    i26 := by kernel_rfl }
def compS (l : List ByteArray) : List ByteArray := (Lib.compact (l.map toS)).map ofS
theorem compS_le (l : List ByteArray) : (compS l).length ≤ l.length := by
  unfold compS Lib.compact Lib.compactUpTo
  rw [List.length_map, List.length_map]
  refine Nat.le_trans (List.length_filter_le _ _) ?_
  simp
def slices_Compact_Sstring_string.f (l : List ByteArray) : Option (List ByteArray) := some (compS l)
theorem slices_Compact_Sstring_string.calls (P0_ : Nat → Prop) (u9000_ : Value) (l : List ByteArray) (r : List ByteArray) (w0 w : World) (hB : Below w0.heap.size w0 w) (ho0 : Kd.R Kd.string 9 w w0.heap.size P0_ u9000_ l) (h : slices_Compact_Sstring_string.f l = some r) :
    Calls Try.prog 90 #[u9000_] w fun e w' => ∃ v0_ : Value, e = .returned (v0_) ∧ Kd.R Kd.string 9 w' w0.heap.size (fun k_ => (P0_ k_ ∨ w.heap.size ≤ k_)) v0_ r ∧ Below w0.heap.size w0 w' ∧ Kept w w' (fun k_ => P0_ k_) := by
  obtain rfl := Option.some.inj h
  by_cases hne : 0 < l.length
  · obtain ⟨g, cap, cur, rfl, hg, hok, hcur, hlc, hcm, hcs, hj⟩ := row_blk ho0 hne
    have hlt : g < w.heap.size := (Array.getElem?_eq_some_iff.1 hcur).1
    have hH : Sort.Holds encStr w g 0 (l.map toS).toArray := by
      intro j hjl
      have hl : j < l.length := by simpa using hjl
      have h1 := row_holds (cap := cap) ho0 hcur hj j (by simpa using hl)
      refine ⟨?_, h1.2⟩
      rw [h1.1]
      have e1 : l.toArray[j]! = l[j] := by rw [getElem!_pos _ _ (by simpa using hl)]; simp
      have e2 : (l.map toS).toArray[j]! = toS l[j] := by rw [getElem!_pos _ _ (by simpa using hl)]; simp
      rw [e1, e2]
      rfl
    have hlen := compS_le l
    have hl2 : (Lib.compact (l.map toS)).length = (compS l).length := by unfold compS; rw [List.length_map]
    have hcon := AnyG.slices_Compact_string compN44 g 0 cap (l.map toS) w hH (by rw [List.length_map]; unfold maxLen at hcm; omega) (by rw [List.length_map]; exact hlc)
    rw [List.length_map, hl2] at hcon
    refine hcon.mono ?_
    rintro e w' ⟨rfl, q, rfl⟩
    rw [← Sort.grow_empty (Sort.putRow encStr (Sort.ahead w q) g 0 _)]
    refine ⟨_, rfl, ?_, hB.trans (put_below encStr w q g 0 _ #[] hg hlt), put_kept encStr w q g 0 _ #[] hok⟩
    have hR := blk_row (enc := Value.string) (h1 := fun _ => rfl) (ok := P0_) (xs := compS l) (cap := cap) hg hok (put_cur encStr w q g 0 (Lib.compact (l.map toS) ++ List.replicate (l.length - (compS l).length) []).toArray #[] hcur) (by omega) hcm (by rw [putCells_size]; exact hcs) (fun j hj => by
      rw [putCells_at _ _ _ j (by simp; omega) (by simp; omega)]
      congr 1
      rw [getElem!_pos _ _ (by simp; omega), getElem!_pos (compS l) j hj]
      simp only [compS, List.getElem_map, List.getElem_toArray]
      rw [List.getElem_append_left (by omega)]
      simp [encStr, ofS])
    exact Kd.R_mono hR (fun k_ hk => .inl hk)
  · have hnil : l = [] := List.eq_nil_of_length_eq_zero (by omega)
    subst hnil
    obtain ⟨A, c, rfl⟩ := Kd.R_slice ho0
    refine (AnyG.slices_Compact_string_empty compN44 A c w).mono ?_
    rintro e w' ⟨rfl, rfl⟩
    exact ⟨_, rfl, Kd.R_mono (by rw [show compS [] = [] by simp [compS, Lib.compact, Lib.compactUpTo]]; exact ho0) (fun k_ hk => .inl hk), hB, Kept.refl _ _⟩
end Go.Proofs.Ytoajlmlobaccdaa.P
