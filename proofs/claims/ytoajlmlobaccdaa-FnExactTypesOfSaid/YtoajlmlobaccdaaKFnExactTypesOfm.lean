/- What the law FnExactTypesOf reaches, part 13: functions as plain Lean functions with the proofs that their calls come to them, and plain lemmas over these. Put together by a program (wip/pack.py). -/
import Derived.Test.YtoajlmlobaccdaaKFnExactTypesOfd
import Derived.Test.YtoajlmlobaccdaaKFnExactTypesOfj
import Derived.Test.YtoajlmlobaccdaaKFnExactTypesOfl
import Derived.Test.YtoajlmlobaccdaaKFnExactTypesOfc
import Derived.Test.YtoajlmlobaccdaaKFnExactTypesOfg
import Derived.Test.YtoajlmlobaccdaaKFnExactTypesOfa
import Derived.ChangeArms
import Derived.Deep.Slices
import Derived.Deep.Fields
import Derived.WideShapes
import Derived.KernelRfl
import Derived.Test.YtoajlmlobaccdaaKFnExactTypesOfe
import Derived.Test.YtoajlmlobaccdaaKFnExactTypesOfh
import Derived.Test.YtoajlmlobaccdaaKFnExactTypesOfi
import Derived.Test.YtoajlmlobaccdaaKFnExactTypesOff
import Derived.Test.YtoajlmlobaccdaaKFnExactTypesOfk
namespace Go.Proofs.Ytoajlmlobaccdaa.P
open Go.RowKit Go.Proofs.YtoajlmlobaccdaaW.PrintWords Go.Proofs.YtoajlmlobaccdaaW.PrintLast Go.Proofs.YtoajlmlobaccdaaW.PrintMore
attribute [local go_sem] ptrOf_slice
set_option linter.unusedVariables false
set_option linter.unusedSimpArgs false
def tyF (k : Nat) (n : Int) : List (List Int) → List ByteArray → Option (List ByteArray)
  | [], out => some out
  | x :: r, out => (spec_SignsOfWiring.f k n x).bind fun s => (spec_LeastSigns.f k s.1 s.2.1).bind fun t => (spec_l19Put.f k out t.2.1).bind fun o => tyF k n r o
theorem tyF_mono (k : Nat) (n : Int) : ∀ l out, LeO (tyF k n l out) (tyF (k + 1) n l out)
  | [], _ => LeO.refl _
  | x :: r, out => LeO.bind (spec_SignsOfWiring.mono _ _ _) (fun _ => LeO.bind (spec_LeastSigns.mono _ _ _) (fun _ => LeO.bind (spec_l19Put.mono _ _ _) (fun _ => tyF_mono k n r _)))
def spec_TypesOf.f (k : Nat) (n : Int) : Option (List ByteArray) := (spec_l1In.f n 3 5).bind fun b => if b = true then (spec_NormalsOf.f k n).bind fun l => if l.length ≤ 1000000 then tyF k n l [] else none else some []
theorem spec_TypesOf.mono : ∀ a0 k, LeO (spec_TypesOf.f k a0) (spec_TypesOf.f (k + 1) a0) := fun a0 k => LeO.bind (LeO.refl _) (fun _ => LeO.ite (LeO.bind (spec_NormalsOf.mono _ _) (fun _ => LeO.ite (tyF_mono _ _ _ _) (LeO.refl _))) (LeO.refl _))
theorem Row3.kept {w w1 : World} {okI P : Nat → Prop} {h : Hd} {x : List Int} (hr : Row3 w okI h x) (hk : Kept w w1 P) (hd : ∀ k, okI k → ¬ P k) : Row3 w1 okI h x := Kd.R_step hr (fun k ho hlt => hk.2 k hlt (hd k ho))
theorem LL.keptR {w w1 : World} {base : Nat} {ok okI P : Nat → Prop} {v : Value} {hs : List Hd} {xs : List (List Int)} (h : LL w base ok okI v hs xs) (hk : Kept w w1 P) (hd : ∀ k, ok k → ¬ P k) (hdI : ∀ k, okI k → ¬ P k) : LL w1 base ok okI v hs xs :=
  ⟨Kd.R_step h.own (fun k ho hlt => hk.2 k hlt (hd k ho)), h.len, fun j h0 x hj hx => (h.row j h0 x hj hx).kept hk hdI⟩
set_option maxHeartbeats 8000000 in
set_option maxRecDepth 100000 in
theorem spec_TypesOf.calls (k : Nat) (n : Int) (r : List ByteArray) (w : World) (h : spec_TypesOf.f k n = some r) :
    Calls Try.prog 11 #[.int .i64 n] w fun e w' => ∃ v0_ : Value, e = .returned (v0_) ∧ Kd.R Kd.string 9 w' w.heap.size (fun _ => True) v0_ r ∧ Below w.heap.size w w' := by
  have hu28 := Try.underlying31; obtain ⟨b, A1_, H⟩ := Option.bind_eq_some_iff.mp h; clear h; have A1 := am_ A1_; have HB0 := am_ (Below.refl w.heap.size w); clear A1_; cases b with
  | false =>
    obtain rfl := Option.some.inj (show some ([] : List ByteArray) = some r from H); clear H; go_enter Try.func11, Try.ntmps11
    go_wp2_with (first
      | ((with_reducible refine gd_ 10 rfl ?_); refine Kd.R_lit Kd.string _ 9 ?hg (N := 10) ?hd (xs := ([] : List ByteArray)) (inner := []) (ok := fun _ => True) (okp := fun _ => True) ?hr ?hp (fun _ hk => hk) trivial HB0.out HB0.out.size (by simp) ?_; (case hd => rfl); (case hg => rfl); (case hr => first | (go_simp; done) | (go_simp; rfl)); (case hp => exact (Reps.none _ _)); intro v3 w3 ho hb hg_ hnew_
         have HO := am_ ho; have HB := am_ hb; clear ho hb hg_ hnew_)
      | (go_at_call 79; refine (spec_l1In.calls n 3 5 false _ A1.out).mono ?_; rintro e w4 ⟨rfl, ⟨nd, hw4⟩⟩
         have BL := am_ (show Below w3.heap.size w3 w4 from by rw [hw4]; exact pw_below_drewN (Below.refl _ _) nd); have HO1 := am_ (Kd.R_below HO.out BL.out); have HB1 := am_ (below_step HB.out BL.out); clear hw4 HO HB))
    go_ret; exact ⟨_, rfl, HO1.out, HB1.out⟩
  | true =>
    replace H : ((spec_NormalsOf.f k n).bind fun l => if l.length ≤ 1000000 then tyF k n l [] else none) = some r := by simpa using H
    obtain ⟨l, A2_, H0⟩ := Option.bind_eq_some_iff.mp H; clear H; by_cases hz : l.length ≤ 1000000
    case neg => rw [if_neg hz] at H0; cases H0
    rw [if_pos hz] at H0; have A2 := am_ A2_; have A5 := am_ H0; have HZ := am_ hz; clear A2_ H0 hz; go_enter Try.func11, Try.ntmps11
    go_wp2_with (first
      | ((with_reducible refine gd_ 10 rfl ?_); refine Kd.R_lit Kd.string _ 9 ?hg (N := 10) ?hd (xs := ([] : List ByteArray)) (inner := []) (ok := fun _ => True) (okp := fun _ => True) ?hr ?hp (fun _ hk => hk) trivial HB0.out HB0.out.size (by simp) ?_; (case hd => rfl); (case hg => rfl); (case hr => first | (go_simp; done) | (go_simp; rfl)); (case hp => exact (Reps.none _ _)); intro v3 w3 ho hb hg_ hnew_
         have HO := am_ ho; have HB := am_ hb; clear ho hb hg_ hnew_)
      | (go_at_call 79; refine (spec_l1In.calls n 3 5 true _ A1.out).mono ?_; rintro e w6 ⟨rfl, ⟨nd, hw4⟩⟩
         have BL := am_ (show Below w3.heap.size w3 w6 from by rw [hw4]; exact pw_below_drewN (Below.refl _ _) nd); have HO1 := am_ (Kd.R_below HO.out BL.out); have HB1 := am_ (below_step HB.out BL.out); clear hw4 HO HB BL)
      | (go_at_call 80; refine (spec_NormalsOf.calls k n l _ A2.out).mono ?_; rintro e w7 ⟨v7, hl, rfl, hL, hb⟩
         have HL := am_ (show LL w7 w.heap.size (fun k_ => w6.heap.size ≤ k_ ∧ k_ < w7.heap.size) (fun k_ => w6.heap.size ≤ k_ ∧ k_ < w7.heap.size) v7 hl l from ⟨Kd.R_lower (Kd.R_mono (Kd.R_bound hL.own) (fun k_ hk => ⟨hk.2.1, hk.2.2.1⟩)) HB1.out.size, hL.len, fun j h x_ hj hx => Kd.R_mono (Kd.R_bound (hL.row j h x_ hj hx)) (fun k_ hk => ⟨hk.1, hk.2.2.1⟩)⟩); have HO4 := am_ (Kd.R_below (show Kd.R Kd.string 9 w6 w.heap.size (fun k_ => k_ < w6.heap.size ∨ w7.heap.size ≤ k_) v3 ([] : List ByteArray) from Kd.R_mono (Kd.R_bound HO1.out) (fun k_ hk => .inl hk.2.2.1)) hb); have HB4 := am_ (below_step HB1.out hb); clear hL hb HO1 HB1))
    obtain ⟨Al, cl, rfl⟩ := Kd.R_slice HL.out.own; obtain ⟨s6, hs6⟩ : ∃ s, s = w6.heap.size := ⟨_, rfl⟩; obtain ⟨s7, hs7⟩ : ∃ s, s = w7.heap.size := ⟨_, rfl⟩; have HS7 := am_ (show s7 ≤ w7.heap.size from Nat.le_of_eq hs7); rw [← hs6, ← hs7] at HL HO4; clear hs6 hs7; go_loopg [3, 5] (l.length + 1) (fun kq v3 v5 w' => ∃ (i : Nat) (x5 : Int) (out : List ByteArray), v5 = .int .i64 x5 ∧ Aside0 (x5 = (i : Int) ∧ i ≤ l.length ∧ kq + i = l.length + 1) ∧ Aside0 (tyF k n (l.drop i) out = some r) ∧ Aside0 (Kd.R Kd.string 9 w' w.heap.size (fun k_ => k_ < s6 ∨ s7 ≤ k_) v3 out) ∧ Aside0 (LL w' w.heap.size (fun k_ => s6 ≤ k_ ∧ k_ < s7) (fun k_ => s6 ≤ k_ ∧ k_ < s7) (.slice Al hl.length cl) hl l) ∧ Aside0 (s7 ≤ w'.heap.size) ∧ Aside0 (Below w.heap.size w w'))
    case atStart => exact ⟨0, 0, [], rfl, ⟨rfl, Nat.zero_le _, rfl⟩, A5, HO4, HL, HS7, HB4⟩
    case round =>
      clear A5 HO4 HL HS7 HB4; obtain ⟨i, x5, out, rfl, HI, HP, HO, HL, HS7, HB⟩ := hrel; rename World => wA
      have hll := HL.out.len; by_cases ci : i < l.length
      · have hx0 : 0 ≤ x5 := by have := HI.out.1; omega
        have hx1 : x5 < (hl.length : Int) := by have := HI.out.1; omega
        obtain ⟨adl, e0, z0⟩ := at_hd (Kd.R_reads' HL.out.own).2.2 x5 hx0 hx1; subst e0; obtain ⟨h0, hh0⟩ : ∃ h0, h0 = rdOf (none, 0, 0) hl x5 := ⟨_, rfl⟩; rw [← hh0] at z0; have hg0 : hl[i]? = some h0 := by
          rw [hh0, HI.out.1]; unfold rdOf
          rw [Int.toNat_natCast, List.getD_eq_getElem?_getD, List.getElem?_eq_getElem (by omega)]; rfl
        have hp := HP.out; rw [List.drop_eq_getElem_cons ci, tyF] at hp; obtain ⟨y, hye⟩ : ∃ y, y = l[i] := ⟨_, rfl⟩; rw [← hye] at hp; have hg1 : l[i]? = some y := by rw [hye]; exact List.getElem?_eq_getElem ci
        obtain ⟨⟨s1, s2, sb⟩, hsg, hp⟩ := Option.bind_eq_some_iff.mp hp; obtain ⟨⟨t1, t2, tb⟩, hlt, hp⟩ := Option.bind_eq_some_iff.mp hp; obtain ⟨o, hpo, hp⟩ := Option.bind_eq_some_iff.mp hp; have HRY := am_ (HL.out.row i h0 y hg0 hg1); obtain ⟨gA, gn, gc⟩ := h0; obtain rfl : gn = y.length := by have hre := HRY.out.read.1; unfold encH at hre; injection hre
        replace z0 : _ = some (Value.slice gA y.length gc) := z0; have X0 := eq_true hx0; have X1 := eq_true hx1; have X0b : decide (0 ≤ x5) = true := decide_eq_true hx0; have X1b : decide (x5 < (hl.length : Int)) = true := decide_eq_true hx1; have HSG := am_ hsg; have HLT := am_ hlt; have HPO := am_ hpo; have HP1 := am_ hp; have HI1 := am_ (show x5 = (i : Int) ∧ i + 1 ≤ l.length ∧ gk + i = l.length + 1 from ⟨HI.out.1, ci, HI.out.2.2⟩); have hwi : Aside0 (wrap64 (x5 + 1) = ((i + 1 : Nat) : Int)) := ⟨by have h1 := HI.out.1; have h2 := HZ.out; rw [h1]; unfold wrap64; omega⟩; clear hx0 hx1 hh0 hg0 hye hg1 hsg hlt hpo hp ci HI HP hll; go_upto_region 9 with (first
          | (go_at_call 81; refine (spec_SignsOfWiring.calls k n gA gc y s1 s2 sb _ HRY.out.read.2.1 HRY.out.read.2.2 HSG.out).mono ?_; rintro e w8 ⟨rfl, hb⟩
             have HO1 := am_ (Kd.R_below HO.out hb); have HL1 := am_ (HL.out.fr hb); have HS1 := am_ (Nat.le_trans HS7.out hb.size); have HB1 := am_ (below_step HB.out hb); clear hb HO HL HS7 HB z0)
          | ((with_reducible refine gd_ 6 rfl ?_); refine be_ 6 #[.int .i64 0, .string ⟨#[]⟩] 31 ?_; intro g6 hg6 w9 hbox hb
             have BK1 := am_ hbox; have GE1 := am_ (show w.heap.size ≤ g6 ∧ s7 ≤ g6 from by rw [hg6]; exact ⟨HB1.out.size, HS1.out⟩); have HO2 := am_ (Kd.R_below (Kd.R_elderB HO1.out g6 (Nat.le_of_eq hg6.symm)) hb); have HL2 := am_ (HL1.out.fr hb); have HS2 := am_ (Nat.le_trans HS1.out hb.size); have HB2 := am_ (below_step HB1.out hb); clear hbox hb hg6 HO1 HL1 HS1 HB1; have y0 : w9.cell? ⟨g6, 0, none⟩ = some (.int .i64 0) := (blk_cell BK1.out 0).trans rfl; have y1 : w9.cell? ⟨g6, 1, none⟩ = some (.string ⟨#[]⟩) := (blk_cell BK1.out 1).trans rfl; have f0 := blk_frozen BK1.out 0; have f1 := blk_frozen BK1.out 1))
        have hbk : ((w9.setCell ⟨g6, 0, none⟩ (.int .i64 s1)).setCell ⟨g6, 1, none⟩ (.string s2)).heap[g6]? = some (.cells #[.int .i64 s1, .string s2] 31 (0, 0)) := blk_put (cs := #[.int .i64 s1, .string ⟨#[]⟩]) (blk_put BK1.out 0 _ rfl) 1 _ rfl; have hbb : Below w.heap.size w ((w9.setCell ⟨g6, 0, none⟩ (.int .i64 s1)).setCell ⟨g6, 1, none⟩ (.string s2)) := below_set (below_set HB2.out GE1.out.1) GE1.out.1; have hoo : Kd.R Kd.string 9 ((w9.setCell ⟨g6, 0, none⟩ (.int .i64 s1)).setCell ⟨g6, 1, none⟩ (.string s2)) w.heap.size (fun k_ => k_ < s6 ∨ s7 ≤ k_) u3 out := Kd.R_mono (Kd.R_far (p := ⟨g6, 1, none⟩) (Kd.R_far (p := ⟨g6, 0, none⟩) HO2.out (fun _ hk => hk.2) (.int .i64 s1)) (fun _ hk => hk.2) (.string s2)) (fun _ hk => hk.1); have hkk : Kept w9 ((w9.setCell ⟨g6, 0, none⟩ (.int .i64 s1)).setCell ⟨g6, 1, none⟩ (.string s2)) (fun k_ => s7 ≤ k_) := Kept.setCell (Kept.setCell (Kept.refl _ _) (p := ⟨g6, 0, none⟩) (.inl GE1.out.2) _) (p := ⟨g6, 1, none⟩) (.inl GE1.out.2) _; have hlo := HL2.out.keptR hkk (fun k_ h1 h2 => by omega) (fun k_ h1 h2 => by omega); have hss : s7 ≤ ((w9.setCell ⟨g6, 0, none⟩ (.int .i64 s1)).setCell ⟨g6, 1, none⟩ (.string s2)).heap.size := Nat.le_trans HS2.out hkk.1; generalize ((w9.setCell ⟨g6, 0, none⟩ (.int .i64 s1)).setCell ⟨g6, 1, none⟩ (.string s2)) = W8 at hbk hbb hoo hlo hss ⊢
        have BK3 := am_ hbk; have HB3 := am_ hbb; have HO3 := am_ hoo; have HL3 := am_ hlo; have HS3 := am_ hss; clear hbk hbb hoo hlo hss hkk y0 y1 f0 f1 BK1 HB2 HO2 HL2 HS2; have hcz0 : W8.cell? ⟨g6, 0, none⟩ = some (.int .i64 s1) := (blk_cell BK3.out 0).trans rfl; have hcz1 : W8.cell? ⟨g6, 1, none⟩ = some (.string s2) := (blk_cell BK3.out 1).trans rfl; go_upto_region 10 with (first
          | (go_at_call 82; refine (spec_LeastSigns.calls k s1 s2 t1 t2 tb _ HLT.out).mono ?_; rintro e w10 ⟨rfl, hb⟩
             have HO4 := am_ (Kd.R_below HO3.out hb); have HL4 := am_ (HL3.out.fr hb); have HS4 := am_ (Nat.le_trans HS3.out hb.size); have HB4 := am_ (below_step HB3.out hb); clear hb HO3 HL3 HS3 HB3 BK3 hcz0 hcz1)
          | ((with_reducible refine gd_ 8 rfl ?_); refine be_ 8 #[.int .i64 0, .string ⟨#[]⟩] 31 ?_; intro g8 hg8 w11 hbox hb
             have BK5 := am_ hbox; have GE5 := am_ (show w.heap.size ≤ g8 ∧ s7 ≤ g8 from by rw [hg8]; exact ⟨HB4.out.size, HS4.out⟩); have HO5 := am_ (Kd.R_below (Kd.R_elderB HO4.out g8 (Nat.le_of_eq hg8.symm)) hb); have HL5 := am_ (HL4.out.fr hb); have HS5 := am_ (Nat.le_trans HS4.out hb.size); have HB5 := am_ (below_step HB4.out hb); clear hbox hb hg8 HO4 HL4 HS4 HB4; have y0 : w11.cell? ⟨g8, 0, none⟩ = some (.int .i64 0) := (blk_cell BK5.out 0).trans rfl; have y1 : w11.cell? ⟨g8, 1, none⟩ = some (.string ⟨#[]⟩) := (blk_cell BK5.out 1).trans rfl; have f0 := blk_frozen BK5.out 0; have f1 := blk_frozen BK5.out 1))
        have hbk : ((w11.setCell ⟨g8, 0, none⟩ (.int .i64 t1)).setCell ⟨g8, 1, none⟩ (.string t2)).heap[g8]? = some (.cells #[.int .i64 t1, .string t2] 31 (0, 0)) := blk_put (cs := #[.int .i64 t1, .string ⟨#[]⟩]) (blk_put BK5.out 0 _ rfl) 1 _ rfl; have hbb : Below w.heap.size w ((w11.setCell ⟨g8, 0, none⟩ (.int .i64 t1)).setCell ⟨g8, 1, none⟩ (.string t2)) := below_set (below_set HB5.out GE5.out.1) GE5.out.1; have hoo : Kd.R Kd.string 9 ((w11.setCell ⟨g8, 0, none⟩ (.int .i64 t1)).setCell ⟨g8, 1, none⟩ (.string t2)) w.heap.size (fun k_ => k_ < s6 ∨ s7 ≤ k_) u3 out := Kd.R_mono (Kd.R_far (p := ⟨g8, 1, none⟩) (Kd.R_far (p := ⟨g8, 0, none⟩) HO5.out (fun _ hk => hk.2) (.int .i64 t1)) (fun _ hk => hk.2) (.string t2)) (fun _ hk => hk.1); have hkk : Kept w11 ((w11.setCell ⟨g8, 0, none⟩ (.int .i64 t1)).setCell ⟨g8, 1, none⟩ (.string t2)) (fun k_ => s7 ≤ k_) := Kept.setCell (Kept.setCell (Kept.refl _ _) (p := ⟨g8, 0, none⟩) (.inl GE5.out.2) _) (p := ⟨g8, 1, none⟩) (.inl GE5.out.2) _; have hlo := HL5.out.keptR hkk (fun k_ h1 h2 => by omega) (fun k_ h1 h2 => by omega); have hss : s7 ≤ ((w11.setCell ⟨g8, 0, none⟩ (.int .i64 t1)).setCell ⟨g8, 1, none⟩ (.string t2)).heap.size := Nat.le_trans HS5.out hkk.1; generalize ((w11.setCell ⟨g8, 0, none⟩ (.int .i64 t1)).setCell ⟨g8, 1, none⟩ (.string t2)) = W9 at hbk hbb hoo hlo hss ⊢
        have BK6 := am_ hbk; have HB6 := am_ hbb; have HO6 := am_ hoo; have HL6 := am_ hlo; have HS6 := am_ hss; clear hbk hbb hoo hlo hss hkk y0 y1 f0 f1 BK5 HB5 HO5 HL5 HS5; have hcz0 : W9.cell? ⟨g8, 0, none⟩ = some (.int .i64 t1) := (blk_cell BK6.out 0).trans rfl; have hcz1 : W9.cell? ⟨g8, 1, none⟩ = some (.string t2) := (blk_cell BK6.out 1).trans rfl; go_wp2_with (first
          | (go_at_call 83; refine (spec_l19Put.calls k (fun k_ => k_ < s6 ∨ s7 ≤ k_) _ out t2 o w _ HB6.out HO6.out HPO.out).mono ?_; rintro e w12 ⟨v12, rfl, ho, hB, hK⟩
             have HO7 := am_ (Kd.R_mono (ok' := fun k_ => k_ < s6 ∨ s7 ≤ k_) ho (fun k_ hk => hk.elim id (fun h_ => .inr (Nat.le_trans HS6.out h_)))); have HL7 := am_ (HL6.out.keptR hK (fun k_ h1 h2 => by omega) (fun k_ h1 h2 => by omega)); have HS7 := am_ (Nat.le_trans HS6.out hK.1); have HB7 := am_ hB; clear ho hB hK HO6 HL6 HB6 HS6 BK6 hcz0 hcz1))
        go_roundg (gk - 1)
        case measure => have := HI1.out; omega
        case rel => exact ⟨i + 1, wrap64 (x5 + 1), o, by first | rfl | (simp; done), ⟨hwi.out, HI1.out.2.1, by have := HI1.out; omega⟩, HP1, HO7, HL7, HS7, HB7⟩
      · have ei : i = l.length := by have := HI.out; omega
        have hp := HP.out; rw [ei, List.drop_length] at hp; obtain rfl := Option.some.inj (show some out = some r from hp); have X1 := eq_false (show ¬ x5 < (hl.length : Int) by have := HI.out.1; omega); have X1b : decide (x5 < (hl.length : Int)) = false := decide_eq_false (by have := HI.out.1; omega); clear ei hp ci HP HI hll; go_wp2; go_ret; exact ⟨_, rfl, Kd.R_mono HO.out (fun _ _ => trivial), HB.out⟩
end Go.Proofs.Ytoajlmlobaccdaa.P
namespace Go.Proofs.Ytoajlmlobaccdaa.P
open Go.RowKit Go.Proofs.YtoajlmlobaccdaaW.PrintWords Go.Proofs.YtoajlmlobaccdaaW.PrintLast Go.Proofs.YtoajlmlobaccdaaW.PrintMore
attribute [local go_sem] ptrOf_slice
attribute [local go_sem] min2_str max2_int min2_int max_two min_two max_three min_three max_four min_four
set_option linter.unusedVariables false
set_option linter.unusedSimpArgs false
def laws_FnExactTypesOf.f (k : Nat) (a0 : Int) : Option (Bool) := (spec_TypesOf.f k a0).bind fun t647 => ((impl_TypesOf.f k a0).bind fun t650 => ((laws_eqStringS.f k t650 t647).bind fun t653 => (if t653 = true then ((laws_markStringS.f k t650 1).bind fun bt654 => ((laws_heldStringS.f k bt654.2 1).bind fun t656 => (if t656 < 0 then (some false) else (if t656 = bt654.1 then ((impl_TypesOf.f k a0).bind fun t657 => ((laws_eqStringS.f k t657 t647).bind fun t660 => (if t660 = true then ((laws_heldStringS.f k bt654.2 1).bind fun t661 => (if t661 < 0 then (some false) else (if t661 = bt654.1 then (some true) else (some false)))) else (some false)))) else (some false))))) else (some false))))
set_option maxHeartbeats 8000000 in
set_option maxRecDepth 100000 in
theorem laws_FnExactTypesOf.calls (k : Nat) (a0 : Int) (r : Bool) (w : World) (h : laws_FnExactTypesOf.f k a0 = some r) :
  Calls Try.prog 3 #[.int .i64 a0] w fun e w' => e = .returned (.bool r) ∧ Below w.heap.size w w' := by
 have HB := am_ (Below.refl w.heap.size w); have H : ((spec_TypesOf.f k a0).bind fun t647 => ((impl_TypesOf.f k a0).bind fun t650 => ((laws_eqStringS.f k t650 t647).bind fun t653 => (if t653 = true then ((laws_markStringS.f k t650 1).bind fun bt654 => ((laws_heldStringS.f k bt654.2 1).bind fun t656 => (if t656 < 0 then (some false) else (if t656 = bt654.1 then ((impl_TypesOf.f k a0).bind fun t657 => ((laws_eqStringS.f k t657 t647).bind fun t660 => (if t660 = true then ((laws_heldStringS.f k bt654.2 1).bind fun t661 => (if t661 < 0 then (some false) else (if t661 = bt654.1 then (some true) else (some false)))) else (some false)))) else (some false))))) else (some false))))) = some r := h; clear h; obtain ⟨t647, A2, H⟩ := bnd_ H; obtain ⟨t650, A3, H⟩ := bnd_ H; obtain ⟨t653, A4, H⟩ := bnd_ H; by_cases c5 : t653 = true
 ·subst c5; replace H := ifT_ H; replace H := Option.bind_eq_some_iff.mp H; obtain ⟨⟨t654, t655⟩, A60, H⟩ := H; replace H : ((laws_heldStringS.f k t655 1).bind fun t656 => (if t656 < 0 then (some false) else (if t656 = t654 then ((impl_TypesOf.f k a0).bind fun t657 => ((laws_eqStringS.f k t657 t647).bind fun t660 => (if t660 = true then ((laws_heldStringS.f k t655 1).bind fun t661 => (if t661 < 0 then (some false) else (if t661 = t654 then (some true) else (some false)))) else (some false)))) else (some false)))) = some r := H; have A6 := am_ A60; clear A60; obtain ⟨t656, A7, H⟩ := bnd_ H; by_cases c8 : t656 < 0
  ·rw [if_pos c8] at H; have c8b0 := decide_eq_true c8; clear c8; obtain rfl := Option.some.inj H; go_enter Try.func3, Try.ntmps3
   go_wp2_with (first | ((with_reducible refine gc_ 11 rfl ?_); refine gR_ (some 9) Try.func11 #[.int .i64 a0] (spec_TypesOf.calls k a0 t647 _ A2.out) ?_; intro w9 v648 ho0 hb; have HO649 := rl0_ ho0 HB; replace HB := bs0_ HB hb; try clear hb; (try clear ho0)) | ((with_reducible refine gc_ 12 rfl ?_); refine gR_ (some 11) Try.func12 #[.int .i64 a0] (impl_TypesOf.calls k a0 t650 _ A3.out) ?_; intro w10 v651 ho0 hb; have HO652 := am_ (Kd.R_lower (Kd.R_new' ho0 (Kd.R_lt (rx_ HO649.out))) (below_size (bx0 HB.out))); replace HO649 := re_ HO649 ho0 hb; replace HB := bs0_ HB hb; try clear hb; (try clear ho0); obtain ⟨Ao11, co11, eo11⟩ := Kd.R_slice HO652.out; subst eo11; obtain ⟨Ao12, co12, eo12⟩ := Kd.R_slice HO649.out; subst eo12) | ((with_reducible refine gc_ 13 rfl ?_); refine gL_ (some 14) Try.func13 #[.slice Ao11 t650.length co11, .slice Ao12 t647.length co12] ?_; (with_reducible refine (laws_eqStringS.calls k _ _ t650 _ _ t647 true _ ?side1 ?side2 ?side3 ?side4 A4.out).mono ?_); (case side1 => exact cR_ HO652); (case side2 => exact (Kd.R_reads' HO652.out).2.1); (case side3 => exact cR_ HO649); (case side4 => exact (Kd.R_reads' HO649.out).2.1); rintro e w' ⟨rfl, ⟨nd, rfl⟩⟩; refine ⟨_, rfl, ?_⟩) | ((with_reducible refine gc_ 14 rfl ?_); refine gL_ (some 18) Try.func14 #[.slice Ao11 t650.length co11, .int .i64 1] ?_; (with_reducible refine (laws_markStringS.calls k (fun k_ => some k_ = (.slice Ao11 t650.length co11 : Value).ownBlock) (.slice Ao11 t650.length co11) t650 1 t654 t655 w _ ?side1 ?side2 A6.out).mono ?_); (case side1 => exact bx0 HB.out); (case side2 => exact Kd.R_tight rfl HO652.out); rintro e w13 ⟨rfl, hy0, hb, hkp⟩; refine ⟨_, rfl, ?_⟩; replace HO649 := am_ (Kd.R_mono (ok' := fun k_ => some k_ ≠ (.slice Ao11 t650.length co11 : Value).ownBlock) (Kd.R_keptB (HO649.out) hkp (fun k_ hk_ hs_ => (hk_.2) hs_)) (fun k_ hk_ => hk_.1.2)); replace HO652 := am_ (Kd.R_reok rfl hy0 (fun k_ e_ => HO652.out.1 k_ e_)); replace HB := am_ hb; (try clear hb); (try clear hkp); (try clear hy0)) | ((with_reducible refine gc_ 15 rfl ?_); refine goesL_ (some 21) rfl rfl Try.func15 (by kernel_rfl) rfl #[.slice Ao11 t655.length co11, .int .i64 1] rfl (by (try simp only [List.map_toArray, List.map_cons, List.map_nil]); first | done | (rw [show t655.length = t650.length from (Kd.R_reads' HO652.out).1.symm] <;> rfl) | rfl | (simp only [List.length_drop, List.length_take]; rfl)) ?_; (with_reducible refine (laws_heldStringS.calls k _ _ t655 1 t656 _ ?side1 ?side2 A7.out).mono ?_); (case side1 => exact cR_ HO652); (case side2 => rw [show t655.length = t650.length from (Kd.R_reads' HO652.out).1.symm]; exact (Kd.R_reads' HO652.out).2.1); rintro e w14 ⟨rfl, hb⟩; refine ⟨_, rfl, ?_⟩; replace HO649 := rb_ HO649 hb; replace HO652 := rb_ HO652 hb; replace HB := bs0_ HB hb; try clear hb))
   go_ret; exact ⟨er_, bx0 HB.out⟩
  ·rw [if_neg c8] at H; have c8b0 := decide_eq_false c8; clear c8; by_cases c15 : t656 = t654
   ·rw [if_pos c15] at H; obtain ⟨c15b0, c15b1⟩ := eqT_ c15; clear c15; obtain ⟨t657, A16, H⟩ := bnd_ H; obtain ⟨t660, A17, H⟩ := bnd_ H; by_cases c18 : t660 = true
    ·subst c18; replace H := ifT_ H; obtain ⟨t661, A19, H⟩ := bnd_ H; by_cases c20 : t661 < 0
     ·rw [if_pos c20] at H; have c20b0 := decide_eq_true c20; clear c20; obtain rfl := Option.some.inj H; go_enter Try.func3, Try.ntmps3
      go_wp2_with (first | ((with_reducible refine gc_ 11 rfl ?_); refine gR_ (some 9) Try.func11 #[.int .i64 a0] (spec_TypesOf.calls k a0 t647 _ A2.out) ?_; intro w21 v648 ho0 hb; have HO649 := rl0_ ho0 HB; replace HB := bs0_ HB hb; try clear hb; (try clear ho0)) | ((with_reducible refine gc_ 12 rfl ?_); refine gR_ (some 11) Try.func12 #[.int .i64 a0] (impl_TypesOf.calls k a0 t650 _ A3.out) ?_; intro w22 v651 ho0 hb; have HO652 := am_ (Kd.R_lower (Kd.R_new' ho0 (Kd.R_lt (rx_ HO649.out))) (below_size (bx0 HB.out))); replace HO649 := re_ HO649 ho0 hb; replace HB := bs0_ HB hb; try clear hb; (try clear ho0); obtain ⟨Ao23, co23, eo23⟩ := Kd.R_slice HO652.out; subst eo23; obtain ⟨Ao24, co24, eo24⟩ := Kd.R_slice HO649.out; subst eo24) | ((with_reducible refine gc_ 13 rfl ?_); refine gL_ (some 14) Try.func13 #[.slice Ao23 t650.length co23, .slice Ao24 t647.length co24] ?_; (with_reducible refine (laws_eqStringS.calls k _ _ t650 _ _ t647 true _ ?side1 ?side2 ?side3 ?side4 A4.out).mono ?_); (case side1 => exact cR_ HO652); (case side2 => exact (Kd.R_reads' HO652.out).2.1); (case side3 => exact cR_ HO649); (case side4 => exact (Kd.R_reads' HO649.out).2.1); rintro e w' ⟨rfl, ⟨nd, rfl⟩⟩; refine ⟨_, rfl, ?_⟩) | ((with_reducible refine gc_ 14 rfl ?_); refine gL_ (some 18) Try.func14 #[.slice Ao23 t650.length co23, .int .i64 1] ?_; (with_reducible refine (laws_markStringS.calls k (fun k_ => some k_ = (.slice Ao23 t650.length co23 : Value).ownBlock) (.slice Ao23 t650.length co23) t650 1 t654 t655 w _ ?side1 ?side2 A6.out).mono ?_); (case side1 => exact bx0 HB.out); (case side2 => exact Kd.R_tight rfl HO652.out); rintro e w25 ⟨rfl, hy0, hb, hkp⟩; refine ⟨_, rfl, ?_⟩; replace HO649 := am_ (Kd.R_mono (ok' := fun k_ => some k_ ≠ (.slice Ao23 t650.length co23 : Value).ownBlock) (Kd.R_keptB (HO649.out) hkp (fun k_ hk_ hs_ => (hk_.2) hs_)) (fun k_ hk_ => hk_.1.2)); replace HO652 := am_ (Kd.R_reok rfl hy0 (fun k_ e_ => HO652.out.1 k_ e_)); replace HB := am_ hb; (try clear hb); (try clear hkp); (try clear hy0)) | ((with_reducible refine gc_ 15 rfl ?_); refine goesL_ (some 21) rfl rfl Try.func15 (by kernel_rfl) rfl #[.slice Ao23 t655.length co23, .int .i64 1] rfl (by (try simp only [List.map_toArray, List.map_cons, List.map_nil]); first | done | (rw [show t655.length = t650.length from (Kd.R_reads' HO652.out).1.symm] <;> rfl) | rfl | (simp only [List.length_drop, List.length_take]; rfl)) ?_; (with_reducible refine (laws_heldStringS.calls k _ _ t655 1 t656 _ ?side1 ?side2 A7.out).mono ?_); (case side1 => exact cR_ HO652); (case side2 => rw [show t655.length = t650.length from (Kd.R_reads' HO652.out).1.symm]; exact (Kd.R_reads' HO652.out).2.1); rintro e w26 ⟨rfl, hb⟩; refine ⟨_, rfl, ?_⟩; replace HO649 := rb_ HO649 hb; replace HO652 := rb_ HO652 hb; replace HB := bs0_ HB hb; try clear hb) | ((with_reducible refine gc_ 12 rfl ?_); refine gR_ (some 28) Try.func12 #[.int .i64 a0] (impl_TypesOf.calls k a0 t657 _ A16.out) ?_; intro w27 v658 ho0 hb; have HO659 := am_ (Kd.R_lower (Kd.R_new' (Kd.R_new' ho0 (Kd.R_lt (rx_ HO649.out))) (Kd.R_lt (rx_ HO652.out))) (below_size (bx0 HB.out))); replace HO649 := re_ HO649 ho0 hb; replace HO652 := re_ HO652 ho0 hb; replace HB := bs0_ HB hb; try clear hb; (try clear ho0); obtain ⟨Ao28, co28, eo28⟩ := Kd.R_slice HO659.out; subst eo28) | ((with_reducible refine gc_ 13 rfl ?_); refine gL_ (some 31) Try.func13 #[.slice Ao28 t657.length co28, .slice Ao24 t647.length co24] ?_; (with_reducible refine (laws_eqStringS.calls k _ _ t657 _ _ t647 true _ ?side1 ?side2 ?side3 ?side4 A17.out).mono ?_); (case side1 => exact cR_ HO659); (case side2 => exact (Kd.R_reads' HO659.out).2.1); (case side3 => exact cR_ HO649); (case side4 => exact (Kd.R_reads' HO649.out).2.1); rintro e w' ⟨rfl, ⟨nd, rfl⟩⟩; refine ⟨_, rfl, ?_⟩) | ((with_reducible refine gc_ 15 rfl ?_); refine goesL_ (some 35) rfl rfl Try.func15 (by kernel_rfl) rfl #[.slice Ao23 t655.length co23, .int .i64 1] rfl (by (try simp only [List.map_toArray, List.map_cons, List.map_nil]); first | done | (rw [show t655.length = t650.length from (Kd.R_reads' HO652.out).1.symm] <;> rfl) | rfl | (simp only [List.length_drop, List.length_take]; rfl)) ?_; (with_reducible refine (laws_heldStringS.calls k _ _ t655 1 t661 _ ?side1 ?side2 A19.out).mono ?_); (case side1 => exact cR_ HO652); (case side2 => rw [show t655.length = t650.length from (Kd.R_reads' HO652.out).1.symm]; exact (Kd.R_reads' HO652.out).2.1); rintro e w29 ⟨rfl, hb⟩; refine ⟨_, rfl, ?_⟩; replace HO649 := rb_ HO649 hb; replace HO652 := rb_ HO652 hb; replace HO659 := rb_ HO659 hb; replace HB := bs0_ HB hb; try clear hb))
      go_ret; exact ⟨er_, bx0 HB.out⟩
     ·rw [if_neg c20] at H; have c20b0 := decide_eq_false c20; clear c20; by_cases c30 : t661 = t654
      ·rw [if_pos c30] at H; obtain ⟨c30b0, c30b1⟩ := eqT_ c30; clear c30; obtain rfl := Option.some.inj H; go_enter Try.func3, Try.ntmps3
       go_wp2_with (first | ((with_reducible refine gc_ 11 rfl ?_); refine gR_ (some 9) Try.func11 #[.int .i64 a0] (spec_TypesOf.calls k a0 t647 _ A2.out) ?_; intro w31 v648 ho0 hb; have HO649 := rl0_ ho0 HB; replace HB := bs0_ HB hb; try clear hb; (try clear ho0)) | ((with_reducible refine gc_ 12 rfl ?_); refine gR_ (some 11) Try.func12 #[.int .i64 a0] (impl_TypesOf.calls k a0 t650 _ A3.out) ?_; intro w32 v651 ho0 hb; have HO652 := am_ (Kd.R_lower (Kd.R_new' ho0 (Kd.R_lt (rx_ HO649.out))) (below_size (bx0 HB.out))); replace HO649 := re_ HO649 ho0 hb; replace HB := bs0_ HB hb; try clear hb; (try clear ho0); obtain ⟨Ao33, co33, eo33⟩ := Kd.R_slice HO652.out; subst eo33; obtain ⟨Ao34, co34, eo34⟩ := Kd.R_slice HO649.out; subst eo34) | ((with_reducible refine gc_ 13 rfl ?_); refine gL_ (some 14) Try.func13 #[.slice Ao33 t650.length co33, .slice Ao34 t647.length co34] ?_; (with_reducible refine (laws_eqStringS.calls k _ _ t650 _ _ t647 true _ ?side1 ?side2 ?side3 ?side4 A4.out).mono ?_); (case side1 => exact cR_ HO652); (case side2 => exact (Kd.R_reads' HO652.out).2.1); (case side3 => exact cR_ HO649); (case side4 => exact (Kd.R_reads' HO649.out).2.1); rintro e w' ⟨rfl, ⟨nd, rfl⟩⟩; refine ⟨_, rfl, ?_⟩) | ((with_reducible refine gc_ 14 rfl ?_); refine gL_ (some 18) Try.func14 #[.slice Ao33 t650.length co33, .int .i64 1] ?_; (with_reducible refine (laws_markStringS.calls k (fun k_ => some k_ = (.slice Ao33 t650.length co33 : Value).ownBlock) (.slice Ao33 t650.length co33) t650 1 t654 t655 w _ ?side1 ?side2 A6.out).mono ?_); (case side1 => exact bx0 HB.out); (case side2 => exact Kd.R_tight rfl HO652.out); rintro e w35 ⟨rfl, hy0, hb, hkp⟩; refine ⟨_, rfl, ?_⟩; replace HO649 := am_ (Kd.R_mono (ok' := fun k_ => some k_ ≠ (.slice Ao33 t650.length co33 : Value).ownBlock) (Kd.R_keptB (HO649.out) hkp (fun k_ hk_ hs_ => (hk_.2) hs_)) (fun k_ hk_ => hk_.1.2)); replace HO652 := am_ (Kd.R_reok rfl hy0 (fun k_ e_ => HO652.out.1 k_ e_)); replace HB := am_ hb; (try clear hb); (try clear hkp); (try clear hy0)) | ((with_reducible refine gc_ 15 rfl ?_); refine goesL_ (some 21) rfl rfl Try.func15 (by kernel_rfl) rfl #[.slice Ao33 t655.length co33, .int .i64 1] rfl (by (try simp only [List.map_toArray, List.map_cons, List.map_nil]); first | done | (rw [show t655.length = t650.length from (Kd.R_reads' HO652.out).1.symm] <;> rfl) | rfl | (simp only [List.length_drop, List.length_take]; rfl)) ?_; (with_reducible refine (laws_heldStringS.calls k _ _ t655 1 t656 _ ?side1 ?side2 A7.out).mono ?_); (case side1 => exact cR_ HO652); (case side2 => rw [show t655.length = t650.length from (Kd.R_reads' HO652.out).1.symm]; exact (Kd.R_reads' HO652.out).2.1); rintro e w36 ⟨rfl, hb⟩; refine ⟨_, rfl, ?_⟩; replace HO649 := rb_ HO649 hb; replace HO652 := rb_ HO652 hb; replace HB := bs0_ HB hb; try clear hb) | ((with_reducible refine gc_ 12 rfl ?_); refine gR_ (some 28) Try.func12 #[.int .i64 a0] (impl_TypesOf.calls k a0 t657 _ A16.out) ?_; intro w37 v658 ho0 hb; have HO659 := am_ (Kd.R_lower (Kd.R_new' (Kd.R_new' ho0 (Kd.R_lt (rx_ HO649.out))) (Kd.R_lt (rx_ HO652.out))) (below_size (bx0 HB.out))); replace HO649 := re_ HO649 ho0 hb; replace HO652 := re_ HO652 ho0 hb; replace HB := bs0_ HB hb; try clear hb; (try clear ho0); obtain ⟨Ao38, co38, eo38⟩ := Kd.R_slice HO659.out; subst eo38) | ((with_reducible refine gc_ 13 rfl ?_); refine gL_ (some 31) Try.func13 #[.slice Ao38 t657.length co38, .slice Ao34 t647.length co34] ?_; (with_reducible refine (laws_eqStringS.calls k _ _ t657 _ _ t647 true _ ?side1 ?side2 ?side3 ?side4 A17.out).mono ?_); (case side1 => exact cR_ HO659); (case side2 => exact (Kd.R_reads' HO659.out).2.1); (case side3 => exact cR_ HO649); (case side4 => exact (Kd.R_reads' HO649.out).2.1); rintro e w' ⟨rfl, ⟨nd, rfl⟩⟩; refine ⟨_, rfl, ?_⟩) | ((with_reducible refine gc_ 15 rfl ?_); refine goesL_ (some 35) rfl rfl Try.func15 (by kernel_rfl) rfl #[.slice Ao33 t655.length co33, .int .i64 1] rfl (by (try simp only [List.map_toArray, List.map_cons, List.map_nil]); first | done | (rw [show t655.length = t650.length from (Kd.R_reads' HO652.out).1.symm] <;> rfl) | rfl | (simp only [List.length_drop, List.length_take]; rfl)) ?_; (with_reducible refine (laws_heldStringS.calls k _ _ t655 1 t661 _ ?side1 ?side2 A19.out).mono ?_); (case side1 => exact cR_ HO652); (case side2 => rw [show t655.length = t650.length from (Kd.R_reads' HO652.out).1.symm]; exact (Kd.R_reads' HO652.out).2.1); rintro e w39 ⟨rfl, hb⟩; refine ⟨_, rfl, ?_⟩; replace HO649 := rb_ HO649 hb; replace HO652 := rb_ HO652 hb; replace HO659 := rb_ HO659 hb; replace HB := bs0_ HB hb; try clear hb))
       go_ret; exact ⟨er_, bx0 HB.out⟩
      ·rw [if_neg c30] at H; obtain ⟨c30b0, c30b1⟩ := eqF_ c30; obtain rfl := Option.some.inj H; go_enter Try.func3, Try.ntmps3
       go_wp2_with (first | ((with_reducible refine gc_ 11 rfl ?_); refine gR_ (some 9) Try.func11 #[.int .i64 a0] (spec_TypesOf.calls k a0 t647 _ A2.out) ?_; intro w40 v648 ho0 hb; have HO649 := rl0_ ho0 HB; replace HB := bs0_ HB hb; try clear hb; (try clear ho0)) | ((with_reducible refine gc_ 12 rfl ?_); refine gR_ (some 11) Try.func12 #[.int .i64 a0] (impl_TypesOf.calls k a0 t650 _ A3.out) ?_; intro w41 v651 ho0 hb; have HO652 := am_ (Kd.R_lower (Kd.R_new' ho0 (Kd.R_lt (rx_ HO649.out))) (below_size (bx0 HB.out))); replace HO649 := re_ HO649 ho0 hb; replace HB := bs0_ HB hb; try clear hb; (try clear ho0); obtain ⟨Ao42, co42, eo42⟩ := Kd.R_slice HO652.out; subst eo42; obtain ⟨Ao43, co43, eo43⟩ := Kd.R_slice HO649.out; subst eo43) | ((with_reducible refine gc_ 13 rfl ?_); refine gL_ (some 14) Try.func13 #[.slice Ao42 t650.length co42, .slice Ao43 t647.length co43] ?_; (with_reducible refine (laws_eqStringS.calls k _ _ t650 _ _ t647 true _ ?side1 ?side2 ?side3 ?side4 A4.out).mono ?_); (case side1 => exact cR_ HO652); (case side2 => exact (Kd.R_reads' HO652.out).2.1); (case side3 => exact cR_ HO649); (case side4 => exact (Kd.R_reads' HO649.out).2.1); rintro e w' ⟨rfl, ⟨nd, rfl⟩⟩; refine ⟨_, rfl, ?_⟩) | ((with_reducible refine gc_ 14 rfl ?_); refine gL_ (some 18) Try.func14 #[.slice Ao42 t650.length co42, .int .i64 1] ?_; (with_reducible refine (laws_markStringS.calls k (fun k_ => some k_ = (.slice Ao42 t650.length co42 : Value).ownBlock) (.slice Ao42 t650.length co42) t650 1 t654 t655 w _ ?side1 ?side2 A6.out).mono ?_); (case side1 => exact bx0 HB.out); (case side2 => exact Kd.R_tight rfl HO652.out); rintro e w44 ⟨rfl, hy0, hb, hkp⟩; refine ⟨_, rfl, ?_⟩; replace HO649 := am_ (Kd.R_mono (ok' := fun k_ => some k_ ≠ (.slice Ao42 t650.length co42 : Value).ownBlock) (Kd.R_keptB (HO649.out) hkp (fun k_ hk_ hs_ => (hk_.2) hs_)) (fun k_ hk_ => hk_.1.2)); replace HO652 := am_ (Kd.R_reok rfl hy0 (fun k_ e_ => HO652.out.1 k_ e_)); replace HB := am_ hb; (try clear hb); (try clear hkp); (try clear hy0)) | ((with_reducible refine gc_ 15 rfl ?_); refine goesL_ (some 21) rfl rfl Try.func15 (by kernel_rfl) rfl #[.slice Ao42 t655.length co42, .int .i64 1] rfl (by (try simp only [List.map_toArray, List.map_cons, List.map_nil]); first | done | (rw [show t655.length = t650.length from (Kd.R_reads' HO652.out).1.symm] <;> rfl) | rfl | (simp only [List.length_drop, List.length_take]; rfl)) ?_; (with_reducible refine (laws_heldStringS.calls k _ _ t655 1 t656 _ ?side1 ?side2 A7.out).mono ?_); (case side1 => exact cR_ HO652); (case side2 => rw [show t655.length = t650.length from (Kd.R_reads' HO652.out).1.symm]; exact (Kd.R_reads' HO652.out).2.1); rintro e w45 ⟨rfl, hb⟩; refine ⟨_, rfl, ?_⟩; replace HO649 := rb_ HO649 hb; replace HO652 := rb_ HO652 hb; replace HB := bs0_ HB hb; try clear hb) | ((with_reducible refine gc_ 12 rfl ?_); refine gR_ (some 28) Try.func12 #[.int .i64 a0] (impl_TypesOf.calls k a0 t657 _ A16.out) ?_; intro w46 v658 ho0 hb; have HO659 := am_ (Kd.R_lower (Kd.R_new' (Kd.R_new' ho0 (Kd.R_lt (rx_ HO649.out))) (Kd.R_lt (rx_ HO652.out))) (below_size (bx0 HB.out))); replace HO649 := re_ HO649 ho0 hb; replace HO652 := re_ HO652 ho0 hb; replace HB := bs0_ HB hb; try clear hb; (try clear ho0); obtain ⟨Ao47, co47, eo47⟩ := Kd.R_slice HO659.out; subst eo47) | ((with_reducible refine gc_ 13 rfl ?_); refine gL_ (some 31) Try.func13 #[.slice Ao47 t657.length co47, .slice Ao43 t647.length co43] ?_; (with_reducible refine (laws_eqStringS.calls k _ _ t657 _ _ t647 true _ ?side1 ?side2 ?side3 ?side4 A17.out).mono ?_); (case side1 => exact cR_ HO659); (case side2 => exact (Kd.R_reads' HO659.out).2.1); (case side3 => exact cR_ HO649); (case side4 => exact (Kd.R_reads' HO649.out).2.1); rintro e w' ⟨rfl, ⟨nd, rfl⟩⟩; refine ⟨_, rfl, ?_⟩) | ((with_reducible refine gc_ 15 rfl ?_); refine goesL_ (some 35) rfl rfl Try.func15 (by kernel_rfl) rfl #[.slice Ao42 t655.length co42, .int .i64 1] rfl (by (try simp only [List.map_toArray, List.map_cons, List.map_nil]); first | done | (rw [show t655.length = t650.length from (Kd.R_reads' HO652.out).1.symm] <;> rfl) | rfl | (simp only [List.length_drop, List.length_take]; rfl)) ?_; (with_reducible refine (laws_heldStringS.calls k _ _ t655 1 t661 _ ?side1 ?side2 A19.out).mono ?_); (case side1 => exact cR_ HO652); (case side2 => rw [show t655.length = t650.length from (Kd.R_reads' HO652.out).1.symm]; exact (Kd.R_reads' HO652.out).2.1); rintro e w48 ⟨rfl, hb⟩; refine ⟨_, rfl, ?_⟩; replace HO649 := rb_ HO649 hb; replace HO652 := rb_ HO652 hb; replace HO659 := rb_ HO659 hb; replace HB := bs0_ HB hb; try clear hb))
       go_ret; exact ⟨er_, bx0 HB.out⟩
    ·replace c18 := Bool.eq_false_iff.mpr c18; subst c18; replace H := ifF_ H; obtain rfl := Option.some.inj H; go_enter Try.func3, Try.ntmps3
     go_wp2_with (first | ((with_reducible refine gc_ 11 rfl ?_); refine gR_ (some 9) Try.func11 #[.int .i64 a0] (spec_TypesOf.calls k a0 t647 _ A2.out) ?_; intro w49 v648 ho0 hb; have HO649 := rl0_ ho0 HB; replace HB := bs0_ HB hb; try clear hb; (try clear ho0)) | ((with_reducible refine gc_ 12 rfl ?_); refine gR_ (some 11) Try.func12 #[.int .i64 a0] (impl_TypesOf.calls k a0 t650 _ A3.out) ?_; intro w50 v651 ho0 hb; have HO652 := am_ (Kd.R_lower (Kd.R_new' ho0 (Kd.R_lt (rx_ HO649.out))) (below_size (bx0 HB.out))); replace HO649 := re_ HO649 ho0 hb; replace HB := bs0_ HB hb; try clear hb; (try clear ho0); obtain ⟨Ao51, co51, eo51⟩ := Kd.R_slice HO652.out; subst eo51; obtain ⟨Ao52, co52, eo52⟩ := Kd.R_slice HO649.out; subst eo52) | ((with_reducible refine gc_ 13 rfl ?_); refine gL_ (some 14) Try.func13 #[.slice Ao51 t650.length co51, .slice Ao52 t647.length co52] ?_; (with_reducible refine (laws_eqStringS.calls k _ _ t650 _ _ t647 true _ ?side1 ?side2 ?side3 ?side4 A4.out).mono ?_); (case side1 => exact cR_ HO652); (case side2 => exact (Kd.R_reads' HO652.out).2.1); (case side3 => exact cR_ HO649); (case side4 => exact (Kd.R_reads' HO649.out).2.1); rintro e w' ⟨rfl, ⟨nd, rfl⟩⟩; refine ⟨_, rfl, ?_⟩) | ((with_reducible refine gc_ 14 rfl ?_); refine gL_ (some 18) Try.func14 #[.slice Ao51 t650.length co51, .int .i64 1] ?_; (with_reducible refine (laws_markStringS.calls k (fun k_ => some k_ = (.slice Ao51 t650.length co51 : Value).ownBlock) (.slice Ao51 t650.length co51) t650 1 t654 t655 w _ ?side1 ?side2 A6.out).mono ?_); (case side1 => exact bx0 HB.out); (case side2 => exact Kd.R_tight rfl HO652.out); rintro e w53 ⟨rfl, hy0, hb, hkp⟩; refine ⟨_, rfl, ?_⟩; replace HO649 := am_ (Kd.R_mono (ok' := fun k_ => some k_ ≠ (.slice Ao51 t650.length co51 : Value).ownBlock) (Kd.R_keptB (HO649.out) hkp (fun k_ hk_ hs_ => (hk_.2) hs_)) (fun k_ hk_ => hk_.1.2)); replace HO652 := am_ (Kd.R_reok rfl hy0 (fun k_ e_ => HO652.out.1 k_ e_)); replace HB := am_ hb; (try clear hb); (try clear hkp); (try clear hy0)) | ((with_reducible refine gc_ 15 rfl ?_); refine goesL_ (some 21) rfl rfl Try.func15 (by kernel_rfl) rfl #[.slice Ao51 t655.length co51, .int .i64 1] rfl (by (try simp only [List.map_toArray, List.map_cons, List.map_nil]); first | done | (rw [show t655.length = t650.length from (Kd.R_reads' HO652.out).1.symm] <;> rfl) | rfl | (simp only [List.length_drop, List.length_take]; rfl)) ?_; (with_reducible refine (laws_heldStringS.calls k _ _ t655 1 t656 _ ?side1 ?side2 A7.out).mono ?_); (case side1 => exact cR_ HO652); (case side2 => rw [show t655.length = t650.length from (Kd.R_reads' HO652.out).1.symm]; exact (Kd.R_reads' HO652.out).2.1); rintro e w54 ⟨rfl, hb⟩; refine ⟨_, rfl, ?_⟩; replace HO649 := rb_ HO649 hb; replace HO652 := rb_ HO652 hb; replace HB := bs0_ HB hb; try clear hb) | ((with_reducible refine gc_ 12 rfl ?_); refine gR_ (some 28) Try.func12 #[.int .i64 a0] (impl_TypesOf.calls k a0 t657 _ A16.out) ?_; intro w55 v658 ho0 hb; have HO659 := am_ (Kd.R_lower (Kd.R_new' (Kd.R_new' ho0 (Kd.R_lt (rx_ HO649.out))) (Kd.R_lt (rx_ HO652.out))) (below_size (bx0 HB.out))); replace HO649 := re_ HO649 ho0 hb; replace HO652 := re_ HO652 ho0 hb; replace HB := bs0_ HB hb; try clear hb; (try clear ho0); obtain ⟨Ao56, co56, eo56⟩ := Kd.R_slice HO659.out; subst eo56) | ((with_reducible refine gc_ 13 rfl ?_); refine gL_ (some 31) Try.func13 #[.slice Ao56 t657.length co56, .slice Ao52 t647.length co52] ?_; (with_reducible refine (laws_eqStringS.calls k _ _ t657 _ _ t647 false _ ?side1 ?side2 ?side3 ?side4 A17.out).mono ?_); (case side1 => exact cR_ HO659); (case side2 => exact (Kd.R_reads' HO659.out).2.1); (case side3 => exact cR_ HO649); (case side4 => exact (Kd.R_reads' HO649.out).2.1); rintro e w' ⟨rfl, ⟨nd, rfl⟩⟩; refine ⟨_, rfl, ?_⟩))
     go_ret; exact ⟨er_, bx0 HB.out⟩
   ·rw [if_neg c15] at H; obtain ⟨c15b0, c15b1⟩ := eqF_ c15; obtain rfl := Option.some.inj H; go_enter Try.func3, Try.ntmps3
    go_wp2_with (first | ((with_reducible refine gc_ 11 rfl ?_); refine gR_ (some 9) Try.func11 #[.int .i64 a0] (spec_TypesOf.calls k a0 t647 _ A2.out) ?_; intro w57 v648 ho0 hb; have HO649 := rl0_ ho0 HB; replace HB := bs0_ HB hb; try clear hb; (try clear ho0)) | ((with_reducible refine gc_ 12 rfl ?_); refine gR_ (some 11) Try.func12 #[.int .i64 a0] (impl_TypesOf.calls k a0 t650 _ A3.out) ?_; intro w58 v651 ho0 hb; have HO652 := am_ (Kd.R_lower (Kd.R_new' ho0 (Kd.R_lt (rx_ HO649.out))) (below_size (bx0 HB.out))); replace HO649 := re_ HO649 ho0 hb; replace HB := bs0_ HB hb; try clear hb; (try clear ho0); obtain ⟨Ao59, co59, eo59⟩ := Kd.R_slice HO652.out; subst eo59; obtain ⟨Ao60, co60, eo60⟩ := Kd.R_slice HO649.out; subst eo60) | ((with_reducible refine gc_ 13 rfl ?_); refine gL_ (some 14) Try.func13 #[.slice Ao59 t650.length co59, .slice Ao60 t647.length co60] ?_; (with_reducible refine (laws_eqStringS.calls k _ _ t650 _ _ t647 true _ ?side1 ?side2 ?side3 ?side4 A4.out).mono ?_); (case side1 => exact cR_ HO652); (case side2 => exact (Kd.R_reads' HO652.out).2.1); (case side3 => exact cR_ HO649); (case side4 => exact (Kd.R_reads' HO649.out).2.1); rintro e w' ⟨rfl, ⟨nd, rfl⟩⟩; refine ⟨_, rfl, ?_⟩) | ((with_reducible refine gc_ 14 rfl ?_); refine gL_ (some 18) Try.func14 #[.slice Ao59 t650.length co59, .int .i64 1] ?_; (with_reducible refine (laws_markStringS.calls k (fun k_ => some k_ = (.slice Ao59 t650.length co59 : Value).ownBlock) (.slice Ao59 t650.length co59) t650 1 t654 t655 w _ ?side1 ?side2 A6.out).mono ?_); (case side1 => exact bx0 HB.out); (case side2 => exact Kd.R_tight rfl HO652.out); rintro e w61 ⟨rfl, hy0, hb, hkp⟩; refine ⟨_, rfl, ?_⟩; replace HO649 := am_ (Kd.R_mono (ok' := fun k_ => some k_ ≠ (.slice Ao59 t650.length co59 : Value).ownBlock) (Kd.R_keptB (HO649.out) hkp (fun k_ hk_ hs_ => (hk_.2) hs_)) (fun k_ hk_ => hk_.1.2)); replace HO652 := am_ (Kd.R_reok rfl hy0 (fun k_ e_ => HO652.out.1 k_ e_)); replace HB := am_ hb; (try clear hb); (try clear hkp); (try clear hy0)) | ((with_reducible refine gc_ 15 rfl ?_); refine goesL_ (some 21) rfl rfl Try.func15 (by kernel_rfl) rfl #[.slice Ao59 t655.length co59, .int .i64 1] rfl (by (try simp only [List.map_toArray, List.map_cons, List.map_nil]); first | done | (rw [show t655.length = t650.length from (Kd.R_reads' HO652.out).1.symm] <;> rfl) | rfl | (simp only [List.length_drop, List.length_take]; rfl)) ?_; (with_reducible refine (laws_heldStringS.calls k _ _ t655 1 t656 _ ?side1 ?side2 A7.out).mono ?_); (case side1 => exact cR_ HO652); (case side2 => rw [show t655.length = t650.length from (Kd.R_reads' HO652.out).1.symm]; exact (Kd.R_reads' HO652.out).2.1); rintro e w62 ⟨rfl, hb⟩; refine ⟨_, rfl, ?_⟩; replace HO649 := rb_ HO649 hb; replace HO652 := rb_ HO652 hb; replace HB := bs0_ HB hb; try clear hb))
    go_ret; exact ⟨er_, bx0 HB.out⟩
 ·replace c5 := Bool.eq_false_iff.mpr c5; subst c5; replace H := ifF_ H; obtain rfl := Option.some.inj H; go_enter Try.func3, Try.ntmps3
  go_wp2_with (first | ((with_reducible refine gc_ 11 rfl ?_); refine gR_ (some 9) Try.func11 #[.int .i64 a0] (spec_TypesOf.calls k a0 t647 _ A2.out) ?_; intro w63 v648 ho0 hb; have HO649 := rl0_ ho0 HB; replace HB := bs0_ HB hb; try clear hb; (try clear ho0)) | ((with_reducible refine gc_ 12 rfl ?_); refine gR_ (some 11) Try.func12 #[.int .i64 a0] (impl_TypesOf.calls k a0 t650 _ A3.out) ?_; intro w64 v651 ho0 hb; have HO652 := am_ (Kd.R_lower (Kd.R_new' ho0 (Kd.R_lt (rx_ HO649.out))) (below_size (bx0 HB.out))); replace HO649 := re_ HO649 ho0 hb; replace HB := bs0_ HB hb; try clear hb; (try clear ho0); obtain ⟨Ao65, co65, eo65⟩ := Kd.R_slice HO652.out; subst eo65; obtain ⟨Ao66, co66, eo66⟩ := Kd.R_slice HO649.out; subst eo66) | ((with_reducible refine gc_ 13 rfl ?_); refine gL_ (some 14) Try.func13 #[.slice Ao65 t650.length co65, .slice Ao66 t647.length co66] ?_; (with_reducible refine (laws_eqStringS.calls k _ _ t650 _ _ t647 false _ ?side1 ?side2 ?side3 ?side4 A4.out).mono ?_); (case side1 => exact cR_ HO652); (case side2 => exact (Kd.R_reads' HO652.out).2.1); (case side3 => exact cR_ HO649); (case side4 => exact (Kd.R_reads' HO649.out).2.1); rintro e w' ⟨rfl, ⟨nd, rfl⟩⟩; refine ⟨_, rfl, ?_⟩))
  go_ret; exact ⟨er_, bx0 HB.out⟩
def laws_FnExactTypesOf.Pure : Prop := ∀ (a0 : Int), (Lit.int .i64 a0).wf = true → ∃ k, laws_FnExactTypesOf.f k a0 = some true
end Go.Proofs.Ytoajlmlobaccdaa.P
namespace Go.Proofs.Ytoajlmlobaccdaa.Rk
open Go.RowKit Go.ChangeShapes Go.WideShapes Go.Deep Go.Proofs.YtoajlmlobaccdaaW.PrintWords
def I64 (n : Int) : Prop := -9223372036854775808 ≤ n ∧ n ≤ 9223372036854775807
theorem I64_of {n : Int} (h : (Lit.int .i64 n).wf = true) : I64 n := by
  have e1 : IntKind.i64.min = -9223372036854775808 := by decide
  have e2 : IntKind.i64.max = 9223372036854775807 := by decide
  simp [Lit.wf, e1, e2] at h
  unfold I64
  omega
section
variable {H : Type} {enc : TypeId × Value → H} {P : Program} {w : World} {base : Nat} {spare : Nat → Bool} {held : Bool} {α : Type}
def Elem (enc : TypeId × Value → H) (P : Program) (w : World) (base : Nat) (spare : Nat → Bool) (held : Bool) (e : TypeId) (d : Kd α) (Q : α → Prop) : Prop :=
  ∀ (fuel : Nat) (cs : List Value) (x : DataW H × List MemPlace), DataW.trod enc P w base spare held fuel e cs = some x → ∃ y, d.K w y cs ∧ Q y
end
end Go.Proofs.Ytoajlmlobaccdaa.Rk
namespace Go.Proofs.Ytoajlmlobaccdaa.P
open Go.RowKit Go.ChangeShapes Go.WideShapes Go.Deep Go.Proofs.Ytoajlmlobaccdaa.Rk Go.Proofs.YtoajlmlobaccdaaW.PrintWords
def Q101 (x : S101) : Prop := I64 x.f0 ∧ I64 x.f1 ∧ I64 x.f2 ∧ I64 x.f3 ∧ I64 x.f4
instance : Inhabited S101 := ⟨z101⟩
def Q31 (x : S31) : Prop := I64 x.f0 ∧ x.f1.size ≤ 9223372036854775807
instance : Inhabited S31 := ⟨z31⟩
def Q56 (x : S56) : Prop := I64 x.f0 ∧ I64 x.f1
instance : Inhabited S56 := ⟨z56⟩
def Q28 (x : S28) : Prop := I64 x.f0 ∧ x.f1.size ≤ 9223372036854775807
instance : Inhabited S28 := ⟨z28⟩
end Go.Proofs.Ytoajlmlobaccdaa.P
namespace Go.Proofs.Ytoajlmlobaccdaa.Pl
set_option linter.unusedSimpArgs false
set_option linter.unusedVariables false
open Go.RowKit Go.Proofs.YtoajlmlobaccdaaW.PrintWords
theorem wrap_in {n : Int} (h0 : -9223372036854775808 ≤ n) (h1 : n ≤ 9223372036854775807) : wrap64 n = n := by
  unfold wrap64
  omega
theorem wrap_nat (i : Nat) (h : i < 9223372036854775807) : wrap64 ((i : Int) + 1) = ((i + 1 : Nat) : Int) := by
  unfold wrap64
  omega
theorem Ev.uniq {α : Type} {g : Nat → Option α} {a b : α} (h : Ev g a) (k : Ev g b) : a = b := by
  obtain ⟨K, h⟩ := h
  obtain ⟨L, k⟩ := k
  have h1 := h (max K L) (by omega)
  have h2 := k (max K L) (by omega)
  rw [h1] at h2
  exact Option.some.inj h2
theorem Ev.const {α : Type} {x : Option α} {r : α} (h : x = some r) : Ev (fun _ => x) r := ⟨0, fun _ _ => h⟩
theorem Ev.ite_pos {α : Type} {c : Prop} [Decidable c] {g f : Nat → Option α} {r : α} (h : c) (k : Ev g r) : Ev (fun n => if c then g n else f n) r := by
  simpa only [if_pos h] using k
theorem Ev.ite_neg {α : Type} {c : Prop} [Decidable c] {g f : Nat → Option α} {r : α} (h : ¬ c) (k : Ev f r) : Ev (fun n => if c then g n else f n) r := by
  simpa only [if_neg h] using k
theorem Ev.bind0 {α β : Type} {x : Option α} {f : Nat → α → Option β} {a : α} {r : β} (h : x = some a) (k : Ev (fun n => f n a) r) : Ev (fun n => x.bind (f n)) r := by
  subst h
  exact k
theorem Ev.loop {ρ : Type} (g : Nat → Nat → Option ρ) (n : Nat) (r : ρ) (hend : Ev (g n) r) (hstep : ∀ i, i < n → Ev (g (i + 1)) r → Ev (g i) r) : ∀ i, i ≤ n → Ev (g i) r := by
  have key : ∀ d i, i + d = n → Ev (g i) r := by
    intro d
    induction d with
    | zero => intro i hi; obtain rfl : i = n := by omega
              exact hend
    | succ d ih => intro i hi; exact hstep i (by omega) (ih (i + 1) (by omega))
  intro i hi
  exact key (n - i) i (by omega)
theorem Ev.loop_to {ρ : Type} (g : Nat → Nat → Option ρ) (n : Nat) (R : Nat → ρ) (hend : Ev (g n) (R n)) (hstep : ∀ i, i < n → Ev (g (i + 1)) (R (i + 1)) → Ev (g i) (R i)) : ∀ i, i ≤ n → Ev (g i) (R i) := by
  have key : ∀ d i, i + d = n → Ev (g i) (R i) := by
    intro d
    induction d with
    | zero => intro i hi; obtain rfl : i = n := by omega
              exact hend
    | succ d ih => intro i hi; exact hstep i (by omega) (ih (i + 1) (by omega))
  intro i hi
  exact key (n - i) i (by omega)
theorem getD_lt {α : Type} (l : List α) (d : α) (i : Nat) (h : i < l.length) : l.getD i d = l[i] := by
  rw [List.getD_eq_getElem?_getD, List.getElem?_eq_getElem h]
  rfl
end Go.Proofs.Ytoajlmlobaccdaa.Pl
namespace Go.Proofs.Ytoajlmlobaccdaa.Pure
set_option linter.unusedSimpArgs false
set_option linter.unusedVariables false
open Go.RowKit Go.Proofs.YtoajlmlobaccdaaW.PrintWords Go.Proofs.Ytoajlmlobaccdaa.P Go.Proofs.Ytoajlmlobaccdaa.Pl
abbrev T3 := S89
def tri : Nat → List T3
  | 3 => [⟨0, 1, 2⟩]
  | 4 => [⟨0, 1, 2⟩, ⟨0, 1, 3⟩, ⟨0, 2, 3⟩, ⟨1, 2, 3⟩]
  | 5 => [⟨0, 1, 2⟩, ⟨0, 1, 3⟩, ⟨0, 1, 4⟩, ⟨0, 2, 3⟩, ⟨0, 2, 4⟩, ⟨0, 3, 4⟩, ⟨1, 2, 3⟩, ⟨1, 2, 4⟩, ⟨1, 3, 4⟩, ⟨2, 3, 4⟩]
  | 6 => [⟨0, 1, 2⟩, ⟨0, 1, 3⟩, ⟨0, 1, 4⟩, ⟨0, 1, 5⟩, ⟨0, 2, 3⟩, ⟨0, 2, 4⟩, ⟨0, 2, 5⟩, ⟨0, 3, 4⟩, ⟨0, 3, 5⟩, ⟨0, 4, 5⟩, ⟨1, 2, 3⟩, ⟨1, 2, 4⟩, ⟨1, 2, 5⟩, ⟨1, 3, 4⟩, ⟨1, 3, 5⟩, ⟨1, 4, 5⟩, ⟨2, 3, 4⟩, ⟨2, 3, 5⟩, ⟨2, 4, 5⟩, ⟨3, 4, 5⟩]
  | 7 => [⟨0, 1, 2⟩, ⟨0, 1, 3⟩, ⟨0, 1, 4⟩, ⟨0, 1, 5⟩, ⟨0, 1, 6⟩, ⟨0, 2, 3⟩, ⟨0, 2, 4⟩, ⟨0, 2, 5⟩, ⟨0, 2, 6⟩, ⟨0, 3, 4⟩, ⟨0, 3, 5⟩, ⟨0, 3, 6⟩, ⟨0, 4, 5⟩, ⟨0, 4, 6⟩, ⟨0, 5, 6⟩, ⟨1, 2, 3⟩, ⟨1, 2, 4⟩, ⟨1, 2, 5⟩, ⟨1, 2, 6⟩, ⟨1, 3, 4⟩, ⟨1, 3, 5⟩, ⟨1, 3, 6⟩, ⟨1, 4, 5⟩, ⟨1, 4, 6⟩, ⟨1, 5, 6⟩, ⟨2, 3, 4⟩, ⟨2, 3, 5⟩, ⟨2, 3, 6⟩, ⟨2, 4, 5⟩, ⟨2, 4, 6⟩, ⟨2, 5, 6⟩, ⟨3, 4, 5⟩, ⟨3, 4, 6⟩, ⟨3, 5, 6⟩, ⟨4, 5, 6⟩]
  | _ => []
theorem tri_some : ∀ n : Nat, n ≤ 7 → impl_triplesOf.f 500 n = some (tri n)
  | 0, _ => by kernel_rfl
  | 1, _ => by kernel_rfl
  | 2, _ => by kernel_rfl
  | 3, _ => by kernel_rfl
  | 4, _ => by kernel_rfl
  | 5, _ => by kernel_rfl
  | 6, _ => by kernel_rfl
  | 7, _ => by kernel_rfl
  | n + 8, h => absurd h (by omega)
theorem triplesOf_ev (n : Nat) (h : n ≤ 7) : Ev (fun k => impl_triplesOf.f k n) (tri n) := Ev.of (impl_triplesOf.mono _) (tri_some n h)
theorem tri_length (n : Nat) (h : n ≤ 7) : ((tri n).length : Int) = Int.tdiv ((n : Int) * (n - 1) * (n - 2)) 6 := by
  have : (List.range 8).all (fun n => ((tri n).length : Int) == Int.tdiv ((n : Int) * ((n : Int) - 1) * ((n : Int) - 2)) 6) = true := by decide +kernel
  rw [List.all_eq_true] at this
  simpa using this n (by simp; omega)
def okT (n : Nat) (t : T3) : Bool := decide (0 ≤ t.f0 ∧ t.f0 < t.f1 ∧ t.f1 < t.f2 ∧ t.f2 < n)
theorem tri_ok (n : Nat) (h : n ≤ 7) : (tri n).all (okT n) = true := by
  have : (List.range 8).all (fun n => (tri n).all (okT n)) = true := by decide +kernel
  rw [List.all_eq_true] at this
  exact this n (by simp; omega)
def put3 (l : List Int) (t : T3) (v : Int) : List Int := chiSet l t.f0 t.f1 t.f2 v
def fill (v : Nat → Int) : List T3 → Nat → List Int → List Int
  | [], _, l => l
  | t :: ts, m, l => fill v ts (m + 1) (put3 l t (v m))
theorem fill_length (v : Nat → Int) : ∀ ts m l, (fill v ts m l).length = l.length := by
  intro ts
  induction ts with
  | nil => intro m l; rfl
  | cons t ts ih => intro m l; rw [fill, ih]; exact chiSet_length ..
theorem fill_append (v : Nat → Int) : ∀ ts us m l, fill v (ts ++ us) m l = fill v us (m + ts.length) (fill v ts m l) := by
  intro ts
  induction ts with
  | nil => intro us m l; rfl
  | cons t ts ih => intro us m l; rw [List.cons_append, fill, ih, fill, List.length_cons]; congr 1; omega
def par (t : T3) (x y z : Int) : Option Bool :=
  if (x = t.f0 ∧ y = t.f1 ∧ z = t.f2) ∨ (x = t.f1 ∧ y = t.f2 ∧ z = t.f0) ∨ (x = t.f2 ∧ y = t.f0 ∧ z = t.f1) then some true
  else if (x = t.f0 ∧ y = t.f2 ∧ z = t.f1) ∨ (x = t.f2 ∧ y = t.f1 ∧ z = t.f0) ∨ (x = t.f1 ∧ y = t.f0 ∧ z = t.f2) then some false else none
theorem rd_set (l : List Int) (p q : Nat) (v : Int) (h : p < l.length) : rd (l.set p v) q = if p = q then v else rd l q := by
  unfold rd
  rw [Int.toNat_natCast, List.getD_eq_getElem?_getD, List.getD_eq_getElem?_getD, List.getElem?_set]
  by_cases e : p = q
  · subst e
    simp [h]
  · simp [e]
theorem chiA_nat (l : List Int) (x y z : Nat) : chiA l x y z = rd l ((1 + x * 49 + y * 7 + z : Nat) : Int) := by
  unfold chiA
  congr 1
  omega
theorem pos_iff (a b c x y z : Nat) (ha : a < 7) (hb : b < 7) (hc : c < 7) (hx : x < 7) (hy : y < 7) (hz : z < 7) : (1 + a * 49 + b * 7 + c = 1 + x * 49 + y * 7 + z) ↔ (x = a ∧ y = b ∧ z = c) := by
  constructor
  · intro h
    have h1 : c = z := by have := congrArg (· % 7) (show a * 49 + b * 7 + c + 1 = x * 49 + y * 7 + z + 1 by omega); omega
    have h2 : b = y := by subst h1; omega
    exact ⟨by omega, h2.symm, h1.symm⟩
  · rintro ⟨rfl, rfl, rfl⟩
    rfl
theorem chiA_set (l : List Int) (hl : l.length = 344) (a b c : Nat) (ha : a < 7) (hb : b < 7) (hc : c < 7) (ab : a ≠ b) (bc : b ≠ c) (ac : a ≠ c) (v : Int) (x y z : Nat) (hx : x < 7) (hy : y < 7) (hz : z < 7) :
    chiA (chiSet l a b c v) x y z = match par ⟨a, b, c⟩ x y z with | some true => v | some false => wrap64 (-v) | none => chiA l x y z := by
  rw [chiA_nat, chiA_nat]
  unfold chiSet setL par
  simp only [Int.toNat_natCast]
  rw [rd_set _ _ _ _ (by first | (simp only [List.length_set]; omega) | omega), rd_set _ _ _ _ (by first | (simp only [List.length_set]; omega) | omega), rd_set _ _ _ _ (by first | (simp only [List.length_set]; omega) | omega), rd_set _ _ _ _ (by first | (simp only [List.length_set]; omega) | omega), rd_set _ _ _ _ (by first | (simp only [List.length_set]; omega) | omega), rd_set _ _ _ _ (by first | (simp only [List.length_set]; omega) | omega)]
  simp only [pos_iff a b c x y z (by omega) (by omega) (by omega) hx hy hz, pos_iff b c a x y z (by omega) (by omega) (by omega) hx hy hz, pos_iff c a b x y z (by omega) (by omega) (by omega) hx hy hz, pos_iff a c b x y z (by omega) (by omega) (by omega) hx hy hz, pos_iff c b a x y z (by omega) (by omega) (by omega) hx hy hz, pos_iff b a c x y z (by omega) (by omega) (by omega) hx hy hz]
  simp only [Int.natCast_inj]
  clear hl
  generalize rd l ((1 + x * 49 + y * 7 + z : Nat) : Int) = o
  by_cases k0 : x = a ∧ y = b ∧ z = c
  · have := k0
    have n1 : ¬ (x = b ∧ y = c ∧ z = a) := by omega
    have n2 : ¬ (x = c ∧ y = a ∧ z = b) := by omega
    have n3 : ¬ (x = a ∧ y = c ∧ z = b) := by omega
    have n4 : ¬ (x = c ∧ y = b ∧ z = a) := by omega
    have n5 : ¬ (x = b ∧ y = a ∧ z = c) := by omega
    clear this
    simp only [(eq_true k0), (eq_false n1), (eq_false n2), (eq_false n3), (eq_false n4), (eq_false n5), if_true, if_false, or_true, true_or, or_false, false_or]
  by_cases k1 : x = b ∧ y = c ∧ z = a
  · have := k1
    have n2 : ¬ (x = c ∧ y = a ∧ z = b) := by omega
    have n3 : ¬ (x = a ∧ y = c ∧ z = b) := by omega
    have n4 : ¬ (x = c ∧ y = b ∧ z = a) := by omega
    have n5 : ¬ (x = b ∧ y = a ∧ z = c) := by omega
    clear this
    simp only [(eq_false k0), (eq_true k1), (eq_false n2), (eq_false n3), (eq_false n4), (eq_false n5), if_true, if_false, or_true, true_or, or_false, false_or]
  by_cases k2 : x = c ∧ y = a ∧ z = b
  · have := k2
    have n3 : ¬ (x = a ∧ y = c ∧ z = b) := by omega
    have n4 : ¬ (x = c ∧ y = b ∧ z = a) := by omega
    have n5 : ¬ (x = b ∧ y = a ∧ z = c) := by omega
    clear this
    simp only [(eq_false k0), (eq_false k1), (eq_true k2), (eq_false n3), (eq_false n4), (eq_false n5), if_true, if_false, or_true, true_or, or_false, false_or]
  by_cases k3 : x = a ∧ y = c ∧ z = b
  · have := k3
    have n4 : ¬ (x = c ∧ y = b ∧ z = a) := by omega
    have n5 : ¬ (x = b ∧ y = a ∧ z = c) := by omega
    clear this
    simp only [(eq_false k0), (eq_false k1), (eq_false k2), (eq_true k3), (eq_false n4), (eq_false n5), if_true, if_false, or_true, true_or, or_false, false_or]
  by_cases k4 : x = c ∧ y = b ∧ z = a
  · have := k4
    have n5 : ¬ (x = b ∧ y = a ∧ z = c) := by omega
    clear this
    simp only [(eq_false k0), (eq_false k1), (eq_false k2), (eq_false k3), (eq_true k4), (eq_false n5), if_true, if_false, or_true, true_or, or_false, false_or]
  by_cases k5 : x = b ∧ y = a ∧ z = c
  · have := k5
    clear this
    simp only [(eq_false k0), (eq_false k1), (eq_false k2), (eq_false k3), (eq_false k4), (eq_true k5), if_true, if_false, or_true, true_or, or_false, false_or]
  simp only [(eq_false k0), (eq_false k1), (eq_false k2), (eq_false k3), (eq_false k4), (eq_false k5), if_true, if_false, or_true, true_or, or_false, false_or]
theorem chiA_put3 (l : List Int) (hl : l.length = 344) (t : T3) (ht : okT 7 t = true) (v : Int) (x y z : Nat) (hx : x < 7) (hy : y < 7) (hz : z < 7) :
    chiA (put3 l t v) x y z = match par t x y z with | some true => v | some false => wrap64 (-v) | none => chiA l x y z := by
  obtain ⟨a, b, c⟩ := t
  unfold okT at ht
  rw [decide_eq_true_eq] at ht
  obtain ⟨h0, h1, h2, h3⟩ := ht
  dsimp only at h0 h1 h2 h3
  obtain ⟨a, rfl⟩ := Int.eq_ofNat_of_zero_le h0
  obtain ⟨b, rfl⟩ := Int.eq_ofNat_of_zero_le (show 0 ≤ b by omega)
  obtain ⟨c, rfl⟩ := Int.eq_ofNat_of_zero_le (show 0 ≤ c by omega)
  exact chiA_set l hl a b c (by omega) (by omega) (by omega) (by omega) (by omega) (by omega) v x y z hx hy hz
theorem chiN_put3 (l : List Int) (hl : l.length = 344) (t : T3) (v : Int) : chiN (put3 l t v) = chiN l := by
  have h : ∀ (l : List Int) (p : Nat) (u : Int), rd (l.set (1 + p) u) 0 = rd l 0 := by
    intro l p u
    unfold rd
    simp [List.getD_eq_getElem?_getD, List.getElem?_set, show ¬ (1 + p = 0) by omega]
  unfold put3 chiSet setL chiN
  simp only [Nat.add_assoc, h]
def src : List T3 → Nat → Int → Int → Int → Option (Nat × Bool)
  | [], _, _, _, _ => none
  | t :: ts, m, x, y, z => (src ts (m + 1) x y z).or ((par t x y z).map fun b => (m, b))
def sval (v : Nat → Int) (o : Int) : Option (Nat × Bool) → Int
  | some (m, true) => v m
  | some (m, false) => wrap64 (-v m)
  | none => o
theorem chiA_fill (v : Nat → Int) (x y z : Nat) (hx : x < 7) (hy : y < 7) (hz : z < 7) : ∀ (ts : List T3), ts.all (okT 7) = true → ∀ m l, l.length = 344 → chiA (fill v ts m l) x y z = sval v (chiA l x y z) (src ts m x y z) := by
  intro ts
  induction ts with
  | nil => intro _ m l _; rfl
  | cons t ts ih =>
    intro h m l hl
    rw [List.all_cons, Bool.and_eq_true] at h
    rw [fill, ih h.2 (m + 1) _ (by unfold put3; rw [chiSet_length]; exact hl), chiA_put3 l hl t h.1 (v m) x y z hx hy hz, src]
    cases hs : src ts (m + 1) x y z with
    | some p => obtain ⟨q, b⟩ := p; cases b <;> rfl
    | none =>
      cases hp : par t x y z with
      | none => rfl
      | some b => cases b <;> rfl
theorem chiN_fill (v : Nat → Int) : ∀ (ts : List T3) m l, l.length = 344 → chiN (fill v ts m l) = chiN l := by
  intro ts
  induction ts with
  | nil => intro m l _; rfl
  | cons t ts ih => intro m l hl; rw [fill, ih _ _ (by unfold put3; rw [chiSet_length]; exact hl), chiN_put3 l hl]
theorem okT_mono {n : Nat} (h : n ≤ 7) (t : T3) (ht : okT n t = true) : okT 7 t = true := by
  unfold okT at ht ⊢
  rw [decide_eq_true_eq] at ht ⊢
  omega
theorem tri_ok7 (n : Nat) (h : n ≤ 7) : (tri n).all (okT 7) = true := by
  have := tri_ok n h
  rw [List.all_eq_true] at this ⊢
  exact fun t ht => okT_mono h t (this t ht)
theorem chiA_new (n : Int) (x y z : Nat) (hx : x < 7) (hy : y < 7) (hz : z < 7) : chiA (chiNew n) x y z = 0 := by
  rw [chiA_nat, show 1 + x * 49 + y * 7 + z = (x * 49 + y * 7 + z) + 1 by omega]
  unfold rd chiNew
  rw [Int.toNat_natCast, List.getD_cons_succ, List.getD_eq_getElem?_getD, List.getElem?_replicate]
  rw [if_pos (by omega)]
  rfl
def isPM (s : ByteArray) (m : Nat) : Bool := bt s (m : Int) == 43 || bt s (m : Int) == 45
def isS (n : Int) (s : ByteArray) : Bool := decide (3 ≤ n ∧ n ≤ 7 ∧ (s.size : Int) = Int.tdiv (n * (n - 1) * (n - 2)) 6) && (List.range s.size).all (isPM s)
theorem count3 {n : Int} (h3 : 3 ≤ n) (h7 : n ≤ 7) : wrap64 (wrap64 (n * wrap64 (n - 1)) * wrap64 (n - 2)) = n * (n - 1) * (n - 2) ∧ wrap64 (Int.tdiv (n * (n - 1) * (n - 2)) 6) = Int.tdiv (n * (n - 1) * (n - 2)) 6 ∧ 0 ≤ Int.tdiv (n * (n - 1) * (n - 2)) 6 ∧ Int.tdiv (n * (n - 1) * (n - 2)) 6 ≤ 35 := by
  have : n = 3 ∨ n = 4 ∨ n = 5 ∨ n = 6 ∨ n = 7 := by omega
  obtain rfl | rfl | rfl | rfl | rfl := this <;> (unfold wrap64; decide)
theorem range_drop' (n i : Nat) (h : i < n) : (List.range n).drop i = i :: (List.range n).drop (i + 1) := by
  rw [List.drop_eq_getElem_cons (by simpa using h)]
  simp
theorem l1In_is (x a b : Int) : spec_l1In.f x a b = some (decide (a ≤ x ∧ x ≤ b)) := by
  unfold spec_l1In.f
  by_cases h : x ≥ a
  · rw [if_pos h]
    simp [h]
  · rw [if_neg h]
    simp [show ¬ a ≤ x by omega]
theorem spec_AreSigns_ev (n : Int) (s : ByteArray) : Ev (fun k => spec_AreSigns.f k n s) (isS n s) := by
  unfold spec_AreSigns.f isS
  have no : ∀ x, Ev (fun k => spec_AreSigns.j0 k true n x) false := fun x => Ev.step (fun k => spec_AreSigns.j0.eq_2 ..) (Ev.ite_pos rfl (Ev.now _))
  by_cases h : 3 ≤ n ∧ n ≤ 7
  · obtain ⟨e1, e2, e3, e4⟩ := count3 h.1 h.2
    refine Ev.bind0 (l1In_is ..) (Ev.ite_pos (decide_eq_true h) ?_)
    rw [e1, e2]
    by_cases hc : (s.size : Int) = Int.tdiv (n * (n - 1) * (n - 2)) 6
    · rw [show decide (3 ≤ n ∧ n ≤ 7 ∧ (s.size : Int) = Int.tdiv (n * (n - 1) * (n - 2)) 6) = true from decide_eq_true ⟨h.1, h.2, hc⟩, Bool.true_and]
      refine Ev.step (fun k => spec_AreSigns.j0.eq_2 ..) (Ev.ite_neg (by simp [hc]) ?_)
      have key := Ev.loop_to (fun i k => spec_AreSigns.l0 k i n s) s.size (fun i => ((List.range s.size).drop i).all (isPM s)) ?_ ?_ 0 (by omega)
      · simpa using key
      · refine Ev.step (fun k => spec_AreSigns.l0.eq_2 ..) (Ev.ite_neg (by omega) (Ev.const ?_))
        rw [List.drop_of_length_le (by simp)]
        rfl
      · intro i hi ih
        rw [range_drop' _ _ hi, List.all_cons]
        refine Ev.step (fun k => spec_AreSigns.l0.eq_2 ..) (Ev.ite_pos (by omega) (Ev.ite_pos (by omega) ?_))
        rw [wrap_nat i (by omega)]
        rw [show isPM s i = (bt s (i : Int) == 43 || bt s (i : Int) == 45) from rfl]
        by_cases h43 : bt s (i : Int) = 43
        · refine Ev.ite_pos h43 ?_
          simpa [h43] using ih
        · refine Ev.ite_neg h43 ?_
          by_cases h45 : bt s (i : Int) = 45
          · refine Ev.ite_pos h45 ?_
            simpa [h45] using ih
          · refine Ev.ite_neg h45 (Ev.const ?_)
            simp [h43, h45]
    · rw [show decide (3 ≤ n ∧ n ≤ 7 ∧ (s.size : Int) = Int.tdiv (n * (n - 1) * (n - 2)) 6) = false from decide_eq_false (fun q => hc q.2.2), Bool.false_and]
      rw [show ((s.size : Int) != Int.tdiv (n * (n - 1) * (n - 2)) 6) = true by simpa using hc]
      exact no s
  · rw [show decide (3 ≤ n ∧ n ≤ 7 ∧ (s.size : Int) = Int.tdiv (n * (n - 1) * (n - 2)) 6) = false from decide_eq_false (fun q => h ⟨q.1, q.2.1⟩), Bool.false_and]
    exact Ev.bind0 (l1In_is ..) (Ev.ite_neg (by simpa using h) (no s))
theorem impl_AreSigns_ev (n : Int) (s : ByteArray) : Ev (fun k => impl_AreSigns.f k n s) (isS n s) := by
  unfold impl_AreSigns.f isS
  have no : ∀ x, Ev (fun k => impl_AreSigns.j0 k true n x) false := fun x => Ev.step (fun k => impl_AreSigns.j0.eq_2 ..) (Ev.ite_pos rfl (Ev.now _))
  by_cases h3 : n < 3
  · rw [show decide (3 ≤ n ∧ n ≤ 7 ∧ (s.size : Int) = Int.tdiv (n * (n - 1) * (n - 2)) 6) = false from decide_eq_false (fun q => by omega), Bool.false_and]
    exact Ev.ite_pos h3 (no s)
  · refine Ev.ite_neg h3 ?_
    by_cases h7 : n > 7
    · rw [show decide (3 ≤ n ∧ n ≤ 7 ∧ (s.size : Int) = Int.tdiv (n * (n - 1) * (n - 2)) 6) = false from decide_eq_false (fun q => by omega), Bool.false_and]
      exact Ev.ite_pos h7 (no s)
    · refine Ev.ite_neg h7 ?_
      obtain ⟨e1, e2, e3, e4⟩ := count3 (n := n) (by omega) (by omega)
      rw [e1, e2]
      by_cases hc : (s.size : Int) = Int.tdiv (n * (n - 1) * (n - 2)) 6
      · rw [show decide (3 ≤ n ∧ n ≤ 7 ∧ (s.size : Int) = Int.tdiv (n * (n - 1) * (n - 2)) 6) = true from decide_eq_true ⟨by omega, by omega, hc⟩, Bool.true_and]
        refine Ev.step (fun k => impl_AreSigns.j0.eq_2 ..) (Ev.ite_neg (by simp [hc]) ?_)
        have key := Ev.loop_to (fun i k => impl_AreSigns.l0 k i n s) s.size (fun i => ((List.range s.size).drop i).all (isPM s)) ?_ ?_ 0 (by omega)
        · simpa using key
        · refine Ev.step (fun k => impl_AreSigns.l0.eq_2 ..) (Ev.ite_neg (by omega) (Ev.const ?_))
          rw [List.drop_of_length_le (by simp)]
          rfl
        · intro i hi ih
          rw [range_drop' _ _ hi, List.all_cons]
          refine Ev.step (fun k => impl_AreSigns.l0.eq_2 ..) (Ev.ite_pos (by omega) (Ev.ite_pos (by omega) ?_))
          rw [wrap_nat i (by omega)]
          rw [show isPM s i = (bt s (i : Int) == 43 || bt s (i : Int) == 45) from rfl]
          by_cases h43 : bt s (i : Int) = 43
          · refine Ev.ite_pos h43 ?_
            simpa [h43] using ih
          · refine Ev.ite_neg h43 ?_
            by_cases h45 : bt s (i : Int) = 45
            · refine Ev.ite_pos h45 ?_
              simpa [h45] using ih
            · refine Ev.ite_neg h45 (Ev.const ?_)
              simp [h43, h45]
      · rw [show decide (3 ≤ n ∧ n ≤ 7 ∧ (s.size : Int) = Int.tdiv (n * (n - 1) * (n - 2)) 6) = false from decide_eq_false (fun q => hc q.2.2), Bool.false_and]
        rw [show ((s.size : Int) != Int.tdiv (n * (n - 1) * (n - 2)) 6) = true by simpa using hc]
        exact no s
theorem isS_bounds {n : Int} {s : ByteArray} (h : isS n s = true) : 3 ≤ n ∧ n ≤ 7 ∧ s.size = (tri n.toNat).length ∧ s.size ≤ 35 := by
  unfold isS at h
  rw [Bool.and_eq_true, decide_eq_true_eq] at h
  obtain ⟨⟨h3, h7, hc⟩, _⟩ := h
  have hb := (count3 h3 h7).2.2.2
  obtain ⟨m, rfl⟩ := Int.eq_ofNat_of_zero_le (show 0 ≤ n by omega)
  have ht := tri_length m (by omega)
  rw [Int.toNat_natCast]
  exact ⟨h3, h7, by omega, by omega⟩
def sgAt (s : ByteArray) (m : Nat) : Int := if bt s (m : Int) = 45 then -1 else 1
def tab (n : Nat) (s : ByteArray) : List Int := fill (sgAt s) (tri n) 0 (chiNew n)
def sg (n : Nat) (s : ByteArray) (x y z : Int) : Int := sval (sgAt s) 0 (src (tri n) 0 x y z)
theorem tab_length (n : Nat) (s : ByteArray) : (tab n s).length = 344 := by
  unfold tab
  rw [fill_length, chiNew_length]
theorem tab_n (n : Nat) (s : ByteArray) : chiN (tab n s) = n := by
  unfold tab
  rw [chiN_fill _ _ _ _ (chiNew_length _)]
  rfl
theorem tab_at (n : Nat) (hn : n ≤ 7) (s : ByteArray) (x y z : Nat) (hx : x < 7) (hy : y < 7) (hz : z < 7) : chiA (tab n s) x y z = sg n s x y z := by
  unfold tab sg
  rw [chiA_fill _ x y z hx hy hz _ (tri_ok7 n hn) 0 _ (chiNew_length _), chiA_new _ x y z hx hy hz]
theorem tri_at (n : Nat) (hn : n ≤ 7) (i : Nat) (hi : i < (tri n).length) : okT 7 (tri n)[i] = true := by
  have := tri_ok7 n hn
  rw [List.all_eq_true] at this
  exact this _ (List.getElem_mem hi)
theorem rdT_lt (l : List T3) (i : Nat) (h : i < l.length) : rd_T89 l (i : Int) = l[i] := by
  unfold rd_T89
  rw [Int.toNat_natCast, getD_lt _ _ _ h]
theorem tableOf_ev (n : Nat) (hn : n ≤ 7) (s : ByteArray) (hs : s.size = (tri n).length) : Ev (fun k => impl_tableOf.f k n s) (tab n s) := by
  unfold impl_tableOf.f
  refine Ev.bind (triplesOf_ev n hn) ?_
  have h35 : (tri n).length ≤ 1000 := by
    have : (List.range 8).all (fun n => decide ((tri n).length ≤ 1000)) = true := by decide +kernel
    rw [List.all_eq_true] at this
    simpa using this n (by simp; omega)
  have key := Ev.loop (fun i k => impl_tableOf.l0 k (fill (sgAt s) ((tri n).take i) 0 (chiNew n)) (tri n) (tri n).length i n s) (tri n).length (tab n s) ?_ ?_ 0 (by omega)
  · simpa [fill] using key
  · refine Ev.step (fun k => impl_tableOf.l0.eq_2 ..) (Ev.ite_neg (by omega) (Ev.const ?_))
    rw [List.take_length]
    rfl
  · intro i hi ih
    refine Ev.step (fun k => impl_tableOf.l0.eq_2 ..) (Ev.ite_pos (by omega) (Ev.ite_pos (by omega) (Ev.ite_pos (by omega) (Ev.ite_pos (by omega) ?_))))
    have ht := tri_at n hn i hi
    rw [wrap_nat i (by omega), rdT_lt _ i hi]
    rw [List.take_succ_eq_append_getElem hi, fill_append, Nat.zero_add, List.length_take, Nat.min_eq_left (by omega)] at ih
    have hl : (fill (sgAt s) ((tri n).take i) 0 (chiNew n)).length = 344 := by rw [fill_length, chiNew_length]
    generalize fill (sgAt s) ((tri n).take i) 0 (chiNew n) = l at ih hl ⊢
    generalize (tri n)[i] = t at ih ht ⊢
    unfold okT at ht
    rw [decide_eq_true_eq] at ht
    have hset : ∀ v, impl_chi_set.f l t.f0 t.f1 t.f2 v = some (put3 l t v) := by
      intro v
      unfold impl_chi_set.f
      rw [if_pos ⟨hl, by omega, by omega, by omega⟩]
      rfl
    rw [fill, fill] at ih
    unfold sgAt at ih
    by_cases h45 : bt s (i : Int) = 45
    · rw [if_pos h45] at ih
      exact Ev.ite_pos h45 (Ev.bind0 (hset _) ih)
    · rw [if_neg h45] at ih
      exact Ev.ite_neg h45 (Ev.bind0 (hset _) ih)
def srt2 (n x y z p : Int) : Option (Int × Int) := if x > y then (spec_l3Index.f 60 n y x z).map fun m => (m, -p) else (spec_l3Index.f 60 n x y z).map fun m => (m, p)
def srt1 (n x y z p : Int) : Option (Int × Int) := if y > z then srt2 n x z y (-p) else srt2 n x y z p
def srt (n x y z : Int) : Option (Int × Int) := if x > y then srt1 n y x z (-1) else srt1 n x y z 1
def okSrt (n : Nat) (x y z : Nat) : Bool :=
  match srt n x y z, src (tri n) 0 x y z with
  | some (m, p), some (q, b) => m == (q : Int) && decide (q < (tri n).length) && (p == if b then 1 else -1)
  | _, _ => false
theorem all_srt : (List.range 8).all (fun n => (List.range n).all fun x => (List.range n).all fun y => (List.range n).all fun z => x == y || y == z || x == z || okSrt n x y z) = true := by decide +kernel
theorem srt_ok (n x y z : Nat) (hn : n ≤ 7) (hx : x < n) (hy : y < n) (hz : z < n) (h1 : x ≠ y) (h2 : y ≠ z) (h3 : x ≠ z) : okSrt n x y z = true := by
  have h := all_srt
  rw [List.all_eq_true] at h
  have h := h n (by simp; omega)
  rw [List.all_eq_true] at h
  have h := h x (by simpa using hx)
  rw [List.all_eq_true] at h
  have h := h y (by simpa using hy)
  rw [List.all_eq_true] at h
  have h := h z (by simpa using hz)
  simpa [h1, h2, h3] using h
theorem l3Index_ev {n x y z m : Int} (h : spec_l3Index.f 60 n x y z = some m) : Ev (fun k => spec_l3Index.f k n x y z) m := Ev.of (spec_l3Index.mono _ _ _ _) h
def look (s : ByteArray) (m p : Int) : Int := if bt s m = 45 then wrap64 (-p) else p
theorem j1_ev (n x y z p m q : Int) (s : ByteArray) (hp : p = 1 ∨ p = -1) (h : srt2 n x y z p = some (m, q)) (hm : 0 ≤ m) (hs : m < (s.size : Int)) : Ev (fun k => spec_l3At.j1 k x y z p n s) (look s m q) := by
  refine Ev.step (fun k => spec_l3At.j1.eq_2 ..) ?_
  have hw : wrap64 (-p) = -p := wrap_in (by omega) (by omega)
  unfold srt2 at h
  unfold look
  by_cases hxy : x > y
  · rw [if_pos hxy] at h
    obtain ⟨m', h1, h2⟩ := Option.map_eq_some_iff.mp h
    cases h2
    refine Ev.ite_pos hxy (Ev.bind (l3Index_ev h1) (Ev.ite_pos hm (Ev.ite_pos hs ?_)))
    rw [hw]
    by_cases h45 : bt s m = 45
    · exact Ev.ite_pos h45 (Ev.const (by rw [if_pos h45]))
    · exact Ev.ite_neg h45 (Ev.const (by rw [if_neg h45]))
  · rw [if_neg hxy] at h
    obtain ⟨m', h1, h2⟩ := Option.map_eq_some_iff.mp h
    cases h2
    refine Ev.ite_neg hxy (Ev.bind (l3Index_ev h1) (Ev.ite_pos hm (Ev.ite_pos hs ?_)))
    by_cases h45 : bt s m = 45
    · exact Ev.ite_pos h45 (Ev.const (by rw [if_pos h45]))
    · exact Ev.ite_neg h45 (Ev.const (by rw [if_neg h45]))
theorem j0_ev (n x y z p m q : Int) (s : ByteArray) (hp : p = 1 ∨ p = -1) (h : srt1 n x y z p = some (m, q)) (hm : 0 ≤ m) (hs : m < (s.size : Int)) : Ev (fun k => spec_l3At.j0 k x y z p n s) (look s m q) := by
  refine Ev.step (fun k => spec_l3At.j0.eq_2 ..) ?_
  have hw : wrap64 (-p) = -p := wrap_in (by omega) (by omega)
  unfold srt1 at h
  by_cases hyz : y > z
  · rw [if_pos hyz] at h
    rw [hw]
    exact Ev.ite_pos hyz (j1_ev n x z y (-p) m q s (by omega) h hm hs)
  · rw [if_neg hyz] at h
    exact Ev.ite_neg hyz (j1_ev n x y z p m q s hp h hm hs)
theorem l3At_ev (n : Nat) (hn : n ≤ 7) (s : ByteArray) (hs : s.size = (tri n).length) (x y z : Nat) (hx : x < n) (hy : y < n) (hz : z < n) (h1 : x ≠ y) (h2 : y ≠ z) (h3 : x ≠ z) :
    Ev (fun k => spec_l3At.f k n s x y z) (sg n s x y z) := by
  have h := srt_ok n x y z hn hx hy hz h1 h2 h3
  unfold okSrt at h
  unfold spec_l3At.f sg
  cases ha : srt n x y z with
  | none => rw [ha] at h; cases h
  | some mp =>
    obtain ⟨m, p⟩ := mp
    cases hb : src (tri n) 0 x y z with
    | none => rw [ha, hb] at h; cases h
    | some qb =>
      obtain ⟨q, b⟩ := qb
      rw [ha, hb] at h
      simp only [Bool.and_eq_true, beq_iff_eq, decide_eq_true_eq] at h
      obtain ⟨⟨rfl, hq⟩, hp⟩ := h
      have e : sval (sgAt s) 0 (some (q, b)) = look s q p := by
        subst hp
        unfold sval look sgAt
        cases b <;> by_cases h45 : bt s (q : Int) = 45 <;> simp [h45, wrap64]
      rw [e]
      unfold srt at ha
      by_cases hxy : (x : Int) > y
      · rw [if_pos hxy] at ha
        exact Ev.ite_pos hxy (j0_ev n y x z (-1) q p s (by omega) ha (by omega) (by omega))
      · rw [if_neg hxy] at ha
        exact Ev.ite_neg hxy (j0_ev n x y z 1 q p s (by omega) ha (by omega) (by omega))
theorem sg_pm (n : Nat) (hn : n ≤ 7) (s : ByteArray) (x y z : Nat) (hx : x < n) (hy : y < n) (hz : z < n) (h1 : x ≠ y) (h2 : y ≠ z) (h3 : x ≠ z) : sg n s x y z = 1 ∨ sg n s x y z = -1 := by
  have h := srt_ok n x y z hn hx hy hz h1 h2 h3
  unfold okSrt at h
  unfold sg
  cases ha : srt n x y z with
  | none => rw [ha] at h; cases h
  | some mp =>
    cases hb : src (tri n) 0 x y z with
    | none => rw [ha, hb] at h; cases h
    | some qb =>
      obtain ⟨q, b⟩ := qb
      unfold sval sgAt
      cases b <;> by_cases h45 : bt s (q : Int) = 45 <;> simp [h45, wrap64]
theorem rd_takeI (l : List Int) (n j : Nat) (h : j < n) : rd (l.take n) (j : Int) = rd l (j : Int) := by
  unfold rd
  rw [Int.toNat_natCast]
  simp [List.getD_eq_getElem?_getD, h]
theorem containsI_ev (l : List Int) (n : Nat) (hn : n ≤ l.length) (hl : l.length ≤ 1000000) (x : Int) :
    Ev (fun k => slices_Contains_Sint_int.f k (l.take n) x) ((List.range n).any fun j => x == rd l j) := by
  have hlen : (l.take n).length = n := by rw [List.length_take]; omega
  have key : ∀ d i, i + d = n → ∃ r, Ev (fun k => slices_Index_Sint_int.l0 k (l.take n) x n i) r ∧ decide (r ≥ 0) = ((List.range n).drop i).any fun j => x == rd l j := by
    intro d
    induction d with
    | zero =>
      intro i hi
      obtain rfl : i = n := by omega
      refine ⟨-1, Ev.step (fun k => slices_Index_Sint_int.l0.eq_2 ..) (Ev.ite_neg (by omega) (Ev.now _)), ?_⟩
      rw [List.drop_of_length_le (by simp)]
      rfl
    | succ d ih =>
      intro i hi
      obtain ⟨r, hr, he⟩ := ih (i + 1) (by omega)
      rw [range_drop' n i (by omega), List.any_cons]
      by_cases hb : x = rd l (i : Int)
      · refine ⟨i, Ev.step (fun k => slices_Index_Sint_int.l0.eq_2 ..) (Ev.ite_pos (by omega) (Ev.ite_pos (by omega) (Ev.ite_pos (by omega) (Ev.ite_pos (by rw [rd_takeI l n i (by omega)]; exact hb) (Ev.now _))))), ?_⟩
        rw [show (x == rd l (i : Int)) = true by simpa using hb]
        simp
      · refine ⟨r, Ev.step (fun k => slices_Index_Sint_int.l0.eq_2 ..) (Ev.ite_pos (by omega) (Ev.ite_pos (by omega) (Ev.ite_pos (by omega) (Ev.ite_neg (by rw [rd_takeI l n i (by omega)]; exact hb) ?_)))), ?_⟩
        · rw [wrap_nat i (by omega)]
          exact hr
        · rw [he, show (x == rd l (i : Int)) = false by simpa using hb, Bool.false_or]
  obtain ⟨r, hr, he⟩ := key n 0 (by omega)
  unfold slices_Contains_Sint_int.f slices_Index_Sint_int.f
  rw [hlen]
  refine Ev.bind hr (Ev.const ?_)
  rw [he, List.drop_zero]
end Go.Proofs.Ytoajlmlobaccdaa.Pure
namespace Go.Proofs.Ytoajlmlobaccdaa.Pl
set_option linter.unusedSimpArgs false
set_option linter.unusedVariables false
open Go.RowKit Go.Proofs.YtoajlmlobaccdaaW.PrintWords
theorem range_dropS (n i : Nat) (h : i < n) : (List.range n).drop i = i :: (List.range n).drop (i + 1) := by
  rw [List.drop_eq_getElem_cons (by simpa using h)]
  simp
def Srch {ρ : Type} (g : Nat → Nat → Option ρ) (m : Nat) (P : Nat → Bool) (v : ρ) (lo : Nat) : Prop :=
  ∀ r, (((List.range m).drop lo).any P = true → r = v) → (((List.range m).drop lo).any P = false → Ev (g m) r) → Ev (g lo) r
theorem Srch.of {ρ : Type} (g : Nat → Nat → Option ρ) (m : Nat) (P : Nat → Bool) (v : ρ) (lo : Nat) (hlo : lo ≤ m)
    (hstep : ∀ i, lo ≤ i → i < m → ∀ r, (P i = true → r = v) → (P i = false → Ev (g (i + 1)) r) → Ev (g i) r) : Srch g m P v lo := by
  have key : ∀ d i, lo ≤ i → i + d = m → Srch g m P v i := by
    intro d
    induction d with
    | zero =>
      intro i _ hi
      obtain rfl : i = m := by omega
      intro r _ h2
      exact h2 (by rw [List.drop_of_length_le (by simp)]; rfl)
    | succ d ih =>
      intro i hl hi r h1 h2
      rw [range_dropS m i (by omega), List.any_cons] at h1 h2
      refine hstep i hl (by omega) r (fun h => h1 (by rw [h, Bool.true_or])) (fun h => ih (i + 1) (by omega) (by omega) r (fun k => h1 (by rw [k, Bool.or_true])) (fun k => h2 (by rw [h, k]; rfl)))
  exact key (m - lo) lo (Nat.le_refl _) (by omega)
theorem Ev.up {ρ : Type} {f : Int → Nat → Option ρ} {i : Nat} {r : ρ} (hi : i < 1000000) (h : Ev (f ((i + 1 : Nat) : Int)) r) : Ev (f (wrap64 ((i : Int) + 1))) r := by
  rw [wrap_nat i (by omega)]
  exact h
end Go.Proofs.Ytoajlmlobaccdaa.Pl
namespace Go.Proofs.Ytoajlmlobaccdaa.Pure
set_option linter.unusedSimpArgs false
set_option linter.unusedVariables false
open Go.RowKit Go.Proofs.YtoajlmlobaccdaaW.PrintWords Go.Proofs.Ytoajlmlobaccdaa.P Go.Proofs.Ytoajlmlobaccdaa.Pl
def inL (l : List Int) (x : Int) : Bool := (List.range l.length).any fun j : Nat => x == rd l (j : Int)
def nxt (n : Nat) (l : List Int) : List (List Int) := ((List.range n).filter fun i : Nat => !inL l (i : Int)).map fun i : Nat => l ++ [(i : Int)]
def lev (n : Nat) : Nat → List (List Int)
  | 0 => [[]]
  | k + 1 => (lev n k).flatMap (nxt n)
def AN (n : Nat) : List (List Int) := lev n n
theorem nxt_len (n : Nat) (l : List Int) : (nxt n l).length ≤ n := by
  have := List.length_filter_le (fun i : Nat => !inL l (i : Int)) (List.range n)
  simpa [nxt] using this
theorem flat_len (n : Nat) : ∀ L : List (List Int), (L.flatMap (nxt n)).length ≤ L.length * n := by
  intro L
  induction L with
  | nil => simp
  | cons l L ih =>
    have := nxt_len n l
    rw [List.flatMap_cons, List.length_append, List.length_cons, Nat.succ_mul]
    omega
theorem lev_len (n : Nat) (hn : n ≤ 6) : ∀ k, k ≤ 6 → (lev n k).length ≤ 6 ^ k := by
  intro k
  induction k with
  | zero => intro _; simp [lev]
  | succ k ih =>
    intro hk
    have h1 := ih (by omega)
    have h2 := flat_len n (lev n k)
    rw [lev, Nat.pow_succ]
    exact Nat.le_trans h2 (Nat.mul_le_mul h1 hn)
theorem lev_len2 (n : Nat) (hn : n ≤ 6) (k : Nat) (hk : k ≤ 6) : (lev n k).length ≤ 46656 := Nat.le_trans (lev_len n hn k hk) (Nat.le_trans (Nat.pow_le_pow_right (by omega) hk) (by decide))
theorem lev_mem (n : Nat) : ∀ k l, l ∈ lev n k → l.length = k := by
  intro k
  induction k with
  | zero => intro l h; simp [lev] at h; rw [h]; rfl
  | succ k ih =>
    intro l h
    rw [lev, List.mem_flatMap] at h
    obtain ⟨p, hp, h⟩ := h
    unfold nxt at h
    rw [List.mem_map] at h
    obtain ⟨i, _, rfl⟩ := h
    rw [List.length_append, ih p hp]
    rfl
theorem containsAll_ev (l : List Int) (hl : l.length ≤ 1000000) (x : Int) : Ev (fun k => slices_Contains_Sint_int.f k l x) (inL l x) := by
  have h := containsI_ev l l.length (Nat.le_refl _) hl x
  rw [List.take_length] at h
  exact h
theorem rdL (L : List (List Int)) (j : Nat) (h : j < L.length) : rd_L1 L (j : Int) = L[j] := by
  unfold rd_L1
  rw [Int.toNat_natCast, getD_lt _ _ _ h]
theorem nxt_snoc (n i : Nat) (l : List Int) : (((List.range (i + 1)).filter fun i : Nat => !inL l (i : Int)).map fun i : Nat => l ++ [(i : Int)]) = (((List.range i).filter fun i : Nat => !inL l (i : Int)).map fun i : Nat => l ++ [(i : Int)]) ++ if inL l (i : Int) then [] else [l ++ [(i : Int)]] := by
  rw [List.range_succ, List.filter_append, List.map_append]
  congr 1
  cases h : inL l (i : Int) <;> simp [h]
theorem part_len (n i : Nat) (l : List Int) : (((List.range i).filter fun i : Nat => !inL l (i : Int)).map fun i : Nat => l ++ [(i : Int)]).length ≤ i := by
  have := List.length_filter_le (fun i : Nat => !inL l (i : Int)) (List.range i)
  simpa using this
theorem take_flat (n j : Nat) (L : List (List Int)) (h : j < L.length) : (L.take (j + 1)).flatMap (nxt n) = (L.take j).flatMap (nxt n) ++ nxt n L[j] := by
  rw [List.take_succ_eq_append_getElem h, List.flatMap_append]
  simp
theorem allNames_ev (n : Nat) (hn : n ≤ 6) : Ev (fun k => impl_allNames.f k n) (AN n) := by
  unfold impl_allNames.f
  have key := Ev.loop (fun m k => impl_allNames.l0 k n (lev n m) m) n (AN n) ?_ ?_ 0 (by omega)
  · exact key
  · exact Ev.step (fun k => impl_allNames.l0.eq_2 ..) (Ev.ite_neg (by omega) (Ev.now _))
  · intro m hm ih
    have hL := lev_len2 n hn m (by omega)
    have hmem := lev_mem n m
    refine Ev.step (fun k => impl_allNames.l0.eq_2 ..) (Ev.ite_pos (by omega) ?_)
    rw [lev] at ih
    generalize lev n m = L at ih hL hmem ⊢
    have key := Ev.loop (fun j k => impl_allNames.l1 k n m ((L.take j).flatMap (nxt n)) L L.length j) L.length (AN n) ?_ ?_ 0 (by omega)
    · simpa using key
    · refine Ev.step (fun k => impl_allNames.l1.eq_2 ..) (Ev.ite_neg (by omega) ?_)
      rw [List.take_length, wrap_nat m (by omega)]
      exact ih
    · intro j hj ihj
      have hl1 := hmem _ (List.getElem_mem hj)
      have hb := flat_len n (L.take j)
      have hb2 : (L.take j).length * n ≤ 46656 * 6 := Nat.mul_le_mul (by rw [List.length_take]; omega) hn
      refine Ev.step (fun k => impl_allNames.l1.eq_2 ..) (Ev.ite_pos (by omega) (Ev.ite_pos (by omega) (Ev.ite_pos (by omega) ?_)))
      rw [rdL L j hj]
      rw [take_flat n j L hj] at ihj
      generalize L[j] = l at ihj hl1 ⊢
      have key := Ev.loop (fun i k => impl_allNames.l2 k n m ((L.take j).flatMap (nxt n) ++ (((List.range i).filter fun i : Nat => !inL l (i : Int)).map fun i : Nat => l ++ [(i : Int)])) l i L L.length j) n (AN n) ?_ ?_ 0 (by omega)
      · simpa using key
      · refine Ev.step (fun k => impl_allNames.l2.eq_2 ..) (Ev.ite_neg (by omega) ?_)
        rw [wrap_nat j (by omega)]
        exact ihj
      · intro i hi ihi
        have hp := part_len n i l
        rw [nxt_snoc n i l] at ihi
        refine Ev.step (fun k => impl_allNames.l2.eq_2 ..) (Ev.ite_pos (by omega) (Ev.bind (containsAll_ev l (by omega) _) ?_))
        rw [wrap_nat i (by omega)]
        cases hc : inL l (i : Int) with
        | true =>
          rw [hc, if_pos rfl, List.append_nil] at ihi
          exact Ev.ite_pos rfl ihi
        | false =>
          rw [hc, if_neg (by simp), ← List.append_assoc] at ihi
          refine Ev.ite_neg (by simp) (Ev.bind0 (a := l) ?_ (Ev.ite_pos (by omega) (Ev.ite_pos (by rw [List.length_append]; omega) ihi)))
          unfold slices_Clone_Sint_int.f
          simp
          omega
theorem place_ev (l : List Int) (hl : l.length ≤ 1000000) (x : Int) : ∃ r, Ev (fun k => spec_l12Place.f k l x) r ∧ decide (r < 0) = !inL l x := by
  unfold spec_l12Place.f inL
  have key : ∀ d i, i + d = l.length → ∃ r, Ev (fun k => spec_l12Place.l0 k l x i) r ∧ decide (r < 0) = !((List.range l.length).drop i).any fun j : Nat => x == rd l (j : Int) := by
    intro d
    induction d with
    | zero =>
      intro i hi
      refine ⟨-1, Ev.step (fun k => spec_l12Place.l0.eq_2 ..) (Ev.ite_neg (by omega) (Ev.now _)), ?_⟩
      rw [List.drop_of_length_le (by simp; omega)]
      rfl
    | succ d ih =>
      intro i hi
      obtain ⟨r, hr, he⟩ := ih (i + 1) (by omega)
      rw [range_drop' _ i (by omega), List.any_cons]
      by_cases hb : rd l (i : Int) = x
      · refine ⟨i, Ev.step (fun k => spec_l12Place.l0.eq_2 ..) (Ev.ite_pos (by omega) (Ev.ite_pos (by omega) (Ev.ite_pos hb (Ev.now _)))), ?_⟩
        rw [show (x == rd l (i : Int)) = true by simpa using hb.symm]
        simp
      · refine ⟨r, Ev.step (fun k => spec_l12Place.l0.eq_2 ..) (Ev.ite_pos (by omega) (Ev.ite_pos (by omega) (Ev.ite_neg hb ?_))), ?_⟩
        · rw [wrap_nat i (by omega)]
          exact hr
        · rw [he, show (x == rd l (i : Int)) = false by simpa using fun e => hb e.symm, Bool.false_or]
  obtain ⟨r, h1, h2⟩ := key l.length 0 (by omega)
  exact ⟨r, h1, by simpa using h2⟩
theorem orders_ev (n : Nat) (hn : n ≤ 6) : Ev (fun k => spec_l19Orders.f k n) (AN n) := by
  unfold spec_l19Orders.f
  have key := Ev.loop (fun m k => spec_l19Orders.l0 k n (lev n m) m) n (AN n) ?_ ?_ 0 (by omega)
  · exact key
  · exact Ev.step (fun k => spec_l19Orders.l0.eq_2 ..) (Ev.ite_neg (by omega) (Ev.now _))
  · intro m hm ih
    have hL := lev_len2 n hn m (by omega)
    have hmem := lev_mem n m
    refine Ev.step (fun k => spec_l19Orders.l0.eq_2 ..) (Ev.ite_pos (by omega) ?_)
    rw [lev] at ih
    generalize lev n m = L at ih hL hmem ⊢
    have key := Ev.loop (fun j k => spec_l19Orders.l1 k n L m ((L.take j).flatMap (nxt n)) j) L.length (AN n) ?_ ?_ 0 (by omega)
    · simpa using key
    · refine Ev.step (fun k => spec_l19Orders.l1.eq_2 ..) (Ev.ite_neg (by omega) ?_)
      rw [List.take_length, wrap_nat m (by omega)]
      exact ih
    · intro j hj ihj
      have hl1 := hmem _ (List.getElem_mem hj)
      have hb := flat_len n (L.take j)
      have hb2 : (L.take j).length * n ≤ 46656 * 6 := Nat.mul_le_mul (by rw [List.length_take]; omega) hn
      refine Ev.step (fun k => spec_l19Orders.l1.eq_2 ..) (Ev.ite_pos (by omega) ?_)
      rw [take_flat n j L hj] at ihj
      have hrd := rdL L j hj
      generalize L[j] = l at ihj hl1 hrd
      have key := Ev.loop (fun i k => spec_l19Orders.l2 k n L m ((L.take j).flatMap (nxt n) ++ (((List.range i).filter fun i : Nat => !inL l (i : Int)).map fun i : Nat => l ++ [(i : Int)])) j i) n (AN n) ?_ ?_ 0 (by omega)
      · simpa using key
      · refine Ev.step (fun k => spec_l19Orders.l2.eq_2 ..) (Ev.ite_neg (by omega) ?_)
        rw [wrap_nat j (by omega)]
        exact ihj
      · intro i hi ihi
        have hp := part_len n i l
        rw [nxt_snoc n i l] at ihi
        obtain ⟨r, hr, hr2⟩ := place_ev l (by omega) (i : Int)
        refine Ev.step (fun k => spec_l19Orders.l2.eq_2 ..) (Ev.ite_pos (by omega) (Ev.ite_pos (by omega) (Ev.ite_pos (by omega) ?_)))
        rw [hrd, wrap_nat i (by omega)]
        refine Ev.bind hr ?_
        cases hc : inL l (i : Int) with
        | true =>
          rw [hc] at hr2
          rw [hc, if_pos rfl, List.append_nil] at ihi
          exact Ev.ite_neg (by simpa using hr2) ihi
        | false =>
          rw [hc] at hr2
          rw [hc, if_neg (by simp), ← List.append_assoc] at ihi
          refine Ev.ite_pos (by simpa using hr2) (Ev.bind0 rfl (Ev.ite_pos (by simp; omega) (Ev.bind0 rfl (Ev.ite_pos (by simp; omega) (Ev.ite_pos (by rw [List.length_append]; omega) ?_)))))
          rw [List.nil_append]
          exact ihi
def inv (p : List Int) : List Int := (List.range p.length).map fun j : Nat => (p.idxOf (j : Int) : Int)
def okP (n : Nat) (p : List Int) : Bool := (p.length == n && (inv p).length == n) && (List.range n).all fun a => decide (0 ≤ rd p (a : Int) ∧ rd p (a : Int) < n ∧ 0 ≤ rd (inv p) (a : Int) ∧ rd (inv p) (a : Int) < n) && (List.range n).all fun x => decide ((x : Int) = rd p (a : Int)) == decide (rd (inv p) (x : Int) = (a : Int))
theorem all_P : (List.range 7).all (fun n => (AN n).all (okP n)) = true := by decide +kernel
theorem P_at (n : Nat) (hn : n ≤ 6) (p : List Int) (h : p ∈ AN n) : p.length = n ∧ (inv p).length = n ∧ ∀ a, a < n → (0 ≤ rd p (a : Int) ∧ rd p (a : Int) < n ∧ 0 ≤ rd (inv p) (a : Int) ∧ rd (inv p) (a : Int) < n) ∧ ∀ x, x < n → ((x : Int) = rd p (a : Int) ↔ rd (inv p) (x : Int) = (a : Int)) := by
  have g := all_P
  rw [List.all_eq_true] at g
  have g := g n (by simp; omega)
  rw [List.all_eq_true] at g
  have g := g p h
  unfold okP at g
  rw [Bool.and_eq_true, Bool.and_eq_true, beq_iff_eq, beq_iff_eq, List.all_eq_true] at g
  refine ⟨g.1.1, g.1.2, fun a ha => ?_⟩
  have k := g.2 a (by simpa using ha)
  rw [Bool.and_eq_true, decide_eq_true_eq, List.all_eq_true] at k
  refine ⟨k.1, fun x hx => ?_⟩
  exact decide_eq_decide.mp (eq_of_beq (k.2 x (by simpa using hx)))
theorem inv_perm : (List.range 7).all (fun n => ((AN n).map inv).isPerm (AN n)) = true := by decide +kernel
theorem inv_all (n : Nat) (hn : n ≤ 6) : ((AN n).map inv).Perm (AN n) := by
  have g := inv_perm
  rw [List.all_eq_true] at g
  exact List.isPerm_iff.mp (g n (by simp; omega))
theorem inv_mem (n : Nat) (hn : n ≤ 6) (p : List Int) (h : p ∈ AN n) : inv p ∈ AN n := (inv_all n hn).mem_iff.mp (List.mem_map_of_mem h)
def listT (n : Nat) : List T3 :=
  ((List.range n).drop 0).flatMap fun a : Nat => ((List.range n).drop (a + 1)).flatMap fun b : Nat => ((List.range n).drop (b + 1)).map fun c : Nat => (⟨a, b, c⟩ : T3)
def tupT (q : T3) : Int × Int × Int := (q.f0, q.f1, q.f2)
def untupT (q : Int × Int × Int) : T3 := ⟨q.1, q.2.1, q.2.2⟩
theorem untupT_map (l : List T3) : (l.map tupT).map untupT = l := by
  rw [List.map_map]
  exact List.map_id' l
theorem all_t : (List.range 8).all (fun n => (listT n).map tupT == (tri n).map tupT) = true := by decide +kernel
theorem listT_eq (n : Nat) (hn : n ≤ 7) : listT n = tri n := by
  have h := all_t
  rw [List.all_eq_true] at h
  have h := congrArg (List.map untupT) (eq_of_beq (h n (by simp; omega)))
  rwa [untupT_map, untupT_map] at h
abbrev Q4 := S180
def quad : Nat → List Q4
  | 4 => [⟨0, 1, 2, 3⟩]
  | 5 => [⟨0, 1, 2, 3⟩, ⟨0, 1, 2, 4⟩, ⟨0, 1, 3, 4⟩, ⟨0, 2, 3, 4⟩, ⟨1, 2, 3, 4⟩]
  | 6 => [⟨0, 1, 2, 3⟩, ⟨0, 1, 2, 4⟩, ⟨0, 1, 2, 5⟩, ⟨0, 1, 3, 4⟩, ⟨0, 1, 3, 5⟩, ⟨0, 1, 4, 5⟩, ⟨0, 2, 3, 4⟩, ⟨0, 2, 3, 5⟩, ⟨0, 2, 4, 5⟩, ⟨0, 3, 4, 5⟩, ⟨1, 2, 3, 4⟩, ⟨1, 2, 3, 5⟩, ⟨1, 2, 4, 5⟩, ⟨1, 3, 4, 5⟩, ⟨2, 3, 4, 5⟩]
  | 7 => [⟨0, 1, 2, 3⟩, ⟨0, 1, 2, 4⟩, ⟨0, 1, 2, 5⟩, ⟨0, 1, 2, 6⟩, ⟨0, 1, 3, 4⟩, ⟨0, 1, 3, 5⟩, ⟨0, 1, 3, 6⟩, ⟨0, 1, 4, 5⟩, ⟨0, 1, 4, 6⟩, ⟨0, 1, 5, 6⟩, ⟨0, 2, 3, 4⟩, ⟨0, 2, 3, 5⟩, ⟨0, 2, 3, 6⟩, ⟨0, 2, 4, 5⟩, ⟨0, 2, 4, 6⟩, ⟨0, 2, 5, 6⟩, ⟨0, 3, 4, 5⟩, ⟨0, 3, 4, 6⟩, ⟨0, 3, 5, 6⟩, ⟨0, 4, 5, 6⟩, ⟨1, 2, 3, 4⟩, ⟨1, 2, 3, 5⟩, ⟨1, 2, 3, 6⟩, ⟨1, 2, 4, 5⟩, ⟨1, 2, 4, 6⟩, ⟨1, 2, 5, 6⟩, ⟨1, 3, 4, 5⟩, ⟨1, 3, 4, 6⟩, ⟨1, 3, 5, 6⟩, ⟨1, 4, 5, 6⟩, ⟨2, 3, 4, 5⟩, ⟨2, 3, 4, 6⟩, ⟨2, 3, 5, 6⟩, ⟨2, 4, 5, 6⟩, ⟨3, 4, 5, 6⟩]
  | _ => []
theorem quad_some : ∀ n : Nat, n ≤ 7 → impl_quadsOf.f 700 n = some (quad n)
  | 0, _ => by kernel_rfl
  | 1, _ => by kernel_rfl
  | 2, _ => by kernel_rfl
  | 3, _ => by kernel_rfl
  | 4, _ => by kernel_rfl
  | 5, _ => by kernel_rfl
  | 6, _ => by kernel_rfl
  | 7, _ => by kernel_rfl
  | n + 8, h => absurd h (by omega)
theorem quadsOf_ev (n : Nat) (h : n ≤ 7) : Ev (fun k => impl_quadsOf.f k n) (quad n) := Ev.of (impl_quadsOf.mono _) (quad_some n h)
def okQ (n : Nat) (q : Q4) : Bool := decide (0 ≤ q.f0 ∧ q.f0 < q.f1 ∧ q.f1 < q.f2 ∧ q.f2 < q.f3 ∧ q.f3 < n)
theorem all_q : (List.range 8).all (fun n => (quad n).all (okQ n) && decide ((quad n).length ≤ 1000)) = true := by decide +kernel
theorem quad_ok (n : Nat) (h : n ≤ 7) : (quad n).all (okQ n) = true ∧ (quad n).length ≤ 1000 := by
  have := all_q
  rw [List.all_eq_true] at this
  have := this n (by simp; omega)
  rw [Bool.and_eq_true, decide_eq_true_eq] at this
  exact this
def brk (n : Nat) (s : ByteArray) (a b c d e : Int) : Bool :=
  decide (wrap64 (sg n s a b c * sg n s a d e) = wrap64 (sg n s a b e * sg n s a c d)) && (wrap64 (sg n s a b e * sg n s a c d) == wrap64 ((wrap64 (-(sg n s a b d))) * sg n s a c e))
theorem breaks_eq (n : Nat) (hn : n ≤ 7) (s : ByteArray) (a b c d e : Nat) (ha : a < 7) (hb : b < 7) (hc : c < 7) (hd : d < 7) (he : e < 7) : impl_chi_breaks.f (tab n s) a b c d e = some (brk n s a b c d e) := by
  unfold impl_chi_breaks.f brk
  have hl := tab_length n s
  rw [if_pos (by omega), if_pos (by omega), if_pos (by omega), if_pos (by omega), if_pos (by omega), if_pos (by omega), if_pos (by omega), if_pos (by omega), if_pos (by omega), if_pos (by omega), if_pos (by omega)]
  rw [tab_at n hn s a b c ha hb hc, tab_at n hn s a d e ha hd he, tab_at n hn s a b e ha hb he, tab_at n hn s a c d ha hc hd, tab_at n hn s a b d ha hb hd, tab_at n hn s a c e ha hc he]
  by_cases h : wrap64 (sg n s a b c * sg n s a d e) = wrap64 (sg n s a b e * sg n s a c d)
  · rw [if_pos h, decide_eq_true h, Bool.true_and]
  · rw [if_neg h, decide_eq_false h, Bool.false_and]
theorem loopE (g : Nat → Nat → Option (List Int)) (m : Nat) (P : Nat → Bool) (X : Bool) (lo : Nat) (hlo : lo ≤ m) (hend : ∃ r, Ev (g m) r ∧ r.isEmpty = !X)
    (hstep : ∀ i, lo ≤ i → i < m → (∃ r, Ev (g (i + 1)) r ∧ r.isEmpty = !(((List.range m).drop (i + 1)).any P || X)) → ∃ r, Ev (g i) r ∧ r.isEmpty = !(P i || (((List.range m).drop (i + 1)).any P || X))) :
    ∃ r, Ev (g lo) r ∧ r.isEmpty = !(((List.range m).drop lo).any P || X) := by
  have key : ∀ d i, lo ≤ i → i + d = m → ∃ r, Ev (g i) r ∧ r.isEmpty = !(((List.range m).drop i).any P || X) := by
    intro d
    induction d with
    | zero =>
      intro i _ hi
      obtain rfl : i = m := by omega
      rw [List.drop_of_length_le (by simp)]
      simpa using hend
    | succ d ih =>
      intro i hl hi
      rw [range_drop' m i (by omega), List.any_cons, Bool.or_assoc]
      exact hstep i hl (by omega) (ih (i + 1) (by omega) (by omega))
  exact key (m - lo) lo (Nat.le_refl _) (by omega)
def avoid (a : Int) (q : Q4) : Bool := !(q.f0 == a || q.f1 == a || q.f2 == a || q.f3 == a)
def brkQ (n : Nat) (s : ByteArray) (a : Int) (q : Q4) : Bool := brk n s a q.f0 q.f1 q.f2 q.f3
def anyA (n : Nat) (s : ByteArray) (a : Nat) : Bool := (quad n).any fun q => avoid a q && brkQ n s a q
def anyB (n : Nat) (s : ByteArray) : Bool := (List.range n).any (anyA n s)
theorem any_range (l : List Q4) (P : Q4 → Bool) : (List.range l.length).any (fun i => P (rd_T180 l (i : Int))) = l.any P := by
  rw [Bool.eq_iff_iff, List.any_eq_true, List.any_eq_true]
  have hr : ∀ i (h : i < l.length), rd_T180 l (i : Int) = l[i] := by
    intro i h
    unfold rd_T180
    rw [Int.toNat_natCast, getD_lt _ _ _ h]
  constructor
  · rintro ⟨i, hi, hp⟩
    rw [List.mem_range] at hi
    rw [hr i hi] at hp
    exact ⟨_, List.getElem_mem hi, hp⟩
  · rintro ⟨q, hq, hp⟩
    obtain ⟨i, hi, rfl⟩ := List.getElem_of_mem hq
    exact ⟨i, by simpa using hi, by rw [hr i hi]; exact hp⟩
theorem impl_first_ev (n : Nat) (hn : n ≤ 7) (s : ByteArray) : ∃ r, Ev (fun k => impl_chi_firstBreak.f k (tab n s)) r ∧ r.isEmpty = !anyB n s := by
  have hl := tab_length n s
  obtain ⟨hq, hq1⟩ := quad_ok n hn
  unfold impl_chi_firstBreak.f
  have key := loopE (fun a k => impl_chi_firstBreak.l0 k (tab n s) a) n (anyA n s) false 0 (by omega) ?_ ?_
  · simpa [anyB] using key
  · refine ⟨[], Ev.step (fun k => impl_chi_firstBreak.l0.eq_2 ..) (Ev.ite_pos (by omega) (Ev.ite_neg (by rw [tab_n]; omega) (Ev.now _))), rfl⟩
  · intro a _ ha h0
    rw [Bool.or_false] at h0 ⊢
    have key2 := loopE (fun i k => impl_chi_firstBreak.l1 k (tab n s) a (quad n) (quad n).length i) (quad n).length (fun i => avoid a (rd_T180 (quad n) (i : Int)) && brkQ n s a (rd_T180 (quad n) (i : Int))) (((List.range n).drop (a + 1)).any (anyA n s)) 0 (by omega) ?_ ?_
    · obtain ⟨r, h1, h2⟩ := key2
      rw [List.drop_zero, any_range (quad n) (fun q => avoid a q && brkQ n s a q)] at h2
      refine ⟨r, Ev.step (fun k => impl_chi_firstBreak.l0.eq_2 ..) (Ev.ite_pos (by omega) (Ev.ite_pos (by rw [tab_n]; omega) ?_)), h2⟩
      rw [tab_n]
      exact Ev.bind (quadsOf_ev n hn) h1
    · obtain ⟨r, h1, h2⟩ := h0
      refine ⟨r, Ev.step (fun k => impl_chi_firstBreak.l1.eq_2 ..) (Ev.ite_neg (by omega) ?_), h2⟩
      rw [wrap_nat a (by omega)]
      exact h1
    · intro i _ hi h1
      have hr : rd_T180 (quad n) (i : Int) = (quad n)[i] := by
        unfold rd_T180
        rw [Int.toNat_natCast, getD_lt _ _ _ hi]
      rw [List.all_eq_true] at hq
      have ht := hq _ (List.getElem_mem hi)
      rw [← hr] at ht
      obtain ⟨r, h1, h2⟩ := h1
      rw [← wrap_nat i (by omega)] at h1
      by_cases hav : avoid a (rd_T180 (quad n) (i : Int)) = true
      · have hav' := hav
        unfold avoid at hav'
        simp only [Bool.not_eq_true', Bool.or_eq_false_iff, beq_eq_false_iff_ne] at hav'
        obtain ⟨⟨⟨e0, e1⟩, e2⟩, e3⟩ := hav'
        have hb : impl_chi_breaks.f (tab n s) a (rd_T180 (quad n) (i : Int)).f0 (rd_T180 (quad n) (i : Int)).f1 (rd_T180 (quad n) (i : Int)).f2 (rd_T180 (quad n) (i : Int)).f3 = some (brkQ n s a (rd_T180 (quad n) (i : Int))) := by
          generalize rd_T180 (quad n) (i : Int) = q at ht ⊢
          obtain ⟨b, c, d, e⟩ := q
          unfold okQ at ht
          rw [decide_eq_true_eq] at ht
          dsimp only at ht
          obtain ⟨b, rfl⟩ := Int.eq_ofNat_of_zero_le ht.1
          obtain ⟨c, rfl⟩ := Int.eq_ofNat_of_zero_le (show 0 ≤ c by omega)
          obtain ⟨d, rfl⟩ := Int.eq_ofNat_of_zero_le (show 0 ≤ d by omega)
          obtain ⟨e, rfl⟩ := Int.eq_ofNat_of_zero_le (show 0 ≤ e by omega)
          exact breaks_eq n hn s a b c d e (by omega) (by omega) (by omega) (by omega) (by omega)
        rw [hav, Bool.true_and]
        by_cases hbk : brkQ n s a (rd_T180 (quad n) (i : Int)) = true
        · rw [hbk, Bool.true_or]
          exact ⟨_, Ev.step (fun k => impl_chi_firstBreak.l1.eq_2 ..) (Ev.ite_pos (by omega) (Ev.ite_pos (by omega) (Ev.ite_pos (by omega) (Ev.ite_neg e0 (Ev.ite_neg e1 (Ev.ite_neg e2 (Ev.ite_neg e3 (Ev.bind0 hb (Ev.ite_pos hbk (Ev.now _)))))))))), rfl⟩
        · rw [Bool.eq_false_iff.mpr hbk, Bool.false_or]
          exact ⟨r, Ev.step (fun k => impl_chi_firstBreak.l1.eq_2 ..) (Ev.ite_pos (by omega) (Ev.ite_pos (by omega) (Ev.ite_pos (by omega) (Ev.ite_neg e0 (Ev.ite_neg e1 (Ev.ite_neg e2 (Ev.ite_neg e3 (Ev.bind0 hb (Ev.ite_neg hbk h1))))))))), h2⟩
      · rw [Bool.eq_false_iff.mpr hav, Bool.false_and, Bool.false_or]
        refine ⟨r, Ev.step (fun k => impl_chi_firstBreak.l1.eq_2 ..) (Ev.ite_pos (by omega) (Ev.ite_pos (by omega) (Ev.ite_pos (by omega) ?_))), h2⟩
        unfold avoid at hav
        by_cases e0 : (rd_T180 (quad n) (i : Int)).f0 = a
        · exact Ev.ite_pos e0 h1
        refine Ev.ite_neg e0 ?_
        by_cases e1 : (rd_T180 (quad n) (i : Int)).f1 = a
        · exact Ev.ite_pos e1 h1
        refine Ev.ite_neg e1 ?_
        by_cases e2 : (rd_T180 (quad n) (i : Int)).f2 = a
        · exact Ev.ite_pos e2 h1
        refine Ev.ite_neg e2 ?_
        by_cases e3 : (rd_T180 (quad n) (i : Int)).f3 = a
        · exact Ev.ite_pos e3 h1
        · exact absurd (by simp [e0, e1, e2, e3]) hav
def oth (n a : Nat) : List Int := ((List.range n).filter fun x => x != a).map fun x : Nat => (x : Int)
def listQ (n a : Nat) : List Q4 :=
  ((List.range (oth n a).length).drop 0).flatMap fun b : Nat => ((List.range (oth n a).length).drop (b + 1)).flatMap fun c : Nat => ((List.range (oth n a).length).drop (c + 1)).flatMap fun d : Nat => ((List.range (oth n a).length).drop (d + 1)).map fun e : Nat =>
    (⟨rd (oth n a) (b : Int), rd (oth n a) (c : Int), rd (oth n a) (d : Int), rd (oth n a) (e : Int)⟩ : Q4)
def tup (q : Q4) : Int × Int × Int × Int := (q.f0, q.f1, q.f2, q.f3)
def untup (q : Int × Int × Int × Int) : Q4 := ⟨q.1, q.2.1, q.2.2.1, q.2.2.2⟩
section
variable (n : Nat) (s : ByteArray) (a : Nat)
def b4 (b c d e : Nat) : Bool := brk n s a (rd (oth n a) (b : Int)) (rd (oth n a) (c : Int)) (rd (oth n a) (d : Int)) (rd (oth n a) (e : Int))
def b3 (b c d : Nat) : Bool := ((List.range (oth n a).length).drop (d + 1)).any (b4 n s a b c d)
def b2 (b c : Nat) : Bool := ((List.range (oth n a).length).drop (c + 1)).any (b3 n s a b c)
def b1 (b : Nat) : Bool := ((List.range (oth n a).length).drop (b + 1)).any (b2 n s a b)
end
def isM (n : Int) (s : ByteArray) : Bool := isS n s && !anyB n.toNat s
theorem len_empty (r : List Int) : ((r.length : Int) = 0) ↔ r.isEmpty = true := by
  rw [List.isEmpty_iff, ← List.length_eq_zero_iff]
  omega
theorem impl_IsMatroid_ev (n : Int) (s : ByteArray) : Ev (fun k => impl_IsMatroid.f k n s) (isM n s) := by
  have hS := impl_AreSigns_ev n s
  unfold impl_IsMatroid.f isM
  cases hA : isS n s with
  | false =>
    rw [hA] at hS
    exact Ev.bind hS (Ev.ite_neg (by simp) (Ev.now _))
  | true =>
    rw [hA] at hS
    obtain ⟨h3, h7, hs, _⟩ := isS_bounds hA
    obtain ⟨n, rfl⟩ := Int.eq_ofNat_of_zero_le (show 0 ≤ n by omega)
    rw [Int.toNat_natCast] at hs
    obtain ⟨r, h1, h2⟩ := impl_first_ev n (by omega) s
    rw [Int.toNat_natCast, Bool.true_and, ← h2]
    have hF : Ev (fun k => impl_FirstBreak.f k n s) r := by
      unfold impl_FirstBreak.f
      exact Ev.bind hS (Ev.ite_pos rfl (Ev.bind (tableOf_ev n (by omega) s hs) (Ev.bind h1 (Ev.now _))))
    refine Ev.bind hS (Ev.ite_pos rfl (Ev.bind hF ?_))
    cases he : r.isEmpty with
    | true => exact Ev.ite_pos ((len_empty r).mpr he) (Ev.now _)
    | false => exact Ev.ite_neg (fun h => by rw [(len_empty r).mp h] at he; cases he) (Ev.now _)
def byteS (v : Int) : ByteArray := if v > 0 then ⟨#[43]⟩ else ⟨#[45]⟩
def circT (p q r t : Int) : ByteArray := (((⟨#[43]⟩ : ByteArray) ++ byteS (wrap64 ((wrap64 (-p)) * q))) ++ byteS (wrap64 (p * r))) ++ byteS (wrap64 ((wrap64 (-p)) * t))
theorem l3Byte_eq (v : Int) : spec_l3Byte.f v = some (byteS v) := by
  unfold spec_l3Byte.f byteS
  by_cases h : v > 0
  · rw [if_pos h, if_pos h]
  · rw [if_neg h, if_neg h]
theorem byteS_size (v : Int) : (byteS v).size = 1 := by
  unfold byteS
  by_cases h : v > 0
  · rw [if_pos h]; rfl
  · rw [if_neg h]; rfl
def pm1 : List Int := [1, -1]
theorem all_circ : pm1.all (fun p => pm1.all fun q => pm1.all fun r => pm1.all fun t => (impl_chi_circuit.l0 12 [] [p, wrap64 (-q), r, wrap64 (-t)] 4 0).map (fun b => b.data.toList) == some (circT p q r t).data.toList) = true := by decide +kernel
theorem circ_eq (p q r t : Int) (hp : p = 1 ∨ p = -1) (hq : q = 1 ∨ q = -1) (hr : r = 1 ∨ r = -1) (ht : t = 1 ∨ t = -1) : impl_chi_circuit.l0 12 [] [p, wrap64 (-q), r, wrap64 (-t)] 4 0 = some (circT p q r t) := by
  have h := all_circ
  rw [List.all_eq_true] at h
  have h := h p (by rcases hp with rfl | rfl <;> decide)
  rw [List.all_eq_true] at h
  have h := h q (by rcases hq with rfl | rfl <;> decide)
  rw [List.all_eq_true] at h
  have h := h r (by rcases hr with rfl | rfl <;> decide)
  rw [List.all_eq_true] at h
  have h := eq_of_beq (h t (by rcases ht with rfl | rfl <;> decide))
  obtain ⟨b, h1, h2⟩ := Option.map_eq_some_iff.mp h
  rw [h1]
  congr 1
  apply ByteArray.ext
  exact Array.ext' h2
theorem impl_circuit_ev (n : Nat) (hn : n ≤ 7) (s : ByteArray) (a b c d : Nat) (hd : d < n) (hab : a < b) (hbc : b < c) (hcd : c < d) :
    Ev (fun k => impl_chi_circuit.f k (tab n s) a b c d) (circT (sg n s b c d) (sg n s a c d) (sg n s a b d) (sg n s a b c)) := by
  have hl := tab_length n s
  unfold impl_chi_circuit.f
  refine Ev.ite_pos (by omega) (Ev.ite_pos (by omega) (Ev.ite_pos (by omega) (Ev.ite_pos (by omega) (Ev.ite_pos (by omega) (Ev.ite_pos (by omega) (Ev.ite_pos (by omega) (Ev.ite_pos (by omega) (Ev.ite_pos (by omega) (Ev.bind0 rfl ?_)))))))))
  rw [tab_at n hn s b c d (by omega) (by omega) (by omega), tab_at n hn s a c d (by omega) (by omega) (by omega), tab_at n hn s a b d (by omega) (by omega) (by omega), tab_at n hn s a b c (by omega) (by omega) (by omega)]
  exact Ev.of (fun k => (impl_chi_circuit.mono_l k) _ _ _ _) (k := 12) (circ_eq _ _ _ _ (sg_pm n hn s b c d (by omega) (by omega) (by omega) (by omega) (by omega) (by omega)) (sg_pm n hn s a c d (by omega) (by omega) (by omega) (by omega) (by omega) (by omega)) (sg_pm n hn s a b d (by omega) (by omega) (by omega) (by omega) (by omega) (by omega)) (sg_pm n hn s a b c (by omega) (by omega) (by omega) (by omega) (by omega) (by omega)))
def listC (n : Nat) : List Q4 :=
  ((List.range n).drop 0).flatMap fun a : Nat => ((List.range n).drop (a + 1)).flatMap fun b : Nat => ((List.range n).drop (b + 1)).flatMap fun c : Nat => ((List.range n).drop (c + 1)).map fun d : Nat => (⟨a, b, c, d⟩ : Q4)
end Go.Proofs.Ytoajlmlobaccdaa.Pure
