/- What the law FnExactTypesOf reaches, part 10: functions as plain Lean functions with the proofs that their calls come to them, and plain lemmas over these. Put together by a program (wip/pack.py). -/
import Derived.Test.YtoajlmlobaccdaaKFnExactTypesOfd
import Derived.Test.YtoajlmlobaccdaaKFnExactTypesOfg
import Derived.Test.YtoajlmlobaccdaaKFnExactTypesOfh
import Derived.Test.YtoajlmlobaccdaaKFnExactTypesOfi
import Derived.Test.YtoajlmlobaccdaaKFnExactTypesOfc
namespace Go.Proofs.Ytoajlmlobaccdaa.P
open Go.RowKit Go.Proofs.YtoajlmlobaccdaaW.PrintWords Go.Proofs.YtoajlmlobaccdaaW.PrintLast Go.Proofs.YtoajlmlobaccdaaW.PrintMore
attribute [local go_sem] ptrOf_slice
set_option linter.unusedVariables false
set_option linter.unusedSimpArgs false
def bfF (k : Nat) (s1 : Int) (s2 : ByteArray) : Nat → Nat → List (List Int) → Option (List (List Int))
  | 0, _, out => some out
  | d + 1, i, out => (spec_l14Exchange.f s1 s2 (i : Int)).bind fun e => (spec_WiringOfSigns.f k e.1 e.2).bind fun x => if x.2 = true then (spec_l14Put.f k out x.1).bind fun o => bfF k s1 s2 d (i + 1) o else bfF k s1 s2 d (i + 1) out
theorem bfF_mono (k : Nat) (s1 : Int) (s2 : ByteArray) : ∀ d i out, LeO (bfF k s1 s2 d i out) (bfF (k + 1) s1 s2 d i out)
  | 0, _, _ => LeO.refl _
  | d + 1, i, out => LeO.bind (LeO.refl _) (fun _ => LeO.bind (spec_WiringOfSigns.mono _ _ _) (fun _ => LeO.ite (LeO.bind (spec_l14Put.mono _ _ _) (fun _ => bfF_mono k s1 s2 d _ _)) (bfF_mono k s1 s2 d _ _)))
def spec_BraidsFrom.f (k : Nat) (n : Int) (l : List Int) : Option (List (List Int)) := (spec_SignsOfWiring.f k n l).bind fun s => if s.2.2 = true then (if s.2.1.size ≤ 1000 then bfF k s.1 s.2.1 s.2.1.size 0 [] else none) else some []
theorem spec_BraidsFrom.mono : ∀ a0 a1 k, LeO (spec_BraidsFrom.f k a0 a1) (spec_BraidsFrom.f (k + 1) a0 a1) := fun a0 a1 k => LeO.bind (spec_SignsOfWiring.mono _ _ _) (fun _ => LeO.ite (LeO.ite (bfF_mono _ _ _ _ _ _) (LeO.refl _)) (LeO.refl _))
theorem LL.nil {w : World} {base : Nat} {ok okI : Nat → Prop} {v : Value} (h : Kd.R hdrK 34 w base ok v ([] : List Hd)) : LL w base ok okI v [] [] := ⟨h, rfl, fun j h x hj _ => by simp at hj⟩
theorem LL.fr {w w1 : World} {base : Nat} {ok okI : Nat → Prop} {v : Value} {hs : List Hd} {xs : List (List Int)} (h : LL w base ok okI v hs xs) (hb : Below w.heap.size w w1) : LL w1 base ok okI v hs xs := ⟨Kd.R_below h.own hb, h.len, fun j h0 x hj hx => (h.row j h0 x hj hx).fr (Fr35.below hb)⟩
theorem LL.mono_ {w : World} {base : Nat} {ok ok' okI : Nat → Prop} {v : Value} {hs : List Hd} {xs : List (List Int)} (h : LL w base ok okI v hs xs) (ho : ∀ k, ok k → ok' k) : LL w base ok' okI v hs xs := ⟨Kd.R_mono h.own ho, h.len, h.row⟩
theorem Row3.of_R {w : World} {base b0 : Nat} {ok : Nat → Prop} {A : Option Addr} {c : Nat} {x : List Int} (h : Kd.R (Kd.int .i64) 3 w base ok (.slice A x.length c) x) (hb : b0 ≤ base) : Row3 w (fun k_ => b0 ≤ k_) (A, x.length, c) x :=
  Kd.R_lower (Kd.R_mono (Kd.R_bound h) (fun k_ hk => Nat.le_trans hb hk.2.1)) (Nat.zero_le _)
set_option maxHeartbeats 8000000 in
set_option maxRecDepth 100000 in
theorem spec_BraidsFrom.calls (k : Nat) (n : Int) (A1 : Option Addr) (c1 : Nat) (l1 : List Int) (r : List (List Int)) (w : World) (hr1 : Kd.C (Kd.int .i64) w A1 l1.length l1) (hc1 : l1.length ≤ c1) (h : spec_BraidsFrom.f k n l1 = some r) :
    Calls Try.prog 193 #[.int .i64 n, .slice A1 l1.length c1] w fun e w' => ∃ (v : Value) (hs : List Hd), e = .returned v ∧ LL w' w.heap.size (fun _ => True) (fun k_ => w.heap.size ≤ k_) v hs r ∧ Below w.heap.size w w' := by
  have hu28 := Try.underlying31; obtain ⟨⟨s1, s2, ok⟩, A1_, H⟩ := Option.bind_eq_some_iff.mp h; clear h; have AS := am_ A1_; have HR := am_ hr1; have HC := am_ hc1; clear A1_ hr1 hc1; replace H : (if ok = true then (if s2.size ≤ 1000 then bfF k s1 s2 s2.size 0 [] else none) else some []) = some r := H; have HF0 := am_ (show ok = true → s2.size ≤ 1000 ∧ bfF k s1 s2 s2.size 0 [] = some r from fun e => by
    rw [if_pos e] at H; by_cases hz : s2.size ≤ 1000
    · rw [if_pos hz] at H; exact ⟨hz, H⟩
    · rw [if_neg hz] at H; cases H)
  have HF1 := am_ (show ok = false → r = [] from fun e => by
    rw [e, if_neg (by simp)] at H; exact (Option.some.inj H).symm)
  clear H; have HB0 := am_ (Below.refl w.heap.size w); go_enter Try.func193, Try.ntmps193
  go_upto_region 3 with (first
    | ((with_reducible refine gd_ 11 rfl ?_); refine Kd.R_lit hdrK _ 34 ?hg (N := 11) ?hd (xs := ([] : List Hd)) (inner := []) (ok := fun _ => True) (okp := fun _ => True) ?hr ?hp (fun _ hk => hk) trivial (Below.refl _ _) (Nat.le_refl _) (by simp) ?_; (case hd => rfl); (case hg => rfl); (case hr => first | (go_simp; done) | (go_simp; rfl)); (case hp => exact (Reps.none _ _)); intro v5 w3 ho hb hg_ hnew_; clear hg_ hnew_
       have HO := am_ (LL.nil (okI := fun k_ => w.heap.size ≤ k_) ho); have HB := am_ hb; clear ho hb)
    | (go_at_call 81; refine (spec_SignsOfWiring.calls k n A1 c1 l1 s1 s2 ok _ (Kd.C_below HR.out HB.out) HC.out AS.out).mono ?_; rintro e w4 ⟨rfl, hb⟩
       have HO1 := am_ (HO.out.fr hb); have HB1 := am_ (below_step HB.out hb); clear hb HO HB)
    | ((with_reducible refine gd_ 6 rfl ?_); refine be_ 6 #[.int .i64 0, .string ⟨#[]⟩] 31 ?_; intro g6 hg6 w5 hbox hb
       have BK1 := am_ hbox; have GE1 := am_ (show w.heap.size ≤ g6 from by rw [hg6]; exact HB1.out.size); have HO2 := am_ (HO1.out.fr hb); have HB2 := am_ (below_step HB1.out hb); clear hbox hb hg6 HO1 HB1; have y0 : w5.cell? ⟨g6, 0, none⟩ = some (.int .i64 0) := (blk_cell BK1.out 0).trans rfl; have y1 : w5.cell? ⟨g6, 1, none⟩ = some (.string ⟨#[]⟩) := (blk_cell BK1.out 1).trans rfl; have f0 := blk_frozen BK1.out 0; have f1 := blk_frozen BK1.out 1))
  have hbk : ((w5.setCell ⟨g6, 0, none⟩ (.int .i64 s1)).setCell ⟨g6, 1, none⟩ (.string s2)).heap[g6]? = some (.cells #[.int .i64 s1, .string s2] 31 (0, 0)) := blk_put (cs := #[.int .i64 s1, .string ⟨#[]⟩]) (blk_put BK1.out 0 _ rfl) 1 _ rfl; have hbb : Below w.heap.size w ((w5.setCell ⟨g6, 0, none⟩ (.int .i64 s1)).setCell ⟨g6, 1, none⟩ (.string s2)) := below_set (below_set HB2.out GE1.out) GE1.out; have hoo : LL ((w5.setCell ⟨g6, 0, none⟩ (.int .i64 s1)).setCell ⟨g6, 1, none⟩ (.string s2)) w.heap.size (fun _ => True) (fun k_ => w.heap.size ≤ k_) v5 [] [] := LL.nil (Kd.R_mono (Kd.R_far (p := ⟨g6, 1, none⟩) (Kd.R_far (p := ⟨g6, 0, none⟩) (Kd.R_types HO2.out.own BK1.out (by decide)) (fun _ hk => hk.2) (.int .i64 s1)) (fun _ hk => hk.2) (.string s2)) (fun _ _ => trivial)); generalize ((w5.setCell ⟨g6, 0, none⟩ (.int .i64 s1)).setCell ⟨g6, 1, none⟩ (.string s2)) = W8 at hbk hbb hoo ⊢
  have BK := am_ hbk; have HB := am_ hbb; have HO := am_ hoo; clear hbk hbb hoo y0 y1 f0 f1 BK1 HB2 HO2; go_wp2; go_loopg [5, 8] (s2.size + 1) (fun kq v5 v8 w' => ∃ (i : Nat) (x8 : Int) (hs : List Hd) (out : List (List Int)), v8 = .int .i64 x8 ∧ Aside0 (x8 = (i : Int) ∧ i ≤ s2.size ∧ kq + i = s2.size + 1) ∧ Aside0 (w'.heap[g6]? = some (.cells #[.int .i64 s1, .string s2] 31 (0, 0))) ∧ Aside0 (ok = true → bfF k s1 s2 (s2.size - i) i out = some r) ∧ Aside0 (ok = false → out = []) ∧ Aside0 (LL w' w.heap.size (fun _ => True) (fun k_ => w.heap.size ≤ k_) v5 hs out) ∧ Aside0 (Below w.heap.size w w'))
  case atStart => exact ⟨0, 0, [], [], rfl, ⟨rfl, Nat.zero_le _, rfl⟩, BK, ⟨fun e => (HF0.out e).2⟩, ⟨fun _ => rfl⟩, HO, HB⟩
  case round =>
    clear BK HO HB; obtain ⟨i, x8, hs, out, rfl, HI, BK, HO, HN, HL, HB⟩ := hrel; obtain ⟨hi0, hi1, hi2⟩ := HI.out; have hcz0 : wr.cell? ⟨g6, 0, none⟩ = some (.int .i64 s1) := (blk_cell BK.out 0).trans rfl; have hcz1 : wr.cell? ⟨g6, 1, none⟩ = some (.string s2) := (blk_cell BK.out 1).trans rfl; by_cases ci : i < s2.size
    · have X0 := eq_true (show x8 < (s2.size : Int) by omega); have X0b : decide (x8 < (s2.size : Int)) = true := decide_eq_true (by omega); cases ok with
      | false =>
        have HE := am_ (HN.out rfl); have HE1 := am_ (HF1.out rfl); clear hi0 hi1 hi2 ci; go_wp2; go_ret; have hfin : LL wr w.heap.size (fun _ => True) (fun k_ => w.heap.size ≤ k_) u5 hs r := by rw [HE1.out]; have h := HL.out; rw [HE.out] at h; exact h
        first | exact ⟨_, _, rfl, hfin, HB.out⟩ | exact ⟨_, rfl, ⟨_, hfin⟩, HB.out⟩
      | true =>
        have hz := (HF0.out rfl).1; have ho := HO.out rfl; rw [show s2.size - i = (s2.size - (i + 1)) + 1 by omega, bfF] at ho; obtain ⟨⟨e1, e2⟩, he, ho⟩ := Option.bind_eq_some_iff.mp ho; obtain ⟨⟨x1, x2⟩, hx, ho⟩ := Option.bind_eq_some_iff.mp ho; rw [← hi0] at he; have HE := am_ he; have HX := am_ hx; have HI1 := am_ (show x8 = (i : Int) ∧ i + 1 ≤ s2.size ∧ gk + i = s2.size + 1 from ⟨hi0, ci, hi2⟩); have hwr : Aside0 (wrap64 (x8 + 1) = ((i + 1 : Nat) : Int)) := ⟨by rw [hi0]; unfold wrap64; omega⟩; clear he hx hz hi0 hi1 hi2 ci HI HO; cases x2 with
        | false =>
          have HO1 := am_ (show bfF k s1 s2 (s2.size - (i + 1)) (i + 1) out = some r from by simpa using ho); clear ho; go_wp2_with (first
            | (go_at_call 105; refine (spec_l14Exchange.calls s1 s2 x8 e1 e2 _ HE.out).mono ?_; rintro e w6 ⟨rfl, hb⟩
               have BK1 := am_ (blk_below BK.out hb); have HL1 := am_ (HL.out.fr hb); have HB1 := am_ (below_step HB.out hb); clear hb BK HL HB hcz0 hcz1)
            | (go_at_call 166; refine (spec_WiringOfSigns.calls k e1 e2 x1 false _ HX.out).mono ?_; rintro e w7 ⟨v7, rfl, ho7, hb⟩
               have BK2 := am_ (blk_below BK1.out hb); have HL2 := am_ (HL1.out.fr hb); have HB2 := am_ (below_step HB1.out hb); clear hb BK1 HL1 HB1 ho7))
          go_roundg (gk - 1)
          case measure => have := HI1.out; omega
          case rel => exact ⟨i + 1, wrap64 (x8 + 1), hs, out, by first | rfl | (simp; done), ⟨hwr.out, HI1.out.2.1, by have := HI1.out; omega⟩, BK2, ⟨fun _ => HO1.out⟩, HN, HL2, HB2⟩
        | true =>
          replace ho : ((spec_l14Put.f k out x1).bind fun o => bfF k s1 s2 (s2.size - (i + 1)) (i + 1) o) = some r := by simpa using ho
          obtain ⟨o, hp, ho⟩ := Option.bind_eq_some_iff.mp ho; have HP := am_ hp; have HO1 := am_ ho; clear ho hp; go_wp2_with (first
            | (go_at_call 105; refine (spec_l14Exchange.calls s1 s2 x8 e1 e2 _ HE.out).mono ?_; rintro e w6 ⟨rfl, hb⟩
               have BK1 := am_ (blk_below BK.out hb); have HL1 := am_ (HL.out.fr hb); have HB1 := am_ (below_step HB.out hb); clear hb BK HL HB hcz0 hcz1)
            | (go_at_call 166; refine (spec_WiringOfSigns.calls k e1 e2 x1 true _ HX.out).mono ?_; rintro e w7 ⟨v7, rfl, ho7, hb⟩
               have BK2 := am_ (blk_below BK1.out hb); have HL2 := am_ (HL1.out.fr hb); obtain ⟨Ax, cx, rfl⟩ := Kd.R_slice ho7; have HRW := am_ (Row3.of_R ho7 HB1.out.size); have HB2 := am_ (below_step HB1.out hb); clear hb BK1 HL1 HB1 ho7)
            | (go_at_call 151; refine (spec_l14Put.calls k (fun _ => True) (fun k_ => w.heap.size ≤ k_) _ (Ax, x1.length, cx) hs out x1 o w _ HB2.out HL2.out HRW.out HP.out).mono ?_; rintro e w9 ⟨v9, hs9, rfl, hL9, hB9, hK9, hF9⟩
               have BK3 := am_ (hF9 g6 _ BK2.out (fun c_ e_ => by injection e_ with _ e_; exact absurd e_ (by decide))); have HL3 := am_ (hL9.mono_ (ok' := fun _ => True) (fun _ _ => trivial)); have HB3 := am_ hB9; clear hL9 hB9 hK9 hF9 BK2 HL2 HB2))
          go_roundg (gk - 1)
          case measure => have := HI1.out; omega
          case rel => exact ⟨i + 1, wrap64 (x8 + 1), hs9, o, by first | rfl | (simp; done), ⟨hwr.out, HI1.out.2.1, by have := HI1.out; omega⟩, BK3, ⟨fun _ => HO1.out⟩, ⟨fun e_ => (by cases e_)⟩, HL3, HB3⟩
    · have ei : i = s2.size := by omega
      have X0 := eq_false (show ¬ x8 < (s2.size : Int) by omega); have X0b : decide (x8 < (s2.size : Int)) = false := decide_eq_false (by omega); have HEQ := am_ (show out = r from by
        cases ok with
        | true =>
          have ho := HO.out rfl; rw [ei, Nat.sub_self] at ho; exact Option.some.inj (show some out = some r from ho)
        | false => rw [HN.out rfl, HF1.out rfl])
      clear hi0 hi1 hi2 ci ei HI HO HN; go_wp2; go_ret; exact ⟨_, _, rfl, by rw [← HEQ.out]; exact HL.out, HB.out⟩
end Go.Proofs.Ytoajlmlobaccdaa.P
namespace Go.Proofs.Ytoajlmlobaccdaa.P
open Go.RowKit Go.Proofs.YtoajlmlobaccdaaW.PrintWords Go.Proofs.YtoajlmlobaccdaaW.PrintLast Go.Proofs.YtoajlmlobaccdaaW.PrintMore
attribute [local go_sem] ptrOf_slice
attribute [local go_sem] min2_str max2_int min2_int max_two min_two max_three min_three max_four min_four
set_option linter.unusedVariables false
set_option linter.unusedSimpArgs false
def spec_l15Same.l0 : Nat → List Int → List Int → Int → Option (Bool)
 | 0, _, _, _ => none
 | k + 1, x0, x1, x5 => if x5 < (x0.length : Int) then (if 0 ≤ x5 then (if x5 < (x1.length : Int) then (if (rd x0 x5) = (rd x1 x5) then (spec_l15Same.l0 k x0 x1 (wrap64 (x5 + 1))) else (some false)) else (none)) else (none)) else (some true)
def spec_l15Same.f (k : Nat) (l0 : List Int) (l1 : List Int) : Option (Bool) := if (l0.length : Int) = (l1.length : Int) then (spec_l15Same.l0 k l0 l1 0) else (some false)
theorem spec_l15Same.mono_l : ∀ k, (∀ y0 y1 y2, LeO (spec_l15Same.l0 k y0 y1 y2) (spec_l15Same.l0 (k + 1) y0 y1 y2))
 | 0 => fun _ _ _ r h => by simp [spec_l15Same.l0] at h
 | k + 1 => by
  have ih0 := spec_l15Same.mono_l k
  ·intro y0 y1 y2; unfold spec_l15Same.l0
   repeat' first | (with_reducible first | apply ih0 | exact LeO.refl _ | exact LeO.none _ | refine LeO.ite ?_ ?_ | refine LeO.bind ?_ (fun _ => ?_)) | exact LeO.none _
theorem spec_l15Same.mono : ∀ a0 a1 k, LeO (spec_l15Same.f k a0 a1) (spec_l15Same.f (k + 1) a0 a1) := by
 intro a0 a1 k; have ih0 := spec_l15Same.mono_l k; unfold spec_l15Same.f
 repeat' first | (with_reducible first | apply ih0 | exact LeO.refl _ | exact LeO.none _ | refine LeO.ite ?_ ?_ | refine LeO.bind ?_ (fun _ => ?_)) | exact LeO.none _
set_option maxHeartbeats 8000000 in
set_option maxRecDepth 100000 in
theorem spec_l15Same.calls (k : Nat) (A0 : Option Addr) (c0 : Nat) (l0 : List Int) (A1 : Option Addr) (c1 : Nat) (l1 : List Int) (r : Bool) (w : World) (hr0 : Kd.C (Kd.int .i64) w A0 l0.length l0) (hc0 : l0.length ≤ c0) (hr1 : Kd.C (Kd.int .i64) w A1 l1.length l1) (hc1 : l1.length ≤ c1) (h : spec_l15Same.f k l0 l1 = some r) :
  Calls Try.prog 194 #[.slice A0 l0.length c0, .slice A1 l1.length c1] w fun e w' => e = .returned (.bool r) ∧ Drawn0 w w' := by
 have HR0 := am_ hr0; have HC0 := am_ hc0; clear hr0 hc0; have HR1 := am_ hr1; have HC1 := am_ hc1; clear hr1 hc1; have H : (if (l0.length : Int) = (l1.length : Int) then (spec_l15Same.l0 k l0 l1 0) else (some false)) = some r := h; clear h; by_cases c3 : (l0.length : Int) = (l1.length : Int)
 ·rw [if_pos c3] at H; obtain ⟨c3b0, c3b1⟩ := eqT_ c3; have c3b2 : (l0.length == l1.length) = true := by first | simpa using c3 | (simp at c3 ⊢; omega)
  clear c3; have H' := am_ H; clear H; go_enter Try.func194, Try.ntmps194
  go_wp2; repeat (go_quiet (fail); try go_wp2)
  go_loopg [5] k (fun kq v5 w' => ∃ (x5_1 : Int), v5 = .int .i64 x5_1 ∧ Aside0 (spec_l15Same.l0 kq l0 l1 x5_1 = some r) ∧ Aside0 (kq ≤ k) ∧ Drawn0 w w')
  case atStart => exact ⟨(0), vt_, H', ⟨Nat.le_refl _⟩, dr_⟩
  case round =>
   clear H'; try clear c3b0 c3b1 c3b2
   obtain ⟨x5_1, rfl, HA, HK1, ⟨m1, rfl⟩⟩ := hrel; cases gk with
   | zero => exact absurd HA.out (by simp [spec_l15Same.l0])
   | succ k1 =>
    have H := HA.out; clear HA; simp only [spec_l15Same.l0] at H
    by_cases c4 : x5_1 < (l0.length : Int)
    ·rw [if_pos c4] at H; have c4b0 := decide_eq_true c4; clear c4; by_cases c5 : 0 ≤ x5_1
     ·rw [if_pos c5] at H; have c5b0 := decide_eq_true c5; clear c5; by_cases c6 : x5_1 < (l1.length : Int)
      ·rw [if_pos c6] at H; have c6b0 := decide_eq_true c6; clear c6; by_cases c7 : (rd l0 x5_1) = (rd l1 x5_1)
       ·rw [if_pos c7] at H; obtain ⟨c7b0, c7b1⟩ := eqT_ c7; clear c7; have H' := am_ H; clear H; have p230 : 0 ≤ (x5_1 : Int) := oda_; have q230 : x5_1 < (l0.length : Int) := oda_; obtain ⟨ad230, e230, hx230_0⟩ := Kd.at_int HR0.out x5_1 p230 q230; cases e230; replace p230 := eq_true p230; replace q230 := eq_true q230; have p231 : 0 ≤ (x5_1 : Int) := oda_; have q231 : x5_1 < (l1.length : Int) := oda_; obtain ⟨ad231, e231, hx231_0⟩ := Kd.at_int HR1.out x5_1 p231 q231; cases e231; replace p231 := eq_true p231; replace q231 := eq_true q231; go_wp2; repeat (go_quiet (fail); try go_wp2)
        go_roundg k1
        case measure => have := HK1.out; omega
        case rel => exact ⟨(wrap64 (x5_1 + 1)), vt_, H', hl_ HK1, dr_⟩
       ·rw [if_neg c7] at H; obtain ⟨c7b0, c7b1⟩ := eqF_ c7; obtain rfl := Option.some.inj H; have p230 : 0 ≤ (x5_1 : Int) := oda_; have q230 : x5_1 < (l0.length : Int) := oda_; obtain ⟨ad230, e230, hx230_0⟩ := Kd.at_int HR0.out x5_1 p230 q230; cases e230; replace p230 := eq_true p230; replace q230 := eq_true q230; have p231 : 0 ≤ (x5_1 : Int) := oda_; have q231 : x5_1 < (l1.length : Int) := oda_; obtain ⟨ad231, e231, hx231_0⟩ := Kd.at_int HR1.out x5_1 p231 q231; cases e231; replace p231 := eq_true p231; replace q231 := eq_true q231; go_wp2; repeat (go_quiet (fail); try go_wp2)
        go_ret; exact ⟨by first | rfl | (simp; done) | (simp [*]; done), dr_⟩
      ·rw [if_neg c6] at H; exact absurd H (by simp)
     ·rw [if_neg c5] at H; exact absurd H (by simp)
    ·rw [if_neg c4] at H; have c4b0 := decide_eq_false c4; clear c4; obtain rfl := Option.some.inj H; go_wp2; repeat (go_quiet (fail); try go_wp2)
     go_ret; exact ⟨by first | rfl | (simp; done) | (simp [*]; done), dr_⟩
 ·rw [if_neg c3] at H; obtain ⟨c3b0, c3b1⟩ := eqF_ c3; have c3b2 : (l0.length == l1.length) = false := by first | simpa using c3 | (simp at c3 ⊢; omega)
  obtain rfl := Option.some.inj H; go_enter Try.func194, Try.ntmps194
  go_wp2; repeat (go_quiet (fail); try go_wp2)
  go_ret; exact ⟨by first | rfl | (simp; done) | (simp [*]; done), dr_⟩
end Go.Proofs.Ytoajlmlobaccdaa.P
namespace Go.Proofs.Ytoajlmlobaccdaa.P
open Go.RowKit Go.Proofs.YtoajlmlobaccdaaW.PrintWords Go.Proofs.YtoajlmlobaccdaaW.PrintLast Go.Proofs.YtoajlmlobaccdaaW.PrintMore
attribute [local go_sem] ptrOf_slice
set_option linter.unusedVariables false
set_option linter.unusedSimpArgs false
def knownF (k : Nat) (x : List Int) : List (List Int) → Option Bool
  | [] => some false
  | y :: r => (spec_l15Same.f k y x).bind fun b => if b = true then some true else knownF k x r
theorem knownF_mono (k : Nat) (x : List Int) : ∀ l, LeO (knownF k x l) (knownF (k + 1) x l)
  | [] => LeO.refl _
  | y :: r => LeO.bind (spec_l15Same.mono _ _ _) (fun _ => LeO.ite (LeO.refl _) (knownF_mono k x r))
def addAll (k : Nat) : List (List Int) → List (List Int) → Option (List (List Int))
  | [], out => some out
  | x :: r, out => if out.length < 1000000 then (knownF k x out).bind fun b => addAll k r (if b = true then out else out ++ [x]) else none
theorem addAll_mono (k : Nat) : ∀ l out, LeO (addAll k l out) (addAll (k + 1) l out)
  | [], _ => LeO.refl _
  | x :: r, out => LeO.ite (LeO.bind (knownF_mono _ _ _) (fun _ => addAll_mono k r _)) (LeO.refl _)
def rchF (k : Nat) (n : Int) : Nat → Nat → List (List Int) → Option (List (List Int))
  | 0, _, _ => none
  | d + 1, p, out => if p < out.length ∧ p < 1000000 then (spec_BraidsFrom.f k n (out.getD p [])).bind fun l => if l.length < 1000000 then (addAll k l out).bind fun o => rchF k n d (p + 1) o else none else if p < 1000000 then some out else none
theorem rchF_mono (k : Nat) (n : Int) : ∀ d p out, LeO (rchF k n d p out) (rchF (k + 1) n (d + 1) p out)
  | 0, _, _ => LeO.none _
  | d + 1, p, out => LeO.ite (LeO.bind (spec_BraidsFrom.mono _ _ _) (fun _ => LeO.ite (LeO.bind (addAll_mono _ _ _) (fun _ => rchF_mono k n d _ _)) (LeO.refl _))) (LeO.refl _)
def spec_l15Reach.f (k : Nat) (n : Int) (l : List Int) : Option (List (List Int)) := rchF k n k 0 [l]
theorem spec_l15Reach.mono : ∀ a0 a1 k, LeO (spec_l15Reach.f k a0 a1) (spec_l15Reach.f (k + 1) a0 a1) := fun a0 a1 k => rchF_mono k a0 k 0 [a1]
theorem Row3.after {w w1 : World} {Q : Nat → Prop} {v v1 : Value} {h : Hd} {x : List Int} (hr : Row3 w (fun k_ => Q k_ ∧ some k_ ≠ v.ownBlock) h x) (hg : w.grownBy w1 v.ownBlock) (hat : v1.ownBlock = v.ownBlock ∨ ∃ b, v1.ownBlock = some b ∧ w.heap.size ≤ b) : Row3 w1 (fun k_ => Q k_ ∧ some k_ ≠ v1.ownBlock) h x := Kd.R_after (ok := Q) hr hg hat
structure Out (w : World) (Q : Nat → Prop) (base : Nat) (vo vf : Value) (ho : List Hd) (out : List (List Int)) (fs : List Int) : Prop where
  ll : LL w base (fun _ => True) (fun k_ => Q k_ ∧ some k_ ≠ vf.ownBlock) vo ho out
  far : Kd.R (Kd.int .i64) 3 w base (fun _ => True) vf fs
  len : fs.length = out.length
theorem Out.fr {w w1 : World} {Q : Nat → Prop} {base : Nat} {vo vf : Value} {ho : List Hd} {out : List (List Int)} {fs : List Int} (h : Out w Q base vo vf ho out fs) (hb : Below w.heap.size w w1) : Out w1 Q base vo vf ho out fs := ⟨h.ll.fr hb, Kd.R_below h.far hb, h.len⟩
def reach14.T14 : Bool × List (List Nat × List Nat) := (true, [([], []), ([0], [0]), ([1], [1]), ([1], [1]), ([2, 3, 1], [1, 2, 3]), ([4, 1], [1, 4]), ([1], [1]), ([1], [1]), ([6, 7, 1], [1, 6, 7]), ([8, 1], [1, 8]), ([5, 9, 1, 1], [1, 5, 9]), ([1, 10], [1, 10]), ([11, 10, 0, 1, 2, 3, 4, 5, 6, 7, 8, 9, 10, 11], [0, 11])])
def reach14.B14 : List Nat := [0, 1, 3, 3, 15, 31, 3, 3, 195, 451, 1023, 2047, 4095]
theorem reach14.tab14 : rtab .any (opsOf Try.f150 14) = reach14.T14 := by kernel_rfl
theorem reach14.bits14 : waitsOk reach14.T14.2 reach14.B14 = true := by kernel_rfl
set_option maxHeartbeats 8000000 in
set_option maxRecDepth 100000 in
theorem spec_l15Reach.calls (k : Nat) (okP : Nat → Prop) (n : Int) (hx : Hd) (l1 : List Int) (r : List (List Int)) (w : World) (hX : Row3 w okP hx l1) (h : spec_l15Reach.f k n l1 = some r) :
    Calls Try.prog 150 #[.int .i64 n, encH hx] w fun e w' => ∃ (v vf : Value) (hs : List Hd), e = .returned (.tuple #[v, vf]) ∧ LL w' w.heap.size (fun _ => True) (fun k_ => okP k_ ∨ w.heap.size ≤ k_) v hs r ∧ Below w.heap.size w w' := by
  have hxe := hX.read.1; obtain ⟨A1, hn, c1⟩ := hx; obtain rfl : hn = l1.length := by unfold encH at hxe; injection hxe
  have HP := am_ hX; have HF0 := am_ h; have HB0 := am_ (Below.refl w.heap.size w); clear hX h hxe; show Calls Try.prog 150 #[.int .i64 n, .slice A1 l1.length c1] w _
  go_enter Try.func150, Try.ntmps150
  go_wp2_with (first
    | ((with_reducible refine gd_ 14 rfl ?_); refine Kd.R_lit hdrK _ 34 ?hg (N := 14) ?hd (xs := [((A1, l1.length, c1) : Hd)]) (inner := [.slice A1 l1.length c1]) (ok := fun _ => True) (okp := fun _ => True) ?hr ?hp (fun _ hk => hk) trivial HB0.out HB0.out.size (by simp) ?_; (case hd => rfl); (case hg => rfl); (case hr => first | (go_simp; done) | (go_simp; rfl)); (case hp => exact Kd.reps_scalar [((A1, l1.length, c1) : Hd)]); intro v6 w3 ho hb hg_ hnew_
       have HO1 := am_ ho; have HB1 := am_ hb; have HG1 := am_ hg_; clear ho hb hg_ hnew_ HB0)
    | ((with_reducible refine gd_ 15 rfl ?_); refine Kd.R_lit (Kd.int .i64) _ 3 ?hg (N := 15) ?hd (xs := [(0 : Int)]) (inner := [.int .i64 0]) (ok := fun _ => True) (okp := fun _ => True) ?hr ?hp (fun _ hk => hk) trivial HB1.out HB1.out.size (by simp) ?_; (case hd => rfl); (case hg => rfl); (case hr => first | (go_simp; done) | (go_simp; rfl)); (case hp => exact Kd.reps_scalar [(0 : Int)]); intro v7 w4 ho hb hg_ hnew_
       have HO2 := am_ (show Out w4 (fun k_ => okP k_ ∨ w.heap.size ≤ k_) w.heap.size v6 v7 [((A1, l1.length, c1) : Hd)] [l1] [0] from ⟨⟨Kd.R_grown HO1.out hg_ (fun _ _ e => by cases e), rfl, fun j h0 x hj hx => by
         cases j with
         | succ j => simp at hj
         | zero =>
           simp at hj hx
           subst hj; subst hx; refine Row3.fr (w := w3) ?_ (Fr35.grown hg_ (fun k_ e => by cases e)); refine Row3.fr (w := w) ?_ (Fr35.grown HG1.out (fun k_ e => by cases e)); refine Kd.R_mono (Kd.R_bound HP.out) (fun k_ hk => ⟨.inl hk.1, fun e => ?_⟩); obtain ⟨b, hb2, hle⟩ := hnew_; rw [hb2] at e; injection e with e
           have h1 := hk.2.2.1; have h2 := HB1.out.size; omega⟩, ho, rfl⟩)
       have HB2 := am_ hb; clear ho hb hg_ hnew_ HO1 HB1 HG1))
  go_loopg [6, 7, 8] k (fun kq v6 v7 v8 w' => ∃ (p : Nat) (x8 : Int) (ho : List Hd) (out : List (List Int)) (fs : List Int), v8 = .int .i64 x8 ∧ Aside0 (x8 = (p : Int) ∧ kq ≤ k) ∧ Aside0 (rchF k n kq p out = some r) ∧ Aside0 (Out w' (fun k_ => okP k_ ∨ w.heap.size ≤ k_) w.heap.size v6 v7 ho out fs) ∧ Aside0 (Below w.heap.size w w'))
  case atStart => exact ⟨0, 0, _, _, _, rfl, ⟨rfl, Nat.le_refl _⟩, HF0, HO2, HB2⟩
  case round =>
    clear HF0 HO2 HB2; obtain ⟨p, x8, ho, out, fs, rfl, HI, HF, HO, HB⟩ := hrel; cases gk with
    | zero => exact absurd HF.out (by simp [rchF])
    | succ gd =>
      have hf := HF.out; rw [rchF] at hf; rename World => wA
      obtain ⟨Ao, co, rfl⟩ := Kd.R_slice HO.out.ll.own; by_cases cp : p < out.length ∧ p < 1000000
      · rw [if_pos cp] at hf; obtain ⟨l, hbr, hf⟩ := Option.bind_eq_some_iff.mp hf; by_cases hll : l.length < 1000000
        case neg => rw [if_neg hll] at hf; cases hf
        rw [if_pos hll] at hf; obtain ⟨o, hadd, hf⟩ := Option.bind_eq_some_iff.mp hf; have hlo := HO.out.ll.len; have hx0 : 0 ≤ x8 := by have := HI.out.1; omega
        have hx1 : x8 < (ho.length : Int) := by have := HI.out.1; omega
        obtain ⟨ado, e0, z0⟩ := at_hd (Kd.R_reads' HO.out.ll.own).2.2 x8 hx0 hx1; subst e0; obtain ⟨h0, hh0⟩ : ∃ h0, h0 = rdOf (none, 0, 0) ho x8 := ⟨_, rfl⟩; rw [← hh0] at z0; have hg0 : ho[p]? = some h0 := by
          rw [hh0, HI.out.1]; unfold rdOf
          rw [Int.toNat_natCast, List.getD_eq_getElem?_getD, List.getElem?_eq_getElem (by omega)]; rfl
        obtain ⟨x0, hx0e⟩ : ∃ x0, x0 = out.getD p [] := ⟨_, rfl⟩; have hg1 : out[p]? = some x0 := by
          rw [hx0e, List.getD_eq_getElem?_getD, List.getElem?_eq_getElem cp.1]; rfl
        rw [← hx0e] at hbr; have HRC := am_ ((HO.out.ll.row p h0 x0 hg0 hg1).read); obtain ⟨hA0, hn0, hc0⟩ := h0; obtain rfl : hn0 = x0.length := by have hre := HRC.out.1; unfold encH at hre; injection hre
        replace z0 : _ = some (Value.slice hA0 x0.length hc0) := z0; have X0 := eq_true hx0; have X1 := eq_true hx1; have X0b : decide (0 ≤ x8) = true := decide_eq_true hx0; have X1b : decide (x8 < (ho.length : Int)) = true := decide_eq_true hx1; have HBR := am_ hbr; have HADD := am_ hadd; have HFN := am_ hf; have HLL := am_ hll; have HPC := am_ cp; have hwr : Aside0 (wrap64 (x8 + 1) = ((p + 1 : Nat) : Int)) := ⟨by have h1 := HI.out.1; rw [h1]; unfold wrap64; omega⟩; have X8 := am_ (show x8 = (p : Int) from HI.out.1); have HKQ := am_ (show gd + 1 ≤ k from HI.out.2); clear hx0 hx1 hh0 hg0 hx0e hg1 hbr hadd hf hll cp hlo HI HF; obtain ⟨gko, hgko⟩ : ∃ g, g = gd := ⟨_, rfl⟩; go_wp2_with (first
          | (go_at_call 193; refine (spec_BraidsFrom.calls k n hA0 hc0 x0 l _ HRC.out.2.1 HRC.out.2.2 HBR.out).mono ?_; rintro e w5 ⟨vl, hl, rfl, hL, hb⟩
             have HL1 := am_ (show LL w5 w.heap.size (fun k_ => True ∧ some k_ ≠ (Value.slice (some ado) ho.length co).ownBlock) (fun k_ => (okP k_ ∨ w.heap.size ≤ k_) ∧ some k_ ≠ u7.ownBlock) vl hl l from ⟨Kd.R_lower (Kd.R_mono (Kd.R_bound hL.own) (fun k_ hk => ⟨trivial, fun e => by have h1 := Kd.R_lt HO.out.ll.own k_ e.symm; have h2 := hk.2.1; omega⟩)) HB.out.size, hL.len, fun j h x hj hx => Kd.R_mono (hL.row j h x hj hx) (fun k_ hk => ⟨.inr (Nat.le_trans HB.out.size hk), fun e => by have h1 := Kd.R_lt HO.out.far k_ e.symm; omega⟩)⟩); have HO1 := am_ (HO.out.fr hb); have HB1 := am_ (below_step HB.out hb); clear hL hb HO HB HRC z0))
        obtain ⟨Al, cl, rfl⟩ := Kd.R_slice HL1.out.own; go_loopg [6, 7, 10] (l.length + 1) (fun kq v6 v7 v10 w' => ∃ (i : Nat) (x10 : Int) (ho : List Hd) (out : List (List Int)) (fs : List Int), v10 = .int .i64 x10 ∧ Aside0 (x10 = (i : Int) ∧ i ≤ l.length ∧ kq + i = l.length + 1) ∧ Aside0 (addAll k (l.drop i) out = some o) ∧ Aside0 (p < fs.length) ∧ Aside0 (Out w' (fun k_ => okP k_ ∨ w.heap.size ≤ k_) w.heap.size v6 v7 ho out fs) ∧ Aside0 (LL w' w.heap.size (fun k_ => True ∧ some k_ ≠ v6.ownBlock) (fun k_ => (okP k_ ∨ w.heap.size ≤ k_) ∧ some k_ ≠ v7.ownBlock) (.slice Al hl.length cl) hl l) ∧ Aside0 (Below w.heap.size w w'))
        case atStart => exact ⟨0, 0, ho, out, fs, rfl, ⟨rfl, Nat.zero_le _, rfl⟩, HADD, ⟨by rw [HO1.out.len]; exact HPC.out.1⟩, HO1, HL1, HB1⟩
        case round =>
          clear HADD HO1 HL1 HB1; obtain ⟨i, x10, ho, out, fs, rfl, HI, HAD, HPF, HO, HL, HB⟩ := hrel; obtain ⟨gk2, hgk2⟩ : ∃ g, g = gk := ⟨_, rfl⟩; rename World => wI
          obtain ⟨Ao, co, rfl⟩ := Kd.R_slice HO.out.ll.own; obtain ⟨Af, cf, rfl⟩ := Kd.R_slice HO.out.far; have hll := HL.out.len; have hol := HO.out.ll.len; by_cases ci : i < l.length
          · have hx0 : 0 ≤ x10 := by have := HI.out.1; omega
            have hx1 : x10 < (hl.length : Int) := by have := HI.out.1; omega
            obtain ⟨adl, e0, z0⟩ := at_hd (Kd.R_reads' HL.out.own).2.2 x10 hx0 hx1; subst e0; obtain ⟨h0, hh0⟩ : ∃ h0, h0 = rdOf (none, 0, 0) hl x10 := ⟨_, rfl⟩; rw [← hh0] at z0; have hg0 : hl[i]? = some h0 := by
              rw [hh0, HI.out.1]; unfold rdOf
              rw [Int.toNat_natCast, List.getD_eq_getElem?_getD, List.getElem?_eq_getElem (by omega)]; rfl
            have had := HAD.out; rw [List.drop_eq_getElem_cons ci, addAll] at had; obtain ⟨x, hxe⟩ : ∃ x, x = l[i] := ⟨_, rfl⟩; rw [← hxe] at had; have hg1 : l[i]? = some x := by rw [hxe]; exact List.getElem?_eq_getElem ci
            by_cases hol2 : out.length < 1000000
            case neg => rw [if_neg hol2] at had; cases had
            rw [if_pos hol2] at had; obtain ⟨b, hkn, had⟩ := Option.bind_eq_some_iff.mp had; have HRX := am_ (HL.out.row i h0 x hg0 hg1); obtain ⟨gA, gn, gc⟩ := h0; obtain rfl : gn = x.length := by have hre := HRX.out.read.1; unfold encH at hre; injection hre
            replace z0 : _ = some (Value.slice gA x.length gc) := z0; have HXC := am_ HRX.out.read.2; have X0 := eq_true hx0; have X1 := eq_true hx1; have X0b : decide (0 ≤ x10) = true := decide_eq_true hx0; have X1b : decide (x10 < (hl.length : Int)) = true := decide_eq_true hx1; have HKN := am_ hkn; have HOL := am_ hol2; have HAD1 := am_ had; have HZ2 := am_ z0; have HI1 := am_ (show x10 = (i : Int) ∧ i + 1 ≤ l.length ∧ gk + i = l.length + 1 ∧ hl.length = l.length ∧ ho.length = out.length from ⟨HI.out.1, ci, HI.out.2.2, hll, hol⟩); have hwi : Aside0 (wrap64 (x10 + 1) = ((i + 1 : Nat) : Int)) := ⟨by have h1 := HI.out.1; have h2 := HLL.out; rw [h1]; unfold wrap64; omega⟩; clear hx0 hx1 hh0 hg0 had hxe hg1 hkn HI HAD ci hll hol hol2; go_wp2; go_loopg [11, 12] (out.length + 1) (fun kq v11 v12 w' => ∃ (j : Nat) (kn : Bool) (x12 : Int), v11 = .bool kn ∧ v12 = .int .i64 x12 ∧ Aside0 (x12 = (j : Int) ∧ j ≤ out.length ∧ kq + j = out.length + 1) ∧ Aside0 ((kn = true → b = true) ∧ (kn = false → knownF k x (out.drop j) = some b)) ∧ Aside0 (Below wI.heap.size wI w'))
            case atStart => exact ⟨0, false, 0, rfl, rfl, ⟨rfl, Nat.zero_le _, rfl⟩, ⟨fun e => (by cases e), fun _ => HKN.out⟩, ⟨Below.refl _ _⟩⟩
            case round =>
              obtain ⟨j, kn, x12, rfl, rfl, HJ, HKB, HBI⟩ := hrel; rename World => wk
              by_cases cj : j < out.length
              · have hy0 : 0 ≤ x12 := by have := HJ.out.1; omega
                have hy1 : x12 < (ho.length : Int) := by have := HJ.out.1; have := HI1.out; omega
                obtain ⟨ado, e2, hz1⟩ := at_hd (Kd.R_reads' HO.out.ll.own).2.2 x12 hy0 hy1; subst e2; obtain ⟨h1, hh1⟩ : ∃ h1, h1 = rdOf (none, 0, 0) ho x12 := ⟨_, rfl⟩; rw [← hh1] at hz1; have hg0 : ho[j]? = some h1 := by
                  rw [hh1, HJ.out.1]; unfold rdOf
                  rw [Int.toNat_natCast, List.getD_eq_getElem?_getD, List.getElem?_eq_getElem (by have := HI1.out; omega)]; rfl
                obtain ⟨y, hye⟩ : ∃ y, y = out[j] := ⟨_, rfl⟩; have hg1 : out[j]? = some y := by rw [hye]; exact List.getElem?_eq_getElem cj
                have HRY := am_ (HO.out.ll.row j h1 y hg0 hg1); obtain ⟨hA, hn, hc⟩ := h1; obtain rfl : hn = y.length := by have hre := HRY.out.read.1; unfold encH at hre; injection hre
                have HYC := am_ HRY.out.read.2; replace hz1 : wk.drew.cell? (ado.add x12.toNat) = some (Value.slice hA y.length hc) := (HBI.out.cell (World.block_lt_of_cell? wI _ hz1)).trans hz1; have hz2 : wk.drew.cell? (adl.add x10.toNat) = some (Value.slice gA x.length gc) := (HBI.out.cell (World.block_lt_of_cell? wI _ HZ2.out)).trans HZ2.out; have Y0 := eq_true hy0; have Y1 := eq_true hy1; have Y0b : decide (0 ≤ x12) = true := decide_eq_true hy0; have Y1b : decide (x12 < (ho.length : Int)) = true := decide_eq_true hy1; have HJ1 := am_ (show x12 = (j : Int) ∧ j + 1 ≤ out.length ∧ gk + j = out.length + 1 from ⟨HJ.out.1, cj, HJ.out.2.2⟩); have hwj : Aside0 (wrap64 (x12 + 1) = ((j + 1 : Nat) : Int)) := ⟨by have h1 := HJ.out.1; have h2 := HOL.out; have h3 := cj; rw [h1]; unfold wrap64; omega⟩; have HBK := am_ (below_drew1 HBI.out); cases kn with
                | true =>
                  have HKT := am_ (HKB.out.1 rfl); clear hy0 hy1 hh1 hg0 hye hg1 cj HJ HKB HBI hz1 hz2; go_upto_region 14 with (fail)
                  refine start_ (n := 13) (S := fun w' => True) (ds := [12]) #[false, false, false, false, false, false, false, false, false, false, false, false, false] (by kernel_rfl) rfl rfl trivial (fun hHeld => ?_); refine with_tabW reach14.tab14 reach14.bits14 (fun HT_ HW_ => ?_); generalize wk.drew = w10 at HBK ⊢
                  refine pD_ 0 (some 40) HT_ (h := ?_); refine pD_ 1 (some 41) HT_ (h := ?_); refine pure_ (i := 2) (N := some 42) (v := undef) (a' := ?_) #[true, true, true, false, false, false, false, false, false, false, false, false, false] rfl rfl (any_of HT_.out (by kernel_rfl)) (fun _ _ _ h => h) (Or.inr ⟨by rfl, rfl⟩) ?_ ?_; rotate_left
                  · simp only [Act.put, sA_, sZ_, sS_, i64_w, i32_w]
                    rfl
                  refine pure_ (i := 3) (N := some 43) (v := undef) (a' := ?_) #[true, true, true, true, false, false, false, false, false, false, false, false, false] rfl rfl (any_of HT_.out (by kernel_rfl)) (fun _ _ _ h => h) (Or.inr ⟨by rfl, rfl⟩) ?_ ?_; rotate_left
                  · simp only [Act.put, sA_, sZ_, sS_, i64_w, i32_w]
                    rfl
                  refine pure_ (i := 4) (N := some 44) (v := undef) (a' := ?_) #[true, true, true, true, true, false, false, false, false, false, false, false, false] rfl rfl (any_of HT_.out (by kernel_rfl)) (fun _ _ _ h => h) (Or.inr ⟨by rfl, rfl⟩) ?_ ?_; rotate_left
                  · simp only [Act.put, sA_, sZ_, sS_, i64_w, i32_w]
                    rfl
                  refine pure_ (i := 5) (N := some 45) (v := undef) (a' := ?_) #[true, true, true, true, true, true, false, false, false, false, false, false, false] rfl rfl (any_of HT_.out (by kernel_rfl)) (fun _ _ _ h => h) (Or.inr ⟨by rfl, rfl⟩) ?_ ?_; rotate_left
                  · simp only [Act.put, sA_, sZ_, sS_, i64_w, i32_w]
                    rfl
                  refine pure_ (i := 6) (N := some 46) (v := undef) (a' := ?_) #[true, true, true, true, true, true, true, false, false, false, false, false, false] rfl rfl (any_of HT_.out (by kernel_rfl)) (fun _ _ _ h => h) (Or.inr ⟨by rfl, rfl⟩) ?_ ?_; rotate_left
                  · simp only [Act.put, sA_, sZ_, sS_, i64_w, i32_w]
                    rfl
                  refine pure_ (i := 7) (N := some 47) (v := undef) (a' := ?_) #[true, true, true, true, true, true, true, true, false, false, false, false, false] rfl rfl (any_of HT_.out (by kernel_rfl)) (fun _ _ _ h => h) (Or.inr ⟨by rfl, rfl⟩) ?_ ?_; rotate_left
                  · simp only [Act.put, sA_, sZ_, sS_, i64_w, i32_w]
                    rfl
                  refine pure_ (i := 8) (N := some 48) (v := undef) (a' := ?_) #[true, true, true, true, true, true, true, true, true, false, false, false, false] rfl rfl (any_of HT_.out (by kernel_rfl)) (fun _ _ _ h => h) (Or.inr ⟨by rfl, rfl⟩) ?_ ?_; rotate_left
                  · simp only [Act.put, sA_, sZ_, sS_, i64_w, i32_w]
                    rfl
                  refine pure_ (i := 9) (N := some 49) (v := undef) (a' := ?_) #[true, true, true, true, true, true, true, true, true, true, false, false, false] rfl rfl (any_of HT_.out (by kernel_rfl)) (fun _ _ _ h => h) (Or.inr ⟨by rfl, rfl⟩) ?_ ?_; rotate_left
                  · simp only [Act.put, sA_, sZ_, sS_, i64_w, i32_w]
                    rfl
                  refine pure_ (i := 10) (N := some 50) (v := undef) (a' := ?_) #[true, true, true, true, true, true, true, true, true, true, true, false, false] rfl rfl (any_of HT_.out (by kernel_rfl)) (fun _ _ _ h => h) (Or.inr ⟨by rfl, rfl⟩) ?_ ?_; rotate_left
                  · simp only [Act.put, sA_, sZ_, sS_, i64_w, i32_w]
                    rfl
                  refine pD_ 11 (some 51) HT_ (h := ?_); refine pD_ 12 (some 11) HT_ (h := ?_); refine done_ (done_of HT_.out (by kernel_rfl)) ?_; go_wp2; go_roundg (gk - 1)
                  case measure => have := HJ1.out; omega
                  case rel => exact ⟨j + 1, true, wrap64 (x12 + 1), by first | rfl | (simp; done), by first | rfl | (simp; done), ⟨hwj.out, HJ1.out.2.1, by have := HJ1.out; omega⟩, ⟨fun _ => HKT.out, fun e => (by cases e)⟩, HBK⟩
                | false =>
                  have hk := HKB.out.2 rfl; rw [List.drop_eq_getElem_cons cj, ← hye, knownF] at hk; obtain ⟨bs, hsm, hk⟩ := Option.bind_eq_some_iff.mp hk; have HSM := am_ hsm; have HKT := am_ (show (bs = true → b = true) ∧ (bs = false → knownF k x (out.drop (j + 1)) = some b) from ⟨fun e => by rw [if_pos e] at hk; exact (Option.some.inj hk).symm, fun e => by rw [if_neg (by simp [e])] at hk; exact hk⟩); clear hy0 hy1 hh1 hg0 hye hg1 cj HJ HKB HBI hsm hk; go_upto_region 14 with (fail)
                  refine start_ (n := 13) (S := fun w' => w'.cell? (ado.add x12.toNat) = some (.slice hA y.length hc) ∧ w'.cell? (adl.add x10.toNat) = some (.slice gA x.length gc)) (ds := [12]) #[false, false, false, false, false, false, false, false, false, false, false, false, false] (by kernel_rfl) rfl rfl ⟨hz1, hz2⟩ (fun hHeld => ?_); refine with_tabW reach14.tab14 reach14.bits14 (fun HT_ HW_ => ?_); generalize wk.drew = w10 at HBK hHeld ⊢
                  refine pD_ 0 (some 40) HT_ (h := ?_); refine pD_ 1 (some 41) HT_ (h := ?_); refine pD_ 2 (some 42) HT_ (h := ?_); refine pD_ 3 (some 43) HT_ (h := ?_); refine pD_ 4 (some 44) HT_ (h := ?_); refine tD2_ 5 (some 45) HT_ HW_ hHeld (h := ?_); refine pD_ 6 (some 46) HT_ (h := ?_); refine pD_ 7 (some 47) HT_ (h := ?_); refine pD_ 8 (some 48) HT_ (h := ?_); refine tD2_ 9 (some 49) HT_ HW_ hHeld (h := ?_); refine oN_ 10 (some 50) HT_ (fun K hK => ?_); refine goes_ Try.func194 (by kernel_rfl) rfl #[.slice hA y.length hc, .slice gA x.length gc] (by rfl) rfl rfl (by (try simp only [List.map_toArray, List.map_cons, List.map_nil]); first | done | rfl) ?_; refine (spec_l15Same.calls k hA hc y gA gc x bs _ (Kd.C_below HYC.out.1 HBK.out) HYC.out.2 (Kd.C_below HXC.out.1 HBK.out) HXC.out.2 HSM.out).mono ?_; rintro e_ w11 ⟨rfl, ⟨nd, hw11⟩⟩; refine ⟨_, rfl, ?_⟩; have BL := am_ (show Below w10.heap.size w10 w11 from by rw [hw11]; exact pw_below_drewN (Below.refl _ _) nd); clear hw11; refine hK.out _ _ ⟨(BL.out.cell (World.block_lt_of_cell? _ _ hHeld.1)).trans hHeld.1, (BL.out.cell (World.block_lt_of_cell? _ _ hHeld.2)).trans hHeld.2⟩ (fun hHeld => ?_); clear hK K; refine nm_ 50 (h := ?_); replace HBK := am_ (below_step HBK.out BL.out); clear BL; refine pD_ 11 (some 51) HT_ (h := ?_); refine pD_ 12 (some 11) HT_ (h := ?_); refine done_ (done_of HT_.out (by kernel_rfl)) ?_; go_wp2; go_roundg (gk - 1)
                  case measure => have := HJ1.out; omega
                  case rel => exact ⟨j + 1, bs, wrap64 (x12 + 1), by first | rfl | (simp; done), by first | rfl | (simp; done), ⟨hwj.out, HJ1.out.2.1, by have := HJ1.out; omega⟩, HKT, HBK⟩
              · have hknb : kn = b := by
                  have ej : j = out.length := by have := HJ.out; omega
                  cases kn with
                  | true => exact (HKB.out.1 rfl).symm
                  | false =>
                    have h := HKB.out.2 rfl; rw [ej, List.drop_length] at h; exact Option.some.inj h
                subst hknb; have Y1 := eq_false (show ¬ x12 < (ho.length : Int) by have := HJ.out.1; have := HI1.out; omega); have Y1b : decide (x12 < (ho.length : Int)) = false := decide_eq_false (by have := HJ.out.1; have := HI1.out; omega); have HBX := am_ HBI.out; have HFL := am_ (show fs.length = out.length from HO.out.len); have HO1 := am_ (HO.out.fr HBI.out); have HL1 := am_ (HL.out.fr HBI.out); have HB1 := am_ (below_step HB.out HBI.out); have hz2 : wk.cell? (adl.add x10.toNat) = some (Value.slice gA x.length gc) := (HBI.out.cell (World.block_lt_of_cell? wI _ HZ2.out)).trans HZ2.out; clear HO HL HB HBI HKB HJ cj; cases kn with
                | true =>
                  have HA2 := am_ (show addAll k (l.drop (i + 1)) out = some o from by have h := HAD1.out; rw [if_pos rfl] at h; exact h); go_wp2; go_roundg (gk2 - 1)
                  case measure => have := HI1.out; omega
                  case rel => exact ⟨i + 1, wrap64 (x10 + 1), ho, out, fs, by first | rfl | (simp; done), ⟨hwi.out, HI1.out.2.1, by have := HI1.out; omega⟩, HA2, HPF, HO1, HL1, HB1⟩
                | false =>
                  have HA2 := am_ (show addAll k (l.drop (i + 1)) (out ++ [x]) = some o from by have h := HAD1.out; rw [if_neg (by simp)] at h; exact h); have hf0 : 0 ≤ x8 := by have := X8.out; omega
                  have hf1 : x8 < (fs.length : Int) := by have := X8.out; have := HPF.out; omega
                  have F0 := eq_true hf0; have F1 := eq_true hf1; have F0b : decide (0 ≤ x8) = true := decide_eq_true hf0; have F1b : decide (x8 < (fs.length : Int)) = true := decide_eq_true hf1; have HF01 := am_ (show 0 ≤ x8 ∧ x8 < (fs.length : Int) from ⟨hf0, hf1⟩); clear hf0 hf1; go_wp2_with (first
                    | ((with_reducible refine gate_builtin (b := .append) (xs := #[.tmp 54, .tmp 59]) rfl ?_); at_builtin
                       refine Kd.R_append hdrK (w0 := w) w.heap.size rfl (.tmp 54) (.tmp 59) 39 34 (.slice none 0 0) 24 rfl Try.underlying39 info34 rfl (by decide) (by omega) (.slice Ao ho.length co) ho ((gA, x.length, gc) : Hd) [.slice gA x.length gc] (fun _ => True) (fun k_ => False) rfl rfl rfl (fun _ h => h.elim) (fun _ _ => trivial) HO1.out.ll.own HB1.out HB1.out.size (by have := HI1.out; have := HOL.out; omega) ?_; intro v6 w7 ho7 hb7 hg7 hat7; have hfr7 := Fr35.grown hg7 (Kd.R_typed HO1.out.ll.own); have HLN := am_ (show Kd.R (Kd.int .i64) 3 w7 w.heap.size (fun _ => True) (.slice Af fs.length cf) fs from Kd.R_over' HO1.out.far (Kd.R_typed HO1.out.ll.own) (by decide) hg7); have HO2 := am_ (show LL w7 w.heap.size (fun _ => True) (fun k_ => (okP k_ ∨ w.heap.size ≤ k_) ∧ some k_ ≠ (Value.slice Af fs.length cf).ownBlock) v6 (ho ++ [((gA, x.length, gc) : Hd)]) (out ++ [x]) from ⟨ho7, by rw [List.length_append, List.length_append, HO1.out.ll.len]; rfl, fun j h y hj hy => by
                         rcases Nat.lt_or_ge j ho.length with hlt | hge
                         · rw [List.getElem?_append_left hlt] at hj; rw [List.getElem?_append_left (by rw [← HO1.out.ll.len]; exact hlt)] at hy; exact (HO1.out.ll.row j h y hj hy).fr hfr7
                         · rw [List.getElem?_append_right hge] at hj; rw [List.getElem?_append_right (by rw [← HO1.out.ll.len]; exact hge)] at hy; have hjj : j - ho.length = 0 := by
                             have := (List.getElem?_eq_some_iff.1 hj).1; simp at this
                             omega
                           rw [hjj] at hj; rw [← HO1.out.ll.len, hjj] at hy; simp at hj hy
                           subst hj; subst hy; exact (Row3.fr HRX.out (Fr35.below HBX.out)).fr hfr7⟩)
                       have HL2 := am_ (show LL w7 w.heap.size (fun k_ => True ∧ some k_ ≠ v6.ownBlock) (fun k_ => (okP k_ ∨ w.heap.size ≤ k_) ∧ some k_ ≠ (Value.slice Af fs.length cf).ownBlock) (.slice (some adl) hl.length cl) hl l from ⟨Kd.R_after (ok := fun _ => True) HL1.out.own hg7 hat7, HL1.out.len, fun j h y hj hy => (HL1.out.row j h y hj hy).fr hfr7⟩); have HB2 := am_ hb7; obtain ⟨adf, ef, zf⟩ := Kd.at_int (Kd.R_reads' HLN.out).2.2 x8 HF01.out.1 HF01.out.2; subst ef; clear ho7 hb7 hg7 hat7 hfr7 HO1 HL1 HB1)
                    | ((with_reducible refine gate_builtin (b := .append) (xs := #[.tmp 61, .tmp 67]) rfl ?_); at_builtin
                       refine Kd.R_append (Kd.int .i64) (w0 := w) w.heap.size rfl (.tmp 61) (.tmp 67) 34 3 (.int .i64 0) 8 rfl Try.underlying34 info3 rfl (by decide) (by omega) (.slice (some adf) fs.length cf) fs (wrap64 (rd fs x8 + 1)) [.int .i64 (wrap64 (rd fs x8 + 1))] (fun _ => True) (fun k_ => False) rfl rfl rfl (fun _ h => h.elim) (fun _ _ => trivial) HLN.out HB2.out HB2.out.size (by have := HFL.out; have := HOL.out; omega) ?_; intro v7 w8 ho8 hb8 hg8 hat8; have HO3 := am_ (show Out w8 (fun k_ => okP k_ ∨ w.heap.size ≤ k_) w.heap.size v6 v7 (ho ++ [((gA, x.length, gc) : Hd)]) (out ++ [x]) (fs ++ [wrap64 (rd fs x8 + 1)]) from ⟨⟨Kd.R_over' HO2.out.own (Kd.R_typed HLN.out) (by decide) hg8, HO2.out.len, fun j h y hj hy => (HO2.out.row j h y hj hy).after hg8 hat8⟩, ho8, by rw [List.length_append, List.length_append, HFL.out]; rfl⟩); have HL3 := am_ (show LL w8 w.heap.size (fun k_ => True ∧ some k_ ≠ v6.ownBlock) (fun k_ => (okP k_ ∨ w.heap.size ≤ k_) ∧ some k_ ≠ v7.ownBlock) (.slice (some adl) hl.length cl) hl l from ⟨Kd.R_over' HL2.out.own (Kd.R_typed HLN.out) (by decide) hg8, HL2.out.len, fun j h y hj hy => (HL2.out.row j h y hj hy).after hg8 hat8⟩); have HB3 := am_ hb8; clear ho8 hb8 hg8 hat8 HO2 HL2 HB2 HLN zf))
                  go_roundg (gk2 - 1)
                  case measure => have := HI1.out; omega
                  case rel => exact ⟨i + 1, wrap64 (x10 + 1), _, out ++ [x], _, by first | rfl | (simp; done), ⟨hwi.out, HI1.out.2.1, by have := HI1.out; omega⟩, HA2, ⟨by have := HPF.out; rw [List.length_append]; omega⟩, HO3, HL3, HB3⟩
          · have ei : i = l.length := by have := HI.out; omega
            have hado := HAD.out; rw [ei, List.drop_length] at hado; obtain rfl := Option.some.inj (show some out = some o from hado); have X1 := eq_false (show ¬ x10 < (hl.length : Int) by have := HI.out.1; omega); have X1b : decide (x10 < (hl.length : Int)) = false := decide_eq_false (by have := HI.out.1; omega); clear ei hado ci HAD HI hll hol; go_wp2; go_roundg gko
            case measure => have := hgko; omega
            case rel => exact ⟨p + 1, wrap64 (x8 + 1), ho, out, fs, by first | rfl | (simp; done), ⟨hwr.out, by have := HKQ.out; omega⟩, ⟨by rw [hgko]; exact HFN.out⟩, HO, HB⟩
      · rw [if_neg cp] at hf; by_cases cp2 : p < 1000000
        case neg => rw [if_neg cp2] at hf; cases hf
        rw [if_pos cp2] at hf; have HEQ := am_ (Option.some.inj hf); have hlo := HO.out.ll.len; have X1 := eq_false (show ¬ x8 < (ho.length : Int) by have := HI.out.1; omega); have X1b : decide (x8 < (ho.length : Int)) = false := decide_eq_false (by have := HI.out.1; omega); clear hf cp cp2 hlo HI HF; go_wp2; go_ret2
        exact ⟨_, _, _, rfl, by rw [← HEQ.out]; exact ⟨HO.out.ll.own, HO.out.ll.len, fun j h x hj hx => Kd.R_mono (HO.out.ll.row j h x hj hx) (fun _ hk => hk.1)⟩, HB.out⟩
end Go.Proofs.Ytoajlmlobaccdaa.P
namespace Go.Proofs.Ytoajlmlobaccdaa.P
open Go.RowKit Go.Proofs.YtoajlmlobaccdaaW.PrintWords Go.Proofs.YtoajlmlobaccdaaW.PrintLast Go.Proofs.YtoajlmlobaccdaaW.PrintMore
attribute [local go_sem] ptrOf_slice
attribute [local go_sem] min2_str max2_int min2_int max_two min_two max_three min_three max_four min_four
set_option linter.unusedVariables false
set_option linter.unusedSimpArgs false
mutual
def spec_l15First.l0 : Nat → Int → List Int → List Int → Option (List Int)
 | 0, _, _, _ => none
 | k + 1, x0, x3, x4 => if (x3.length : Int) < (wrap64 (Int.tdiv (wrap64 (x0 * (wrap64 (x0 - 1)))) 2)) then (spec_l15First.l1 k x0 x3 x4 0) else (some x3)
def spec_l15First.l1 : Nat → Int → List Int → List Int → Int → Option (List Int)
 | 0, _, _, _, _ => none
 | k + 1, x0, x3, x4, x5 => if 0 ≤ x5 then (if x5 < (x4.length : Int) then (if 0 ≤ (wrap64 (x5 + 1)) then (if (wrap64 (x5 + 1)) < (x4.length : Int) then (if (rd x4 x5) > (rd x4 (wrap64 (x5 + 1))) then (spec_l15First.l1 k x0 x3 x4 (wrap64 (x5 + 1))) else ((spec_l12Swap.f x4 x5).bind fun bt219 => (if x3.length < 17592186044416 then (spec_l15First.l0 k x0 (x3 ++ [x5]) bt219.2) else (none)))) else (none)) else (none)) else (none)) else (none)
end
def spec_l15First.f (k : Nat) (a0 : Int) : Option (List Int) := (spec_l12Start.f k a0).bind fun t214 => (spec_l15First.l0 k a0 (([] : List Int)) t214)
theorem spec_l15First.mono_l : ∀ k, (∀ y0 y1 y2, LeO (spec_l15First.l0 k y0 y1 y2) (spec_l15First.l0 (k + 1) y0 y1 y2)) ∧ (∀ y0 y1 y2 y3, LeO (spec_l15First.l1 k y0 y1 y2 y3) (spec_l15First.l1 (k + 1) y0 y1 y2 y3))
 | 0 => ⟨fun _ _ _ r h => by simp [spec_l15First.l0] at h, fun _ _ _ _ r h => by simp [spec_l15First.l1] at h⟩
 | k + 1 => by
  obtain ⟨ih0, ih1⟩ := spec_l15First.mono_l k; refine ⟨?_, ?_⟩ <;> (intros; (first | unfold spec_l15First.l0 | unfold spec_l15First.l1); repeat' first | (with_reducible first | apply ih0 | apply ih1 | apply spec_l12Start.mono | exact LeO.refl _ | exact LeO.none _ | refine LeO.ite ?_ ?_ | refine LeO.bind ?_ (fun _ => ?_)) | exact LeO.none _)
theorem spec_l15First.mono : ∀ a0 k, LeO (spec_l15First.f k a0) (spec_l15First.f (k + 1) a0) := by
 intro a0 k; obtain ⟨ih0, ih1⟩ := spec_l15First.mono_l k; unfold spec_l15First.f
 repeat' first | (with_reducible first | apply ih0 | apply ih1 | apply spec_l12Start.mono | exact LeO.refl _ | exact LeO.none _ | refine LeO.ite ?_ ?_ | refine LeO.bind ?_ (fun _ => ?_)) | exact LeO.none _
set_option maxHeartbeats 8000000 in
set_option maxRecDepth 100000 in
theorem spec_l15First.calls (k : Nat) (a0 : Int) (r : List Int) (w : World) (h : spec_l15First.f k a0 = some r) :
  Calls Try.prog 149 #[.int .i64 a0] w fun e w' => ∃ v0_ : Value, e = .returned (v0_) ∧ Kd.R (Kd.int .i64) 3 w' w.heap.size (fun _ => True) v0_ r ∧ Below w.heap.size w w' := by
 have HB := am_ (Below.refl w.heap.size w); have H : ((spec_l12Start.f k a0).bind fun t214 => (spec_l15First.l0 k a0 (([] : List Int)) t214)) = some r := h; clear h; obtain ⟨y211, hy211⟩ : ∃ y_ : List Int, y_ = (([] : List Int)) := ⟨_, rfl⟩; replace H : ((spec_l12Start.f k a0).bind fun t214 => (spec_l15First.l0 k a0 y211 t214)) = some r := yH_ hy211 H; have Ny211 := am_ hy211; clear hy211; obtain ⟨t214, A2, H⟩ := bnd_ H; have H' := am_ H; clear H; go_enter Try.func149, Try.ntmps149
 go_wp2_with (first | ((with_reducible refine gd_ 6 rfl ?_); refine Kd.R_lit (Kd.int .i64) _ 3 ?hg (N := 6) ?hd (xs := ([] : List Int)) (inner := []) (ok := fun _ => True) (okp := fun _ => True) ?hr ?hp (fun _ hk => hk) trivial (Below.refl _ _) (Nat.le_refl _) (by simp) ?_; (case hd => rfl); (case hg => rfl); (case hr => first | (go_simp; done) | (go_simp; rfl)); (case hp => exact (Reps.none _ _)); intro v212 w3 ho4 hb hg_ hnew_; clear hg_ hnew_; (first | rw [← Ny211.out] at ho4 | (simp only [Int.reduceToNat] at ho4; rw [← Ny211.out] at ho4)); have HO213 := rl0_ ho4 HB; replace HB := bs0_ HB hb; clear hb ho4) | (go_at_call 145; (with_reducible refine (spec_l12Start.calls k a0 t214 _ A2.out).mono ?_); rintro e w5 ⟨v215, rfl, ho0, hb⟩; have HO216 := am_ (Kd.R_lower (Kd.R_new' ho0 (Kd.R_lt (rx_ HO213.out))) (below_size (bx0 HB.out))); replace HO213 := re_ HO213 ho0 hb; replace HB := bs0_ HB hb; try clear hb; (try clear ho0)))
 repeat (go_quiet (first | ((with_reducible refine gd_ 6 rfl ?_); refine Kd.R_lit (Kd.int .i64) _ 3 ?hg (N := 6) ?hd (xs := ([] : List Int)) (inner := []) (ok := fun _ => True) (okp := fun _ => True) ?hr ?hp (fun _ hk => hk) trivial (Below.refl _ _) (Nat.le_refl _) (by simp) ?_; (case hd => rfl); (case hg => rfl); (case hr => first | (go_simp; done) | (go_simp; rfl)); (case hp => exact (Reps.none _ _)); intro v212 w3 ho4 hb hg_ hnew_; clear hg_ hnew_; (first | rw [← Ny211.out] at ho4 | (simp only [Int.reduceToNat] at ho4; rw [← Ny211.out] at ho4)); have HO213 := rl0_ ho4 HB; replace HB := bs0_ HB hb; clear hb ho4) | (go_at_call 145; (with_reducible refine (spec_l12Start.calls k a0 t214 _ A2.out).mono ?_); rintro e w5 ⟨v215, rfl, ho0, hb⟩; have HO216 := am_ (Kd.R_lower (Kd.R_new' ho0 (Kd.R_lt (rx_ HO213.out))) (below_size (bx0 HB.out))); replace HO213 := re_ HO213 ho0 hb; replace HB := bs0_ HB hb; try clear hb; (try clear ho0))); try go_wp2_with (first | ((with_reducible refine gd_ 6 rfl ?_); refine Kd.R_lit (Kd.int .i64) _ 3 ?hg (N := 6) ?hd (xs := ([] : List Int)) (inner := []) (ok := fun _ => True) (okp := fun _ => True) ?hr ?hp (fun _ hk => hk) trivial (Below.refl _ _) (Nat.le_refl _) (by simp) ?_; (case hd => rfl); (case hg => rfl); (case hr => first | (go_simp; done) | (go_simp; rfl)); (case hp => exact (Reps.none _ _)); intro v212 w3 ho4 hb hg_ hnew_; clear hg_ hnew_; (first | rw [← Ny211.out] at ho4 | (simp only [Int.reduceToNat] at ho4; rw [← Ny211.out] at ho4)); have HO213 := rl0_ ho4 HB; replace HB := bs0_ HB hb; clear hb ho4) | (go_at_call 145; (with_reducible refine (spec_l12Start.calls k a0 t214 _ A2.out).mono ?_); rintro e w5 ⟨v215, rfl, ho0, hb⟩; have HO216 := am_ (Kd.R_lower (Kd.R_new' ho0 (Kd.R_lt (rx_ HO213.out))) (below_size (bx0 HB.out))); replace HO213 := re_ HO213 ho0 hb; replace HB := bs0_ HB hb; try clear hb; (try clear ho0))))
 go_loopg [3] k (fun kq v3 w' => ∃ (x3_1 : List Int) (x4_1 : List Int), Aside0 (spec_l15First.l0 kq a0 x3_1 x4_1 = some r) ∧ Aside0 (kq ≤ k) ∧ Aside0 (Kd.R (Kd.int .i64) 3 w' w.heap.size (fun k_ => some k_ ≠ (v215 : Value).ownBlock) v3 x3_1) ∧ Aside0 (Kd.R (Kd.int .i64) 3 w' w.heap.size (fun k_ => some k_ ≠ (v3 : Value).ownBlock) v215 x4_1) ∧ Aside0 (Below w.heap.size w w'))
 case atStart => exact ⟨(y211), (t214), H', ⟨Nat.le_refl _⟩, ⟨by refine rx_ ?_; exact Kd.R_mono HO213.out (fun _ hk => hk.2)⟩, ⟨by refine rx_ ?_; exact Kd.R_mono HO216.out (fun _ hk => hk.2)⟩, bX0_ HB⟩
 case round =>
  clear H'; obtain ⟨x3_1, x4_1, HA, HK1, HO_3, HO_4, HB⟩ := hrel; cases gk with
  | zero => exact absurd HA.out (by simp [spec_l15First.l0])
  | succ k1 =>
   have H := HA.out; clear HA; simp only [spec_l15First.l0] at H
   by_cases c6 : (x3_1.length : Int) < (wrap64 (Int.tdiv (wrap64 (a0 * (wrap64 (a0 - 1)))) 2))
   ·rw [if_pos c6] at H; have c6b0 := decide_eq_true c6; clear c6; have H' := am_ H; clear H; obtain ⟨Ao7, co7, eo7⟩ := Kd.R_slice HO_3.out; subst eo7; go_wp2; repeat (go_quiet (fail); try go_wp2)
    go_loopg [5] k1 (fun kq v5 w' => ∃ (x5_2 : Int), v5 = .int .i64 x5_2 ∧ Aside0 (spec_l15First.l1 kq a0 x3_1 x4_1 x5_2 = some r) ∧ Aside0 (kq ≤ k1) ∧ Aside0 (Kd.R (Kd.int .i64) 3 w' w.heap.size (fun k_ => some k_ ≠ (v215 : Value).ownBlock) (.slice Ao7 x3_1.length co7) x3_1) ∧ Aside0 (Kd.R (Kd.int .i64) 3 w' w.heap.size (fun k_ => some k_ ≠ ((.slice Ao7 x3_1.length co7) : Value).ownBlock) v215 x4_1) ∧ Aside0 (Below w.heap.size w w'))
    case atStart => exact ⟨(0), vt_, H', ⟨Nat.le_refl _⟩, rX_ HO_3, rX_ HO_4, bX0_ HB⟩
    case round =>
     clear H'; try clear c6b0
     obtain ⟨x5_2, rfl, HA, HK2, HO_3, HO_4, HB⟩ := hrel; cases gk with
     | zero => exact absurd HA.out (by simp [spec_l15First.l1])
     | succ k2 =>
      have H := HA.out; clear HA; simp only [spec_l15First.l1] at H
      by_cases c8 : 0 ≤ x5_2
      ·rw [if_pos c8] at H; have c8b0 := decide_eq_true c8; clear c8; by_cases c9 : x5_2 < (x4_1.length : Int)
       ·rw [if_pos c9] at H; have c9b0 := decide_eq_true c9; clear c9; obtain ⟨ji10, hji10⟩ : ∃ j_ : Int, (wrap64 (x5_2 + 1)) = j_ := ⟨_, rfl⟩; first | rw [hji10] at H | simp only [hji10] at H
        have hji10w : (IntKind.i64.wrap (x5_2 + 1)) = ji10 := (i64_w _).trans hji10; by_cases c11 : 0 ≤ (ji10)
        ·rw [if_pos c11] at H; have c11b0 := decide_eq_true c11; clear c11; by_cases c12 : (ji10) < (x4_1.length : Int)
         ·rw [if_pos c12] at H; have c12b0 := decide_eq_true c12; clear c12; by_cases c13 : (rd x4_1 x5_2) > (rd x4_1 (ji10))
          ·rw [if_pos c13] at H; have c13b0 := decide_eq_true c13; clear c13; have H' := am_ H; clear H; obtain ⟨Ao14, co14, eo14⟩ := Kd.R_slice HO_4.out; subst eo14; have p217 : 0 ≤ (x5_2 : Int) := oda_; have q217 : x5_2 < (x4_1.length : Int) := oda_; obtain ⟨ad217, e217, hx217_0⟩ := Kd.at_int (Kd.R_reads' HO_4.out).2.2 x5_2 p217 q217; cases e217; replace p217 := eq_true p217; replace q217 := eq_true q217; have p218 : 0 ≤ ((ji10) : Int) := oda_; have q218 : (ji10) < (x4_1.length : Int) := oda_; obtain ⟨ad218, e218, hx218_0⟩ := Kd.at_int (Kd.R_reads' HO_4.out).2.2 (ji10) p218 q218; obtain rfl : ad217 = ad218 := (by injection e218); replace p218 := eq_true p218; replace q218 := eq_true q218; go_wp2; repeat (go_quiet (fail); try go_wp2)
           go_roundg k2
           case measure => have := HK1.out; have := HK2.out; omega
           case rel => exact ⟨(ji10), (by first | rfl | (simp; done) | (simp only [← hji10] <;> (first | rfl | simp)) | (simp [*]; done)), H', hl2_ HK1 HK2, rX_ HO_3, rX_ HO_4, bX0_ HB⟩
          ·rw [if_neg c13] at H; have c13b0 := decide_eq_false c13; clear c13; replace H := Option.bind_eq_some_iff.mp H; obtain ⟨⟨t219, t220⟩, A150, H⟩ := H; replace H : (if x3_1.length < 17592186044416 then (spec_l15First.l0 k2 a0 (x3_1 ++ [x5_2]) t220) else (none)) = some r := H; have A15 := am_ A150; clear A150; by_cases c16 : x3_1.length < 17592186044416
           ·rw [if_pos c16] at H; have LMc16 := am_ c16; clear c16; obtain ⟨y221, hy221⟩ : ∃ y_ : List Int, y_ = (x3_1 ++ [x5_2]) := ⟨_, rfl⟩; replace H : (spec_l15First.l0 k2 a0 y221 t220) = some r := yH_ hy221 H; have Ny221 := am_ hy221; clear hy221; have H' := am_ H; clear H; obtain ⟨Ao17, co17, eo17⟩ := Kd.R_slice HO_4.out; subst eo17; have p217 : 0 ≤ (x5_2 : Int) := oda_; have q217 : x5_2 < (x4_1.length : Int) := oda_; obtain ⟨ad217, e217, hx217_0⟩ := Kd.at_int (Kd.R_reads' HO_4.out).2.2 x5_2 p217 q217; cases e217; replace p217 := eq_true p217; replace q217 := eq_true q217; have p218 : 0 ≤ ((ji10) : Int) := oda_; have q218 : (ji10) < (x4_1.length : Int) := oda_; obtain ⟨ad218, e218, hx218_0⟩ := Kd.at_int (Kd.R_reads' HO_4.out).2.2 (ji10) p218 q218; obtain rfl : ad217 = ad218 := (by injection e218); replace p218 := eq_true p218; replace q218 := eq_true q218; go_wp2_with (first | (go_at_call 147; (with_reducible refine (spec_l12Swap.calls (fun k_ => some k_ = (.slice (some ad217) x4_1.length co17 : Value).ownBlock) (.slice (some ad217) x4_1.length co17) x4_1 x5_2 t219 t220 w _ ?side1 ?side2 A15.out).mono ?_); (case side1 => exact bx0 HB.out); (case side2 => exact Kd.R_tight rfl HO_4.out); rintro e w18 ⟨rfl, hy0, hb, hkp⟩; replace HO_3 := am_ (Kd.R_mono (ok' := fun k_ => some k_ ≠ (.slice (some ad217) x4_1.length co17 : Value).ownBlock) (Kd.R_keptB (HO_3.out) hkp (fun k_ hk_ hs_ => (hk_) hs_)) (fun k_ hk_ => hk_.1)); replace HO_4 := am_ (Kd.R_reok rfl hy0 (fun k_ e_ => HO_4.out.1 k_ e_)); replace HB := am_ hb; (try clear hb); (try clear hkp); (try clear hy0)) | ((with_reducible refine gate_builtin (b := .append) (xs := #[.tmp 32, .tmp 34]) rfl ?_); at_builtin; refine Kd.R_append (Kd.int .i64) (w0 := w) w.heap.size rfl (.tmp 32) (.tmp 34) 34 3 (.int .i64 0) 8 rfl Try.underlying34 info3 rfl (by decide) (by omega) (.slice Ao7 x3_1.length co7) x3_1 x5_2 [.int .i64 x5_2] (fun k_ => some k_ ≠ (.slice (some ad217) x4_1.length co17 : Value).ownBlock) (fun _ => False) rfl rfl ?aP (fun _ hk => hk.elim) ?aF ?aO ?aB ?aS ?aL ?_; (case aP => exact rfl); (case aB => exact (bx0 HB.out)); (case aF => exact (fun k_ hk => Kd.fresh' (Kd.R_lt (rx_ HO_4.out)) k_ hk)); (case aO => exact (rx_ HO_3.out)); (case aS => exact (below_size (bx0 HB.out))); (case aL => have := LMc16.out; omega); intro v222 w19 ho hb hg hat; rw [← Ny221.out] at ho; replace HO_4 := am_ (Kd.R_after (ok := (fun _ => True)) (by refine rx_ ?_; exact Kd.R_mono HO_4.out (fun _ hk => ⟨trivial, hk⟩)) hg hat); replace HB := am_ hb; have HO223 := am_ ho; clear HO_3; clear ho hb hg hat))
            repeat (go_quiet (first | (go_at_call 147; (with_reducible refine (spec_l12Swap.calls (fun k_ => some k_ = (.slice (some ad217) x4_1.length co17 : Value).ownBlock) (.slice (some ad217) x4_1.length co17) x4_1 x5_2 t219 t220 w _ ?side1 ?side2 A15.out).mono ?_); (case side1 => exact bx0 HB.out); (case side2 => exact Kd.R_tight rfl HO_4.out); rintro e w18 ⟨rfl, hy0, hb, hkp⟩; replace HO_3 := am_ (Kd.R_mono (ok' := fun k_ => some k_ ≠ (.slice (some ad217) x4_1.length co17 : Value).ownBlock) (Kd.R_keptB (HO_3.out) hkp (fun k_ hk_ hs_ => (hk_) hs_)) (fun k_ hk_ => hk_.1)); replace HO_4 := am_ (Kd.R_reok rfl hy0 (fun k_ e_ => HO_4.out.1 k_ e_)); replace HB := am_ hb; (try clear hb); (try clear hkp); (try clear hy0)) | ((with_reducible refine gate_builtin (b := .append) (xs := #[.tmp 32, .tmp 34]) rfl ?_); at_builtin; refine Kd.R_append (Kd.int .i64) (w0 := w) w.heap.size rfl (.tmp 32) (.tmp 34) 34 3 (.int .i64 0) 8 rfl Try.underlying34 info3 rfl (by decide) (by omega) (.slice Ao7 x3_1.length co7) x3_1 x5_2 [.int .i64 x5_2] (fun k_ => some k_ ≠ (.slice (some ad217) x4_1.length co17 : Value).ownBlock) (fun _ => False) rfl rfl ?aP (fun _ hk => hk.elim) ?aF ?aO ?aB ?aS ?aL ?_; (case aP => exact rfl); (case aB => exact (bx0 HB.out)); (case aF => exact (fun k_ hk => Kd.fresh' (Kd.R_lt (rx_ HO_4.out)) k_ hk)); (case aO => exact (rx_ HO_3.out)); (case aS => exact (below_size (bx0 HB.out))); (case aL => have := LMc16.out; omega); intro v222 w19 ho hb hg hat; rw [← Ny221.out] at ho; replace HO_4 := am_ (Kd.R_after (ok := (fun _ => True)) (by refine rx_ ?_; exact Kd.R_mono HO_4.out (fun _ hk => ⟨trivial, hk⟩)) hg hat); replace HB := am_ hb; have HO223 := am_ ho; clear HO_3; clear ho hb hg hat)); try go_wp2_with (first | (go_at_call 147; (with_reducible refine (spec_l12Swap.calls (fun k_ => some k_ = (.slice (some ad217) x4_1.length co17 : Value).ownBlock) (.slice (some ad217) x4_1.length co17) x4_1 x5_2 t219 t220 w _ ?side1 ?side2 A15.out).mono ?_); (case side1 => exact bx0 HB.out); (case side2 => exact Kd.R_tight rfl HO_4.out); rintro e w18 ⟨rfl, hy0, hb, hkp⟩; replace HO_3 := am_ (Kd.R_mono (ok' := fun k_ => some k_ ≠ (.slice (some ad217) x4_1.length co17 : Value).ownBlock) (Kd.R_keptB (HO_3.out) hkp (fun k_ hk_ hs_ => (hk_) hs_)) (fun k_ hk_ => hk_.1)); replace HO_4 := am_ (Kd.R_reok rfl hy0 (fun k_ e_ => HO_4.out.1 k_ e_)); replace HB := am_ hb; (try clear hb); (try clear hkp); (try clear hy0)) | ((with_reducible refine gate_builtin (b := .append) (xs := #[.tmp 32, .tmp 34]) rfl ?_); at_builtin; refine Kd.R_append (Kd.int .i64) (w0 := w) w.heap.size rfl (.tmp 32) (.tmp 34) 34 3 (.int .i64 0) 8 rfl Try.underlying34 info3 rfl (by decide) (by omega) (.slice Ao7 x3_1.length co7) x3_1 x5_2 [.int .i64 x5_2] (fun k_ => some k_ ≠ (.slice (some ad217) x4_1.length co17 : Value).ownBlock) (fun _ => False) rfl rfl ?aP (fun _ hk => hk.elim) ?aF ?aO ?aB ?aS ?aL ?_; (case aP => exact rfl); (case aB => exact (bx0 HB.out)); (case aF => exact (fun k_ hk => Kd.fresh' (Kd.R_lt (rx_ HO_4.out)) k_ hk)); (case aO => exact (rx_ HO_3.out)); (case aS => exact (below_size (bx0 HB.out))); (case aL => have := LMc16.out; omega); intro v222 w19 ho hb hg hat; rw [← Ny221.out] at ho; replace HO_4 := am_ (Kd.R_after (ok := (fun _ => True)) (by refine rx_ ?_; exact Kd.R_mono HO_4.out (fun _ hk => ⟨trivial, hk⟩)) hg hat); replace HB := am_ hb; have HO223 := am_ ho; clear HO_3; clear ho hb hg hat)))
            go_roundg k2
            case measure => have := HK1.out; have := HK2.out; omega
            case rel => exact ⟨(y221), (t220), H', hl2_ HK1 HK2, rX_ HO223, ⟨by refine rx_ ?_; exact Kd.R_mono HO_4.out (fun _ hk => hk.2)⟩, bX0_ HB⟩
           ·rw [if_neg c16] at H; exact absurd H (by simp)
         ·rw [if_neg c12] at H; exact absurd H (by simp)
        ·rw [if_neg c11] at H; exact absurd H (by simp)
       ·rw [if_neg c9] at H; exact absurd H (by simp)
      ·rw [if_neg c8] at H; exact absurd H (by simp)
   ·rw [if_neg c6] at H; have c6b0 := decide_eq_false c6; clear c6; obtain rfl := Option.some.inj H; obtain ⟨Ao20, co20, eo20⟩ := Kd.R_slice HO_3.out; subst eo20; go_wp2; repeat (go_quiet (fail); try go_wp2)
    go_ret; exact ⟨_, by first | rfl | (simp [errW_none, errW_some] <;> rfl) | (simp [*, errW_none, errW_some] <;> rfl), by refine rx_ ?_; exact Kd.R_mono HO_3.out (fun _ hk => trivial), bx0 HB.out⟩
def spec_NormalWiring.f (k : Nat) (a0 : Int) (l1 : List Int) : Option (List Int × Bool) := (spec_SignsOfWiring.f k a0 l1).bind fun bt200 => (if bt200.2.2 = true then ((spec_WiringOfSigns.f k bt200.1 bt200.2.1).bind fun bt204 => (some (bt204.1, bt204.2))) else (some ((([] : List Int)), false)))
theorem spec_NormalWiring.mono : ∀ a0 a1 k, LeO (spec_NormalWiring.f k a0 a1) (spec_NormalWiring.f (k + 1) a0 a1) := by
 intro a0 a1 k; unfold spec_NormalWiring.f
 repeat' first | (with_reducible first | apply spec_SignsOfWiring.mono | apply spec_WiringOfSigns.mono | exact LeO.refl _ | exact LeO.none _ | refine LeO.ite ?_ ?_ | refine LeO.bind ?_ (fun _ => ?_)) | exact LeO.none _
set_option maxHeartbeats 8000000 in
set_option maxRecDepth 100000 in
theorem spec_NormalWiring.calls (k : Nat) (a0 : Int) (A1 : Option Addr) (c1 : Nat) (l1 : List Int) (r1 : List Int) (r2 : Bool) (w : World) (hr1 : Kd.C (Kd.int .i64) w A1 l1.length l1) (hc1 : l1.length ≤ c1) (h : spec_NormalWiring.f k a0 l1 = some (r1, r2)) :
  Calls Try.prog 148 #[.int .i64 a0, .slice A1 l1.length c1] w fun e w' => ∃ v0_ : Value, e = .returned (.tuple #[v0_, .bool r2]) ∧ Kd.R (Kd.int .i64) 3 w' w.heap.size (fun _ => True) v0_ r1 ∧ Below w.heap.size w w' := by
 have hu31 := Try.underlying31; have HR1 := am_ hr1; have HC1 := am_ hc1; clear hr1 hc1; have HB := am_ (Below.refl w.heap.size w); have H : ((spec_SignsOfWiring.f k a0 l1).bind fun bt200 => (if bt200.2.2 = true then ((spec_WiringOfSigns.f k bt200.1 bt200.2.1).bind fun bt204 => (some (bt204.1, bt204.2))) else (some ((([] : List Int)), false)))) = some (r1, r2) := h; clear h; replace H := Option.bind_eq_some_iff.mp H; obtain ⟨⟨t200, t201, t202⟩, A30, H⟩ := H; replace H : (if t202 = true then ((spec_WiringOfSigns.f k t200 t201).bind fun bt204 => (some (bt204.1, bt204.2))) else (some ((([] : List Int)), false))) = some (r1, r2) := H; have A3 := am_ A30; clear A30; by_cases c4 : t202 = true
 ·subst c4; replace H := ifT_ H; replace H := Option.bind_eq_some_iff.mp H; obtain ⟨⟨t204, t207⟩, A50, H⟩ := H; replace H : (some (t204, t207)) = some (r1, r2) := H; have A5 := am_ A50; clear A50; simp only [Option.some.injEq, Prod.mk.injEq] at H
  obtain ⟨rfl, rfl⟩ := H; go_enter Try.func148, Try.ntmps148
  go_wp2_with (first | ((with_reducible refine gc_ 81 rfl ?_); refine gL_ (some 13) Try.func81 #[.int .i64 a0, .slice A1 l1.length c1] ?_; (with_reducible refine (spec_SignsOfWiring.calls k a0 _ _ l1 t200 t201 true _ ?side1 ?side2 A3.out).mono ?_); (case side1 => repeat (first | exact HR1.out | (with_reducible refine Kd.C_alloc ?_ _) | (with_reducible refine Kd.C_drewN ?_ _) | (with_reducible refine Kd.C_drew ?_))); (case side2 => exact HC1.out); rintro e w6 ⟨rfl, hb⟩; refine ⟨_, rfl, ?_⟩; replace HB := bs0_ HB hb; try clear hb) | ((with_reducible refine gd_ 6 rfl ?_); refine be_ 6 #[.int .i64 0, .string (⟨#[]⟩ : ByteArray)] 31 ?_; intro gb203 hg w7 hbox hb; have BK203 := am_ hbox; have GW203 := gw0_ HB hg; have GE203 := GW203; replace HB := bs0_ HB hb; clear hb hbox hg; obtain ⟨hcz8_0, hfz8_0, hcz8_1, hfz8_1⟩ := bk2_ BK203) | ((with_reducible refine gc_ 166 rfl ?_); refine gR_ (some 21) Try.func166 #[.agg #[.int .i64 t200, .string t201]] (spec_WiringOfSigns.calls k t200 t201 t204 t207 _ A5.out) ?_; intro w9 v205 ho0 hb; have HO206 := rl1_ ho0 HB GE203; replace BK203 := am_ (blk_below (g := gb203) (o := .cells #[.int .i64 t200, .string t201] 31 (0, 0)) (by refine kx_ ?_; refine blk_put (cs := #[.int .i64 t200, .string (⟨#[]⟩ : ByteArray)]) ?_ 1 _ rfl; refine kx_ ?_; refine blk_put (cs := #[.int .i64 0, .string (⟨#[]⟩ : ByteArray)]) ?_ 0 _ rfl; refine kx_ ?_; exact BK203.out) hb); replace HB := bs1_ HB hb GE203; try clear hb; (try clear ho0)))
  go_ret2
  exact ⟨_, by first | rfl | (simp [errW_none, errW_some] <;> rfl) | (simp [*, errW_none, errW_some] <;> rfl), rx_ HO206.out, bx1 HB.out GE203.out⟩
 ·replace c4 := Bool.eq_false_iff.mpr c4; subst c4; replace H := ifF_ H; obtain ⟨y208, hy208⟩ : ∃ y_ : List Int, y_ = (([] : List Int)) := ⟨_, rfl⟩; replace H : (some (y208, false)) = some (r1, r2) := yH_ hy208 H; have Ny208 := am_ hy208; clear hy208; simp only [Option.some.injEq, Prod.mk.injEq] at H
  obtain ⟨rfl, rfl⟩ := H; go_enter Try.func148, Try.ntmps148
  go_wp2_with (first | ((with_reducible refine gc_ 81 rfl ?_); refine gL_ (some 13) Try.func81 #[.int .i64 a0, .slice A1 l1.length c1] ?_; (with_reducible refine (spec_SignsOfWiring.calls k a0 _ _ l1 t200 t201 false _ ?side1 ?side2 A3.out).mono ?_); (case side1 => repeat (first | exact HR1.out | (with_reducible refine Kd.C_alloc ?_ _) | (with_reducible refine Kd.C_drewN ?_ _) | (with_reducible refine Kd.C_drew ?_))); (case side2 => exact HC1.out); rintro e w10 ⟨rfl, hb⟩; refine ⟨_, rfl, ?_⟩; replace HB := bs0_ HB hb; try clear hb) | ((with_reducible refine gd_ 6 rfl ?_); refine be_ 6 #[.int .i64 0, .string (⟨#[]⟩ : ByteArray)] 31 ?_; intro gb203 hg w11 hbox hb; have BK203 := am_ hbox; have GW203 := gw0_ HB hg; have GE203 := GW203; replace HB := bs0_ HB hb; clear hb hbox hg; obtain ⟨hcz12_0, hfz12_0, hcz12_1, hfz12_1⟩ := bk2_ BK203) | ((with_reducible refine gd_ 18 rfl ?_); refine Kd.R_lit (Kd.int .i64) _ 3 ?hg (N := 18) ?hd (xs := ([] : List Int)) (inner := []) (ok := fun _ => True) (okp := fun _ => True) ?hr ?hp (fun _ hk => hk) trivial (Below.refl _ _) (Nat.le_refl _) (by simp) ?_; (case hd => rfl); (case hg => rfl); (case hr => first | (go_simp; done) | (go_simp; rfl)); (case hp => exact (Reps.none _ _)); intro v209 w13 ho14 hb hg_ hnew_; clear hg_ hnew_; (first | rw [← Ny208.out] at ho14 | (simp only [Int.reduceToNat] at ho14; rw [← Ny208.out] at ho14)); have HO210 := rl1_ ho14 HB GE203; replace BK203 := am_ (blk_below (g := gb203) (o := .cells #[.int .i64 t200, .string t201] 31 (0, 0)) (by refine kx_ ?_; refine blk_put (cs := #[.int .i64 t200, .string (⟨#[]⟩ : ByteArray)]) ?_ 1 _ rfl; refine kx_ ?_; refine blk_put (cs := #[.int .i64 0, .string (⟨#[]⟩ : ByteArray)]) ?_ 0 _ rfl; refine kx_ ?_; exact BK203.out) hb); replace HB := bs1_ HB hb GE203; clear hb ho14))
  go_ret2
  exact ⟨_, by first | rfl | (simp [errW_none, errW_some] <;> rfl) | (simp [*, errW_none, errW_some] <;> rfl), rx_ HO210.out, bx1 HB.out GE203.out⟩
end Go.Proofs.Ytoajlmlobaccdaa.P
namespace Go.Proofs.Ytoajlmlobaccdaa.P
open Go.RowKit Go.Proofs.YtoajlmlobaccdaaW.PrintWords Go.Proofs.YtoajlmlobaccdaaW.PrintLast Go.Proofs.YtoajlmlobaccdaaW.PrintMore
attribute [local go_sem] ptrOf_slice
set_option linter.unusedVariables false
set_option linter.unusedSimpArgs false
def putRest (k : Nat) : List (List Int) → List (List Int) → Option (List (List Int))
  | [], out => some out
  | x :: r, out => (spec_l14Put.f k out x).bind fun o => putRest k r o
theorem putAll_mono (k : Nat) : ∀ l out, LeO (putRest k l out) (putRest (k + 1) l out)
  | [], _ => LeO.refl _
  | x :: r, out => LeO.bind (spec_l14Put.mono _ _ _) (fun _ => putAll_mono k r _)
def spec_NormalsOf.f (k : Nat) (n : Int) : Option (List (List Int)) := (spec_l1In.f n 3 5).bind fun b => if b = true then (spec_l15First.f k n).bind fun a => (spec_NormalWiring.f k n a).bind fun w => (spec_l15Reach.f k n w.1).bind fun l => if l.length ≤ 1000000 then putRest k l [] else none else some []
theorem spec_NormalsOf.mono : ∀ a0 k, LeO (spec_NormalsOf.f k a0) (spec_NormalsOf.f (k + 1) a0) := fun a0 k => LeO.bind (LeO.refl _) (fun _ => LeO.ite (LeO.bind (spec_l15First.mono _ _) (fun _ => LeO.bind (spec_NormalWiring.mono _ _ _) (fun _ => LeO.bind (spec_l15Reach.mono _ _ _) (fun _ => LeO.ite (putAll_mono _ _ _) (LeO.refl _))))) (LeO.refl _))
theorem LL.kept {w w1 : World} {base : Nat} {ok okI P : Nat → Prop} {v : Value} {hs : List Hd} {xs : List (List Int)} (h : LL w base ok okI v hs xs) (hk : Kept w w1 P) (hd : ∀ k, ok k → ¬ P k) (hf : Fr35 w w1) : LL w1 base ok okI v hs xs :=
  ⟨Kd.R_step h.own (fun k ho hlt => hk.2 k hlt (hd k ho)), h.len, fun j h0 x hj hx => (h.row j h0 x hj hx).fr hf⟩
set_option maxHeartbeats 8000000 in
set_option maxRecDepth 100000 in
theorem spec_NormalsOf.calls (k : Nat) (n : Int) (r : List (List Int)) (w : World) (h : spec_NormalsOf.f k n = some r) :
    Calls Try.prog 80 #[.int .i64 n] w fun e w' => ∃ (v : Value) (hs : List Hd), e = .returned v ∧ LL w' w.heap.size (fun _ => True) (fun k_ => w.heap.size ≤ k_) v hs r ∧ Below w.heap.size w w' := by
  obtain ⟨b, A1_, H⟩ := Option.bind_eq_some_iff.mp h; clear h; have A1 := am_ A1_; have HB0 := am_ (Below.refl w.heap.size w); clear A1_; cases b with
  | false =>
    obtain rfl := Option.some.inj (show some ([] : List (List Int)) = some r from H); clear H; go_enter Try.func80, Try.ntmps80
    go_wp2_with (first
      | ((with_reducible refine gd_ 9 rfl ?_); refine Kd.R_lit hdrK _ 34 ?hg (N := 9) ?hd (xs := ([] : List Hd)) (inner := []) (ok := fun _ => True) (okp := fun _ => True) ?hr ?hp (fun _ hk => hk) trivial HB0.out HB0.out.size (by simp) ?_; (case hd => rfl); (case hg => rfl); (case hr => first | (go_simp; done) | (go_simp; rfl)); (case hp => exact (Reps.none _ _)); intro v3 w3 ho hb hg_ hnew_
         have HO := am_ (LL.nil (okI := fun k_ => w.heap.size ≤ k_) ho); have HB := am_ hb; clear ho hb hg_ hnew_)
      | (go_at_call 79; refine (spec_l1In.calls n 3 5 false _ A1.out).mono ?_; rintro e w4 ⟨rfl, ⟨nd, hw4⟩⟩
         have BL := am_ (show Below w3.heap.size w3 w4 from by rw [hw4]; exact pw_below_drewN (Below.refl _ _) nd); have HO1 := am_ (HO.out.fr BL.out); have HB1 := am_ (below_step HB.out BL.out); clear hw4 HO HB))
    go_ret; exact ⟨_, _, rfl, HO1.out, HB1.out⟩
  | true =>
    replace H : ((spec_l15First.f k n).bind fun a => (spec_NormalWiring.f k n a).bind fun w => (spec_l15Reach.f k n w.1).bind fun l => if l.length ≤ 1000000 then putRest k l [] else none) = some r := by simpa using H
    obtain ⟨a, A2_, H0⟩ := Option.bind_eq_some_iff.mp H; clear H; obtain ⟨⟨x, ok⟩, A3_, H⟩ := Option.bind_eq_some_iff.mp H0; clear H0; obtain ⟨l, A4_, H0⟩ := Option.bind_eq_some_iff.mp H; clear H; by_cases hz : l.length ≤ 1000000
    case neg => rw [if_neg hz] at H0; cases H0
    rw [if_pos hz] at H0; have A2 := am_ A2_; have A3 := am_ A3_; have A4 := am_ A4_; have A5 := am_ H0; have HZ := am_ hz; clear A2_ A3_ A4_ H0 hz; go_enter Try.func80, Try.ntmps80
    go_wp2_with (first
      | ((with_reducible refine gd_ 9 rfl ?_); refine Kd.R_lit hdrK _ 34 ?hg (N := 9) ?hd (xs := ([] : List Hd)) (inner := []) (ok := fun _ => True) (okp := fun _ => True) ?hr ?hp (fun _ hk => hk) trivial HB0.out HB0.out.size (by simp) ?_; (case hd => rfl); (case hg => rfl); (case hr => first | (go_simp; done) | (go_simp; rfl)); (case hp => exact (Reps.none _ _)); intro v3 w3 ho hb hg_ hnew_
         have HO := am_ (LL.nil (okI := fun k_ => w.heap.size ≤ k_) ho); have HB := am_ hb; clear ho hb hg_ hnew_)
      | (go_at_call 79; refine (spec_l1In.calls n 3 5 true _ A1.out).mono ?_; rintro e w4 ⟨rfl, ⟨nd, hw4⟩⟩
         have BL := am_ (show Below w3.heap.size w3 w4 from by rw [hw4]; exact pw_below_drewN (Below.refl _ _) nd); have HO1 := am_ (HO.out.fr BL.out); have HB1 := am_ (below_step HB.out BL.out); clear hw4 HO HB BL)
      | (go_at_call 149; refine (spec_l15First.calls k n a _ A2.out).mono ?_; rintro e w5 ⟨v5, rfl, ho, hb⟩
         obtain ⟨Aa, ca, rfl⟩ := Kd.R_slice ho; have HAC := am_ (Kd.R_reads' ho).2; have HO2 := am_ (HO1.out.fr hb); have HB2 := am_ (below_step HB1.out hb); clear ho hb HO1 HB1)
      | (go_at_call 148; refine (spec_NormalWiring.calls k n Aa ca a x ok _ HAC.out.2 HAC.out.1 A3.out).mono ?_; rintro e w6 ⟨v6, rfl, ho, hb⟩
         obtain ⟨Ax, cx, rfl⟩ := Kd.R_slice ho; have HRX := am_ (Row3.of_R ho HB2.out.size); have HO3 := am_ (HO2.out.fr hb); have HB3 := am_ (below_step HB2.out hb); clear ho hb HO2 HB2)
      | (go_at_call 150; refine (spec_l15Reach.calls k _ n (Ax, x.length, cx) x l _ HRX.out A4.out).mono ?_; rintro e w7 ⟨v7, vf, hl, rfl, hL, hb⟩
         have HL := am_ (show LL w7 w.heap.size (fun k_ => w6.heap.size ≤ k_ ∧ k_ < w7.heap.size) (fun k_ => w.heap.size ≤ k_) v7 hl l from ⟨Kd.R_lower (Kd.R_mono (Kd.R_bound hL.own) (fun k_ hk => ⟨hk.2.1, hk.2.2.1⟩)) HB3.out.size, hL.len, fun j h x_ hj hx => Kd.R_mono (hL.row j h x_ hj hx) (fun k_ hk => hk.elim id (fun h_ => Nat.le_trans HB3.out.size h_))⟩); have HO4 := am_ (show LL w7 w.heap.size (fun k_ => k_ < w6.heap.size ∨ w7.heap.size ≤ k_) (fun k_ => w.heap.size ≤ k_) v3 [] [] from (show LL w6 w.heap.size (fun k_ => k_ < w6.heap.size ∨ w7.heap.size ≤ k_) (fun k_ => w.heap.size ≤ k_) v3 [] [] from ⟨Kd.R_mono (Kd.R_bound HO3.out.own) (fun k_ hk => .inl hk.2.2.1), HO3.out.len, HO3.out.row⟩).fr hb); have HB4 := am_ (below_step HB3.out hb); have HSZ := am_ hb.size; clear hL hb HO3 HB3))
    obtain ⟨Al, cl, rfl⟩ := Kd.R_slice HL.out.own; obtain ⟨s6, hs6⟩ : ∃ s, s = w6.heap.size := ⟨_, rfl⟩; obtain ⟨s7, hs7⟩ : ∃ s, s = w7.heap.size := ⟨_, rfl⟩; have HS7 := am_ (show s7 ≤ w7.heap.size from Nat.le_of_eq hs7); rw [← hs6, ← hs7] at HL HO4; clear hs6 hs7; go_loopg [3, 8] (l.length + 1) (fun kq v3 v8 w' => ∃ (i : Nat) (x8 : Int) (ho : List Hd) (out : List (List Int)), v8 = .int .i64 x8 ∧ Aside0 (x8 = (i : Int) ∧ i ≤ l.length ∧ kq + i = l.length + 1) ∧ Aside0 (putRest k (l.drop i) out = some r) ∧ Aside0 (LL w' w.heap.size (fun k_ => k_ < s6 ∨ s7 ≤ k_) (fun k_ => w.heap.size ≤ k_) v3 ho out) ∧ Aside0 (LL w' w.heap.size (fun k_ => s6 ≤ k_ ∧ k_ < s7) (fun k_ => w.heap.size ≤ k_) (.slice Al hl.length cl) hl l) ∧ Aside0 (s7 ≤ w'.heap.size) ∧ Aside0 (Below w.heap.size w w'))
    case atStart => exact ⟨0, 0, [], [], rfl, ⟨rfl, Nat.zero_le _, rfl⟩, A5, HO4, HL, HS7, HB4⟩
    case round =>
      clear A5 HO4 HL HS7 HB4; obtain ⟨i, x8, ho, out, rfl, HI, HP, HO, HL, HS7, HB⟩ := hrel; rename World => wA
      have hll := HL.out.len; by_cases ci : i < l.length
      · have hx0 : 0 ≤ x8 := by have := HI.out.1; omega
        have hx1 : x8 < (hl.length : Int) := by have := HI.out.1; omega
        obtain ⟨adl, e0, z0⟩ := at_hd (Kd.R_reads' HL.out.own).2.2 x8 hx0 hx1; subst e0; obtain ⟨h0, hh0⟩ : ∃ h0, h0 = rdOf (none, 0, 0) hl x8 := ⟨_, rfl⟩; rw [← hh0] at z0; have hg0 : hl[i]? = some h0 := by
          rw [hh0, HI.out.1]; unfold rdOf
          rw [Int.toNat_natCast, List.getD_eq_getElem?_getD, List.getElem?_eq_getElem (by omega)]; rfl
        have hp := HP.out; rw [List.drop_eq_getElem_cons ci, putRest] at hp; obtain ⟨y, hye⟩ : ∃ y, y = l[i] := ⟨_, rfl⟩; rw [← hye] at hp; have hg1 : l[i]? = some y := by rw [hye]; exact List.getElem?_eq_getElem ci
        obtain ⟨o, hpo, hp⟩ := Option.bind_eq_some_iff.mp hp; have HRY := am_ (HL.out.row i h0 y hg0 hg1); obtain ⟨gA, gn, gc⟩ := h0; obtain rfl : gn = y.length := by have hre := HRY.out.read.1; unfold encH at hre; injection hre
        replace z0 : _ = some (Value.slice gA y.length gc) := z0; have X0 := eq_true hx0; have X1 := eq_true hx1; have X0b : decide (0 ≤ x8) = true := decide_eq_true hx0; have X1b : decide (x8 < (hl.length : Int)) = true := decide_eq_true hx1; have HPO := am_ hpo; have HP1 := am_ hp; have HI1 := am_ (show x8 = (i : Int) ∧ i + 1 ≤ l.length ∧ gk + i = l.length + 1 from ⟨HI.out.1, ci, HI.out.2.2⟩); have hwi : Aside0 (wrap64 (x8 + 1) = ((i + 1 : Nat) : Int)) := ⟨by have h1 := HI.out.1; have h2 := HZ.out; rw [h1]; unfold wrap64; omega⟩; clear hx0 hx1 hh0 hg0 hye hg1 hpo hp ci HI HP hll; go_wp2_with (first
          | (go_at_call 151; refine (spec_l14Put.calls k (fun k_ => k_ < s6 ∨ s7 ≤ k_) (fun k_ => w.heap.size ≤ k_) _ (gA, y.length, gc) ho out y o w _ HB.out HO.out HRY.out HPO.out).mono ?_; rintro e w9 ⟨v9, ho9, rfl, hL9, hB9, hK9, hF9⟩
             have HO1 := am_ (hL9.mono_ (ok' := fun k_ => k_ < s6 ∨ s7 ≤ k_) (fun k_ hk => hk.elim id (fun h_ => .inr (Nat.le_trans HS7.out h_)))); have HL1 := am_ (HL.out.kept hK9 (fun k_ h1 h2 => h2.elim (fun h3 => by omega) (fun h3 => by omega)) hF9); have HS8 := am_ (Nat.le_trans HS7.out hK9.1); have HB1 := am_ hB9; clear hL9 hB9 hK9 hF9 HO HL HB HS7 z0))
        go_roundg (gk - 1)
        case measure => have := HI1.out; omega
        case rel => exact ⟨i + 1, wrap64 (x8 + 1), ho9, o, by first | rfl | (simp; done), ⟨hwi.out, HI1.out.2.1, by have := HI1.out; omega⟩, HP1, HO1, HL1, HS8, HB1⟩
      · have ei : i = l.length := by have := HI.out; omega
        have hp := HP.out; rw [ei, List.drop_length] at hp; obtain rfl := Option.some.inj (show some out = some r from hp); have X1 := eq_false (show ¬ x8 < (hl.length : Int) by have := HI.out.1; omega); have X1b : decide (x8 < (hl.length : Int)) = false := decide_eq_false (by have := HI.out.1; omega); clear ei hp ci HP HI hll; go_wp2; go_ret; have hfin := HO.out.mono_ (ok' := fun _ => True) (fun _ _ => trivial); first | exact ⟨_, _, rfl, hfin, HB.out⟩ | exact ⟨_, rfl, ⟨_, hfin⟩, HB.out⟩
end Go.Proofs.Ytoajlmlobaccdaa.P
namespace Go.Proofs.Ytoajlmlobaccdaa.P
open Go.RowKit Go.Proofs.YtoajlmlobaccdaaW.PrintWords Go.Proofs.YtoajlmlobaccdaaW.PrintLast Go.Proofs.YtoajlmlobaccdaaW.PrintMore
attribute [local go_sem] ptrOf_slice
attribute [local go_sem] min2_str max2_int min2_int max_two min_two max_three min_three max_four min_four
set_option linter.unusedVariables false
set_option linter.unusedSimpArgs false
def spec_l19Fits.f (k : Nat) (a0_0 : Int) (a0_1 : ByteArray) : Option (Bool) := (spec_AreSigns.f k a0_0 a0_1).bind fun t233 => (if t233 = true then (some (decide (a0_0 ≤ 6))) else (some false))
theorem spec_l19Fits.mono : ∀ a0 a1 k, LeO (spec_l19Fits.f k a0 a1) (spec_l19Fits.f (k + 1) a0 a1) := by
 intro a0 a1 k; unfold spec_l19Fits.f
 repeat' first | (with_reducible first | apply spec_AreSigns.mono | exact LeO.refl _ | exact LeO.none _ | refine LeO.ite ?_ ?_ | refine LeO.bind ?_ (fun _ => ?_)) | exact LeO.none _
set_option maxHeartbeats 8000000 in
set_option maxRecDepth 100000 in
theorem spec_l19Fits.calls (k : Nat) (a0_0 : Int) (a0_1 : ByteArray) (r : Bool) (w : World) (h : spec_l19Fits.f k a0_0 a0_1 = some r) :
  Calls Try.prog 153 #[.agg #[.int .i64 a0_0, .string a0_1]] w fun e w' => e = .returned (.bool r) ∧ Below w.heap.size w w' := by
 have hu31 := Try.underlying31; have HB := am_ (Below.refl w.heap.size w); have H : ((spec_AreSigns.f k a0_0 a0_1).bind fun t233 => (if t233 = true then (some (decide (a0_0 ≤ 6))) else (some false))) = some r := h; clear h; obtain ⟨t233, A2, H⟩ := bnd_ H; by_cases c3 : t233 = true
 ·subst c3; replace H := ifT_ H; obtain rfl := Option.some.inj H; go_enter Try.func153, Try.ntmps153
  go_wp2_with (first | ((with_reducible refine gd_ 1 rfl ?_); refine be_ 1 #[.int .i64 a0_0, .string a0_1] 31 ?_; intro gb232 hg w4 hbox hb; have BK232 := am_ hbox; have GW232 := gw0_ HB hg; have GE232 := GW232; replace HB := bs0_ HB hb; clear hb hbox hg; obtain ⟨hcz5_0, hfz5_0, hcz5_1, hfz5_1⟩ := bk2_ BK232) | ((with_reducible refine gc_ 137 rfl ?_); refine gB_ (some 4) Try.func137 #[.agg #[.int .i64 a0_0, .string a0_1]] (spec_AreSigns.calls k a0_0 a0_1 true _ A2.out) ?_; intro w6 hb; replace BK232 := bb_ BK232 hb; replace HB := bs1_ HB hb GE232; try clear hb; obtain ⟨hcz7_0, hfz7_0, hcz7_1, hfz7_1⟩ := bk2_ BK232))
  go_ret; exact ⟨er_, bx1 HB.out GE232.out⟩
 ·replace c3 := Bool.eq_false_iff.mpr c3; subst c3; replace H := ifF_ H; obtain rfl := Option.some.inj H; go_enter Try.func153, Try.ntmps153
  go_wp2_with (first | ((with_reducible refine gd_ 1 rfl ?_); refine be_ 1 #[.int .i64 a0_0, .string a0_1] 31 ?_; intro gb232 hg w8 hbox hb; have BK232 := am_ hbox; have GW232 := gw0_ HB hg; have GE232 := GW232; replace HB := bs0_ HB hb; clear hb hbox hg; obtain ⟨hcz9_0, hfz9_0, hcz9_1, hfz9_1⟩ := bk2_ BK232) | ((with_reducible refine gc_ 137 rfl ?_); refine gB_ (some 4) Try.func137 #[.agg #[.int .i64 a0_0, .string a0_1]] (spec_AreSigns.calls k a0_0 a0_1 false _ A2.out) ?_; intro w10 hb; replace BK232 := bb_ BK232 hb; replace HB := bs1_ HB hb GE232; try clear hb))
  go_ret; exact ⟨er_, bx1 HB.out GE232.out⟩
def spec_OppositeSigns.l0 : Nat → Int → Int → ByteArray → Int → ByteArray → Option (Int × ByteArray × Bool)
 | 0, _, _, _, _, _ => none
 | k + 1, x5, x235000, x235001, x238000, x238001 => if x5 < (x235001.size : Int) then (if 0 ≤ x5 then ((spec_l1Bit.f ((bt x235001 x5) == 45)).bind fun t238 => ((spec_l3Byte.f t238).bind fun t239 => (if x238001.size + t239.size ≤ 9223372036854775807 then (spec_OppositeSigns.l0 k (wrap64 (x5 + 1)) x235000 x235001 x238000 (x238001 ++ t239)) else (none)))) else (none)) else (some (x238000, x238001, true))
def spec_OppositeSigns.f (k : Nat) (a0_0 : Int) (a0_1 : ByteArray) : Option (Int × ByteArray × Bool) := (spec_AreSigns.f k a0_0 a0_1).bind fun t236 => (if t236 = true then (spec_OppositeSigns.l0 k 0 a0_0 a0_1 a0_0 (⟨#[]⟩ : ByteArray)) else (some (0, (⟨#[]⟩ : ByteArray), false)))
theorem spec_OppositeSigns.mono_l : ∀ k, (∀ y0 y1 y2 y3 y4, LeO (spec_OppositeSigns.l0 k y0 y1 y2 y3 y4) (spec_OppositeSigns.l0 (k + 1) y0 y1 y2 y3 y4))
 | 0 => fun _ _ _ _ _ r h => by simp [spec_OppositeSigns.l0] at h
 | k + 1 => by
  have ih0 := spec_OppositeSigns.mono_l k
  ·intro y0 y1 y2 y3 y4; unfold spec_OppositeSigns.l0
   repeat' first | (with_reducible first | apply ih0 | apply spec_AreSigns.mono | exact LeO.refl _ | exact LeO.none _ | refine LeO.ite ?_ ?_ | refine LeO.bind ?_ (fun _ => ?_)) | exact LeO.none _
theorem spec_OppositeSigns.mono : ∀ a0 a1 k, LeO (spec_OppositeSigns.f k a0 a1) (spec_OppositeSigns.f (k + 1) a0 a1) := by
 intro a0 a1 k; have ih0 := spec_OppositeSigns.mono_l k; unfold spec_OppositeSigns.f
 repeat' first | (with_reducible first | apply ih0 | apply spec_AreSigns.mono | exact LeO.refl _ | exact LeO.none _ | refine LeO.ite ?_ ?_ | refine LeO.bind ?_ (fun _ => ?_)) | exact LeO.none _
def spec_OppositeSigns.T7 : Bool × List (List Nat × List Nat) := (true, [([], []), ([0], [0]), ([], []), ([2], [2]), ([], []), ([3, 4], [3, 4]), ([5], [5]), ([6], [6]), ([7, 7], [7]), ([1, 8], [1, 8]), ([0, 1, 2, 3, 4, 5, 6, 7, 8, 9], []), ([10, 9, 8, 0, 1, 2, 3, 4, 5, 6, 7, 8, 9], [9, 10])])
def spec_OppositeSigns.B7 : List Nat := [0, 1, 0, 4, 0, 28, 60, 124, 252, 511, 1023, 2047]
theorem spec_OppositeSigns.tab7 : rtab .any (opsOf Try.f154 7) = spec_OppositeSigns.T7 := by kernel_rfl
theorem spec_OppositeSigns.bits7 : waitsOk spec_OppositeSigns.T7.2 spec_OppositeSigns.B7 = true := by kernel_rfl
set_option maxHeartbeats 8000000 in
set_option maxRecDepth 100000 in
theorem spec_OppositeSigns.calls (k : Nat) (a0_0 : Int) (a0_1 : ByteArray) (r1 : Int) (r2 : ByteArray) (r3 : Bool) (w : World) (h : spec_OppositeSigns.f k a0_0 a0_1 = some (r1, r2, r3)) :
  Calls Try.prog 154 #[.agg #[.int .i64 a0_0, .string a0_1]] w fun e w' => e = .returned (.tuple #[.agg #[.int .i64 r1, .string r2], .bool r3]) ∧ Below w.heap.size w w' := by
 have hu31 := Try.underlying31; have HB := am_ (Below.refl w.heap.size w); have H : ((spec_AreSigns.f k a0_0 a0_1).bind fun t236 => (if t236 = true then (spec_OppositeSigns.l0 k 0 a0_0 a0_1 a0_0 (⟨#[]⟩ : ByteArray)) else (some (0, (⟨#[]⟩ : ByteArray), false)))) = some (r1, r2, r3) := h; clear h; obtain ⟨t236, A2, H⟩ := bnd_ H; by_cases c3 : t236 = true
 ·subst c3; replace H := ifT_ H; have H' := am_ H; clear H; go_enter Try.func154, Try.ntmps154
  go_wp2_with (first | ((with_reducible refine gd_ 1 rfl ?_); refine be_ 1 #[.int .i64 a0_0, .string a0_1] 31 ?_; intro gb234 hg w4 hbox hb; have BK234 := am_ hbox; have GW234 := gw0_ HB hg; have GE234 := GW234; replace HB := bs0_ HB hb; clear hb hbox hg) | ((with_reducible refine gd_ 2 rfl ?_); refine be_ 2 #[.int .i64 0, .string (⟨#[]⟩ : ByteArray)] 31 ?_; intro gb235 hg w5 hbox hb; have BK235 := am_ hbox; have GW235 := gw1_ HB hg GE234; have GE235 := GW235; replace HB := bs1_ HB hb GE234; have NB234_235 := nl_ BK234 hg; have NB235_234 := ng_ BK234 hg; replace BK234 := bb_ BK234 hb; clear hb hbox hg; have hnb6 := NB234_235.out; have hnc6 := NB235_234.out; obtain ⟨hcz7_0, hfz7_0, hcz7_1, hfz7_1⟩ := bk2_ BK234) | ((with_reducible refine gc_ 137 rfl ?_); refine gB_ (some 7) Try.func137 #[.agg #[.int .i64 a0_0, .string a0_1]] (spec_AreSigns.calls k a0_0 a0_1 true _ A2.out) ?_; intro w8 hb; replace BK234 := bb_ BK234 hb; replace BK235 := bb_ BK235 hb; replace HB := bs2_ HB hb GE234 GE235; try clear hb; obtain ⟨hcz9_0, hfz9_0, hcz9_1, hfz9_1⟩ := bk2_ BK234) | ((with_reducible refine gd_ 4 rfl ?_); refine be_ 4 #[.int .i64 0, .string (⟨#[]⟩ : ByteArray)] 31 ?_; intro gb237 hg w10 hbox hb; have BK237 := am_ hbox; have GW237 := gw2_ HB hg GE234 GE235; have GE237 := GW237; replace HB := bs2_ HB hb GE234 GE235; have NB234_237 := nl_ BK234 hg; have NB237_234 := ng_ BK234 hg; replace BK234 := bb_ BK234 hb; have NB235_237 := nl_ BK235 hg; have NB237_235 := ng_ BK235 hg; replace BK235 := bb_ BK235 hb; clear hb hbox hg; have hnb11 := NB237_234.out; have hnc11 := NB234_237.out; have hnb12 := NB237_235.out; have hnc12 := NB235_237.out; obtain ⟨hcz13_0, hfz13_0, hcz13_1, hfz13_1⟩ := bk2_ BK237))
  go_loopg [5] k (fun kq v5 w' => ∃ (x5_1 : Int) (x238001_1 : ByteArray), v5 = .int .i64 x5_1 ∧ Aside0 (spec_OppositeSigns.l0 kq x5_1 a0_0 a0_1 a0_0 x238001_1 = some (r1, r2, r3)) ∧ Aside0 (kq ≤ k) ∧ Aside0 (w'.heap[gb234]? = some (.cells #[.int .i64 a0_0, .string a0_1] 31 (0, 0))) ∧ Aside0 (w'.heap[gb235]? = some (.cells #[.int .i64 0, .string (⟨#[]⟩ : ByteArray)] 31 (0, 0))) ∧ Aside0 (w'.heap[gb237]? = some (.cells #[.int .i64 a0_0, .string x238001_1] 31 (0, 0))) ∧ Aside0 (Below w.heap.size w w'))
  case atStart => exact ⟨(0), ((⟨#[]⟩ : ByteArray)), vt_, H', ⟨Nat.le_refl _⟩, ⟨by refine kx_ ?_; refine blk_far ?_ NB234_237.out _; refine kx_ ?_; refine blk_far ?_ NB234_237.out _; refine kx_ ?_; exact BK234.out⟩, ⟨by refine kx_ ?_; refine blk_far ?_ NB235_237.out _; refine kx_ ?_; refine blk_far ?_ NB235_237.out _; refine kx_ ?_; exact BK235.out⟩, ⟨by refine kx_ ?_; refine blk_put (cs := #[.int .i64 a0_0, .string (⟨#[]⟩ : ByteArray)]) ?_ 1 _ rfl; refine kx_ ?_; refine blk_put (cs := #[.int .i64 0, .string (⟨#[]⟩ : ByteArray)]) ?_ 0 _ rfl; refine kx_ ?_; exact BK237.out⟩, bX3_ HB GE234 GE235 GE237⟩
  case round =>
   clear H'; try clear c3 hcz13_0 hcz13_1 hcz7_0 hcz7_1 hcz9_0 hcz9_1 hfz13_0 hfz13_1 hfz7_0 hfz7_1 hfz9_0 hfz9_1
   obtain ⟨x5_1, x238001_1, rfl, HA, HK1, BK234, BK235, BK237, HB⟩ := hrel; cases gk with
   | zero => exact absurd HA.out (by simp [spec_OppositeSigns.l0])
   | succ k1 =>
    have H := HA.out; clear HA; simp only [spec_OppositeSigns.l0] at H
    by_cases c14 : x5_1 < (a0_1.size : Int)
    ·rw [if_pos c14] at H; have c14b0 := decide_eq_true c14; clear c14; by_cases c15 : 0 ≤ x5_1
     ·rw [if_pos c15] at H; have c15b0 := decide_eq_true c15; clear c15; obtain ⟨t238, A17, H⟩ := bnd_ H; obtain ⟨t239, A18, H⟩ := bnd_ H; by_cases c19 : x238001_1.size + t239.size ≤ 9223372036854775807
      ·rw [if_pos c19] at H; have c19b0 := eq_true c19; have c19b1 := decide_eq_true c19; try have c19b2 : (9223372036854775807 < x238001_1.size + t239.size) = False := eq_false (Nat.not_lt.2 c19)
       have H' := am_ H; clear H; have hnb20 := NB234_235.out; have hnc20 := NB235_234.out; have hnb21 := NB234_237.out; have hnc21 := NB237_234.out; obtain ⟨hcz22_0, hfz22_0, hcz22_1, hfz22_1⟩ := bk2_ BK234; try go_wp2
       replace BK234 := am_ (blk_drew BK234.out); replace BK235 := am_ (blk_drew BK235.out); replace BK237 := am_ (blk_drew BK237.out); replace HB := bd_ HB; have p16 : 0 ≤ (x5_1 : Int) := oda_; have q16 : x5_1 < (a0_1.size : Int) := oda_; have hx16 := bt_at a0_1 x5_1; replace p16 := eq_true p16; replace q16 := eq_true q16; refine start_ (n := 12) (S := fun w' => w'.cell? ⟨gb237, 0, none⟩ = some (.int .i64 a0_0) ∧ w'.cell? ⟨gb237, 1, none⟩ = some (.string x238001_1) ∧ w'.cell? ⟨gb234, 0, none⟩ = some (.int .i64 a0_0) ∧ w'.cell? ⟨gb234, 1, none⟩ = some (.string a0_1)) (ds := [11]) #[false, false, false, false, false, false, false, false, false, false, false, false] (by kernel_rfl) rfl rfl ⟨c0_ BK237, c1_ BK237, c0_ BK234, c1_ BK234⟩ (fun hHeld => ?_); refine with_tabW spec_OppositeSigns.tab7 spec_OppositeSigns.bits7 (fun HT_ HW_ => ?_); generalize wr.drew = w23 at BK234 BK235 BK237 HB hHeld ⊢
       refine pD_ 0 (some 20) HT_ (h := ?_); refine pD_ 2 (some 22) HT_ (h := ?_); refine pD_ 4 (some 24) HT_ (h := ?_); refine tD4_ 1 (some 21) HT_ HW_ hHeld (h := ?_); refine tD4_ 3 (some 23) HT_ HW_ hHeld (h := ?_); refine tD4_ 5 (some 25) HT_ HW_ hHeld (h := ?_); refine pD_ 6 (some 26) HT_ (h := ?_); refine oN_ 7 (some 27) HT_ (fun K hK => ?_); refine gO_ Try.func124 #[.bool ((bt a0_1 x5_1) == 45)] ?_; with_reducible refine (spec_l1Bit.calls ((bt a0_1 x5_1) == 45) t238 _ A17.out).mono ?_
       rintro e w' ⟨rfl, ⟨nd, rfl⟩⟩; refine ⟨_, rfl, ?_⟩; refine hK.out _ _ ⟨c0_ BK237, c1_ BK237, c0_ BK234, c1_ BK234⟩ (fun hHeld => ?_); clear hK K; refine nm_ 27 (h := ?_); refine oN_ 8 (some 28) HT_ (fun K hK => ?_); refine gO_ Try.func152 #[.int .i64 t238] ?_; with_reducible refine (spec_l3Byte.calls t238 t239 _ A18.out).mono ?_
       rintro e w' ⟨rfl, ⟨nd, rfl⟩⟩; refine ⟨_, rfl, ?_⟩; refine hK.out _ _ ⟨c0_ BK237, c1_ BK237, c0_ BK234, c1_ BK234⟩ (fun hHeld => ?_); clear hK K; refine nm_ 28 (h := ?_); refine pD_ 9 (some 29) HT_ (h := ?_); refine pD_ 10 (some 30) HT_ (h := ?_); refine last_ (i := 11) (N := none) #[true, true, true, true, true, true, true, true, true, true, true, true] rfl rfl (one_of HT_.out (by kernel_rfl)) (by decide) (fun K hK => ?_); have hs24 : w23.cell? ⟨gb237, 1, none⟩ = some (.string x238001_1) := (blk_cell BK237.out 1).trans rfl; have hfs24 := blk_frozen BK237.out 1; have hns24_0 := NB234_237.out; have hns24_1 := NB235_237.out; have hms24_0 := NB237_234.out; have hms24_1 := NB237_235.out; refine skip_ (w1 := ?_) (by rfl) rfl ?_ ?_; rotate_left
       ·go_simp
        rfl
       refine hK.out _ _ ?_; clear hK K; refine done_ (done_of HT_.out (by kernel_rfl)) ?_; try go_wp2
       go_roundg k1
       case measure => have := HK1.out; omega
       case rel => exact ⟨(wrap64 (x5_1 + 1)), (x238001_1 ++ t239), vt_, H', hl_ HK1, ⟨by refine kx_ ?_; refine blk_far ?_ NB234_237.out _; refine kx_ ?_; exact BK234.out⟩, ⟨by refine kx_ ?_; refine blk_far ?_ NB235_237.out _; refine kx_ ?_; exact BK235.out⟩, ⟨by refine kx_ ?_; refine blk_put (cs := #[.int .i64 a0_0, .string x238001_1]) ?_ 1 _ rfl; refine kx_ ?_; exact BK237.out⟩, bX3_ HB GE234 GE235 GE237⟩
      ·rw [if_neg c19] at H; exact absurd H (by simp)
     ·rw [if_neg c15] at H; exact absurd H (by simp)
    ·rw [if_neg c14] at H; have c14b0 := decide_eq_false c14; clear c14; simp only [Option.some.injEq, Prod.mk.injEq] at H
     obtain ⟨rfl, rfl, rfl⟩ := H; have hnb25 := NB234_235.out; have hnc25 := NB235_234.out; have hnb26 := NB234_237.out; have hnc26 := NB237_234.out; obtain ⟨hcz27_0, hfz27_0, hcz27_1, hfz27_1⟩ := bk2_ BK234; have hnb28 := NB237_235.out; have hnc28 := NB235_237.out; obtain ⟨hcz29_0, hfz29_0, hcz29_1, hfz29_1⟩ := bk2_ BK237; obtain ⟨hcz30_0, hfz30_0, hcz30_1, hfz30_1⟩ := bk2_ BK235; go_wp2; refine bodyPost_ret (results_ct rfl _ _ gb235 31 #[.int .i64 a0_0, .string x238001_1] (0, 0) _ rfl (by refine kx_ ?_; refine blk_put (cs := #[.int .i64 a0_0, .string (⟨#[]⟩ : ByteArray)]) ?_ 1 _ rfl; refine kx_ ?_; refine blk_put (cs := #[.int .i64 0, .string (⟨#[]⟩ : ByteArray)]) ?_ 0 _ rfl; refine kx_ ?_; exact BK235.out) Try.underlying31 rfl (by kernel_rfl)) rfl ?_; exact ⟨er_, bx3 HB.out GE234.out GE235.out GE237.out⟩
 ·replace c3 := Bool.eq_false_iff.mpr c3; subst c3; replace H := ifF_ H; simp only [Option.some.injEq, Prod.mk.injEq] at H
  obtain ⟨rfl, rfl, rfl⟩ := H; go_enter Try.func154, Try.ntmps154
  go_wp2_with (first | ((with_reducible refine gd_ 1 rfl ?_); refine be_ 1 #[.int .i64 a0_0, .string a0_1] 31 ?_; intro gb234 hg w31 hbox hb; have BK234 := am_ hbox; have GW234 := gw0_ HB hg; have GE234 := GW234; replace HB := bs0_ HB hb; clear hb hbox hg) | ((with_reducible refine gd_ 2 rfl ?_); refine be_ 2 #[.int .i64 0, .string (⟨#[]⟩ : ByteArray)] 31 ?_; intro gb235 hg w32 hbox hb; have BK235 := am_ hbox; have GW235 := gw1_ HB hg GE234; have GE235 := GW235; replace HB := bs1_ HB hb GE234; have NB234_235 := nl_ BK234 hg; have NB235_234 := ng_ BK234 hg; replace BK234 := bb_ BK234 hb; clear hb hbox hg; have hnb33 := NB234_235.out; have hnc33 := NB235_234.out; obtain ⟨hcz34_0, hfz34_0, hcz34_1, hfz34_1⟩ := bk2_ BK234) | ((with_reducible refine gc_ 137 rfl ?_); refine gB_ (some 7) Try.func137 #[.agg #[.int .i64 a0_0, .string a0_1]] (spec_AreSigns.calls k a0_0 a0_1 false _ A2.out) ?_; intro w35 hb; replace BK234 := bb_ BK234 hb; replace BK235 := bb_ BK235 hb; replace HB := bs2_ HB hb GE234 GE235; try clear hb; obtain ⟨hcz36_0, hfz36_0, hcz36_1, hfz36_1⟩ := bk2_ BK235))
  refine bodyPost_ret (results_ct rfl _ _ gb235 31 #[.int .i64 0, .string (⟨#[]⟩ : ByteArray)] (0, 0) _ rfl (by refine kx_ ?_; refine blk_put (cs := #[.int .i64 0, .string (⟨#[]⟩ : ByteArray)]) ?_ 1 _ rfl; refine kx_ ?_; refine blk_put (cs := #[.int .i64 0, .string (⟨#[]⟩ : ByteArray)]) ?_ 0 _ rfl; refine kx_ ?_; exact BK235.out) Try.underlying31 rfl (by kernel_rfl)) rfl ?_; exact ⟨er_, bx2 HB.out GE234.out GE235.out⟩
def spec_l12Place.l0 : Nat → List Int → Int → Int → Option (Int)
 | 0, _, _, _ => none
 | k + 1, x0, x1, x5 => if x5 < (x0.length : Int) then (if 0 ≤ x5 then (if (rd x0 x5) = x1 then (some x5) else (spec_l12Place.l0 k x0 x1 (wrap64 (x5 + 1)))) else (none)) else (some (-1))
def spec_l12Place.f (k : Nat) (l0 : List Int) (a1 : Int) : Option (Int) := spec_l12Place.l0 k l0 a1 0
theorem spec_l12Place.mono_l : ∀ k, (∀ y0 y1 y2, LeO (spec_l12Place.l0 k y0 y1 y2) (spec_l12Place.l0 (k + 1) y0 y1 y2))
 | 0 => fun _ _ _ r h => by simp [spec_l12Place.l0] at h
 | k + 1 => by
  have ih0 := spec_l12Place.mono_l k
  ·intro y0 y1 y2; unfold spec_l12Place.l0
   repeat' first | (with_reducible first | apply ih0 | exact LeO.refl _ | exact LeO.none _ | refine LeO.ite ?_ ?_ | refine LeO.bind ?_ (fun _ => ?_)) | exact LeO.none _
theorem spec_l12Place.mono : ∀ a0 a1 k, LeO (spec_l12Place.f k a0 a1) (spec_l12Place.f (k + 1) a0 a1) := by
 intro a0 a1 k; have ih0 := spec_l12Place.mono_l k; unfold spec_l12Place.f
 repeat' first | (with_reducible first | apply ih0 | exact LeO.refl _ | exact LeO.none _ | refine LeO.ite ?_ ?_ | refine LeO.bind ?_ (fun _ => ?_)) | exact LeO.none _
set_option maxHeartbeats 8000000 in
set_option maxRecDepth 100000 in
theorem spec_l12Place.calls (k : Nat) (A0 : Option Addr) (c0 : Nat) (l0 : List Int) (a1 : Int) (r : Int) (w : World) (hr0 : Kd.C (Kd.int .i64) w A0 l0.length l0) (hc0 : l0.length ≤ c0) (h : spec_l12Place.f k l0 a1 = some r) :
  Calls Try.prog 146 #[.slice A0 l0.length c0, .int .i64 a1] w fun e w' => e = .returned (.int .i64 r) ∧ Drawn0 w w' := by
 have HR0 := am_ hr0; have HC0 := am_ hc0; clear hr0 hc0; have H : (spec_l12Place.l0 k l0 a1 0) = some r := h; clear h; have H' := am_ H; clear H; go_enter Try.func146, Try.ntmps146
 go_wp2; go_loopg [5] k (fun kq v5 w' => ∃ (x5_1 : Int), v5 = .int .i64 x5_1 ∧ Aside0 (spec_l12Place.l0 kq l0 a1 x5_1 = some r) ∧ Aside0 (kq ≤ k) ∧ Drawn0 w w')
 case atStart => exact ⟨(0), vt_, H', ⟨Nat.le_refl _⟩, dr_⟩
 case round =>
  clear H'; obtain ⟨x5_1, rfl, HA, HK1, ⟨m1, rfl⟩⟩ := hrel; cases gk with
  | zero => exact absurd HA.out (by simp [spec_l12Place.l0])
  | succ k1 =>
   have H := HA.out; clear HA; simp only [spec_l12Place.l0] at H
   by_cases c3 : x5_1 < (l0.length : Int)
   ·rw [if_pos c3] at H; have c3b0 := decide_eq_true c3; clear c3; by_cases c4 : 0 ≤ x5_1
    ·rw [if_pos c4] at H; have c4b0 := decide_eq_true c4; clear c4; by_cases c5 : (rd l0 x5_1) = a1
     ·rw [if_pos c5] at H; obtain ⟨c5b0, c5b1⟩ := eqT_ c5; clear c5; obtain rfl := Option.some.inj H; have p240 : 0 ≤ (x5_1 : Int) := oda_; have q240 : x5_1 < (l0.length : Int) := oda_; obtain ⟨ad240, e240, hx240_0⟩ := Kd.at_int HR0.out x5_1 p240 q240; cases e240; replace p240 := eq_true p240; replace q240 := eq_true q240; go_wp2; go_ret; exact ⟨by first | rfl | (simp; done) | (simp [*]; done), dr_⟩
     ·rw [if_neg c5] at H; obtain ⟨c5b0, c5b1⟩ := eqF_ c5; have H' := am_ H; clear H; have p240 : 0 ≤ (x5_1 : Int) := oda_; have q240 : x5_1 < (l0.length : Int) := oda_; obtain ⟨ad240, e240, hx240_0⟩ := Kd.at_int HR0.out x5_1 p240 q240; cases e240; replace p240 := eq_true p240; replace q240 := eq_true q240; go_wp2; go_roundg k1
      case measure => have := HK1.out; omega
      case rel => exact ⟨(wrap64 (x5_1 + 1)), vt_, H', hl_ HK1, dr_⟩
    ·rw [if_neg c4] at H; exact absurd H (by simp)
   ·rw [if_neg c3] at H; have c3b0 := decide_eq_false c3; clear c3; obtain rfl := Option.some.inj H; go_wp2; go_ret; exact ⟨by first | rfl | (simp; done) | (simp [*]; done), dr_⟩
end Go.Proofs.Ytoajlmlobaccdaa.P
