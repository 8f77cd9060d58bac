/- What the law FnExactOrderMutations reaches, part 14: functions as plain Lean functions with the proofs that their calls come to them, and plain lemmas over these. Put together by a program (wip/pack.py). -/
import Derived.Test.YtajogmlblknfdaaKFnExactOrderMutationsc
import Derived.Test.YtajogmlblknfdaaKFnExactOrderMutationsm
import Derived.Test.YtajogmlblknfdaaKFnExactOrderMutationsh
import Derived.Test.YtajogmlblknfdaaKFnExactOrderMutationsa
import Derived.ChangeArms
import Derived.Deep.Slices
import Derived.Deep.Fields
import Derived.WideShapes
import Derived.KernelRfl
import Derived.Test.YtajogmlblknfdaaKFnExactOrderMutationsi
import Derived.Test.YtajogmlblknfdaaKFnExactOrderMutationsd
import Derived.Test.YtajogmlblknfdaaKFnExactOrderMutationsl
namespace Go.Proofs.Ytajogmlblknfdaa.P
open Go.RowKit Go.Proofs.YtajogmlblknfdaaW.PrintWords Go.Proofs.YtajogmlblknfdaaW.PrintLast Go.Proofs.YtajogmlblknfdaaW.PrintMore
attribute [local go_sem] ptrOf_slice
attribute [local go_sem] max2_int min2_int max_two min_two max_three min_three max_four min_four
set_option linter.unusedVariables false
set_option linter.unusedSimpArgs false
def laws_eqIntSS.l0 : Nat → List (List Int) → List (List Int) → Int → Option (Bool)
 | 0, _, _, _ => none
 | k + 1, x0, x1, x5 => if x5 < (x0.length : Int) then (if 0 ≤ x5 then (if x5 < (x1.length : Int) then ((laws_eqIntS.f k (rd_L3 x0 x5) (rd_L3 x1 x5)).bind fun t255 => (if t255 = true then (laws_eqIntSS.l0 k x0 x1 (wrap64 (x5 + 1))) else (some false))) else (none)) else (none)) else (some true)
def laws_eqIntSS.f (k : Nat) (l0 : List (List Int)) (l1 : List (List Int)) : Option (Bool) := if (l0.length : Int) = (l1.length : Int) then (laws_eqIntSS.l0 k l0 l1 0) else (some false)
theorem laws_eqIntSS.mono_l : ∀ k, (∀ y0 y1 y2, LeO (laws_eqIntSS.l0 k y0 y1 y2) (laws_eqIntSS.l0 (k + 1) y0 y1 y2))
 | 0 => fun _ _ _ r h => by simp [laws_eqIntSS.l0] at h
 | k + 1 => by
  have ih0 := laws_eqIntSS.mono_l k
  ·intro y0 y1 y2
   unfold laws_eqIntSS.l0
   repeat' first
   | (with_reducible exact ih0 _ _ _)
   | (with_reducible exact laws_eqIntS.mono _ _ _)
   | (with_reducible exact LeO.refl _)
   | (with_reducible exact LeO.none _)
   | (with_reducible refine LeO.ite ?_ ?_)
   | (with_reducible refine LeO.bind ?_ (fun _ => ?_))
   | exact ih0 _ _ _
   | exact laws_eqIntS.mono _ _ _
   | exact LeO.none _
   | refine LeO.ite ?_ ?_
   | refine LeO.bind ?_ (fun _ => ?_)
theorem laws_eqIntSS.mono : ∀ a0 a1 k, LeO (laws_eqIntSS.f k a0 a1) (laws_eqIntSS.f (k + 1) a0 a1) := by
 intro a0 a1 k
 have ih0 := laws_eqIntSS.mono_l k
 unfold laws_eqIntSS.f
 repeat' first
   | (with_reducible exact ih0 _ _ _)
   | (with_reducible exact laws_eqIntS.mono _ _ _)
   | (with_reducible exact LeO.refl _)
   | (with_reducible exact LeO.none _)
   | (with_reducible refine LeO.ite ?_ ?_)
   | (with_reducible refine LeO.bind ?_ (fun _ => ?_))
   | exact ih0 _ _ _
   | exact laws_eqIntS.mono _ _ _
   | exact LeO.none _
   | refine LeO.ite ?_ ?_
   | refine LeO.bind ?_ (fun _ => ?_)
set_option maxHeartbeats 8000000 in
set_option maxRecDepth 100000 in
theorem laws_eqIntSS.calls (k : Nat) (A0 : Option Addr) (c0 : Nat) (l0 : List (List Int)) (A1 : Option Addr) (c1 : Nat) (l1 : List (List Int)) (r : Bool) (w : World) (hr0 : Kd.C (Kd.slice 3 (Kd.int .i64)) w A0 l0.length l0) (hc0 : l0.length ≤ c0) (hr1 : Kd.C (Kd.slice 3 (Kd.int .i64)) w A1 l1.length l1) (hc1 : l1.length ≤ c1) (h : laws_eqIntSS.f k l0 l1 = some r) :
  Calls Try.prog 16 #[.slice A0 l0.length c0, .slice A1 l1.length c1] w fun e w' => e = .returned (.bool r) ∧ Drawn0 w w' := by
 have HR0 := Aside0.mk hr0
 have HC0 := Aside0.mk hc0
 clear hr0 hc0
 have HR1 := Aside0.mk hr1
 have HC1 := Aside0.mk hc1
 clear hr1 hc1
 have H : (if (l0.length : Int) = (l1.length : Int) then (laws_eqIntSS.l0 k l0 l1 0) else (some false)) = some r := h
 clear h
 by_cases c3 : (l0.length : Int) = (l1.length : Int)
 ·rw [if_pos c3] at H
  have c3b0 : ((l0.length : Int) == (l1.length : Int)) = true := beq_iff_eq.mpr c3
  have c3b1 : ((l0.length : Int) != (l1.length : Int)) = false := bne_eq_false_iff_eq.mpr c3
  have c3b2 : (l0.length == l1.length) = true := by first | simpa using c3 | (simp at c3 ⊢; omega)
  clear c3
  have H' := Aside0.mk H
  clear H
  go_enter Try.func16, Try.ntmps16
  go_wp2
  repeat (go_quiet (fail); try go_wp2)
  go_loopg [5] k (fun kq v5 w' => ∃ (x5_1 : Int), v5 = .int .i64 x5_1 ∧ Aside0 (laws_eqIntSS.l0 kq l0 l1 x5_1 = some r) ∧ Aside0 (kq ≤ k) ∧ Drawn0 w w')
  case atStart => exact ⟨(0), (by first | rfl | (simp; done) | (simp [*]; done)), H', ⟨Nat.le_refl _⟩, by repeat (first | exact Drawn0.refl _ | apply Drawn0.step)⟩
  case round =>
   clear H'
   try clear c1
   try clear p2
   try clear c3
   try clear c3b0
   try clear c3b1
   try clear c3b2
   obtain ⟨x5_1, rfl, HA, HK1, ⟨m1, rfl⟩⟩ := hrel
   cases gk with
   | zero => exact absurd HA.out (by simp [laws_eqIntSS.l0])
   | succ k1 =>
    have H := HA.out
    clear HA
    simp only [laws_eqIntSS.l0] at H
    by_cases c4 : x5_1 < (l0.length : Int)
    ·rw [if_pos c4] at H
     have c4b0 : decide (x5_1 < (l0.length : Int)) = true := decide_eq_true c4
     clear c4
     by_cases c5 : 0 ≤ x5_1
     ·rw [if_pos c5] at H
      have c5b0 : decide (0 ≤ x5_1) = true := decide_eq_true c5
      clear c5
      by_cases c6 : x5_1 < (l1.length : Int)
      ·rw [if_pos c6] at H
       have c6b0 : decide (x5_1 < (l1.length : Int)) = true := decide_eq_true c6
       clear c6
       replace H := Option.bind_eq_some_iff.mp H
       obtain ⟨t255, A70, H⟩ := H
       replace H : (if t255 = true then (laws_eqIntSS.l0 k1 l0 l1 (wrap64 (x5_1 + 1))) else (some false)) = some r := H
       have A7 := Aside0.mk A70
       clear A70
       by_cases c8 : t255 = true
       ·subst c8
        have H1 : (laws_eqIntSS.l0 k1 l0 l1 (wrap64 (x5_1 + 1))) = some r := by rw [if_pos rfl] at H; exact H
        clear H
        have H := H1
        clear H1
        have H' := Aside0.mk H
        clear H
        have p253 : 0 ≤ (x5_1 : Int) := of_decide_eq_true (by first | (with_reducible assumption) | assumption)
        have q253 : x5_1 < (l0.length : Int) := of_decide_eq_true (by first | (with_reducible assumption) | assumption)
        obtain ⟨ad253, A253_0, c253_0, e253, hx253_0, hl253_0, hi253_0⟩ := at_L3 HR0.out x5_1 p253 q253
        cases e253
        have HR253_0 := Aside0.mk hi253_0
        have HC253_0 := Aside0.mk hl253_0
        clear hi253_0 hl253_0
        replace p253 := eq_true p253
        replace q253 := eq_true q253
        have p254 : 0 ≤ (x5_1 : Int) := of_decide_eq_true (by first | (with_reducible assumption) | assumption)
        have q254 : x5_1 < (l1.length : Int) := of_decide_eq_true (by first | (with_reducible assumption) | assumption)
        obtain ⟨ad254, A254_0, c254_0, e254, hx254_0, hl254_0, hi254_0⟩ := at_L3 HR1.out x5_1 p254 q254
        cases e254
        have HR254_0 := Aside0.mk hi254_0
        have HC254_0 := Aside0.mk hl254_0
        clear hi254_0 hl254_0
        replace p254 := eq_true p254
        replace q254 := eq_true q254
        go_wp2_with (first | (go_at_call 36; (with_reducible refine (laws_eqIntS.calls k1 _ _ (rd_L3 l0 x5_1) _ _ (rd_L3 l1 x5_1) true _ ?side1 ?side2 ?side3 ?side4 A7.out).mono ?_); (case side1 => repeat (first | exact HR253_0.out | (with_reducible refine Kd.C_alloc ?_ _) | (with_reducible refine Kd.C_drewN ?_ _) | (with_reducible refine Kd.C_drew ?_))); (case side2 => exact HC253_0.out); (case side3 => repeat (first | exact HR254_0.out | (with_reducible refine Kd.C_alloc ?_ _) | (with_reducible refine Kd.C_drewN ?_ _) | (with_reducible refine Kd.C_drew ?_))); (case side4 => exact HC254_0.out); rintro e w' ⟨rfl, ⟨nd, rfl⟩⟩; (try first | exact ⟨rfl, _, World.drewN_drewN _ _ _⟩ | exact ⟨rfl, _, Eq.trans (World.drewN_drewN _ _ _) (congrArg (World.drewN _) (Nat.add_assoc _ _ _))⟩)))
        repeat (go_quiet (first | (go_at_call 36; (with_reducible refine (laws_eqIntS.calls k1 _ _ (rd_L3 l0 x5_1) _ _ (rd_L3 l1 x5_1) true _ ?side1 ?side2 ?side3 ?side4 A7.out).mono ?_); (case side1 => repeat (first | exact HR253_0.out | (with_reducible refine Kd.C_alloc ?_ _) | (with_reducible refine Kd.C_drewN ?_ _) | (with_reducible refine Kd.C_drew ?_))); (case side2 => exact HC253_0.out); (case side3 => repeat (first | exact HR254_0.out | (with_reducible refine Kd.C_alloc ?_ _) | (with_reducible refine Kd.C_drewN ?_ _) | (with_reducible refine Kd.C_drew ?_))); (case side4 => exact HC254_0.out); rintro e w' ⟨rfl, ⟨nd, rfl⟩⟩; (try first | exact ⟨rfl, _, World.drewN_drewN _ _ _⟩ | exact ⟨rfl, _, Eq.trans (World.drewN_drewN _ _ _) (congrArg (World.drewN _) (Nat.add_assoc _ _ _))⟩))); try go_wp2_with (first | (go_at_call 36; (with_reducible refine (laws_eqIntS.calls k1 _ _ (rd_L3 l0 x5_1) _ _ (rd_L3 l1 x5_1) true _ ?side1 ?side2 ?side3 ?side4 A7.out).mono ?_); (case side1 => repeat (first | exact HR253_0.out | (with_reducible refine Kd.C_alloc ?_ _) | (with_reducible refine Kd.C_drewN ?_ _) | (with_reducible refine Kd.C_drew ?_))); (case side2 => exact HC253_0.out); (case side3 => repeat (first | exact HR254_0.out | (with_reducible refine Kd.C_alloc ?_ _) | (with_reducible refine Kd.C_drewN ?_ _) | (with_reducible refine Kd.C_drew ?_))); (case side4 => exact HC254_0.out); rintro e w' ⟨rfl, ⟨nd, rfl⟩⟩; (try first | exact ⟨rfl, _, World.drewN_drewN _ _ _⟩ | exact ⟨rfl, _, Eq.trans (World.drewN_drewN _ _ _) (congrArg (World.drewN _) (Nat.add_assoc _ _ _))⟩))))
        go_roundg k1
        case measure => have := HK1.out; omega
        case rel => exact ⟨(wrap64 (x5_1 + 1)), (by first | rfl | (simp; done) | (simp [*]; done)), H', ⟨by have := HK1.out; omega⟩, by repeat (first | exact Drawn0.refl _ | apply Drawn0.step)⟩
       ·replace c8 := Bool.eq_false_iff.mpr c8
        subst c8
        have H1 : (some false) = some r := by rw [if_neg (show ¬ (false = true) by decide)] at H; exact H
        clear H
        have H := H1
        clear H1
        obtain rfl := Option.some.inj H
        have p253 : 0 ≤ (x5_1 : Int) := of_decide_eq_true (by first | (with_reducible assumption) | assumption)
        have q253 : x5_1 < (l0.length : Int) := of_decide_eq_true (by first | (with_reducible assumption) | assumption)
        obtain ⟨ad253, A253_0, c253_0, e253, hx253_0, hl253_0, hi253_0⟩ := at_L3 HR0.out x5_1 p253 q253
        cases e253
        have HR253_0 := Aside0.mk hi253_0
        have HC253_0 := Aside0.mk hl253_0
        clear hi253_0 hl253_0
        replace p253 := eq_true p253
        replace q253 := eq_true q253
        have p254 : 0 ≤ (x5_1 : Int) := of_decide_eq_true (by first | (with_reducible assumption) | assumption)
        have q254 : x5_1 < (l1.length : Int) := of_decide_eq_true (by first | (with_reducible assumption) | assumption)
        obtain ⟨ad254, A254_0, c254_0, e254, hx254_0, hl254_0, hi254_0⟩ := at_L3 HR1.out x5_1 p254 q254
        cases e254
        have HR254_0 := Aside0.mk hi254_0
        have HC254_0 := Aside0.mk hl254_0
        clear hi254_0 hl254_0
        replace p254 := eq_true p254
        replace q254 := eq_true q254
        go_wp2_with (first | (go_at_call 36; (with_reducible refine (laws_eqIntS.calls k1 _ _ (rd_L3 l0 x5_1) _ _ (rd_L3 l1 x5_1) false _ ?side1 ?side2 ?side3 ?side4 A7.out).mono ?_); (case side1 => repeat (first | exact HR253_0.out | (with_reducible refine Kd.C_alloc ?_ _) | (with_reducible refine Kd.C_drewN ?_ _) | (with_reducible refine Kd.C_drew ?_))); (case side2 => exact HC253_0.out); (case side3 => repeat (first | exact HR254_0.out | (with_reducible refine Kd.C_alloc ?_ _) | (with_reducible refine Kd.C_drewN ?_ _) | (with_reducible refine Kd.C_drew ?_))); (case side4 => exact HC254_0.out); rintro e w' ⟨rfl, ⟨nd, rfl⟩⟩; (try first | exact ⟨rfl, _, World.drewN_drewN _ _ _⟩ | exact ⟨rfl, _, Eq.trans (World.drewN_drewN _ _ _) (congrArg (World.drewN _) (Nat.add_assoc _ _ _))⟩)))
        repeat (go_quiet (first | (go_at_call 36; (with_reducible refine (laws_eqIntS.calls k1 _ _ (rd_L3 l0 x5_1) _ _ (rd_L3 l1 x5_1) false _ ?side1 ?side2 ?side3 ?side4 A7.out).mono ?_); (case side1 => repeat (first | exact HR253_0.out | (with_reducible refine Kd.C_alloc ?_ _) | (with_reducible refine Kd.C_drewN ?_ _) | (with_reducible refine Kd.C_drew ?_))); (case side2 => exact HC253_0.out); (case side3 => repeat (first | exact HR254_0.out | (with_reducible refine Kd.C_alloc ?_ _) | (with_reducible refine Kd.C_drewN ?_ _) | (with_reducible refine Kd.C_drew ?_))); (case side4 => exact HC254_0.out); rintro e w' ⟨rfl, ⟨nd, rfl⟩⟩; (try first | exact ⟨rfl, _, World.drewN_drewN _ _ _⟩ | exact ⟨rfl, _, Eq.trans (World.drewN_drewN _ _ _) (congrArg (World.drewN _) (Nat.add_assoc _ _ _))⟩))); try go_wp2_with (first | (go_at_call 36; (with_reducible refine (laws_eqIntS.calls k1 _ _ (rd_L3 l0 x5_1) _ _ (rd_L3 l1 x5_1) false _ ?side1 ?side2 ?side3 ?side4 A7.out).mono ?_); (case side1 => repeat (first | exact HR253_0.out | (with_reducible refine Kd.C_alloc ?_ _) | (with_reducible refine Kd.C_drewN ?_ _) | (with_reducible refine Kd.C_drew ?_))); (case side2 => exact HC253_0.out); (case side3 => repeat (first | exact HR254_0.out | (with_reducible refine Kd.C_alloc ?_ _) | (with_reducible refine Kd.C_drewN ?_ _) | (with_reducible refine Kd.C_drew ?_))); (case side4 => exact HC254_0.out); rintro e w' ⟨rfl, ⟨nd, rfl⟩⟩; (try first | exact ⟨rfl, _, World.drewN_drewN _ _ _⟩ | exact ⟨rfl, _, Eq.trans (World.drewN_drewN _ _ _) (congrArg (World.drewN _) (Nat.add_assoc _ _ _))⟩))))
        go_ret
        exact ⟨by first | rfl | (simp; done) | (simp [*]; done), by repeat (first | exact Drawn0.refl _ | apply Drawn0.step)⟩
      ·rw [if_neg c6] at H
       exact absurd H (by simp)
     ·rw [if_neg c5] at H
      exact absurd H (by simp)
    ·rw [if_neg c4] at H
     have c4b0 : decide (x5_1 < (l0.length : Int)) = false := decide_eq_false c4
     clear c4
     obtain rfl := Option.some.inj H
     go_wp2
     repeat (go_quiet (fail); try go_wp2)
     go_ret
     exact ⟨by first | rfl | (simp; done) | (simp [*]; done), by repeat (first | exact Drawn0.refl _ | apply Drawn0.step)⟩
 ·rw [if_neg c3] at H
  have c3b0 : ((l0.length : Int) == (l1.length : Int)) = false := beq_eq_false_iff_ne.mpr c3
  have c3b1 : ((l0.length : Int) != (l1.length : Int)) = true := bne_iff_ne.mpr c3
  have c3b2 : (l0.length == l1.length) = false := by first | simpa using c3 | (simp at c3 ⊢; omega)
  obtain rfl := Option.some.inj H
  go_enter Try.func16, Try.ntmps16
  go_wp2
  repeat (go_quiet (fail); try go_wp2)
  go_ret
  exact ⟨by first | rfl | (simp; done) | (simp [*]; done), by repeat (first | exact Drawn0.refl _ | apply Drawn0.step)⟩
def laws_markIntS.l0 : Nat → List Int → Int → Int → Option (Int × List Int)
 | 0, _, _, _ => none
 | k + 1, x0, x1, x5 => if x5 < (x0.length : Int) then (if 0 ≤ x5 then (laws_markIntS.l0 k (x0.set (x5 : Int).toNat x1) (wrap64 (x1 + 1)) (wrap64 (x5 + 1))) else (none)) else (some (x1, x0))
def laws_markIntS.f (k : Nat) (l0 : List Int) (a1 : Int) : Option (Int × List Int) := laws_markIntS.l0 k l0 a1 0
theorem laws_markIntS.mono_l : ∀ k, (∀ y0 y1 y2, LeO (laws_markIntS.l0 k y0 y1 y2) (laws_markIntS.l0 (k + 1) y0 y1 y2))
 | 0 => fun _ _ _ r h => by simp [laws_markIntS.l0] at h
 | k + 1 => by
  have ih0 := laws_markIntS.mono_l k
  ·intro y0 y1 y2
   unfold laws_markIntS.l0
   repeat' first
   | (with_reducible exact ih0 _ _ _)
   | (with_reducible exact LeO.refl _)
   | (with_reducible exact LeO.none _)
   | (with_reducible refine LeO.ite ?_ ?_)
   | (with_reducible refine LeO.bind ?_ (fun _ => ?_))
   | exact ih0 _ _ _
   | exact LeO.none _
   | refine LeO.ite ?_ ?_
   | refine LeO.bind ?_ (fun _ => ?_)
theorem laws_markIntS.mono : ∀ a0 a1 k, LeO (laws_markIntS.f k a0 a1) (laws_markIntS.f (k + 1) a0 a1) := by
 intro a0 a1 k
 have ih0 := laws_markIntS.mono_l k
 unfold laws_markIntS.f
 repeat' first
   | (with_reducible exact ih0 _ _ _)
   | (with_reducible exact LeO.refl _)
   | (with_reducible exact LeO.none _)
   | (with_reducible refine LeO.ite ?_ ?_)
   | (with_reducible refine LeO.bind ?_ (fun _ => ?_))
   | exact ih0 _ _ _
   | exact LeO.none _
   | refine LeO.ite ?_ ?_
   | refine LeO.bind ?_ (fun _ => ?_)
set_option maxHeartbeats 8000000 in
set_option maxRecDepth 100000 in
theorem laws_markIntS.calls (k : Nat) (P0_ : Nat → Prop) (u9000_ : Value) (l0 : List Int) (a1 : Int) (r1 : Int) (r2 : List Int) (w0 w : World) (hB : Below w0.heap.size w0 w) (ho0 : Kd.R (Kd.int .i64) 3 w w0.heap.size P0_ u9000_ l0) (h : laws_markIntS.f k l0 a1 = some (r1, r2)) :
  Calls Try.prog 37 #[u9000_, .int .i64 a1] w fun e w' => e = .returned (.int .i64 r1) ∧ Kd.R (Kd.int .i64) 3 w' w0.heap.size (fun k_ => (P0_ k_ ∨ w.heap.size ≤ k_)) u9000_ r2 ∧ Below w0.heap.size w0 w' ∧ Kept w w' (fun k_ => P0_ k_) := by
 have HO0 := Aside0.mk (show Kd.R (Kd.int .i64) 3 w w0.heap.size (fun k_ => (P0_ k_ ∨ w.heap.size ≤ k_)) u9000_ l0 from Kd.R_mono ho0 (fun k_ hk => (.inl hk)))
 have HK := Aside0.mk (Kept.refl w (fun k_ => P0_ k_))
 have HW0 := Aside0.mk hB.size
 have HB := Aside0.mk hB
 clear hB
 have H : (laws_markIntS.l0 k l0 a1 0) = some (r1, r2) := h
 clear h
 have H' := Aside0.mk H
 clear H
 go_enter Try.func37, Try.ntmps37
 go_wp2
 go_loopg [1, 5] k (fun kq v1 v5 w' => ∃ (x0_1 : List Int) (x1_1 : Int) (x5_1 : Int), v1 = .int .i64 x1_1 ∧ v5 = .int .i64 x5_1 ∧ Aside0 (laws_markIntS.l0 kq x0_1 x1_1 x5_1 = some (r1, r2)) ∧ Aside0 (kq ≤ k) ∧ Aside0 (Kd.R (Kd.int .i64) 3 w' w0.heap.size (fun k_ => (P0_ k_ ∨ w.heap.size ≤ k_)) u9000_ x0_1) ∧ Aside0 (Kept w w' (fun k_ => P0_ k_)) ∧ Aside0 (Below w0.heap.size w0 w'))
 case atStart => exact ⟨(l0), (a1), (0), (by first | rfl | (simp; done) | (simp [*]; done)), (by first | rfl | (simp; done) | (simp [*]; done)), H', ⟨Nat.le_refl _⟩, ⟨by (with_reducible repeat (first | apply Kd.R_alloc | apply Kd.R_drewN | apply Kd.R_drew)); exact HO0.out⟩, ⟨by repeat (first | (with_reducible first | exact HK.out | apply Kept.alloc | apply Kept.drewN | apply Kept.drew) | exact HK.out)⟩, ⟨by repeat (first | (with_reducible first | exact HB.out | apply below_alloc | apply pw_below_drewN | apply below_drew1) | exact HB.out)⟩⟩
 case round =>
  clear H'
  try clear p2
  obtain ⟨x0_1, x1_1, x5_1, rfl, rfl, HA, HK1, HO_0, HK, HB⟩ := hrel
  cases gk with
  | zero => exact absurd HA.out (by simp [laws_markIntS.l0])
  | succ k1 =>
   have H := HA.out
   clear HA
   simp only [laws_markIntS.l0] at H
   by_cases c3 : x5_1 < (x0_1.length : Int)
   ·rw [if_pos c3] at H
    have c3b0 : decide (x5_1 < (x0_1.length : Int)) = true := decide_eq_true c3
    clear c3
    by_cases c4 : 0 ≤ x5_1
    ·rw [if_pos c4] at H
     have c4b0 : decide (0 ≤ x5_1) = true := decide_eq_true c4
     clear c4
     obtain ⟨y263, hy263⟩ : ∃ y_ : List Int, y_ = (x0_1.set (x5_1 : Int).toNat x1_1) := ⟨_, rfl⟩
     replace H : (laws_markIntS.l0 k1 y263 (wrap64 (x1_1 + 1)) (wrap64 (x5_1 + 1))) = some (r1, r2) := by first | (rw [hy263]; with_reducible exact H) | (have H2_ := (Option.bind_some _ _).symm.trans H; rw [hy263]; with_reducible exact H2_) | (have H2_ := (Option.bind_some _ _).symm.trans H; with_reducible exact H2_) | with_reducible exact H | (rw [hy263]; exact H) | exact H
     have Ny263 := Aside0.mk hy263
     clear hy263
     have H' := Aside0.mk H
     clear H
     obtain ⟨Ao6, co6, eo6⟩ := Kd.R_slice HO_0.out
     subst eo6
     have p5 : 0 ≤ (x5_1 : Int) := of_decide_eq_true (by first | (with_reducible assumption) | assumption)
     have q5 : (x5_1 : Int) < ((x0_1.length : Int) : Int) := of_decide_eq_true (by first | (with_reducible assumption) | assumption)
     obtain ⟨go5, co5, eo5, gb5, gl5, cl5, HG5⟩ := Kd.R_form HO_0.out (by omega)
     (first | cases eo5 | (injection eo5 with ea_ en_ ec_; (first | subst ea_ | (injection ea_ with ea_; subst ea_)); subst ec_; clear en_))
     have GB5 := Aside0.mk gb5
     have GG5 := Aside0.mk HG5
     clear gb5 gl5 HG5
     have HMgo5 := Aside0.mk (show (P0_ go5 ∨ w.heap.size ≤ go5) from (HO_0.out.1 _ rfl))
     obtain ⟨hx5_0, hf5_0⟩ := Kd.R_celln 0 HO_0.out (x5_1 : Int) p5 q5
     replace p5 := eq_true p5
     replace q5 := eq_true q5
     have HP7 := Kd.R_putg HO_0.out (x5_1 : Int) x1_1
     go_wp2_with (first | ((with_reducible refine gate_store (t := 3) (p := 15) rfl ?_); refine store_event (t := 3) (p := 15) (v := ?vo_w8) (w1 := (wr.setCell ⟨go5, (x5_1 : Int).toNat, none⟩ (.int .i64 x1_1))) ?hg ?ho ?hn ?hr ?_; (case ho => rfl); (case hg => rfl); (case hn => rfl); (case hr => first | (go_simp; done) | (go_simp; rfl)); intro w8 hw; have hg : wr.grownBy w8 (some go5) := (by rw [hw]; exact HP7.2); have hp_ : Kd.R (Kd.int .i64) 3 w8 w0.heap.size (fun k_ => (P0_ k_ ∨ w.heap.size ≤ k_)) (.slice (some ⟨go5, 0, none⟩) x0_1.length co6) y263 := (by rw [hw, Ny263.out]; exact HP7.1); clear HP7; have n0_ := Aside0.mk (hp_); have n1_ := Aside0.mk ((by rw [hw]; exact below_set (HB.out) GB5.out : Below w0.heap.size w0 w8)); have n2_ := Aside0.mk (Kept.of_grown (S := (fun k_ => P0_ k_)) hg (by repeat (first | (with_reducible first | exact HK.out | apply Kept.alloc | apply Kept.drewN | apply Kept.drew) | exact HK.out)) (fun k_ e_ => (HO_0.out.1 k_ e_))); clear HO_0; clear HB; clear HK; have HO_0 := n0_; have HB := n1_; have HK := n2_; clear n0_ n1_ n2_; clear hg hw hp_))
     go_roundg k1
     case measure => have := HK1.out; omega
     case rel => exact ⟨(y263), (wrap64 (x1_1 + 1)), (wrap64 (x5_1 + 1)), (by first | rfl | (simp; done) | (simp [*]; done)), (by first | rfl | (simp; done) | (simp [*]; done)), H', ⟨by have := HK1.out; omega⟩, ⟨by (with_reducible repeat (first | apply Kd.R_alloc | apply Kd.R_drewN | apply Kd.R_drew)); exact HO_0.out⟩, ⟨by repeat (first | (with_reducible first | exact HK.out | apply Kept.alloc | apply Kept.drewN | apply Kept.drew) | exact HK.out)⟩, ⟨by repeat (first | (with_reducible first | exact HB.out | apply below_alloc | apply pw_below_drewN | apply below_drew1) | exact HB.out)⟩⟩
    ·rw [if_neg c4] at H
     exact absurd H (by simp)
   ·rw [if_neg c3] at H
    have c3b0 : decide (x5_1 < (x0_1.length : Int)) = false := decide_eq_false c3
    clear c3
    simp only [Option.some.injEq, Prod.mk.injEq] at H
    obtain ⟨rfl, rfl⟩ := H
    obtain ⟨Ao9, co9, eo9⟩ := Kd.R_slice HO_0.out
    subst eo9
    go_wp2
    go_ret
    exact ⟨by first | rfl | (simp [errW_none, errW_some] <;> rfl) | (simp [*, errW_none, errW_some] <;> rfl), by (with_reducible repeat (first | apply Kd.R_alloc | apply Kd.R_drewN | apply Kd.R_drew)); exact HO_0.out, by repeat (first | (with_reducible first | exact HB.out | apply below_alloc | apply pw_below_drewN | apply below_drew1) | exact HB.out), by repeat (first | (with_reducible first | exact HK.out | apply Kept.alloc | apply Kept.drewN | apply Kept.drew) | exact HK.out)⟩
end Go.Proofs.Ytajogmlblknfdaa.P
namespace Go.Proofs.Ytajogmlblknfdaa.P
open Go.RowKit Go.Proofs.YtajogmlblknfdaaW.PrintWords Go.Proofs.YtajogmlblknfdaaW.PrintLast Go.Proofs.YtajogmlblknfdaaW.PrintMore
set_option linter.unusedVariables false
set_option linter.unusedSimpArgs false
def laws_markIntSS.l0 : Nat → List (List Int) → Int → Int → Option (Int × List (List Int))
  | 0, _, _, _ => none
  | k + 1, x0, x1, x5 => if x5 < (x0.length : Int) then (if 0 ≤ x5 then ((laws_markIntS.f k (x0.getD x5.toNat []) x1).bind fun t => laws_markIntSS.l0 k (x0.set x5.toNat t.2) t.1 (wrap64 (x5 + 1))) else none) else some (x1, x0)
def laws_markIntSS.f (k : Nat) (l0 : List (List Int)) (a1 : Int) : Option (Int × List (List Int)) := laws_markIntSS.l0 k l0 a1 0
set_option maxHeartbeats 8000000 in
set_option maxRecDepth 100000 in
theorem laws_markIntSS.calls (k : Nat) (P0_ : Nat → Prop) (u : Value) (l0 : List (List Int)) (a1 : Int) (r1 : Int) (r2 : List (List Int)) (w0 w : World) (hB : Below w0.heap.size w0 w) (ho0 : Kd.S (Kd.slice 3 (Kd.int .i64)) 50 w w0.heap.size P0_ u l0) (h : laws_markIntSS.f k l0 a1 = some (r1, r2)) :
    Calls Try.prog 19 #[u, .int .i64 a1] w fun e w' => e = .returned (.int .i64 r1) ∧ Kd.S (Kd.slice 3 (Kd.int .i64)) 50 w' w0.heap.size P0_ u r2 ∧ Below w0.heap.size w0 w' ∧ Kept w w' P0_ := by
  obtain ⟨A, c, rfl⟩ := Kd.S_slice ho0
  have HO := Aside0.mk ho0
  have HK := Aside0.mk (Kept.refl w P0_)
  have HB := Aside0.mk hB
  clear hB ho0
  have H : laws_markIntSS.l0 k l0 a1 0 = some (r1, r2) := h
  clear h
  have H' := Aside0.mk H
  clear H
  go_enter Try.func19, Try.ntmps19
  go_wp2
  go_loopg [1, 5] k (fun kq v1 v5 w' => ∃ (x0 : List (List Int)) (x1 : Int) (x5 : Int), v1 = .int .i64 x1 ∧ v5 = .int .i64 x5 ∧ Aside0 (laws_markIntSS.l0 kq x0 x1 x5 = some (r1, r2)) ∧ Aside0 (kq ≤ k) ∧ Aside0 (Kd.S (Kd.slice 3 (Kd.int .i64)) 50 w' w0.heap.size P0_ (.slice A l0.length c) x0) ∧ Aside0 (Kept w w' P0_) ∧ Aside0 (Below w0.heap.size w0 w'))
  case atStart => exact ⟨l0, a1, 0, (by first | rfl | (simp; done)), (by first | rfl | (simp; done)), H', ⟨Nat.le_refl _⟩, ⟨by (with_reducible repeat (first | apply Kd.S_alloc | apply Kd.S_drewN | apply Kd.S_drew)); exact HO.out⟩, ⟨by repeat (first | (with_reducible first | exact HK.out | apply Kept.alloc | apply Kept.drewN | apply Kept.drew) | exact HK.out)⟩, ⟨by repeat (first | (with_reducible first | exact HB.out | apply below_alloc | apply pw_below_drewN | apply below_drew1) | exact HB.out)⟩⟩
  case round =>
    clear H'
    obtain ⟨x0, x1, x5, rfl, rfl, HA, HK1, HO_0, HK, HB⟩ := hrel
    have hlen := (Kd.S_reads' HO_0.out).1
    cases gk with
    | zero => exact absurd HA.out (by simp [laws_markIntSS.l0])
    | succ k1 =>
      have H := HA.out
      clear HA
      simp only [laws_markIntSS.l0] at H
      rw [← hlen] at H
      by_cases c3 : x5 < (l0.length : Int)
      · rw [if_pos c3] at H
        by_cases c4 : 0 ≤ x5
        · rw [if_pos c4] at H
          obtain ⟨g, cap, ev, hg0, hg1, _⟩ := Kd.S_form HO_0.out (by omega)
          injection ev with ea en ec
          subst ea
          clear en ec
          obtain ⟨oki, cs, hcl, hM, hcc, hoki, hH⟩ := Kd.S_lend HO_0.out ([] : List Int) x5 c4 c3
          obtain ⟨v, rfl, hR⟩ := hM
          obtain ⟨A1, c1, rfl⟩ := Kd.R_slice hR
          have hx := hcc 0 _ rfl
          rw [Nat.add_zero, show ((Kd.slice 3 (Kd.int .i64))).sz = 1 from rfl, Nat.mul_one] at hx
          clear hcc hcl
          replace H := Option.bind_eq_some_iff.mp H
          obtain ⟨t, A50, H⟩ := H
          have A5 := Aside0.mk A50
          clear A50
          have H' := Aside0.mk H
          clear H
          have HR := Aside0.mk hR
          have HH := Aside0.mk hH
          have HOK := Aside0.mk hoki
          clear hR hH hoki
          have c3b : decide (x5 < (l0.length : Int)) = true := decide_eq_true c3
          have c4b := eq_true c4
          have c3t := eq_true c3
          have HLEN := Aside0.mk hlen
          have HC4 := Aside0.mk c4
          have HC3 := Aside0.mk c3
          clear hlen c3 c4
          generalize hL : x0.getD x5.toNat [] = row at *
          have HL := Aside0.mk hL
          clear hL
          go_wp2_with (first | ((with_reducible refine gate_callee (f := 37) rfl ?_); refine goesL_ (some 17) rfl rfl Try.func37 (by kernel_rfl) rfl #[.slice A1 row.length c1, .int .i64 x1] rfl (by (try simp only [List.map_toArray, List.map_cons, List.map_nil]); first | done | rfl) ?_; (with_reducible refine (laws_markIntS.calls k1 oki (.slice A1 row.length c1) row x1 t.1 t.2 w0 _ HB.out HR.out A5.out).mono ?_); rintro e w2 ⟨rfl, hr2, hb2, hk2⟩; refine ⟨_, rfl, ?_⟩; have n0_ := Aside0.mk hr2; have n1_ := Aside0.mk hb2; have n2_ := Aside0.mk hk2; clear hr2 hb2 hk2))
          have hM2 : (Kd.slice 3 (Kd.int .i64)).M w2 w0.heap.size oki t.2 [.slice A1 row.length c1] := ⟨_, rfl, Kd.R_mono (Kd.R_tight rfl n0_.out) (fun k_ hk_ => HR.out.1 k_ hk_.symm)⟩
          have hH2 := Kd.H_step HH.out (w1 := w2) (fun k_ _ hn_ hlt_ => n2_.out.2 k_ hlt_ hn_)
          have hS2 := Aside0.mk (Kd.H_back hH2 hM2 (fun _ hk_ => hk_))
          have hK2 := Aside0.mk (Kept.then_ HK.out n2_.out (fun k_ hk_ => .inl (HOK.out k_ hk_).1))
          clear hM2 hH2
          go_roundg k1
          case measure => have := HK1.out; omega
          case rel => exact ⟨x0.set x5.toNat t.2, t.1, wrap64 (x5 + 1), (by first | rfl | (simp; done)), (by first | rfl | (simp; done)), H', ⟨by have := HK1.out; omega⟩, hS2, hK2, n1_⟩
        · rw [if_neg c4] at H
          exact absurd H (by simp)
      · rw [if_neg c3] at H
        have c3b : decide (x5 < (l0.length : Int)) = false := decide_eq_false c3
        have c3t := eq_false c3
        clear hlen
        simp only [Option.some.injEq, Prod.mk.injEq] at H
        obtain ⟨rfl, rfl⟩ := H
        go_wp2
        go_ret
        exact ⟨by first | rfl | (simp [*]), HO_0.out, HB.out, HK.out⟩
end Go.Proofs.Ytajogmlblknfdaa.P
namespace Go.Proofs.Ytajogmlblknfdaa.P
open Go.RowKit Go.Proofs.YtajogmlblknfdaaW.PrintWords Go.Proofs.YtajogmlblknfdaaW.PrintLast Go.Proofs.YtajogmlblknfdaaW.PrintMore
attribute [local go_sem] ptrOf_slice
attribute [local go_sem] max2_int min2_int max_two min_two max_three min_three max_four min_four
set_option linter.unusedVariables false
set_option linter.unusedSimpArgs false
def laws_heldIntS.l0 : Nat → List Int → Int → Int → Option (Int)
 | 0, _, _, _ => none
 | k + 1, x0, x1, x5 => if x5 < (x0.length : Int) then (if 0 ≤ x5 then (if (rd x0 x5) = x1 then (laws_heldIntS.l0 k x0 (wrap64 (x1 + 1)) (wrap64 (x5 + 1))) else (some (-1))) else (none)) else (some x1)
def laws_heldIntS.f (k : Nat) (l0 : List Int) (a1 : Int) : Option (Int) := laws_heldIntS.l0 k l0 a1 0
theorem laws_heldIntS.mono_l : ∀ k, (∀ y0 y1 y2, LeO (laws_heldIntS.l0 k y0 y1 y2) (laws_heldIntS.l0 (k + 1) y0 y1 y2))
 | 0 => fun _ _ _ r h => by simp [laws_heldIntS.l0] at h
 | k + 1 => by
  have ih0 := laws_heldIntS.mono_l k
  ·intro y0 y1 y2
   unfold laws_heldIntS.l0
   repeat' first
   | (with_reducible exact ih0 _ _ _)
   | (with_reducible exact LeO.refl _)
   | (with_reducible exact LeO.none _)
   | (with_reducible refine LeO.ite ?_ ?_)
   | (with_reducible refine LeO.bind ?_ (fun _ => ?_))
   | exact ih0 _ _ _
   | exact LeO.none _
   | refine LeO.ite ?_ ?_
   | refine LeO.bind ?_ (fun _ => ?_)
theorem laws_heldIntS.mono : ∀ a0 a1 k, LeO (laws_heldIntS.f k a0 a1) (laws_heldIntS.f (k + 1) a0 a1) := by
 intro a0 a1 k
 have ih0 := laws_heldIntS.mono_l k
 unfold laws_heldIntS.f
 repeat' first
   | (with_reducible exact ih0 _ _ _)
   | (with_reducible exact LeO.refl _)
   | (with_reducible exact LeO.none _)
   | (with_reducible refine LeO.ite ?_ ?_)
   | (with_reducible refine LeO.bind ?_ (fun _ => ?_))
   | exact ih0 _ _ _
   | exact LeO.none _
   | refine LeO.ite ?_ ?_
   | refine LeO.bind ?_ (fun _ => ?_)
set_option maxHeartbeats 8000000 in
set_option maxRecDepth 100000 in
theorem laws_heldIntS.calls (k : Nat) (A0 : Option Addr) (c0 : Nat) (l0 : List Int) (a1 : Int) (r : Int) (w : World) (hr0 : Kd.C (Kd.int .i64) w A0 l0.length l0) (hc0 : l0.length ≤ c0) (h : laws_heldIntS.f k l0 a1 = some r) :
  Calls Try.prog 38 #[.slice A0 l0.length c0, .int .i64 a1] w fun e w' => e = .returned (.int .i64 r) ∧ Drawn0 w w' := by
 have HR0 := Aside0.mk hr0
 have HC0 := Aside0.mk hc0
 clear hr0 hc0
 have H : (laws_heldIntS.l0 k l0 a1 0) = some r := h
 clear h
 have H' := Aside0.mk H
 clear H
 go_enter Try.func38, Try.ntmps38
 go_wp2
 go_loopg [1, 5] k (fun kq v1 v5 w' => ∃ (x1_1 : Int) (x5_1 : Int), v1 = .int .i64 x1_1 ∧ v5 = .int .i64 x5_1 ∧ Aside0 (laws_heldIntS.l0 kq l0 x1_1 x5_1 = some r) ∧ Aside0 (kq ≤ k) ∧ Drawn0 w w')
 case atStart => exact ⟨(a1), (0), (by first | rfl | (simp; done) | (simp [*]; done)), (by first | rfl | (simp; done) | (simp [*]; done)), H', ⟨Nat.le_refl _⟩, by repeat (first | exact Drawn0.refl _ | apply Drawn0.step)⟩
 case round =>
  clear H'
  try clear p2
  obtain ⟨x1_1, x5_1, rfl, rfl, HA, HK1, ⟨m1, rfl⟩⟩ := hrel
  cases gk with
  | zero => exact absurd HA.out (by simp [laws_heldIntS.l0])
  | succ k1 =>
   have H := HA.out
   clear HA
   simp only [laws_heldIntS.l0] at H
   by_cases c3 : x5_1 < (l0.length : Int)
   ·rw [if_pos c3] at H
    have c3b0 : decide (x5_1 < (l0.length : Int)) = true := decide_eq_true c3
    clear c3
    by_cases c4 : 0 ≤ x5_1
    ·rw [if_pos c4] at H
     have c4b0 : decide (0 ≤ x5_1) = true := decide_eq_true c4
     clear c4
     by_cases c5 : (rd l0 x5_1) = x1_1
     ·rw [if_pos c5] at H
      have c5b0 : ((rd l0 x5_1) == x1_1) = true := beq_iff_eq.mpr c5
      have c5b1 : ((rd l0 x5_1) != x1_1) = false := bne_eq_false_iff_eq.mpr c5
      clear c5
      have H' := Aside0.mk H
      clear H
      have p265 : 0 ≤ (x5_1 : Int) := of_decide_eq_true (by first | (with_reducible assumption) | assumption)
      have q265 : x5_1 < (l0.length : Int) := of_decide_eq_true (by first | (with_reducible assumption) | assumption)
      obtain ⟨ad265, e265, hx265_0⟩ := Kd.at_int HR0.out x5_1 p265 q265
      cases e265
      replace p265 := eq_true p265
      replace q265 := eq_true q265
      go_wp2
      go_roundg k1
      case measure => have := HK1.out; omega
      case rel => exact ⟨(wrap64 (x1_1 + 1)), (wrap64 (x5_1 + 1)), (by first | rfl | (simp; done) | (simp [*]; done)), (by first | rfl | (simp; done) | (simp [*]; done)), H', ⟨by have := HK1.out; omega⟩, by repeat (first | exact Drawn0.refl _ | apply Drawn0.step)⟩
     ·rw [if_neg c5] at H
      have c5b0 : ((rd l0 x5_1) == x1_1) = false := beq_eq_false_iff_ne.mpr c5
      have c5b1 : ((rd l0 x5_1) != x1_1) = true := bne_iff_ne.mpr c5
      obtain rfl := Option.some.inj H
      have p265 : 0 ≤ (x5_1 : Int) := of_decide_eq_true (by first | (with_reducible assumption) | assumption)
      have q265 : x5_1 < (l0.length : Int) := of_decide_eq_true (by first | (with_reducible assumption) | assumption)
      obtain ⟨ad265, e265, hx265_0⟩ := Kd.at_int HR0.out x5_1 p265 q265
      cases e265
      replace p265 := eq_true p265
      replace q265 := eq_true q265
      go_wp2
      go_ret
      exact ⟨by first | rfl | (simp; done) | (simp [*]; done), by repeat (first | exact Drawn0.refl _ | apply Drawn0.step)⟩
    ·rw [if_neg c4] at H
     exact absurd H (by simp)
   ·rw [if_neg c3] at H
    have c3b0 : decide (x5_1 < (l0.length : Int)) = false := decide_eq_false c3
    clear c3
    obtain rfl := Option.some.inj H
    go_wp2
    go_ret
    exact ⟨by first | rfl | (simp; done) | (simp [*]; done), by repeat (first | exact Drawn0.refl _ | apply Drawn0.step)⟩
def laws_heldIntSS.l0 : Nat → List (List Int) → Int → Int → Option (Int)
 | 0, _, _, _ => none
 | k + 1, x0, x1, x5 => if x5 < (x0.length : Int) then (if 0 ≤ x5 then ((laws_heldIntS.f k (rd_L3 x0 x5) x1).bind fun t267 => (if t267 < 0 then (some (-1)) else (laws_heldIntSS.l0 k x0 t267 (wrap64 (x5 + 1))))) else (none)) else (some x1)
def laws_heldIntSS.f (k : Nat) (l0 : List (List Int)) (a1 : Int) : Option (Int) := laws_heldIntSS.l0 k l0 a1 0
theorem laws_heldIntSS.mono_l : ∀ k, (∀ y0 y1 y2, LeO (laws_heldIntSS.l0 k y0 y1 y2) (laws_heldIntSS.l0 (k + 1) y0 y1 y2))
 | 0 => fun _ _ _ r h => by simp [laws_heldIntSS.l0] at h
 | k + 1 => by
  have ih0 := laws_heldIntSS.mono_l k
  ·intro y0 y1 y2
   unfold laws_heldIntSS.l0
   repeat' first
   | (with_reducible exact ih0 _ _ _)
   | (with_reducible exact laws_heldIntS.mono _ _ _)
   | (with_reducible exact LeO.refl _)
   | (with_reducible exact LeO.none _)
   | (with_reducible refine LeO.ite ?_ ?_)
   | (with_reducible refine LeO.bind ?_ (fun _ => ?_))
   | exact ih0 _ _ _
   | exact laws_heldIntS.mono _ _ _
   | exact LeO.none _
   | refine LeO.ite ?_ ?_
   | refine LeO.bind ?_ (fun _ => ?_)
theorem laws_heldIntSS.mono : ∀ a0 a1 k, LeO (laws_heldIntSS.f k a0 a1) (laws_heldIntSS.f (k + 1) a0 a1) := by
 intro a0 a1 k
 have ih0 := laws_heldIntSS.mono_l k
 unfold laws_heldIntSS.f
 repeat' first
   | (with_reducible exact ih0 _ _ _)
   | (with_reducible exact laws_heldIntS.mono _ _ _)
   | (with_reducible exact LeO.refl _)
   | (with_reducible exact LeO.none _)
   | (with_reducible refine LeO.ite ?_ ?_)
   | (with_reducible refine LeO.bind ?_ (fun _ => ?_))
   | exact ih0 _ _ _
   | exact laws_heldIntS.mono _ _ _
   | exact LeO.none _
   | refine LeO.ite ?_ ?_
   | refine LeO.bind ?_ (fun _ => ?_)
set_option maxHeartbeats 8000000 in
set_option maxRecDepth 100000 in
theorem laws_heldIntSS.calls (k : Nat) (A0 : Option Addr) (c0 : Nat) (l0 : List (List Int)) (a1 : Int) (r : Int) (w : World) (hr0 : Kd.C (Kd.slice 3 (Kd.int .i64)) w A0 l0.length l0) (hc0 : l0.length ≤ c0) (h : laws_heldIntSS.f k l0 a1 = some r) :
  Calls Try.prog 20 #[.slice A0 l0.length c0, .int .i64 a1] w fun e w' => e = .returned (.int .i64 r) ∧ Drawn0 w w' := by
 have HR0 := Aside0.mk hr0
 have HC0 := Aside0.mk hc0
 clear hr0 hc0
 have H : (laws_heldIntSS.l0 k l0 a1 0) = some r := h
 clear h
 have H' := Aside0.mk H
 clear H
 go_enter Try.func20, Try.ntmps20
 go_wp2
 go_loopg [1, 5] k (fun kq v1 v5 w' => ∃ (x1_1 : Int) (x5_1 : Int), v1 = .int .i64 x1_1 ∧ v5 = .int .i64 x5_1 ∧ Aside0 (laws_heldIntSS.l0 kq l0 x1_1 x5_1 = some r) ∧ Aside0 (kq ≤ k) ∧ Drawn0 w w')
 case atStart => exact ⟨(a1), (0), (by first | rfl | (simp; done) | (simp [*]; done)), (by first | rfl | (simp; done) | (simp [*]; done)), H', ⟨Nat.le_refl _⟩, by repeat (first | exact Drawn0.refl _ | apply Drawn0.step)⟩
 case round =>
  clear H'
  try clear c2
  try clear p2
  obtain ⟨x1_1, x5_1, rfl, rfl, HA, HK1, ⟨m1, rfl⟩⟩ := hrel
  cases gk with
  | zero => exact absurd HA.out (by simp [laws_heldIntSS.l0])
  | succ k1 =>
   have H := HA.out
   clear HA
   simp only [laws_heldIntSS.l0] at H
   by_cases c3 : x5_1 < (l0.length : Int)
   ·rw [if_pos c3] at H
    have c3b0 : decide (x5_1 < (l0.length : Int)) = true := decide_eq_true c3
    clear c3
    by_cases c4 : 0 ≤ x5_1
    ·rw [if_pos c4] at H
     have c4b0 : decide (0 ≤ x5_1) = true := decide_eq_true c4
     clear c4
     replace H := Option.bind_eq_some_iff.mp H
     obtain ⟨t267, A50, H⟩ := H
     replace H : (if t267 < 0 then (some (-1)) else (laws_heldIntSS.l0 k1 l0 t267 (wrap64 (x5_1 + 1)))) = some r := H
     have A5 := Aside0.mk A50
     clear A50
     by_cases c6 : t267 < 0
     ·rw [if_pos c6] at H
      have c6b0 : decide (t267 < 0) = true := decide_eq_true c6
      clear c6
      obtain rfl := Option.some.inj H
      have p266 : 0 ≤ (x5_1 : Int) := of_decide_eq_true (by first | (with_reducible assumption) | assumption)
      have q266 : x5_1 < (l0.length : Int) := of_decide_eq_true (by first | (with_reducible assumption) | assumption)
      obtain ⟨ad266, A266_0, c266_0, e266, hx266_0, hl266_0, hi266_0⟩ := at_L3 HR0.out x5_1 p266 q266
      cases e266
      have HR266_0 := Aside0.mk hi266_0
      have HC266_0 := Aside0.mk hl266_0
      clear hi266_0 hl266_0
      replace p266 := eq_true p266
      replace q266 := eq_true q266
      go_wp2_with (first | ((with_reducible refine gate_callee (f := 38) rfl ?_); refine goesL_ (some 17) rfl rfl Try.func38 (by kernel_rfl) rfl #[.slice A266_0 (rd_L3 l0 x5_1).length c266_0, .int .i64 x1_1] rfl (by (try simp only [List.map_toArray, List.map_cons, List.map_nil]); first | done | rfl | (simp only [List.length_drop, List.length_take]; rfl)) ?_; (with_reducible refine (laws_heldIntS.calls k1 _ _ (rd_L3 l0 x5_1) x1_1 t267 _ ?side1 ?side2 A5.out).mono ?_); (case side1 => repeat (first | exact HR266_0.out | (with_reducible refine Kd.C_alloc ?_ _) | (with_reducible refine Kd.C_drewN ?_ _) | (with_reducible refine Kd.C_drew ?_))); (case side2 => exact HC266_0.out); rintro e w' ⟨rfl, ⟨nd, rfl⟩⟩; refine ⟨_, rfl, ?_⟩))
      go_ret
      exact ⟨by first | rfl | (simp; done) | (simp [*]; done), by repeat (first | exact Drawn0.refl _ | apply Drawn0.step)⟩
     ·rw [if_neg c6] at H
      have c6b0 : decide (t267 < 0) = false := decide_eq_false c6
      clear c6
      have H' := Aside0.mk H
      clear H
      have p266 : 0 ≤ (x5_1 : Int) := of_decide_eq_true (by first | (with_reducible assumption) | assumption)
      have q266 : x5_1 < (l0.length : Int) := of_decide_eq_true (by first | (with_reducible assumption) | assumption)
      obtain ⟨ad266, A266_0, c266_0, e266, hx266_0, hl266_0, hi266_0⟩ := at_L3 HR0.out x5_1 p266 q266
      cases e266
      have HR266_0 := Aside0.mk hi266_0
      have HC266_0 := Aside0.mk hl266_0
      clear hi266_0 hl266_0
      replace p266 := eq_true p266
      replace q266 := eq_true q266
      go_wp2_with (first | ((with_reducible refine gate_callee (f := 38) rfl ?_); refine goesL_ (some 17) rfl rfl Try.func38 (by kernel_rfl) rfl #[.slice A266_0 (rd_L3 l0 x5_1).length c266_0, .int .i64 x1_1] rfl (by (try simp only [List.map_toArray, List.map_cons, List.map_nil]); first | done | rfl | (simp only [List.length_drop, List.length_take]; rfl)) ?_; (with_reducible refine (laws_heldIntS.calls k1 _ _ (rd_L3 l0 x5_1) x1_1 t267 _ ?side1 ?side2 A5.out).mono ?_); (case side1 => repeat (first | exact HR266_0.out | (with_reducible refine Kd.C_alloc ?_ _) | (with_reducible refine Kd.C_drewN ?_ _) | (with_reducible refine Kd.C_drew ?_))); (case side2 => exact HC266_0.out); rintro e w' ⟨rfl, ⟨nd, rfl⟩⟩; refine ⟨_, rfl, ?_⟩))
      go_roundg k1
      case measure => have := HK1.out; omega
      case rel => exact ⟨(t267), (wrap64 (x5_1 + 1)), (by first | rfl | (simp; done) | (simp [*]; done)), (by first | rfl | (simp; done) | (simp [*]; done)), H', ⟨by have := HK1.out; omega⟩, by repeat (first | exact Drawn0.refl _ | apply Drawn0.step)⟩
    ·rw [if_neg c4] at H
     exact absurd H (by simp)
   ·rw [if_neg c3] at H
    have c3b0 : decide (x5_1 < (l0.length : Int)) = false := decide_eq_false c3
    clear c3
    obtain rfl := Option.some.inj H
    go_wp2
    go_ret
    exact ⟨by first | rfl | (simp; done) | (simp [*]; done), by repeat (first | exact Drawn0.refl _ | apply Drawn0.step)⟩
end Go.Proofs.Ytajogmlblknfdaa.P
namespace Go.Proofs.Ytajogmlblknfdaa.P
open Go.RowKit Go.Proofs.YtajogmlblknfdaaW.PrintWords Go.Proofs.YtajogmlblknfdaaW.PrintLast Go.Proofs.YtajogmlblknfdaaW.PrintMore
set_option linter.unusedVariables false
set_option linter.unusedSimpArgs false
theorem drawn_belowFnExactOrderMutations {w w' : World} (h : Drawn0 w w') : Below w.heap.size w w' := by
  obtain ⟨n, rfl⟩ := h
  exact pw_below_drewN (Below.refl _ _) n
def laws_FnExactOrderMutations.f (k : Nat) (a0_0 : Int) (a0_1 : ByteArray) : Option Bool := (laws_szSigns.f a0_0 a0_1 1048576).bind fun t => if t < 0 then some true else (spec_OrderMutations.f k a0_0 a0_1).bind fun W_ => (impl_OrderMutations.f k a0_0 a0_1).bind fun G_ => if laws_eqIntSS.f k G_ W_ = some true then (laws_markIntSS.f k G_ 1).bind fun m => if laws_heldIntSS.f k m.2 1 = some m.1 ∧ 0 ≤ m.1 ∧ G_.length = m.2.length then some true else none else none
set_option maxHeartbeats 8000000 in
set_option maxRecDepth 100000 in
theorem laws_FnExactOrderMutations.calls (k : Nat) (a0_0 : Int) (a0_1 : ByteArray) (r : Bool) (w : World) (h : laws_FnExactOrderMutations.f k a0_0 a0_1 = some r) :
    Calls Try.prog 5 #[.agg #[.int .i64 a0_0, .string a0_1]] w fun e w' => e = .returned (.bool r) ∧ Below w.heap.size w w' := by
  have HB := Aside0.mk (Below.refl w.heap.size w)
  unfold laws_FnExactOrderMutations.f at h
  obtain ⟨t, A10, h⟩ := Option.bind_eq_some_iff.mp h
  have A1 := Aside0.mk A10
  clear A10
  by_cases ht : t < 0
  · rw [if_pos ht] at h
    obtain rfl := Option.some.inj h
    have c4b0 : decide (t < 0) = true := decide_eq_true ht
    clear ht h
    go_enter Try.func5, Try.ntmps5
    go_wp2_with (first | ((with_reducible refine gate_dst (N := 1) rfl ?_); refine box_event ?hg (N := 1) ?hd (cs := #[.int .i64 a0_0, .string a0_1]) (t := 38) ?hr ?_; (case hd => rfl); (case hg => rfl); (case hr => first | (go_simp; done) | (go_simp; rfl)); intro gb hg w5 hbox hb; have n0_ := Aside0.mk (below_step HB.out hb); have n1_ := Aside0.mk hbox; clear HB; have HB := n0_; have BK := n1_; clear n0_ n1_ hb hbox hg; have hcz0_ : World.cell? _ ⟨gb, 0, none⟩ = some (.int .i64 a0_0) := (blk_cell BK.out 0).trans rfl; have hcz1_ : World.cell? _ ⟨gb, 1, none⟩ = some (.string a0_1) := (blk_cell BK.out 1).trans rfl; have hfz0_ := blk_frozen BK.out 0; have hfz1_ := blk_frozen BK.out 1) | ((with_reducible refine gate_callee (f := 21) rfl ?_); refine goesL_ (some 11) rfl rfl Try.func21 (by kernel_rfl) rfl #[.agg #[.int .i64 a0_0, .string a0_1], .int .i64 1048576] rfl (by (try simp only [List.map_toArray, List.map_cons, List.map_nil]); first | done | rfl) ?_; (with_reducible refine (laws_szSigns.calls a0_0 a0_1 1048576 t _ A1.out).mono ?_); rintro e w_ ⟨rfl, hb⟩; refine ⟨_, rfl, ?_⟩; have n0_ := Aside0.mk (blk_below (g := gb) (o := .cells #[.int .i64 a0_0, .string a0_1] 38 (0, 0)) BK.out hb); have n1_ := Aside0.mk (below_step HB.out hb); clear BK HB; have BK := n0_; have HB := n1_; clear n0_ n1_; (try clear hcz0_ hcz1_ hfz0_ hfz1_); clear hb; have hcz0_ : World.cell? _ ⟨gb, 0, none⟩ = some (.int .i64 a0_0) := (blk_cell BK.out 0).trans rfl; have hcz1_ : World.cell? _ ⟨gb, 1, none⟩ = some (.string a0_1) := (blk_cell BK.out 1).trans rfl; have hfz0_ := blk_frozen BK.out 0; have hfz1_ := blk_frozen BK.out 1))
    go_ret
    exact ⟨by first | rfl | (simp [*]), HB.out⟩
  · rw [if_neg ht] at h
    have c4b0 : decide (t < 0) = false := decide_eq_false ht
    clear ht
    obtain ⟨W_, A20, h⟩ := Option.bind_eq_some_iff.mp h
    obtain ⟨G_, A30, h⟩ := Option.bind_eq_some_iff.mp h
    by_cases he : laws_eqIntSS.f k G_ W_ = some true
    · rw [if_pos he] at h
      obtain ⟨⟨m1_, m2_⟩, A50, h⟩ := Option.bind_eq_some_iff.mp h
      by_cases hm : laws_heldIntSS.f k m2_ 1 = some m1_ ∧ 0 ≤ m1_ ∧ G_.length = m2_.length
      · rw [if_pos hm] at h
        obtain rfl := Option.some.inj h
        have c7b0 : decide (m1_ < 0) = false := decide_eq_false (by omega)
        have A2 := Aside0.mk A20
        have A3 := Aside0.mk A30
        have A4 := Aside0.mk he
        have A5 := Aside0.mk A50
        have A6 := Aside0.mk hm.1
        have HLN := Aside0.mk hm.2.2
        clear A20 A30 he A50 hm h
        go_enter Try.func5, Try.ntmps5
        go_wp2_with (first | ((with_reducible refine gate_dst (N := 1) rfl ?_); refine box_event ?hg (N := 1) ?hd (cs := #[.int .i64 a0_0, .string a0_1]) (t := 38) ?hr ?_; (case hd => rfl); (case hg => rfl); (case hr => first | (go_simp; done) | (go_simp; rfl)); intro gb hg w5 hbox hb; have n0_ := Aside0.mk (below_step HB.out hb); have n1_ := Aside0.mk hbox; clear HB; have HB := n0_; have BK := n1_; clear n0_ n1_ hb hbox hg; have hcz0_ : World.cell? _ ⟨gb, 0, none⟩ = some (.int .i64 a0_0) := (blk_cell BK.out 0).trans rfl; have hcz1_ : World.cell? _ ⟨gb, 1, none⟩ = some (.string a0_1) := (blk_cell BK.out 1).trans rfl; have hfz0_ := blk_frozen BK.out 0; have hfz1_ := blk_frozen BK.out 1) | ((with_reducible refine gate_callee (f := 21) rfl ?_); refine goesL_ (some 11) rfl rfl Try.func21 (by kernel_rfl) rfl #[.agg #[.int .i64 a0_0, .string a0_1], .int .i64 1048576] rfl (by (try simp only [List.map_toArray, List.map_cons, List.map_nil]); first | done | rfl) ?_; (with_reducible refine (laws_szSigns.calls a0_0 a0_1 1048576 t _ A1.out).mono ?_); rintro e w_ ⟨rfl, hb⟩; refine ⟨_, rfl, ?_⟩; have n0_ := Aside0.mk (blk_below (g := gb) (o := .cells #[.int .i64 a0_0, .string a0_1] 38 (0, 0)) BK.out hb); have n1_ := Aside0.mk (below_step HB.out hb); clear BK HB; have BK := n0_; have HB := n1_; clear n0_ n1_; (try clear hcz0_ hcz1_ hfz0_ hfz1_); clear hb; have hcz0_ : World.cell? _ ⟨gb, 0, none⟩ = some (.int .i64 a0_0) := (blk_cell BK.out 0).trans rfl; have hcz1_ : World.cell? _ ⟨gb, 1, none⟩ = some (.string a0_1) := (blk_cell BK.out 1).trans rfl; have hfz0_ := blk_frozen BK.out 0; have hfz1_ := blk_frozen BK.out 1) | ((with_reducible refine gate_callee (f := 23) rfl ?_); refine goesL_ (some 15) rfl rfl Try.func23 (by kernel_rfl) rfl #[.agg #[.int .i64 a0_0, .string a0_1]] rfl (by (try simp only [List.map_toArray, List.map_cons, List.map_nil]); first | done | rfl) ?_; (with_reducible refine (laws_toSigns.calls a0_0 a0_1 a0_0 a0_1 _ rfl).mono ?_); rintro e w_ ⟨rfl, hb⟩; refine ⟨_, rfl, ?_⟩; have n0_ := Aside0.mk (blk_below (g := gb) (o := .cells #[.int .i64 a0_0, .string a0_1] 38 (0, 0)) BK.out hb); have n1_ := Aside0.mk (below_step HB.out hb); clear BK HB; have BK := n0_; have HB := n1_; clear n0_ n1_; (try clear hcz0_ hcz1_ hfz0_ hfz1_); (try (have m_ := Aside0.mk (Kd.S_below HS0.out hb); clear HS0; have HS0 := m_; clear m_)); (try (have m_ := Aside0.mk (Kd.S_below HS1.out hb); clear HS1; have HS1 := m_; clear m_)); (try (have m_ := Aside0.mk (Kd.S_below HS2.out hb); clear HS2; have HS2 := m_; clear m_)); clear hb; have hcz0_ : World.cell? _ ⟨gb, 0, none⟩ = some (.int .i64 a0_0) := (blk_cell BK.out 0).trans rfl; have hcz1_ : World.cell? _ ⟨gb, 1, none⟩ = some (.string a0_1) := (blk_cell BK.out 1).trans rfl; have hfz0_ := blk_frozen BK.out 0; have hfz1_ := blk_frozen BK.out 1) | ((with_reducible refine gate_callee (f := 23) rfl ?_); refine goesL_ (some 18) rfl rfl Try.func23 (by kernel_rfl) rfl #[.agg #[.int .i64 a0_0, .string a0_1]] rfl (by (try simp only [List.map_toArray, List.map_cons, List.map_nil]); first | done | rfl) ?_; (with_reducible refine (laws_toSigns.calls a0_0 a0_1 a0_0 a0_1 _ rfl).mono ?_); rintro e w_ ⟨rfl, hb⟩; refine ⟨_, rfl, ?_⟩; have n0_ := Aside0.mk (blk_below (g := gb) (o := .cells #[.int .i64 a0_0, .string a0_1] 38 (0, 0)) BK.out hb); have n1_ := Aside0.mk (below_step HB.out hb); clear BK HB; have BK := n0_; have HB := n1_; clear n0_ n1_; (try clear hcz0_ hcz1_ hfz0_ hfz1_); (try (have m_ := Aside0.mk (Kd.S_below HS0.out hb); clear HS0; have HS0 := m_; clear m_)); (try (have m_ := Aside0.mk (Kd.S_below HS1.out hb); clear HS1; have HS1 := m_; clear m_)); (try (have m_ := Aside0.mk (Kd.S_below HS2.out hb); clear HS2; have HS2 := m_; clear m_)); clear hb; have hcz0_ : World.cell? _ ⟨gb, 0, none⟩ = some (.int .i64 a0_0) := (blk_cell BK.out 0).trans rfl; have hcz1_ : World.cell? _ ⟨gb, 1, none⟩ = some (.string a0_1) := (blk_cell BK.out 1).trans rfl; have hfz0_ := blk_frozen BK.out 0; have hfz1_ := blk_frozen BK.out 1) | ((with_reducible refine gate_callee (f := 23) rfl ?_); refine goesL_ (some 36) rfl rfl Try.func23 (by kernel_rfl) rfl #[.agg #[.int .i64 a0_0, .string a0_1]] rfl (by (try simp only [List.map_toArray, List.map_cons, List.map_nil]); first | done | rfl) ?_; (with_reducible refine (laws_toSigns.calls a0_0 a0_1 a0_0 a0_1 _ rfl).mono ?_); rintro e w_ ⟨rfl, hb⟩; refine ⟨_, rfl, ?_⟩; have n0_ := Aside0.mk (blk_below (g := gb) (o := .cells #[.int .i64 a0_0, .string a0_1] 38 (0, 0)) BK.out hb); have n1_ := Aside0.mk (below_step HB.out hb); clear BK HB; have BK := n0_; have HB := n1_; clear n0_ n1_; (try clear hcz0_ hcz1_ hfz0_ hfz1_); (try (have m_ := Aside0.mk (Kd.S_below HS0.out hb); clear HS0; have HS0 := m_; clear m_)); (try (have m_ := Aside0.mk (Kd.S_below HS1.out hb); clear HS1; have HS1 := m_; clear m_)); (try (have m_ := Aside0.mk (Kd.S_below HS2.out hb); clear HS2; have HS2 := m_; clear m_)); clear hb; have hcz0_ : World.cell? _ ⟨gb, 0, none⟩ = some (.int .i64 a0_0) := (blk_cell BK.out 0).trans rfl; have hcz1_ : World.cell? _ ⟨gb, 1, none⟩ = some (.string a0_1) := (blk_cell BK.out 1).trans rfl; have hfz0_ := blk_frozen BK.out 0; have hfz1_ := blk_frozen BK.out 1) | ((with_reducible refine gate_callee (f := 25) rfl ?_); refine goesL_ (some 16) rfl rfl Try.func25 (by kernel_rfl) rfl #[.agg #[.int .i64 a0_0, .string a0_1]] rfl (by (try simp only [List.map_toArray, List.map_cons, List.map_nil]); first | done | rfl) ?_; (with_reducible refine (spec_OrderMutations.calls k a0_0 a0_1 W_ _ A2.out).mono ?_); rintro e w_ ⟨v0_, rfl, hs, hb⟩; obtain ⟨A0_, c0_, rfl⟩ := Kd.S_slice hs; refine ⟨_, rfl, ?_⟩; have n0_ := Aside0.mk (blk_below (g := gb) (o := .cells #[.int .i64 a0_0, .string a0_1] 38 (0, 0)) BK.out hb); have n1_ := Aside0.mk (below_step HB.out hb); clear BK HB; have BK := n0_; have HB := n1_; clear n0_ n1_; (try clear hcz0_ hcz1_ hfz0_ hfz1_); have HS0 := Aside0.mk (Kd.S_lower hs (Nat.le_refl _)); clear hs; clear hb; have hcz0_ : World.cell? _ ⟨gb, 0, none⟩ = some (.int .i64 a0_0) := (blk_cell BK.out 0).trans rfl; have hcz1_ : World.cell? _ ⟨gb, 1, none⟩ = some (.string a0_1) := (blk_cell BK.out 1).trans rfl; have hfz0_ := blk_frozen BK.out 0; have hfz1_ := blk_frozen BK.out 1) | ((with_reducible refine gate_callee (f := 26) rfl ?_); refine goesL_ (some 19) rfl rfl Try.func26 (by kernel_rfl) rfl #[.agg #[.int .i64 a0_0, .string a0_1]] rfl (by (try simp only [List.map_toArray, List.map_cons, List.map_nil]); first | done | rfl) ?_; (with_reducible refine (impl_OrderMutations.calls k a0_0 a0_1 G_ _ A3.out).mono ?_); rintro e w_ ⟨v1_, rfl, hs, hb⟩; obtain ⟨A1_, c1_, rfl⟩ := Kd.S_slice hs; refine ⟨_, rfl, ?_⟩; have HGB := Aside0.mk (blk_lt BK.out); have m_ := Aside0.mk (Kd.S_old HS0.out hb); clear HS0; have HS0 := m_; clear m_; have HS1 := Aside0.mk (Kd.S_lower (Kd.S_mono (Kd.S_bound hs) (fun k_ hk_ => hk_.2.1)) HB.out.size); clear hs; have n0_ := Aside0.mk (blk_below (g := gb) (o := .cells #[.int .i64 a0_0, .string a0_1] 38 (0, 0)) BK.out hb); have n1_ := Aside0.mk (below_step HB.out hb); clear BK HB; have BK := n0_; have HB := n1_; clear n0_ n1_; (try clear hcz0_ hcz1_ hfz0_ hfz1_); clear hb; have hcz0_ : World.cell? _ ⟨gb, 0, none⟩ = some (.int .i64 a0_0) := (blk_cell BK.out 0).trans rfl; have hcz1_ : World.cell? _ ⟨gb, 1, none⟩ = some (.string a0_1) := (blk_cell BK.out 1).trans rfl; have hfz0_ := blk_frozen BK.out 0; have hfz1_ := blk_frozen BK.out 1) | ((with_reducible refine gate_callee (f := 26) rfl ?_); refine goesL_ (some 37) rfl rfl Try.func26 (by kernel_rfl) rfl #[.agg #[.int .i64 a0_0, .string a0_1]] rfl (by (try simp only [List.map_toArray, List.map_cons, List.map_nil]); first | done | rfl) ?_; (with_reducible refine (impl_OrderMutations.calls k a0_0 a0_1 G_ _ A3.out).mono ?_); rintro e w_ ⟨v2_, rfl, hs, hb⟩; obtain ⟨A2_, c2_, rfl⟩ := Kd.S_slice hs; refine ⟨_, rfl, ?_⟩; have n0_ := Aside0.mk (blk_below (g := gb) (o := .cells #[.int .i64 a0_0, .string a0_1] 38 (0, 0)) BK.out hb); have n1_ := Aside0.mk (below_step HB.out hb); clear BK HB; have BK := n0_; have HB := n1_; clear n0_ n1_; (try clear hcz0_ hcz1_ hfz0_ hfz1_); (try (have m_ := Aside0.mk (Kd.S_below HS0.out hb); clear HS0; have HS0 := m_; clear m_)); (try (have m_ := Aside0.mk (Kd.S_below HS1.out hb); clear HS1; have HS1 := m_; clear m_)); (try (have m_ := Aside0.mk (Kd.S_below HS2.out hb); clear HS2; have HS2 := m_; clear m_)); have HS2 := Aside0.mk hs; clear hs; clear hb; have hcz0_ : World.cell? _ ⟨gb, 0, none⟩ = some (.int .i64 a0_0) := (blk_cell BK.out 0).trans rfl; have hcz1_ : World.cell? _ ⟨gb, 1, none⟩ = some (.string a0_1) := (blk_cell BK.out 1).trans rfl; have hfz0_ := blk_frozen BK.out 0; have hfz1_ := blk_frozen BK.out 1) | ((with_reducible refine gate_callee (f := 16) rfl ?_); refine goesL_ (some 22) rfl rfl Try.func16 (by kernel_rfl) rfl #[.slice A1_ G_.length c1_, .slice A0_ W_.length c0_] rfl (by (try simp only [List.map_toArray, List.map_cons, List.map_nil]); first | done | rfl) ?_; (with_reducible refine (laws_eqIntSS.calls k _ _ G_ _ _ W_ true _ (Kd.S_reads' HS1.out).2.2 (Kd.S_reads' HS1.out).2.1 (Kd.S_reads' HS0.out).2.2 (Kd.S_reads' HS0.out).2.1 A4.out).mono ?_); rintro e w_ ⟨rfl, hdr⟩; have hb := drawn_belowFnExactOrderMutations hdr; clear hdr; refine ⟨_, rfl, ?_⟩; have n0_ := Aside0.mk (blk_below (g := gb) (o := .cells #[.int .i64 a0_0, .string a0_1] 38 (0, 0)) BK.out hb); have n1_ := Aside0.mk (below_step HB.out hb); clear BK HB; have BK := n0_; have HB := n1_; clear n0_ n1_; (try clear hcz0_ hcz1_ hfz0_ hfz1_); (try (have m_ := Aside0.mk (Kd.S_below HS0.out hb); clear HS0; have HS0 := m_; clear m_)); (try (have m_ := Aside0.mk (Kd.S_below HS1.out hb); clear HS1; have HS1 := m_; clear m_)); (try (have m_ := Aside0.mk (Kd.S_below HS2.out hb); clear HS2; have HS2 := m_; clear m_)); clear hb; have hcz0_ : World.cell? _ ⟨gb, 0, none⟩ = some (.int .i64 a0_0) := (blk_cell BK.out 0).trans rfl; have hcz1_ : World.cell? _ ⟨gb, 1, none⟩ = some (.string a0_1) := (blk_cell BK.out 1).trans rfl; have hfz0_ := blk_frozen BK.out 0; have hfz1_ := blk_frozen BK.out 1) | ((with_reducible refine gate_callee (f := 16) rfl ?_); refine goesL_ (some 40) rfl rfl Try.func16 (by kernel_rfl) rfl #[.slice A2_ G_.length c2_, .slice A0_ W_.length c0_] rfl (by (try simp only [List.map_toArray, List.map_cons, List.map_nil]); first | done | rfl) ?_; (with_reducible refine (laws_eqIntSS.calls k _ _ G_ _ _ W_ true _ (Kd.S_reads' HS2.out).2.2 (Kd.S_reads' HS2.out).2.1 (Kd.S_reads' HS0.out).2.2 (Kd.S_reads' HS0.out).2.1 A4.out).mono ?_); rintro e w_ ⟨rfl, hdr⟩; have hb := drawn_belowFnExactOrderMutations hdr; clear hdr; refine ⟨_, rfl, ?_⟩; have n0_ := Aside0.mk (blk_below (g := gb) (o := .cells #[.int .i64 a0_0, .string a0_1] 38 (0, 0)) BK.out hb); have n1_ := Aside0.mk (below_step HB.out hb); clear BK HB; have BK := n0_; have HB := n1_; clear n0_ n1_; (try clear hcz0_ hcz1_ hfz0_ hfz1_); (try (have m_ := Aside0.mk (Kd.S_below HS0.out hb); clear HS0; have HS0 := m_; clear m_)); (try (have m_ := Aside0.mk (Kd.S_below HS1.out hb); clear HS1; have HS1 := m_; clear m_)); (try (have m_ := Aside0.mk (Kd.S_below HS2.out hb); clear HS2; have HS2 := m_; clear m_)); clear hb; have hcz0_ : World.cell? _ ⟨gb, 0, none⟩ = some (.int .i64 a0_0) := (blk_cell BK.out 0).trans rfl; have hcz1_ : World.cell? _ ⟨gb, 1, none⟩ = some (.string a0_1) := (blk_cell BK.out 1).trans rfl; have hfz0_ := blk_frozen BK.out 0; have hfz1_ := blk_frozen BK.out 1) | ((with_reducible refine gate_callee (f := 19) rfl ?_); refine goesL_ (some 26) rfl rfl Try.func19 (by kernel_rfl) rfl #[.slice A1_ G_.length c1_, .int .i64 1] rfl (by (try simp only [List.map_toArray, List.map_cons, List.map_nil]); first | done | rfl) ?_; (with_reducible refine (laws_markIntSS.calls k _ _ G_ 1 m1_ m2_ w _ HB.out HS1.out A5.out).mono ?_); rintro e w_ ⟨rfl, hs, hbw, hk⟩; refine ⟨_, rfl, ?_⟩; have n0_ := Aside0.mk ((hk.2 gb (blk_lt BK.out) (fun h_ => Nat.not_le.2 HGB.out h_)).trans BK.out); have n1_ := Aside0.mk hbw; have n2_ := Aside0.mk (Kd.S_step HS0.out (fun k_ hk_ hlt_ => hk.2 k_ hlt_ (fun h_ => Nat.not_le.2 hk_.2 h_))); have n3_ := Aside0.mk hs; clear BK HB HS0 HS1 hs hbw hk; have BK := n0_; have HB := n1_; have HS0 := n2_; have HS1 := n3_; clear n0_ n1_ n2_ n3_; (try clear hcz0_ hcz1_ hfz0_ hfz1_); have hcz0_ : World.cell? _ ⟨gb, 0, none⟩ = some (.int .i64 a0_0) := (blk_cell BK.out 0).trans rfl; have hcz1_ : World.cell? _ ⟨gb, 1, none⟩ = some (.string a0_1) := (blk_cell BK.out 1).trans rfl; have hfz0_ := blk_frozen BK.out 0; have hfz1_ := blk_frozen BK.out 1) | ((with_reducible refine gate_callee (f := 20) rfl ?_); refine goesL_ (some 29) rfl rfl Try.func20 (by kernel_rfl) rfl #[.slice A1_ G_.length c1_, .int .i64 1] rfl (by (try simp only [List.map_toArray, List.map_cons, List.map_nil]); first | done | rfl) ?_; refine calls_of_args (args' := #[.slice A1_ m2_.length c1_, .int .i64 1]) (by rw [HLN.out]) ?_; (with_reducible refine (laws_heldIntSS.calls k _ _ m2_ 1 m1_ _ (Kd.S_reads' HS1.out).2.2 (by have h_ := (Kd.S_reads' HS1.out).2.1; have h2_ := HLN.out; omega) A6.out).mono ?_); rintro e w_ ⟨rfl, hdr⟩; have hb := drawn_belowFnExactOrderMutations hdr; clear hdr; refine ⟨_, rfl, ?_⟩; have n0_ := Aside0.mk (blk_below (g := gb) (o := .cells #[.int .i64 a0_0, .string a0_1] 38 (0, 0)) BK.out hb); have n1_ := Aside0.mk (below_step HB.out hb); clear BK HB; have BK := n0_; have HB := n1_; clear n0_ n1_; (try clear hcz0_ hcz1_ hfz0_ hfz1_); (try (have m_ := Aside0.mk (Kd.S_below HS0.out hb); clear HS0; have HS0 := m_; clear m_)); (try (have m_ := Aside0.mk (Kd.S_below HS1.out hb); clear HS1; have HS1 := m_; clear m_)); (try (have m_ := Aside0.mk (Kd.S_below HS2.out hb); clear HS2; have HS2 := m_; clear m_)); clear hb; have hcz0_ : World.cell? _ ⟨gb, 0, none⟩ = some (.int .i64 a0_0) := (blk_cell BK.out 0).trans rfl; have hcz1_ : World.cell? _ ⟨gb, 1, none⟩ = some (.string a0_1) := (blk_cell BK.out 1).trans rfl; have hfz0_ := blk_frozen BK.out 0; have hfz1_ := blk_frozen BK.out 1) | ((with_reducible refine gate_callee (f := 20) rfl ?_); refine goesL_ (some 44) rfl rfl Try.func20 (by kernel_rfl) rfl #[.slice A1_ G_.length c1_, .int .i64 1] rfl (by (try simp only [List.map_toArray, List.map_cons, List.map_nil]); first | done | rfl) ?_; refine calls_of_args (args' := #[.slice A1_ m2_.length c1_, .int .i64 1]) (by rw [HLN.out]) ?_; (with_reducible refine (laws_heldIntSS.calls k _ _ m2_ 1 m1_ _ (Kd.S_reads' HS1.out).2.2 (by have h_ := (Kd.S_reads' HS1.out).2.1; have h2_ := HLN.out; omega) A6.out).mono ?_); rintro e w_ ⟨rfl, hdr⟩; have hb := drawn_belowFnExactOrderMutations hdr; clear hdr; refine ⟨_, rfl, ?_⟩; have n0_ := Aside0.mk (blk_below (g := gb) (o := .cells #[.int .i64 a0_0, .string a0_1] 38 (0, 0)) BK.out hb); have n1_ := Aside0.mk (below_step HB.out hb); clear BK HB; have BK := n0_; have HB := n1_; clear n0_ n1_; (try clear hcz0_ hcz1_ hfz0_ hfz1_); (try (have m_ := Aside0.mk (Kd.S_below HS0.out hb); clear HS0; have HS0 := m_; clear m_)); (try (have m_ := Aside0.mk (Kd.S_below HS1.out hb); clear HS1; have HS1 := m_; clear m_)); (try (have m_ := Aside0.mk (Kd.S_below HS2.out hb); clear HS2; have HS2 := m_; clear m_)); clear hb; have hcz0_ : World.cell? _ ⟨gb, 0, none⟩ = some (.int .i64 a0_0) := (blk_cell BK.out 0).trans rfl; have hcz1_ : World.cell? _ ⟨gb, 1, none⟩ = some (.string a0_1) := (blk_cell BK.out 1).trans rfl; have hfz0_ := blk_frozen BK.out 0; have hfz1_ := blk_frozen BK.out 1))
        go_ret
        exact ⟨by first | rfl | (simp [*]), HB.out⟩
      · rw [if_neg hm] at h
        exact absurd h (by simp)
    · rw [if_neg he] at h
      exact absurd h (by simp)
end Go.Proofs.Ytajogmlblknfdaa.P
namespace Go.Proofs.Ytajogmlblknfdaa.Rk
open Go.RowKit Go.ChangeShapes Go.WideShapes Go.Deep Go.Proofs.YtajogmlblknfdaaW.PrintWords
def I64 (n : Int) : Prop := -9223372036854775808 ≤ n ∧ n ≤ 9223372036854775807
theorem I64_of {n : Int} (h : (Lit.int .i64 n).wf = true) : I64 n := by
  have e1 : IntKind.i64.min = -9223372036854775808 := by decide
  have e2 : IntKind.i64.max = 9223372036854775807 := by decide
  simp [Lit.wf, e1, e2] at h
  unfold I64
  omega
section
variable {H : Type} {enc : TypeId × Value → H} {P : Program} {w : World} {base : Nat} {spare : Nat → Bool} {held : Bool} {α : Type}
def Elem (enc : TypeId × Value → H) (P : Program) (w : World) (base : Nat) (spare : Nat → Bool) (held : Bool) (e : TypeId) (d : Kd α) (Q : α → Prop) : Prop :=
  ∀ (fuel : Nat) (cs : List Value) (x : DataW H × List MemPlace), DataW.trod enc P w base spare held fuel e cs = some x → ∃ y, d.K w y cs ∧ Q y
end
end Go.Proofs.Ytajogmlblknfdaa.Rk
namespace Go.Proofs.Ytajogmlblknfdaa.P
open Go.RowKit Go.ChangeShapes Go.WideShapes Go.Deep Go.Proofs.Ytajogmlblknfdaa.Rk Go.Proofs.YtajogmlblknfdaaW.PrintWords
theorem cells_3 : Try.prog.cellsOf 3 = 1 := by kernel_rfl
theorem cells_9 : Try.prog.cellsOf 9 = 1 := by kernel_rfl
def Q24 (x : S24) : Prop := I64 x.f0 ∧ I64 x.f1
instance : Inhabited S24 := ⟨z24⟩
def Q30 (x : S30) : Prop := I64 x.f0 ∧ I64 x.f1
instance : Inhabited S30 := ⟨z30⟩
def Q38 (x : S38) : Prop := I64 x.f0 ∧ x.f1.size ≤ 9223372036854775807
instance : Inhabited S38 := ⟨z38⟩
theorem cells_38 : Try.prog.cellsOf 38 = 2 := by kernel_rfl
set_option maxRecDepth 100000 in
theorem elem38 {H : Type} {enc : TypeId × Value → H} {w : World} {base : Nat} {spare : Nat → Bool} {held : Bool} : Elem enc Try.prog w base spare held 38 k38 Q38 := by
  intro fuel cs x h
  obtain ⟨xs, n, _, _, hlen, hxl, hf⟩ := DataW.trod_struct Try.underlying38 h
  rw [cells_38] at hlen
  match cs, hlen with
  | [c0, c1], _ =>
    have h0 : DataW.trod enc Try.prog w base spare held n 3 (List.take (Try.prog.cellsOf 3) (List.drop 0 [c0, c1])) = xs[0]? := hf 0 _ rfl
    rw [cells_3] at h0
    have y0 : xs[0]? = some (xs[0]'(by rw [hxl]; decide)) := List.getElem?_eq_getElem _
    rw [y0] at h0
    obtain ⟨n0, e0, _, w0⟩ := DataW.trod_int Try.underlying3 h0
    have e0' : c0 = .int .i64 n0 := by simpa using e0
    have h1 : DataW.trod enc Try.prog w base spare held n 9 (List.take (Try.prog.cellsOf 9) (List.drop 1 [c0, c1])) = xs[1]? := hf 1 _ rfl
    rw [cells_9] at h1
    have y1 : xs[1]? = some (xs[1]'(by rw [hxl]; decide)) := List.getElem?_eq_getElem _
    rw [y1] at h1
    obtain ⟨n1, e1, _, w1⟩ := DataW.trod_string Try.underlying9 h1
    unfold maxLen at w1
    have e1' : c1 = .string n1 := by simpa using e1
    subst e0' e1'
    exact ⟨⟨n0, n1⟩, k38_mk w ⟨n0, n1⟩, I64_of w0, w1⟩
end Go.Proofs.Ytajogmlblknfdaa.P
namespace Go.Proofs.Ytajogmlblknfdaa.P
open Go.RowKit Go.Proofs.YtajogmlblknfdaaW.PrintWords Go.Proofs.YtajogmlblknfdaaW.PrintLast Go.Proofs.YtajogmlblknfdaaW.PrintMore
attribute [local go_sem] ptrOf_slice
attribute [local go_sem] max2_int min2_int max_two min_two max_three min_three max_four min_four
set_option linter.unusedVariables false
set_option linter.unusedSimpArgs false
def spec_l1Min.f (a0 : Int) (a1 : Int) : Option (Int) := if a0 < a1 then (some a0) else (some a1)
set_option maxHeartbeats 8000000 in
set_option maxRecDepth 100000 in
theorem spec_l1Min.calls (a0 : Int) (a1 : Int) (r : Int) (w : World) (h : spec_l1Min.f a0 a1 = some r) :
  Calls Try.prog 65 #[.int .i64 a0, .int .i64 a1] w fun e w' => e = .returned (.int .i64 r) ∧ Drawn0 w w' := by
 have H : (if a0 < a1 then (some a0) else (some a1)) = some r := h
 clear h
 by_cases c3 : a0 < a1
 ·rw [if_pos c3] at H
  have c3b0 : decide (a0 < a1) = true := decide_eq_true c3
  clear c3
  obtain rfl := Option.some.inj H
  go_enter Try.func65, Try.ntmps65
  go_wp2
  go_ret
  exact ⟨by first | rfl | (simp; done) | (simp [*]; done), by repeat (first | exact Drawn0.refl _ | apply Drawn0.step)⟩
 ·rw [if_neg c3] at H
  have c3b0 : decide (a0 < a1) = false := decide_eq_false c3
  clear c3
  obtain rfl := Option.some.inj H
  go_enter Try.func65, Try.ntmps65
  go_wp2
  go_ret
  exact ⟨by first | rfl | (simp; done) | (simp [*]; done), by repeat (first | exact Drawn0.refl _ | apply Drawn0.step)⟩
def spec_l1Max.f (a0 : Int) (a1 : Int) : Option (Int) := if a0 > a1 then (some a0) else (some a1)
set_option maxHeartbeats 8000000 in
set_option maxRecDepth 100000 in
theorem spec_l1Max.calls (a0 : Int) (a1 : Int) (r : Int) (w : World) (h : spec_l1Max.f a0 a1 = some r) :
  Calls Try.prog 66 #[.int .i64 a0, .int .i64 a1] w fun e w' => e = .returned (.int .i64 r) ∧ Drawn0 w w' := by
 have H : (if a0 > a1 then (some a0) else (some a1)) = some r := h
 clear h
 by_cases c3 : a0 > a1
 ·rw [if_pos c3] at H
  have c3b0 : decide (a1 < a0) = true := decide_eq_true c3
  clear c3
  obtain rfl := Option.some.inj H
  go_enter Try.func66, Try.ntmps66
  go_wp2
  go_ret
  exact ⟨by first | rfl | (simp; done) | (simp [*]; done), by repeat (first | exact Drawn0.refl _ | apply Drawn0.step)⟩
 ·rw [if_neg c3] at H
  have c3b0 : decide (a1 < a0) = false := decide_eq_false c3
  clear c3
  obtain rfl := Option.some.inj H
  go_enter Try.func66, Try.ntmps66
  go_wp2
  go_ret
  exact ⟨by first | rfl | (simp; done) | (simp [*]; done), by repeat (first | exact Drawn0.refl _ | apply Drawn0.step)⟩
end Go.Proofs.Ytajogmlblknfdaa.P
namespace Go.Proofs.Ytajogmlblknfdaa.Pl
set_option linter.unusedSimpArgs false
set_option linter.unusedVariables false
open Go.RowKit Go.Proofs.YtajogmlblknfdaaW.PrintWords
theorem wrap_in {n : Int} (h0 : -9223372036854775808 ≤ n) (h1 : n ≤ 9223372036854775807) : wrap64 n = n := by
  unfold wrap64
  omega
theorem wrap_nat (i : Nat) (h : i < 9223372036854775807) : wrap64 ((i : Int) + 1) = ((i + 1 : Nat) : Int) := by
  unfold wrap64
  omega
theorem Ev.const {α : Type} {x : Option α} {r : α} (h : x = some r) : Ev (fun _ => x) r := ⟨0, fun _ _ => h⟩
theorem Ev.ite_pos {α : Type} {c : Prop} [Decidable c] {g f : Nat → Option α} {r : α} (h : c) (k : Ev g r) : Ev (fun n => if c then g n else f n) r := by
  simpa only [if_pos h] using k
theorem Ev.ite_neg {α : Type} {c : Prop} [Decidable c] {g f : Nat → Option α} {r : α} (h : ¬ c) (k : Ev f r) : Ev (fun n => if c then g n else f n) r := by
  simpa only [if_neg h] using k
theorem Ev.bind0 {α β : Type} {x : Option α} {f : Nat → α → Option β} {a : α} {r : β} (h : x = some a) (k : Ev (fun n => f n a) r) : Ev (fun n => x.bind (f n)) r := by
  subst h
  exact k
theorem Ev.loop {ρ : Type} (g : Nat → Nat → Option ρ) (n : Nat) (r : ρ) (hend : Ev (g n) r) (hstep : ∀ i, i < n → Ev (g (i + 1)) r → Ev (g i) r) : ∀ i, i ≤ n → Ev (g i) r := by
  have key : ∀ d i, i + d = n → Ev (g i) r := by
    intro d
    induction d with
    | zero => intro i hi; obtain rfl : i = n := by omega
              exact hend
    | succ d ih => intro i hi; exact hstep i (by omega) (ih (i + 1) (by omega))
  intro i hi
  exact key (n - i) i (by omega)
theorem Ev.loop_to {ρ : Type} (g : Nat → Nat → Option ρ) (n : Nat) (R : Nat → ρ) (hend : Ev (g n) (R n)) (hstep : ∀ i, i < n → Ev (g (i + 1)) (R (i + 1)) → Ev (g i) (R i)) : ∀ i, i ≤ n → Ev (g i) (R i) := by
  have key : ∀ d i, i + d = n → Ev (g i) (R i) := by
    intro d
    induction d with
    | zero => intro i hi; obtain rfl : i = n := by omega
              exact hend
    | succ d ih => intro i hi; exact hstep i (by omega) (ih (i + 1) (by omega))
  intro i hi
  exact key (n - i) i (by omega)
theorem getD_lt {α : Type} (l : List α) (d : α) (i : Nat) (h : i < l.length) : l.getD i d = l[i] := by
  rw [List.getD_eq_getElem?_getD, List.getElem?_eq_getElem h]
  rfl
end Go.Proofs.Ytajogmlblknfdaa.Pl
namespace Go.Proofs.Ytajogmlblknfdaa.Pure
set_option linter.unusedSimpArgs false
set_option linter.unusedVariables false
open Go.RowKit Go.Proofs.YtajogmlblknfdaaW.PrintWords Go.Proofs.Ytajogmlblknfdaa.P Go.Proofs.Ytajogmlblknfdaa.Pl
abbrev T3 := S60
def tri : Nat → List T3
  | 3 => [⟨0, 1, 2⟩]
  | 4 => [⟨0, 1, 2⟩, ⟨0, 1, 3⟩, ⟨0, 2, 3⟩, ⟨1, 2, 3⟩]
  | 5 => [⟨0, 1, 2⟩, ⟨0, 1, 3⟩, ⟨0, 1, 4⟩, ⟨0, 2, 3⟩, ⟨0, 2, 4⟩, ⟨0, 3, 4⟩, ⟨1, 2, 3⟩, ⟨1, 2, 4⟩, ⟨1, 3, 4⟩, ⟨2, 3, 4⟩]
  | 6 => [⟨0, 1, 2⟩, ⟨0, 1, 3⟩, ⟨0, 1, 4⟩, ⟨0, 1, 5⟩, ⟨0, 2, 3⟩, ⟨0, 2, 4⟩, ⟨0, 2, 5⟩, ⟨0, 3, 4⟩, ⟨0, 3, 5⟩, ⟨0, 4, 5⟩, ⟨1, 2, 3⟩, ⟨1, 2, 4⟩, ⟨1, 2, 5⟩, ⟨1, 3, 4⟩, ⟨1, 3, 5⟩, ⟨1, 4, 5⟩, ⟨2, 3, 4⟩, ⟨2, 3, 5⟩, ⟨2, 4, 5⟩, ⟨3, 4, 5⟩]
  | 7 => [⟨0, 1, 2⟩, ⟨0, 1, 3⟩, ⟨0, 1, 4⟩, ⟨0, 1, 5⟩, ⟨0, 1, 6⟩, ⟨0, 2, 3⟩, ⟨0, 2, 4⟩, ⟨0, 2, 5⟩, ⟨0, 2, 6⟩, ⟨0, 3, 4⟩, ⟨0, 3, 5⟩, ⟨0, 3, 6⟩, ⟨0, 4, 5⟩, ⟨0, 4, 6⟩, ⟨0, 5, 6⟩, ⟨1, 2, 3⟩, ⟨1, 2, 4⟩, ⟨1, 2, 5⟩, ⟨1, 2, 6⟩, ⟨1, 3, 4⟩, ⟨1, 3, 5⟩, ⟨1, 3, 6⟩, ⟨1, 4, 5⟩, ⟨1, 4, 6⟩, ⟨1, 5, 6⟩, ⟨2, 3, 4⟩, ⟨2, 3, 5⟩, ⟨2, 3, 6⟩, ⟨2, 4, 5⟩, ⟨2, 4, 6⟩, ⟨2, 5, 6⟩, ⟨3, 4, 5⟩, ⟨3, 4, 6⟩, ⟨3, 5, 6⟩, ⟨4, 5, 6⟩]
  | _ => []
theorem tri_some : ∀ n : Nat, n ≤ 7 → impl_triplesOf.f 500 n = some (tri n)
  | 0, _ => by kernel_rfl
  | 1, _ => by kernel_rfl
  | 2, _ => by kernel_rfl
  | 3, _ => by kernel_rfl
  | 4, _ => by kernel_rfl
  | 5, _ => by kernel_rfl
  | 6, _ => by kernel_rfl
  | 7, _ => by kernel_rfl
  | n + 8, h => absurd h (by omega)
theorem triplesOf_ev (n : Nat) (h : n ≤ 7) : Ev (fun k => impl_triplesOf.f k n) (tri n) := Ev.of (impl_triplesOf.mono _) (tri_some n h)
theorem tri_length (n : Nat) (h : n ≤ 7) : ((tri n).length : Int) = Int.tdiv ((n : Int) * (n - 1) * (n - 2)) 6 := by
  have : (List.range 8).all (fun n => ((tri n).length : Int) == Int.tdiv ((n : Int) * ((n : Int) - 1) * ((n : Int) - 2)) 6) = true := by decide +kernel
  rw [List.all_eq_true] at this
  simpa using this n (by simp; omega)
def okT (n : Nat) (t : T3) : Bool := decide (0 ≤ t.f0 ∧ t.f0 < t.f1 ∧ t.f1 < t.f2 ∧ t.f2 < n)
theorem tri_ok (n : Nat) (h : n ≤ 7) : (tri n).all (okT n) = true := by
  have : (List.range 8).all (fun n => (tri n).all (okT n)) = true := by decide +kernel
  rw [List.all_eq_true] at this
  exact this n (by simp; omega)
def put3 (l : List Int) (t : T3) (v : Int) : List Int := chiSet l t.f0 t.f1 t.f2 v
def fill (v : Nat → Int) : List T3 → Nat → List Int → List Int
  | [], _, l => l
  | t :: ts, m, l => fill v ts (m + 1) (put3 l t (v m))
theorem fill_length (v : Nat → Int) : ∀ ts m l, (fill v ts m l).length = l.length := by
  intro ts
  induction ts with
  | nil => intro m l; rfl
  | cons t ts ih => intro m l; rw [fill, ih]; exact chiSet_length ..
theorem fill_append (v : Nat → Int) : ∀ ts us m l, fill v (ts ++ us) m l = fill v us (m + ts.length) (fill v ts m l) := by
  intro ts
  induction ts with
  | nil => intro us m l; rfl
  | cons t ts ih => intro us m l; rw [List.cons_append, fill, ih, fill, List.length_cons]; congr 1; omega
def par (t : T3) (x y z : Int) : Option Bool :=
  if (x = t.f0 ∧ y = t.f1 ∧ z = t.f2) ∨ (x = t.f1 ∧ y = t.f2 ∧ z = t.f0) ∨ (x = t.f2 ∧ y = t.f0 ∧ z = t.f1) then some true
  else if (x = t.f0 ∧ y = t.f2 ∧ z = t.f1) ∨ (x = t.f2 ∧ y = t.f1 ∧ z = t.f0) ∨ (x = t.f1 ∧ y = t.f0 ∧ z = t.f2) then some false else none
theorem rd_set (l : List Int) (p q : Nat) (v : Int) (h : p < l.length) : rd (l.set p v) q = if p = q then v else rd l q := by
  unfold rd
  rw [Int.toNat_natCast, List.getD_eq_getElem?_getD, List.getD_eq_getElem?_getD, List.getElem?_set]
  by_cases e : p = q
  · subst e
    simp [h]
  · simp [e]
theorem chiA_nat (l : List Int) (x y z : Nat) : chiA l x y z = rd l ((1 + x * 49 + y * 7 + z : Nat) : Int) := by
  unfold chiA
  congr 1
  omega
theorem pos_iff (a b c x y z : Nat) (ha : a < 7) (hb : b < 7) (hc : c < 7) (hx : x < 7) (hy : y < 7) (hz : z < 7) : (1 + a * 49 + b * 7 + c = 1 + x * 49 + y * 7 + z) ↔ (x = a ∧ y = b ∧ z = c) := by
  constructor
  · intro h
    have h1 : c = z := by have := congrArg (· % 7) (show a * 49 + b * 7 + c + 1 = x * 49 + y * 7 + z + 1 by omega); omega
    have h2 : b = y := by subst h1; omega
    exact ⟨by omega, h2.symm, h1.symm⟩
  · rintro ⟨rfl, rfl, rfl⟩
    rfl
theorem chiA_set (l : List Int) (hl : l.length = 344) (a b c : Nat) (ha : a < 7) (hb : b < 7) (hc : c < 7) (ab : a ≠ b) (bc : b ≠ c) (ac : a ≠ c) (v : Int) (x y z : Nat) (hx : x < 7) (hy : y < 7) (hz : z < 7) :
    chiA (chiSet l a b c v) x y z = match par ⟨a, b, c⟩ x y z with | some true => v | some false => wrap64 (-v) | none => chiA l x y z := by
  rw [chiA_nat, chiA_nat]
  unfold chiSet setL par
  simp only [Int.toNat_natCast]
  rw [rd_set _ _ _ _ (by first | (simp only [List.length_set]; omega) | omega), rd_set _ _ _ _ (by first | (simp only [List.length_set]; omega) | omega), rd_set _ _ _ _ (by first | (simp only [List.length_set]; omega) | omega), rd_set _ _ _ _ (by first | (simp only [List.length_set]; omega) | omega), rd_set _ _ _ _ (by first | (simp only [List.length_set]; omega) | omega), rd_set _ _ _ _ (by first | (simp only [List.length_set]; omega) | omega)]
  simp only [pos_iff a b c x y z (by omega) (by omega) (by omega) hx hy hz, pos_iff b c a x y z (by omega) (by omega) (by omega) hx hy hz, pos_iff c a b x y z (by omega) (by omega) (by omega) hx hy hz, pos_iff a c b x y z (by omega) (by omega) (by omega) hx hy hz, pos_iff c b a x y z (by omega) (by omega) (by omega) hx hy hz, pos_iff b a c x y z (by omega) (by omega) (by omega) hx hy hz]
  simp only [Int.natCast_inj]
  clear hl
  generalize rd l ((1 + x * 49 + y * 7 + z : Nat) : Int) = o
  by_cases k0 : x = a ∧ y = b ∧ z = c
  · have := k0
    have n1 : ¬ (x = b ∧ y = c ∧ z = a) := by omega
    have n2 : ¬ (x = c ∧ y = a ∧ z = b) := by omega
    have n3 : ¬ (x = a ∧ y = c ∧ z = b) := by omega
    have n4 : ¬ (x = c ∧ y = b ∧ z = a) := by omega
    have n5 : ¬ (x = b ∧ y = a ∧ z = c) := by omega
    clear this
    simp only [(eq_true k0), (eq_false n1), (eq_false n2), (eq_false n3), (eq_false n4), (eq_false n5), if_true, if_false, or_true, true_or, or_false, false_or]
  by_cases k1 : x = b ∧ y = c ∧ z = a
  · have := k1
    have n2 : ¬ (x = c ∧ y = a ∧ z = b) := by omega
    have n3 : ¬ (x = a ∧ y = c ∧ z = b) := by omega
    have n4 : ¬ (x = c ∧ y = b ∧ z = a) := by omega
    have n5 : ¬ (x = b ∧ y = a ∧ z = c) := by omega
    clear this
    simp only [(eq_false k0), (eq_true k1), (eq_false n2), (eq_false n3), (eq_false n4), (eq_false n5), if_true, if_false, or_true, true_or, or_false, false_or]
  by_cases k2 : x = c ∧ y = a ∧ z = b
  · have := k2
    have n3 : ¬ (x = a ∧ y = c ∧ z = b) := by omega
    have n4 : ¬ (x = c ∧ y = b ∧ z = a) := by omega
    have n5 : ¬ (x = b ∧ y = a ∧ z = c) := by omega
    clear this
    simp only [(eq_false k0), (eq_false k1), (eq_true k2), (eq_false n3), (eq_false n4), (eq_false n5), if_true, if_false, or_true, true_or, or_false, false_or]
  by_cases k3 : x = a ∧ y = c ∧ z = b
  · have := k3
    have n4 : ¬ (x = c ∧ y = b ∧ z = a) := by omega
    have n5 : ¬ (x = b ∧ y = a ∧ z = c) := by omega
    clear this
    simp only [(eq_false k0), (eq_false k1), (eq_false k2), (eq_true k3), (eq_false n4), (eq_false n5), if_true, if_false, or_true, true_or, or_false, false_or]
  by_cases k4 : x = c ∧ y = b ∧ z = a
  · have := k4
    have n5 : ¬ (x = b ∧ y = a ∧ z = c) := by omega
    clear this
    simp only [(eq_false k0), (eq_false k1), (eq_false k2), (eq_false k3), (eq_true k4), (eq_false n5), if_true, if_false, or_true, true_or, or_false, false_or]
  by_cases k5 : x = b ∧ y = a ∧ z = c
  · have := k5
    clear this
    simp only [(eq_false k0), (eq_false k1), (eq_false k2), (eq_false k3), (eq_false k4), (eq_true k5), if_true, if_false, or_true, true_or, or_false, false_or]
  simp only [(eq_false k0), (eq_false k1), (eq_false k2), (eq_false k3), (eq_false k4), (eq_false k5), if_true, if_false, or_true, true_or, or_false, false_or]
theorem chiA_put3 (l : List Int) (hl : l.length = 344) (t : T3) (ht : okT 7 t = true) (v : Int) (x y z : Nat) (hx : x < 7) (hy : y < 7) (hz : z < 7) :
    chiA (put3 l t v) x y z = match par t x y z with | some true => v | some false => wrap64 (-v) | none => chiA l x y z := by
  obtain ⟨a, b, c⟩ := t
  unfold okT at ht
  rw [decide_eq_true_eq] at ht
  obtain ⟨h0, h1, h2, h3⟩ := ht
  dsimp only at h0 h1 h2 h3
  obtain ⟨a, rfl⟩ := Int.eq_ofNat_of_zero_le h0
  obtain ⟨b, rfl⟩ := Int.eq_ofNat_of_zero_le (show 0 ≤ b by omega)
  obtain ⟨c, rfl⟩ := Int.eq_ofNat_of_zero_le (show 0 ≤ c by omega)
  exact chiA_set l hl a b c (by omega) (by omega) (by omega) (by omega) (by omega) (by omega) v x y z hx hy hz
theorem chiN_put3 (l : List Int) (hl : l.length = 344) (t : T3) (v : Int) : chiN (put3 l t v) = chiN l := by
  have h : ∀ (l : List Int) (p : Nat) (u : Int), rd (l.set (1 + p) u) 0 = rd l 0 := by
    intro l p u
    unfold rd
    simp [List.getD_eq_getElem?_getD, List.getElem?_set, show ¬ (1 + p = 0) by omega]
  unfold put3 chiSet setL chiN
  simp only [Nat.add_assoc, h]
def src : List T3 → Nat → Int → Int → Int → Option (Nat × Bool)
  | [], _, _, _, _ => none
  | t :: ts, m, x, y, z => (src ts (m + 1) x y z).or ((par t x y z).map fun b => (m, b))
def sval (v : Nat → Int) (o : Int) : Option (Nat × Bool) → Int
  | some (m, true) => v m
  | some (m, false) => wrap64 (-v m)
  | none => o
theorem chiA_fill (v : Nat → Int) (x y z : Nat) (hx : x < 7) (hy : y < 7) (hz : z < 7) : ∀ (ts : List T3), ts.all (okT 7) = true → ∀ m l, l.length = 344 → chiA (fill v ts m l) x y z = sval v (chiA l x y z) (src ts m x y z) := by
  intro ts
  induction ts with
  | nil => intro _ m l _; rfl
  | cons t ts ih =>
    intro h m l hl
    rw [List.all_cons, Bool.and_eq_true] at h
    rw [fill, ih h.2 (m + 1) _ (by unfold put3; rw [chiSet_length]; exact hl), chiA_put3 l hl t h.1 (v m) x y z hx hy hz, src]
    cases hs : src ts (m + 1) x y z with
    | some p => obtain ⟨q, b⟩ := p; cases b <;> rfl
    | none =>
      cases hp : par t x y z with
      | none => rfl
      | some b => cases b <;> rfl
theorem chiN_fill (v : Nat → Int) : ∀ (ts : List T3) m l, l.length = 344 → chiN (fill v ts m l) = chiN l := by
  intro ts
  induction ts with
  | nil => intro m l _; rfl
  | cons t ts ih => intro m l hl; rw [fill, ih _ _ (by unfold put3; rw [chiSet_length]; exact hl), chiN_put3 l hl]
theorem okT_mono {n : Nat} (h : n ≤ 7) (t : T3) (ht : okT n t = true) : okT 7 t = true := by
  unfold okT at ht ⊢
  rw [decide_eq_true_eq] at ht ⊢
  omega
theorem tri_ok7 (n : Nat) (h : n ≤ 7) : (tri n).all (okT 7) = true := by
  have := tri_ok n h
  rw [List.all_eq_true] at this ⊢
  exact fun t ht => okT_mono h t (this t ht)
theorem chiA_new (n : Int) (x y z : Nat) (hx : x < 7) (hy : y < 7) (hz : z < 7) : chiA (chiNew n) x y z = 0 := by
  rw [chiA_nat, show 1 + x * 49 + y * 7 + z = (x * 49 + y * 7 + z) + 1 by omega]
  unfold rd chiNew
  rw [Int.toNat_natCast, List.getD_cons_succ, List.getD_eq_getElem?_getD, List.getElem?_replicate]
  rw [if_pos (by omega)]
  rfl
def isPM (s : ByteArray) (m : Nat) : Bool := bt s (m : Int) == 43 || bt s (m : Int) == 45
def isS (n : Int) (s : ByteArray) : Bool := decide (3 ≤ n ∧ n ≤ 7 ∧ (s.size : Int) = Int.tdiv (n * (n - 1) * (n - 2)) 6) && (List.range s.size).all (isPM s)
theorem count3 {n : Int} (h3 : 3 ≤ n) (h7 : n ≤ 7) : wrap64 (wrap64 (n * wrap64 (n - 1)) * wrap64 (n - 2)) = n * (n - 1) * (n - 2) ∧ wrap64 (Int.tdiv (n * (n - 1) * (n - 2)) 6) = Int.tdiv (n * (n - 1) * (n - 2)) 6 ∧ 0 ≤ Int.tdiv (n * (n - 1) * (n - 2)) 6 ∧ Int.tdiv (n * (n - 1) * (n - 2)) 6 ≤ 35 := by
  have : n = 3 ∨ n = 4 ∨ n = 5 ∨ n = 6 ∨ n = 7 := by omega
  obtain rfl | rfl | rfl | rfl | rfl := this <;> (unfold wrap64; decide)
theorem range_drop' (n i : Nat) (h : i < n) : (List.range n).drop i = i :: (List.range n).drop (i + 1) := by
  rw [List.drop_eq_getElem_cons (by simpa using h)]
  simp
theorem l1In_is (x a b : Int) : spec_l1In.f x a b = some (decide (a ≤ x ∧ x ≤ b)) := by
  unfold spec_l1In.f
  by_cases h : x ≥ a
  · rw [if_pos h]
    simp [h]
  · rw [if_neg h]
    simp [show ¬ a ≤ x by omega]
theorem spec_AreSigns_ev (n : Int) (s : ByteArray) : Ev (fun k => spec_AreSigns.f k n s) (isS n s) := by
  unfold spec_AreSigns.f isS
  have no : ∀ x, Ev (fun k => spec_AreSigns.j0 k true n x) false := fun x => Ev.step (fun k => spec_AreSigns.j0.eq_2 ..) (Ev.ite_pos rfl (Ev.now _))
  by_cases h : 3 ≤ n ∧ n ≤ 7
  · obtain ⟨e1, e2, e3, e4⟩ := count3 h.1 h.2
    refine Ev.bind0 (l1In_is ..) (Ev.ite_pos (decide_eq_true h) ?_)
    rw [e1, e2]
    by_cases hc : (s.size : Int) = Int.tdiv (n * (n - 1) * (n - 2)) 6
    · rw [show decide (3 ≤ n ∧ n ≤ 7 ∧ (s.size : Int) = Int.tdiv (n * (n - 1) * (n - 2)) 6) = true from decide_eq_true ⟨h.1, h.2, hc⟩, Bool.true_and]
      refine Ev.step (fun k => spec_AreSigns.j0.eq_2 ..) (Ev.ite_neg (by simp [hc]) ?_)
      have key := Ev.loop_to (fun i k => spec_AreSigns.l0 k i n s) s.size (fun i => ((List.range s.size).drop i).all (isPM s)) ?_ ?_ 0 (by omega)
      · simpa using key
      · refine Ev.step (fun k => spec_AreSigns.l0.eq_2 ..) (Ev.ite_neg (by omega) (Ev.const ?_))
        rw [List.drop_of_length_le (by simp)]
        rfl
      · intro i hi ih
        rw [range_drop' _ _ hi, List.all_cons]
        refine Ev.step (fun k => spec_AreSigns.l0.eq_2 ..) (Ev.ite_pos (by omega) (Ev.ite_pos (by omega) ?_))
        rw [wrap_nat i (by omega)]
        rw [show isPM s i = (bt s (i : Int) == 43 || bt s (i : Int) == 45) from rfl]
        by_cases h43 : bt s (i : Int) = 43
        · refine Ev.ite_pos h43 ?_
          simpa [h43] using ih
        · refine Ev.ite_neg h43 ?_
          by_cases h45 : bt s (i : Int) = 45
          · refine Ev.ite_pos h45 ?_
            simpa [h45] using ih
          · refine Ev.ite_neg h45 (Ev.const ?_)
            simp [h43, h45]
    · rw [show decide (3 ≤ n ∧ n ≤ 7 ∧ (s.size : Int) = Int.tdiv (n * (n - 1) * (n - 2)) 6) = false from decide_eq_false (fun q => hc q.2.2), Bool.false_and]
      rw [show ((s.size : Int) != Int.tdiv (n * (n - 1) * (n - 2)) 6) = true by simpa using hc]
      exact no s
  · rw [show decide (3 ≤ n ∧ n ≤ 7 ∧ (s.size : Int) = Int.tdiv (n * (n - 1) * (n - 2)) 6) = false from decide_eq_false (fun q => h ⟨q.1, q.2.1⟩), Bool.false_and]
    exact Ev.bind0 (l1In_is ..) (Ev.ite_neg (by simpa using h) (no s))
theorem impl_AreSigns_ev (n : Int) (s : ByteArray) : Ev (fun k => impl_AreSigns.f k n s) (isS n s) := by
  unfold impl_AreSigns.f isS
  have no : ∀ x, Ev (fun k => impl_AreSigns.j0 k true n x) false := fun x => Ev.step (fun k => impl_AreSigns.j0.eq_2 ..) (Ev.ite_pos rfl (Ev.now _))
  by_cases h3 : n < 3
  · rw [show decide (3 ≤ n ∧ n ≤ 7 ∧ (s.size : Int) = Int.tdiv (n * (n - 1) * (n - 2)) 6) = false from decide_eq_false (fun q => by omega), Bool.false_and]
    exact Ev.ite_pos h3 (no s)
  · refine Ev.ite_neg h3 ?_
    by_cases h7 : n > 7
    · rw [show decide (3 ≤ n ∧ n ≤ 7 ∧ (s.size : Int) = Int.tdiv (n * (n - 1) * (n - 2)) 6) = false from decide_eq_false (fun q => by omega), Bool.false_and]
      exact Ev.ite_pos h7 (no s)
    · refine Ev.ite_neg h7 ?_
      obtain ⟨e1, e2, e3, e4⟩ := count3 (n := n) (by omega) (by omega)
      rw [e1, e2]
      by_cases hc : (s.size : Int) = Int.tdiv (n * (n - 1) * (n - 2)) 6
      · rw [show decide (3 ≤ n ∧ n ≤ 7 ∧ (s.size : Int) = Int.tdiv (n * (n - 1) * (n - 2)) 6) = true from decide_eq_true ⟨by omega, by omega, hc⟩, Bool.true_and]
        refine Ev.step (fun k => impl_AreSigns.j0.eq_2 ..) (Ev.ite_neg (by simp [hc]) ?_)
        have key := Ev.loop_to (fun i k => impl_AreSigns.l0 k i n s) s.size (fun i => ((List.range s.size).drop i).all (isPM s)) ?_ ?_ 0 (by omega)
        · simpa using key
        · refine Ev.step (fun k => impl_AreSigns.l0.eq_2 ..) (Ev.ite_neg (by omega) (Ev.const ?_))
          rw [List.drop_of_length_le (by simp)]
          rfl
        · intro i hi ih
          rw [range_drop' _ _ hi, List.all_cons]
          refine Ev.step (fun k => impl_AreSigns.l0.eq_2 ..) (Ev.ite_pos (by omega) (Ev.ite_pos (by omega) ?_))
          rw [wrap_nat i (by omega)]
          rw [show isPM s i = (bt s (i : Int) == 43 || bt s (i : Int) == 45) from rfl]
          by_cases h43 : bt s (i : Int) = 43
          · refine Ev.ite_pos h43 ?_
            simpa [h43] using ih
          · refine Ev.ite_neg h43 ?_
            by_cases h45 : bt s (i : Int) = 45
            · refine Ev.ite_pos h45 ?_
              simpa [h45] using ih
            · refine Ev.ite_neg h45 (Ev.const ?_)
              simp [h43, h45]
      · rw [show decide (3 ≤ n ∧ n ≤ 7 ∧ (s.size : Int) = Int.tdiv (n * (n - 1) * (n - 2)) 6) = false from decide_eq_false (fun q => hc q.2.2), Bool.false_and]
        rw [show ((s.size : Int) != Int.tdiv (n * (n - 1) * (n - 2)) 6) = true by simpa using hc]
        exact no s
theorem isS_bounds {n : Int} {s : ByteArray} (h : isS n s = true) : 3 ≤ n ∧ n ≤ 7 ∧ s.size = (tri n.toNat).length ∧ s.size ≤ 35 := by
  unfold isS at h
  rw [Bool.and_eq_true, decide_eq_true_eq] at h
  obtain ⟨⟨h3, h7, hc⟩, _⟩ := h
  have hb := (count3 h3 h7).2.2.2
  obtain ⟨m, rfl⟩ := Int.eq_ofNat_of_zero_le (show 0 ≤ n by omega)
  have ht := tri_length m (by omega)
  rw [Int.toNat_natCast]
  exact ⟨h3, h7, by omega, by omega⟩
def sgAt (s : ByteArray) (m : Nat) : Int := if bt s (m : Int) = 45 then -1 else 1
def tab (n : Nat) (s : ByteArray) : List Int := fill (sgAt s) (tri n) 0 (chiNew n)
def sg (n : Nat) (s : ByteArray) (x y z : Int) : Int := sval (sgAt s) 0 (src (tri n) 0 x y z)
theorem tab_length (n : Nat) (s : ByteArray) : (tab n s).length = 344 := by
  unfold tab
  rw [fill_length, chiNew_length]
theorem tab_n (n : Nat) (s : ByteArray) : chiN (tab n s) = n := by
  unfold tab
  rw [chiN_fill _ _ _ _ (chiNew_length _)]
  rfl
theorem tab_at (n : Nat) (hn : n ≤ 7) (s : ByteArray) (x y z : Nat) (hx : x < 7) (hy : y < 7) (hz : z < 7) : chiA (tab n s) x y z = sg n s x y z := by
  unfold tab sg
  rw [chiA_fill _ x y z hx hy hz _ (tri_ok7 n hn) 0 _ (chiNew_length _), chiA_new _ x y z hx hy hz]
theorem tri_at (n : Nat) (hn : n ≤ 7) (i : Nat) (hi : i < (tri n).length) : okT 7 (tri n)[i] = true := by
  have := tri_ok7 n hn
  rw [List.all_eq_true] at this
  exact this _ (List.getElem_mem hi)
theorem rdT_lt (l : List T3) (i : Nat) (h : i < l.length) : rd_T60 l (i : Int) = l[i] := by
  unfold rd_T60
  rw [Int.toNat_natCast, getD_lt _ _ _ h]
theorem tableOf_ev (n : Nat) (hn : n ≤ 7) (s : ByteArray) (hs : s.size = (tri n).length) : Ev (fun k => impl_tableOf.f k n s) (tab n s) := by
  unfold impl_tableOf.f
  refine Ev.bind (triplesOf_ev n hn) ?_
  have h35 : (tri n).length ≤ 1000 := by
    have : (List.range 8).all (fun n => decide ((tri n).length ≤ 1000)) = true := by decide +kernel
    rw [List.all_eq_true] at this
    simpa using this n (by simp; omega)
  have key := Ev.loop (fun i k => impl_tableOf.l0 k (fill (sgAt s) ((tri n).take i) 0 (chiNew n)) (tri n) (tri n).length i n s) (tri n).length (tab n s) ?_ ?_ 0 (by omega)
  · simpa [fill] using key
  · refine Ev.step (fun k => impl_tableOf.l0.eq_2 ..) (Ev.ite_neg (by omega) (Ev.const ?_))
    rw [List.take_length]
    rfl
  · intro i hi ih
    refine Ev.step (fun k => impl_tableOf.l0.eq_2 ..) (Ev.ite_pos (by omega) (Ev.ite_pos (by omega) (Ev.ite_pos (by omega) (Ev.ite_pos (by omega) ?_))))
    have ht := tri_at n hn i hi
    rw [wrap_nat i (by omega), rdT_lt _ i hi]
    rw [List.take_succ_eq_append_getElem hi, fill_append, Nat.zero_add, List.length_take, Nat.min_eq_left (by omega)] at ih
    have hl : (fill (sgAt s) ((tri n).take i) 0 (chiNew n)).length = 344 := by rw [fill_length, chiNew_length]
    generalize fill (sgAt s) ((tri n).take i) 0 (chiNew n) = l at ih hl ⊢
    generalize (tri n)[i] = t at ih ht ⊢
    unfold okT at ht
    rw [decide_eq_true_eq] at ht
    have hset : ∀ v, impl_chi_set.f l t.f0 t.f1 t.f2 v = some (put3 l t v) := by
      intro v
      unfold impl_chi_set.f
      rw [if_pos ⟨hl, by omega, by omega, by omega⟩]
      rfl
    rw [fill, fill] at ih
    unfold sgAt at ih
    by_cases h45 : bt s (i : Int) = 45
    · rw [if_pos h45] at ih
      exact Ev.ite_pos h45 (Ev.bind0 (hset _) ih)
    · rw [if_neg h45] at ih
      exact Ev.ite_neg h45 (Ev.bind0 (hset _) ih)
def srt2 (n x y z p : Int) : Option (Int × Int) := if x > y then (spec_l3Index.f 60 n y x z).map fun m => (m, -p) else (spec_l3Index.f 60 n x y z).map fun m => (m, p)
def srt1 (n x y z p : Int) : Option (Int × Int) := if y > z then srt2 n x z y (-p) else srt2 n x y z p
def srt (n x y z : Int) : Option (Int × Int) := if x > y then srt1 n y x z (-1) else srt1 n x y z 1
def okSrt (n : Nat) (x y z : Nat) : Bool :=
  match srt n x y z, src (tri n) 0 x y z with
  | some (m, p), some (q, b) => m == (q : Int) && decide (q < (tri n).length) && (p == if b then 1 else -1)
  | _, _ => false
theorem all_srt : (List.range 8).all (fun n => (List.range n).all fun x => (List.range n).all fun y => (List.range n).all fun z => x == y || y == z || x == z || okSrt n x y z) = true := by decide +kernel
theorem srt_ok (n x y z : Nat) (hn : n ≤ 7) (hx : x < n) (hy : y < n) (hz : z < n) (h1 : x ≠ y) (h2 : y ≠ z) (h3 : x ≠ z) : okSrt n x y z = true := by
  have h := all_srt
  rw [List.all_eq_true] at h
  have h := h n (by simp; omega)
  rw [List.all_eq_true] at h
  have h := h x (by simpa using hx)
  rw [List.all_eq_true] at h
  have h := h y (by simpa using hy)
  rw [List.all_eq_true] at h
  have h := h z (by simpa using hz)
  simpa [h1, h2, h3] using h
theorem l3Index_ev {n x y z m : Int} (h : spec_l3Index.f 60 n x y z = some m) : Ev (fun k => spec_l3Index.f k n x y z) m := Ev.of (spec_l3Index.mono _ _ _ _) h
def look (s : ByteArray) (m p : Int) : Int := if bt s m = 45 then wrap64 (-p) else p
theorem j1_ev (n x y z p m q : Int) (s : ByteArray) (hp : p = 1 ∨ p = -1) (h : srt2 n x y z p = some (m, q)) (hm : 0 ≤ m) (hs : m < (s.size : Int)) : Ev (fun k => spec_l3At.j1 k x y z p n s) (look s m q) := by
  refine Ev.step (fun k => spec_l3At.j1.eq_2 ..) ?_
  have hw : wrap64 (-p) = -p := wrap_in (by omega) (by omega)
  unfold srt2 at h
  unfold look
  by_cases hxy : x > y
  · rw [if_pos hxy] at h
    obtain ⟨m', h1, h2⟩ := Option.map_eq_some_iff.mp h
    cases h2
    refine Ev.ite_pos hxy (Ev.bind (l3Index_ev h1) (Ev.ite_pos hm (Ev.ite_pos hs ?_)))
    rw [hw]
    by_cases h45 : bt s m = 45
    · exact Ev.ite_pos h45 (Ev.const (by rw [if_pos h45]))
    · exact Ev.ite_neg h45 (Ev.const (by rw [if_neg h45]))
  · rw [if_neg hxy] at h
    obtain ⟨m', h1, h2⟩ := Option.map_eq_some_iff.mp h
    cases h2
    refine Ev.ite_neg hxy (Ev.bind (l3Index_ev h1) (Ev.ite_pos hm (Ev.ite_pos hs ?_)))
    by_cases h45 : bt s m = 45
    · exact Ev.ite_pos h45 (Ev.const (by rw [if_pos h45]))
    · exact Ev.ite_neg h45 (Ev.const (by rw [if_neg h45]))
theorem j0_ev (n x y z p m q : Int) (s : ByteArray) (hp : p = 1 ∨ p = -1) (h : srt1 n x y z p = some (m, q)) (hm : 0 ≤ m) (hs : m < (s.size : Int)) : Ev (fun k => spec_l3At.j0 k x y z p n s) (look s m q) := by
  refine Ev.step (fun k => spec_l3At.j0.eq_2 ..) ?_
  have hw : wrap64 (-p) = -p := wrap_in (by omega) (by omega)
  unfold srt1 at h
  by_cases hyz : y > z
  · rw [if_pos hyz] at h
    rw [hw]
    exact Ev.ite_pos hyz (j1_ev n x z y (-p) m q s (by omega) h hm hs)
  · rw [if_neg hyz] at h
    exact Ev.ite_neg hyz (j1_ev n x y z p m q s hp h hm hs)
theorem l3At_ev (n : Nat) (hn : n ≤ 7) (s : ByteArray) (hs : s.size = (tri n).length) (x y z : Nat) (hx : x < n) (hy : y < n) (hz : z < n) (h1 : x ≠ y) (h2 : y ≠ z) (h3 : x ≠ z) :
    Ev (fun k => spec_l3At.f k n s x y z) (sg n s x y z) := by
  have h := srt_ok n x y z hn hx hy hz h1 h2 h3
  unfold okSrt at h
  unfold spec_l3At.f sg
  cases ha : srt n x y z with
  | none => rw [ha] at h; cases h
  | some mp =>
    obtain ⟨m, p⟩ := mp
    cases hb : src (tri n) 0 x y z with
    | none => rw [ha, hb] at h; cases h
    | some qb =>
      obtain ⟨q, b⟩ := qb
      rw [ha, hb] at h
      simp only [Bool.and_eq_true, beq_iff_eq, decide_eq_true_eq] at h
      obtain ⟨⟨rfl, hq⟩, hp⟩ := h
      have e : sval (sgAt s) 0 (some (q, b)) = look s q p := by
        subst hp
        unfold sval look sgAt
        cases b <;> by_cases h45 : bt s (q : Int) = 45 <;> simp [h45, wrap64]
      rw [e]
      unfold srt at ha
      by_cases hxy : (x : Int) > y
      · rw [if_pos hxy] at ha
        exact Ev.ite_pos hxy (j0_ev n y x z (-1) q p s (by omega) ha (by omega) (by omega))
      · rw [if_neg hxy] at ha
        exact Ev.ite_neg hxy (j0_ev n x y z 1 q p s (by omega) ha (by omega) (by omega))
theorem sg_pm (n : Nat) (hn : n ≤ 7) (s : ByteArray) (x y z : Nat) (hx : x < n) (hy : y < n) (hz : z < n) (h1 : x ≠ y) (h2 : y ≠ z) (h3 : x ≠ z) : sg n s x y z = 1 ∨ sg n s x y z = -1 := by
  have h := srt_ok n x y z hn hx hy hz h1 h2 h3
  unfold okSrt at h
  unfold sg
  cases ha : srt n x y z with
  | none => rw [ha] at h; cases h
  | some mp =>
    cases hb : src (tri n) 0 x y z with
    | none => rw [ha, hb] at h; cases h
    | some qb =>
      obtain ⟨q, b⟩ := qb
      unfold sval sgAt
      cases b <;> by_cases h45 : bt s (q : Int) = 45 <;> simp [h45, wrap64]
def pm (v : Int) : Int := if v > 0 then 43 else 45
def codesT (l : List Int) (ts : List T3) : List Int := ts.map fun t => pm (chiA l t.f0 t.f1 t.f2)
theorem signs_ev (n : Nat) (hn : n ≤ 7) (l : List Int) (hl : l.length = 344) (hc : chiN l = n) : Ev (fun k => impl_chi_signs.f k l) ((n : Int), strOfNums (codesT l (tri n))) := by
  unfold impl_chi_signs.f
  rw [hc]
  refine Ev.ite_pos (by omega) (Ev.bind (triplesOf_ev n hn) ?_)
  have h35 : (tri n).length ≤ 1000 := by
    have : (List.range 8).all (fun n => decide ((tri n).length ≤ 1000)) = true := by decide +kernel
    rw [List.all_eq_true] at this
    simpa using this n (by simp; omega)
  have key := Ev.loop (fun i k => impl_chi_signs.l0 k l (codesT l ((tri n).take i)) (tri n) (tri n).length i) (tri n).length ((n : Int), strOfNums (codesT l (tri n))) ?_ ?_ 0 (by omega)
  · simpa [codesT] using key
  · refine Ev.step (fun k => impl_chi_signs.l0.eq_2 ..) (Ev.ite_neg (by omega) (Ev.ite_pos (by omega) (Ev.const ?_)))
    rw [List.take_length, hc]
  · intro i hi ih
    have ht := tri_at n hn i hi
    have hlen : (codesT l ((tri n).take i)).length < 140737488355328 := by unfold codesT; simp; omega
    refine Ev.step (fun k => impl_chi_signs.l0.eq_2 ..) (Ev.ite_pos (by omega) (Ev.ite_pos (by omega) (Ev.ite_pos (by omega) (Ev.ite_pos (by omega) ?_))))
    rw [wrap_nat i (by omega), rdT_lt _ i hi]
    have hcod : codesT l ((tri n).take (i + 1)) = codesT l ((tri n).take i) ++ [pm (chiA l (tri n)[i].f0 (tri n)[i].f1 (tri n)[i].f2)] := by
      unfold codesT
      rw [List.take_succ_eq_append_getElem hi, List.map_append]
      rfl
    rw [hcod] at ih
    generalize (tri n)[i] = t at ih ht ⊢
    unfold okT at ht
    rw [decide_eq_true_eq] at ht
    refine Ev.ite_pos (by omega) (Ev.ite_pos (by omega) (Ev.ite_pos (by omega) (Ev.ite_pos (by omega) (Ev.ite_pos (by omega) (Ev.ite_pos (by omega) ?_)))))
    unfold pm at ih
    by_cases h : chiA l t.f0 t.f1 t.f2 > 0
    · rw [if_pos h] at ih
      exact Ev.ite_pos h (Ev.ite_pos hlen ih)
    · rw [if_neg h] at ih
      exact Ev.ite_neg h (Ev.ite_pos hlen ih)
theorem all_tri : (List.range 8).all (fun n => (List.range (tri n).length).all fun m => (let t := (tri n).getD m ⟨0, 0, 0⟩; src (tri n) 0 t.f0 t.f1 t.f2 == some (m, true))) = true := by decide +kernel
theorem tri_src (n : Nat) (hn : n ≤ 7) (m : Nat) (hm : m < (tri n).length) : src (tri n) 0 (tri n)[m].f0 (tri n)[m].f1 (tri n)[m].f2 = some (m, true) := by
  have g := all_tri
  rw [List.all_eq_true] at g
  have g := g n (by simp; omega)
  rw [List.all_eq_true] at g
  have g := g m (by simpa using hm)
  rw [getD_lt _ _ _ hm] at g
  simpa using g
theorem tri_nat (n : Nat) (hn : n ≤ 7) (m : Nat) (hm : m < (tri n).length) : ∃ a b c : Nat, a < b ∧ b < c ∧ c < n ∧ (tri n)[m] = ⟨a, b, c⟩ := by
  have h := tri_ok n hn
  rw [List.all_eq_true] at h
  have h := h _ (List.getElem_mem hm)
  generalize (tri n)[m] = t at h ⊢
  obtain ⟨a, b, c⟩ := t
  unfold okT at h
  rw [decide_eq_true_eq] at h
  dsimp only at h
  obtain ⟨a, rfl⟩ := Int.eq_ofNat_of_zero_le h.1
  obtain ⟨b, rfl⟩ := Int.eq_ofNat_of_zero_le (show 0 ≤ b by omega)
  obtain ⟨c, rfl⟩ := Int.eq_ofNat_of_zero_le (show 0 ≤ c by omega)
  exact ⟨a, b, c, by omega, by omega, by omega, rfl⟩
theorem tab_tri (n : Nat) (hn : n ≤ 7) (s : ByteArray) (m : Nat) (hm : m < (tri n).length) : chiA (tab n s) (tri n)[m].f0 (tri n)[m].f1 (tri n)[m].f2 = sgAt s m := by
  obtain ⟨a, b, c, h1, h2, h3, e⟩ := tri_nat n hn m hm
  have hs := tri_src n hn m hm
  rw [e] at hs ⊢
  dsimp only at hs ⊢
  rw [tab_at n hn s a b c (by omega) (by omega) (by omega)]
  unfold sg
  rw [hs]
  rfl
def inE (n x : Int) : Bool := decide (0 ≤ x ∧ x < n)
def okD (n : Int) (l : List Int) (i : Nat) : Bool := inE n (rd l i) && !((List.range i).any fun j => rd l i == rd l j)
def diffFrom (n : Int) (l : List Int) (i : Nat) : Bool := ((List.range l.length).drop i).all (okD n l)
def diffB (n : Int) (l : List Int) : Bool := diffFrom n l 0
theorem diffFrom_step (n : Int) (l : List Int) (i : Nat) (h : i < l.length) : diffFrom n l i = (okD n l i && diffFrom n l (i + 1)) := by
  unfold diffFrom
  rw [range_drop' _ _ h, List.all_cons]
theorem rd_takeI (l : List Int) (n j : Nat) (h : j < n) : rd (l.take n) (j : Int) = rd l (j : Int) := by
  unfold rd
  rw [Int.toNat_natCast]
  simp [List.getD_eq_getElem?_getD, h]
theorem containsI_ev (l : List Int) (n : Nat) (hn : n ≤ l.length) (hl : l.length ≤ 1000000) (x : Int) :
    Ev (fun k => slices_Contains_Sint_int.f k (l.take n) x) ((List.range n).any fun j => x == rd l j) := by
  have hlen : (l.take n).length = n := by rw [List.length_take]; omega
  have key : ∀ d i, i + d = n → ∃ r, Ev (fun k => slices_Index_Sint_int.l0 k (l.take n) x n i) r ∧ decide (r ≥ 0) = ((List.range n).drop i).any fun j => x == rd l j := by
    intro d
    induction d with
    | zero =>
      intro i hi
      obtain rfl : i = n := by omega
      refine ⟨-1, Ev.step (fun k => slices_Index_Sint_int.l0.eq_2 ..) (Ev.ite_neg (by omega) (Ev.now _)), ?_⟩
      rw [List.drop_of_length_le (by simp)]
      rfl
    | succ d ih =>
      intro i hi
      obtain ⟨r, hr, he⟩ := ih (i + 1) (by omega)
      rw [range_drop' n i (by omega), List.any_cons]
      by_cases hb : x = rd l (i : Int)
      · refine ⟨i, Ev.step (fun k => slices_Index_Sint_int.l0.eq_2 ..) (Ev.ite_pos (by omega) (Ev.ite_pos (by omega) (Ev.ite_pos (by omega) (Ev.ite_pos (by rw [rd_takeI l n i (by omega)]; exact hb) (Ev.now _))))), ?_⟩
        rw [show (x == rd l (i : Int)) = true by simpa using hb]
        simp
      · refine ⟨r, Ev.step (fun k => slices_Index_Sint_int.l0.eq_2 ..) (Ev.ite_pos (by omega) (Ev.ite_pos (by omega) (Ev.ite_pos (by omega) (Ev.ite_neg (by rw [rd_takeI l n i (by omega)]; exact hb) ?_)))), ?_⟩
        · rw [wrap_nat i (by omega)]
          exact hr
        · rw [he, show (x == rd l (i : Int)) = false by simpa using hb, Bool.false_or]
  obtain ⟨r, hr, he⟩ := key n 0 (by omega)
  unfold slices_Contains_Sint_int.f slices_Index_Sint_int.f
  rw [hlen]
  refine Ev.bind hr (Ev.const ?_)
  rw [he, List.drop_zero]
theorem isElement_eq (n x : Int) : impl_isElement.f n x = some (inE n x) := by
  unfold impl_isElement.f inE
  by_cases h : x ≥ 0
  · rw [if_pos h]
    simp [h]
  · rw [if_neg h]
    simp [show ¬ 0 ≤ x by omega]
theorem impl_areDifferent_ev (n : Int) (l : List Int) (hl : l.length ≤ 1000000) : Ev (fun k => impl_areDifferent.f k n l) (diffB n l) := by
  unfold impl_areDifferent.f diffB
  refine Ev.loop_to (fun i k => impl_areDifferent.l0 k n l l l.length i) l.length (diffFrom n l) ?_ ?_ 0 (by omega)
  · refine Ev.step (fun k => impl_areDifferent.l0.eq_2 ..) (Ev.ite_neg (by omega) (Ev.const ?_))
    unfold diffFrom
    rw [List.drop_of_length_le (by simp)]
    rfl
  · intro i hi ih
    rw [diffFrom_step n l i hi]
    unfold okD
    refine Ev.step (fun k => impl_areDifferent.l0.eq_2 ..) (Ev.ite_pos (by omega) (Ev.ite_pos (by omega) (Ev.ite_pos (by omega) (Ev.bind0 (isElement_eq ..) ?_))))
    cases he : inE n (rd l (i : Int)) with
    | false => exact Ev.ite_neg (by simp) (Ev.now _)
    | true =>
      refine Ev.ite_pos rfl (Ev.ite_pos (by omega) ?_)
      rw [Int.toNat_natCast, wrap_nat i (by omega)]
      refine Ev.bind (containsI_ev l i (by omega) hl _) ?_
      cases hb : (List.range i).any fun j => rd l (i : Int) == rd l (j : Int) with
      | true => exact Ev.ite_pos rfl (Ev.now _)
      | false => exact Ev.ite_neg (by simp) (by simpa using ih)
theorem diff3 {n x y z : Int} (h : diffB n [x, y, z] = true) : (0 ≤ x ∧ x < n) ∧ (0 ≤ y ∧ y < n) ∧ (0 ≤ z ∧ z < n) ∧ x ≠ y ∧ y ≠ z ∧ x ≠ z := by
  simp [diffB, diffFrom, okD, inE, rd, List.range_succ] at h
  omega
end Go.Proofs.Ytajogmlblknfdaa.Pure
