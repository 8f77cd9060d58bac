/- What the law FnExactOppositeText reaches, part 1: functions as plain Lean functions with the proofs that their calls come to them, and plain lemmas over these. Put together by a program (wip/pack.py). -/
import Derived.Lib.SliceRun
import Derived.Test.YtajogmlblknfdaaDoorWWords
import Derived.Test.YtajogmlblknfdaaDoorWMore
import Derived.Laws.MakeOwn
import Derived.Test.YtajogmlblknfdaaDoorProg
import Derived.Below
import Derived.Deep.Draws
import Derived.Deep.AppendLies
import Derived.Maps.AppendAt
import Derived.OwnWalk
import Derived.Laws.BytesArg
import Derived.Laws.OwnMore
import Derived.Deep.OwnRows
import Derived.Tactics
import Derived.Lib.ConvBytes
import Derived.Laws.Slices
import Derived.WalkKit
import Derived.KernelRfl
import Derived.RowKit3
import Derived.Deep.LoopGhost
import Derived.Deep.QuietTactic
import Derived.BigQuiet
import Derived.WideLaws
import Derived.Deep.DeepCutAuto
import Derived.Deep.CutBlock
import Derived.Deep.RegionHeld3
import Derived.Laws.Rows
import Derived.Lib.AppendStr
import Derived.ArgAppend
import Derived.Laws.IdiomCopy
import Derived.OrdersHeld
import Derived.Laws.BitsLemmas
import Derived.RowKit
import Derived.Test.YtajogmlblknfdaaDoorWLast
import Derived.Test.YtajogmlblknfdaaDoorWTab
import Derived.Test.YtajogmlblknfdaaDoorWFour
import Derived.Test.YtajogmlblknfdaaDoorWQPut
import Derived.Test.YtajogmlblknfdaaDoorWApart
import Derived.Test.YtajogmlblknfdaaDoorWArr
import Derived.Test.YtajogmlblknfdaaDoorWZeros
import Derived.Test.YtajogmlblknfdaaDoorWFoot
import Derived.Test.YtajogmlblknfdaaDoorWKept
import Derived.Test.YtajogmlblknfdaaDoorWShare
import Derived.Test.YtajogmlblknfdaaDoorWN
import Derived.Test.YtajogmlblknfdaaDoorWFootNe
import Derived.Test.YtajogmlblknfdaaDoorWAt
import Derived.Test.YtajogmlblknfdaaDoorWEqStruct
import Derived.Test.YtajogmlblknfdaaDoorWRepsOne
import Derived.Test.YtajogmlblknfdaaDoorWInv
import Derived.Test.YtajogmlblknfdaaDoorWInvWords
import Derived.Test.YtajogmlblknfdaaDoorWGuard
import Derived.Test.YtajogmlblknfdaaDoorWNEv
import Derived.Shelf.Strings.AsciiSet
import Derived.ChangeArms
import Derived.Deep.Slices
import Derived.Deep.Fields
import Derived.WideShapes
namespace Go.Proofs.YtajogmlblknfdaaDoor.P
open Go.RowKit Go.Proofs.YtajogmlblknfdaaDoorW.PrintWords
def chiN (l : List Int) : Int := rd l 0
def chiA (l : List Int) (i j k : Int) : Int := rd l (1 + 49 * i + 7 * j + k)
def ptrOf : Value → Value
  | .slice A _ _ => .pointer A
  | v => v
theorem ptrOf_slice (A : Option Addr) (n c : Nat) : ptrOf (.slice A n c) = .pointer A := rfl
def chiNew (n : Int) : List Int := n :: List.replicate 343 0
def chiCells (n : Int) : Array Value := (encs (Value.int .i64) (chiNew n)).toArray
section
variable {P : Program} {ops : Array Oper} {rest : List Oper} {o : Oper} {a : Act} {Q : Exit → Act → World → Prop}
end
def NZ {α : Type} (v : Value) (xs : List α) : Prop := xs = [] → v = .slice none 0 0
end Go.Proofs.YtajogmlblknfdaaDoor.P
namespace Go.Proofs.YtajogmlblknfdaaDoor.P
open Go.RowKit Go.Proofs.YtajogmlblknfdaaDoorW.PrintWords Go.Proofs.YtajogmlblknfdaaDoorW.PrintLast Go.Proofs.YtajogmlblknfdaaDoorW.PrintMore
attribute [local go_sem] ptrOf_slice
attribute [local go_sem] max2_int min2_int max_two min_two max_three min_three max_four min_four
set_option linter.unusedVariables false
set_option linter.unusedSimpArgs false
def errW : Option Int → Value
  | none => .nilIface
  | some c => .iface 0 (.int .i64 c)
theorem errW_none : errW none = .nilIface := rfl
theorem errW_some (c : Int) : errW (some c) = .iface 0 (.int .i64 c) := rfl
structure S64 where
  f0 : Int
  f1 : Int
  f2 : Int
def z64 : S64 := ⟨(0 : Int), (0 : Int), (0 : Int)⟩
def k64 : Kd S64 := Kd.iso (Kd.pair (Kd.int .i64) (Kd.pair (Kd.int .i64) (Kd.int .i64))) (fun x : S64 => (x.f0, x.f1, x.f2))
def rd_T64 (xs : List S64) (i : Int) : S64 := xs.getD i.toNat z64
def rd_L4 (xs : List (List Int)) (i : Int) : (List Int) := xs.getD i.toNat ([] : List Int)
structure S44 where
  f0 : Int
  f1 : Int
  f2 : Int
  f3 : Int
def z44 : S44 := ⟨(0 : Int), (0 : Int), (0 : Int), (0 : Int)⟩
def k44 : Kd S44 := Kd.iso (Kd.pair (Kd.int .i64) (Kd.pair (Kd.int .i64) (Kd.pair (Kd.int .i64) (Kd.int .i64)))) (fun x : S44 => (x.f0, x.f1, x.f2, x.f3))
def rd_T44 (xs : List S44) (i : Int) : S44 := xs.getD i.toNat z44
structure S29 where
  f0 : Int
  f1 : ByteArray
def z29 : S29 := ⟨(0 : Int), (⟨#[]⟩ : ByteArray)⟩
def k29 : Kd S29 := Kd.iso (Kd.pair (Kd.int .i64) Kd.string) (fun x : S29 => (x.f0, x.f1))
def rd_T29 (xs : List S29) (i : Int) : S29 := xs.getD i.toNat z29
def spec_l20Fits.l0 : Nat → ByteArray → Int → Option (Bool)
 | 0, _, _ => none
 | k + 1, x0, x3 => if x3 < (x0.size : Int) then (if 0 ≤ x3 then (if (bt x0 x3) = 43 then (spec_l20Fits.l0 k x0 (wrap64 (x3 + 1))) else (if (bt x0 x3) = 45 then (spec_l20Fits.l0 k x0 (wrap64 (x3 + 1))) else (if (bt x0 x3) = 48 then (spec_l20Fits.l0 k x0 (wrap64 (x3 + 1))) else (some false)))) else (none)) else (some (decide ((x0.size : Int) ≤ 7)))
def spec_l20Fits.f (k : Nat) (a0 : ByteArray) : Option (Bool) := spec_l20Fits.l0 k a0 0
set_option maxHeartbeats 8000000 in
set_option maxRecDepth 100000 in
theorem spec_l20Fits.calls (k : Nat) (a0 : ByteArray) (r : Bool) (w : World) (h : spec_l20Fits.f k a0 = some r) :
  Calls Tryd.prog 17 #[.string a0] w fun e w' => e = .returned (.bool r) ∧ Drawn0 w w' := by
 have H : (spec_l20Fits.l0 k a0 0) = some r := h
 clear h
 have H' := Aside0.mk H
 clear H
 go_enter Tryd.func17, Tryd.ntmps17
 go_wp2
 go_loopg [3] k (fun kq v3 w' => ∃ (x3_1 : Int), v3 = .int .i64 x3_1 ∧ Aside0 (spec_l20Fits.l0 kq a0 x3_1 = some r) ∧ Aside0 (kq ≤ k) ∧ Drawn0 w w')
 case atStart => exact ⟨(0), (by first | rfl | (simp; done) | (simp [*]; done)), H', ⟨Nat.le_refl _⟩, by repeat (first | exact Drawn0.refl _ | apply Drawn0.step)⟩
 case round =>
  clear H'
  try clear c1
  obtain ⟨x3_1, rfl, HA, HK1, ⟨m1, rfl⟩⟩ := hrel
  cases gk with
  | zero => exact absurd HA.out (by simp [spec_l20Fits.l0])
  | succ k1 =>
   have H := HA.out
   clear HA
   simp only [spec_l20Fits.l0] at H
   by_cases c2 : x3_1 < (a0.size : Int)
   ·rw [if_pos c2] at H
    have c2b0 : decide (x3_1 < (a0.size : Int)) = true := decide_eq_true c2
    clear c2
    by_cases c3 : 0 ≤ x3_1
    ·rw [if_pos c3] at H
     have c3b0 : decide (0 ≤ x3_1) = true := decide_eq_true c3
     clear c3
     by_cases c5 : (bt a0 x3_1) = 43
     ·rw [if_pos c5] at H
      have c5b0 : ((bt a0 x3_1) == 43) = true := beq_iff_eq.mpr c5
      have c5b1 : ((bt a0 x3_1) != 43) = false := bne_eq_false_iff_eq.mpr c5
      clear c5
      have H' := Aside0.mk H
      clear H
      have p4 : 0 ≤ (x3_1 : Int) := of_decide_eq_true (by first | (with_reducible assumption) | assumption)
      have q4 : x3_1 < (a0.size : Int) := of_decide_eq_true (by first | (with_reducible assumption) | assumption)
      have hx4 := bt_at a0 x3_1
      replace p4 := eq_true p4
      replace q4 := eq_true q4
      go_wp2
      go_roundg k1
      case measure => have := HK1.out; omega
      case rel => exact ⟨(wrap64 (x3_1 + 1)), (by first | rfl | (simp; done) | (simp [*]; done)), H', ⟨by have := HK1.out; omega⟩, by repeat (first | exact Drawn0.refl _ | apply Drawn0.step)⟩
     ·rw [if_neg c5] at H
      have c5b0 : ((bt a0 x3_1) == 43) = false := beq_eq_false_iff_ne.mpr c5
      have c5b1 : ((bt a0 x3_1) != 43) = true := bne_iff_ne.mpr c5
      by_cases c7 : (bt a0 x3_1) = 45
      ·rw [if_pos c7] at H
       have c7b0 : ((bt a0 x3_1) == 45) = true := beq_iff_eq.mpr c7
       have c7b1 : ((bt a0 x3_1) != 45) = false := bne_eq_false_iff_eq.mpr c7
       clear c7
       have H' := Aside0.mk H
       clear H
       have p4 : 0 ≤ (x3_1 : Int) := of_decide_eq_true (by first | (with_reducible assumption) | assumption)
       have q4 : x3_1 < (a0.size : Int) := of_decide_eq_true (by first | (with_reducible assumption) | assumption)
       have hx4 := bt_at a0 x3_1
       replace p4 := eq_true p4
       replace q4 := eq_true q4
       have p6 : 0 ≤ (x3_1 : Int) := of_decide_eq_true (by first | (with_reducible assumption) | assumption)
       have q6 : x3_1 < (a0.size : Int) := of_decide_eq_true (by first | (with_reducible assumption) | assumption)
       have hx6 := bt_at a0 x3_1
       replace p6 := eq_true p6
       replace q6 := eq_true q6
       go_wp2
       go_roundg k1
       case measure => have := HK1.out; omega
       case rel => exact ⟨(wrap64 (x3_1 + 1)), (by first | rfl | (simp; done) | (simp [*]; done)), H', ⟨by have := HK1.out; omega⟩, by repeat (first | exact Drawn0.refl _ | apply Drawn0.step)⟩
      ·rw [if_neg c7] at H
       have c7b0 : ((bt a0 x3_1) == 45) = false := beq_eq_false_iff_ne.mpr c7
       have c7b1 : ((bt a0 x3_1) != 45) = true := bne_iff_ne.mpr c7
       by_cases c9 : (bt a0 x3_1) = 48
       ·rw [if_pos c9] at H
        have c9b0 : ((bt a0 x3_1) == 48) = true := beq_iff_eq.mpr c9
        have c9b1 : ((bt a0 x3_1) != 48) = false := bne_eq_false_iff_eq.mpr c9
        clear c9
        have H' := Aside0.mk H
        clear H
        have p4 : 0 ≤ (x3_1 : Int) := of_decide_eq_true (by first | (with_reducible assumption) | assumption)
        have q4 : x3_1 < (a0.size : Int) := of_decide_eq_true (by first | (with_reducible assumption) | assumption)
        have hx4 := bt_at a0 x3_1
        replace p4 := eq_true p4
        replace q4 := eq_true q4
        have p6 : 0 ≤ (x3_1 : Int) := of_decide_eq_true (by first | (with_reducible assumption) | assumption)
        have q6 : x3_1 < (a0.size : Int) := of_decide_eq_true (by first | (with_reducible assumption) | assumption)
        have hx6 := bt_at a0 x3_1
        replace p6 := eq_true p6
        replace q6 := eq_true q6
        have p8 : 0 ≤ (x3_1 : Int) := of_decide_eq_true (by first | (with_reducible assumption) | assumption)
        have q8 : x3_1 < (a0.size : Int) := of_decide_eq_true (by first | (with_reducible assumption) | assumption)
        have hx8 := bt_at a0 x3_1
        replace p8 := eq_true p8
        replace q8 := eq_true q8
        go_wp2
        go_roundg k1
        case measure => have := HK1.out; omega
        case rel => exact ⟨(wrap64 (x3_1 + 1)), (by first | rfl | (simp; done) | (simp [*]; done)), H', ⟨by have := HK1.out; omega⟩, by repeat (first | exact Drawn0.refl _ | apply Drawn0.step)⟩
       ·rw [if_neg c9] at H
        have c9b0 : ((bt a0 x3_1) == 48) = false := beq_eq_false_iff_ne.mpr c9
        have c9b1 : ((bt a0 x3_1) != 48) = true := bne_iff_ne.mpr c9
        obtain rfl := Option.some.inj H
        have p4 : 0 ≤ (x3_1 : Int) := of_decide_eq_true (by first | (with_reducible assumption) | assumption)
        have q4 : x3_1 < (a0.size : Int) := of_decide_eq_true (by first | (with_reducible assumption) | assumption)
        have hx4 := bt_at a0 x3_1
        replace p4 := eq_true p4
        replace q4 := eq_true q4
        have p6 : 0 ≤ (x3_1 : Int) := of_decide_eq_true (by first | (with_reducible assumption) | assumption)
        have q6 : x3_1 < (a0.size : Int) := of_decide_eq_true (by first | (with_reducible assumption) | assumption)
        have hx6 := bt_at a0 x3_1
        replace p6 := eq_true p6
        replace q6 := eq_true q6
        have p8 : 0 ≤ (x3_1 : Int) := of_decide_eq_true (by first | (with_reducible assumption) | assumption)
        have q8 : x3_1 < (a0.size : Int) := of_decide_eq_true (by first | (with_reducible assumption) | assumption)
        have hx8 := bt_at a0 x3_1
        replace p8 := eq_true p8
        replace q8 := eq_true q8
        go_wp2
        go_ret
        exact ⟨by first | rfl | (simp; done) | (simp [*]; done), by repeat (first | exact Drawn0.refl _ | apply Drawn0.step)⟩
    ·rw [if_neg c3] at H
     exact absurd H (by simp)
   ·rw [if_neg c2] at H
    have c2b0 : decide (x3_1 < (a0.size : Int)) = false := decide_eq_false c2
    clear c2
    obtain rfl := Option.some.inj H
    go_wp2
    go_ret
    exact ⟨by first | rfl | (simp; done) | (simp [*]; done), by repeat (first | exact Drawn0.refl _ | apply Drawn0.step)⟩
mutual
def spec_OppositeText.l0 : Nat → ByteArray → ByteArray → Int → Option (ByteArray)
 | 0, _, _, _ => none
 | k + 1, x0, x3, x4 => if x4 < (x0.size : Int) then ((spec_l20Fits.f k x0).bind fun t110 => (spec_OppositeText.j1 k x0 x3 x4 t110)) else (spec_OppositeText.j1 k x0 x3 x4 false)
def spec_OppositeText.j1 : Nat → ByteArray → ByteArray → Int → Bool → Option (ByteArray)
 | 0, _, _, _, _ => none
 | k + 1, x0, x3, x4, x12 => if x12 = true then (if 0 ≤ x4 then (if x4 < (x0.size : Int) then (if (bt x0 x4) = 43 then (if x3.size + 1 ≤ 9223372036854775807 then (spec_OppositeText.l0 k x0 (x3 ++ (⟨#[45]⟩ : ByteArray)) (wrap64 (x4 + 1))) else (none)) else (if (bt x0 x4) = 45 then (if x3.size + 1 ≤ 9223372036854775807 then (spec_OppositeText.l0 k x0 (x3 ++ (⟨#[43]⟩ : ByteArray)) (wrap64 (x4 + 1))) else (none)) else (if x3.size + 1 ≤ 9223372036854775807 then (spec_OppositeText.l0 k x0 (x3 ++ (⟨#[48]⟩ : ByteArray)) (wrap64 (x4 + 1))) else (none)))) else (none)) else (none)) else (some x3)
end
def spec_OppositeText.f (k : Nat) (a0 : ByteArray) : Option (ByteArray) := spec_OppositeText.l0 k a0 (⟨#[]⟩ : ByteArray) 0
set_option maxHeartbeats 8000000 in
set_option maxRecDepth 100000 in
theorem spec_OppositeText.calls (k : Nat) (a0 : ByteArray) (r : ByteArray) (w : World) (h : spec_OppositeText.f k a0 = some r) :
  Calls Tryd.prog 9 #[.string a0] w fun e w' => e = .returned (.string r) ∧ Drawn0 w w' := by
 have H : (spec_OppositeText.l0 k a0 (⟨#[]⟩ : ByteArray) 0) = some r := h
 clear h
 have H' := Aside0.mk H
 clear H
 go_enter Tryd.func9, Tryd.ntmps9
 go_wp2
 go_loopg [3, 4] k (fun kq v3 v4 w' => ∃ (x3_1 : ByteArray) (x4_1 : Int), v3 = .string x3_1 ∧ v4 = .int .i64 x4_1 ∧ Aside0 (spec_OppositeText.l0 kq a0 x3_1 x4_1 = some r) ∧ Aside0 (kq ≤ k) ∧ Drawn0 w w')
 case atStart => exact ⟨((⟨#[]⟩ : ByteArray)), (0), (by first | rfl | (simp; done) | (simp [*]; done)), (by first | rfl | (simp; done) | (simp [*]; done)), H', ⟨Nat.le_refl _⟩, by repeat (first | exact Drawn0.refl _ | apply Drawn0.step)⟩
 case round =>
  clear H'
  obtain ⟨x3_1, x4_1, rfl, rfl, HA, HK1, ⟨m1, rfl⟩⟩ := hrel
  cases gk with
  | zero => exact absurd HA.out (by simp [spec_OppositeText.l0])
  | succ k1 =>
   have H := HA.out
   clear HA
   simp only [spec_OppositeText.l0] at H
   have HC2 := Aside0.mk H
   clear H
   go_upto_region 3 with (fail)
   go_cut [12] (fun v12 wc => ∃ (kq : Nat) (x12_1 : Bool), v12 = .bool x12_1 ∧ Aside0 (spec_OppositeText.j1 kq a0 x3_1 x4_1 x12_1 = some r) ∧ Aside0 (kq ≤ k1) ∧ Drawn0 w wc)
   case first =>
    have H := HC2.out
    clear HC2
    by_cases c3 : x4_1 < (a0.size : Int)
    ·rw [if_pos c3] at H
     have c3b0 : decide (x4_1 < (a0.size : Int)) = true := decide_eq_true c3
     clear c3
     (first | rw [c3b0] | (simp only [i64_w, i32_w]; rw [c3b0]) | skip)
     replace H := Option.bind_eq_some_iff.mp H
     obtain ⟨t110, A40, H⟩ := H
     replace H : (spec_OppositeText.j1 k1 a0 x3_1 x4_1 t110) = some r := H
     have A4 := Aside0.mk A40
     clear A40
     have H' := Aside0.mk H
     clear H
     go_wp2_with (first | (go_at_call 17; (with_reducible refine (spec_l20Fits.calls k1 a0 t110 _ A4.out).mono ?_); rintro e w' ⟨rfl, ⟨nd, rfl⟩⟩))
     go_meet
     case rel => exact ⟨_, (t110), (by first | rfl | (simp; done) | (simp [*]; done)), H', ⟨by have := HK1.out; first | omega | exact Nat.le_refl _⟩, by repeat (first | exact Drawn0.refl _ | apply Drawn0.step)⟩
    ·rw [if_neg c3] at H
     have c3b0 : decide (x4_1 < (a0.size : Int)) = false := decide_eq_false c3
     clear c3
     (first | rw [c3b0] | (simp only [i64_w, i32_w]; rw [c3b0]) | skip)
     have H' := Aside0.mk H
     clear H
     go_wp2
     go_meet
     case rel => exact ⟨_, (false), (by first | rfl | (simp; done) | (simp [*]; done)), H', ⟨by have := HK1.out; first | omega | exact Nat.le_refl _⟩, by repeat (first | exact Drawn0.refl _ | apply Drawn0.step)⟩
   case rest =>
    clear HC2
    try clear p2
    try clear c3
    try clear c3b0
    obtain ⟨kq, x12_1, rfl, HA, HJ1, ⟨mc1, rfl⟩⟩ := hcut
    cases kq with
    | zero => exact absurd HA.out (by simp [spec_OppositeText.j1])
    | succ kj1 =>
     have H := HA.out
     clear HA
     simp only [spec_OppositeText.j1] at H
     by_cases c5 : x12_1 = true
     ·subst c5
      have H1 : (if 0 ≤ x4_1 then (if x4_1 < (a0.size : Int) then (if (bt a0 x4_1) = 43 then (if x3_1.size + 1 ≤ 9223372036854775807 then (spec_OppositeText.l0 kj1 a0 (x3_1 ++ (⟨#[45]⟩ : ByteArray)) (wrap64 (x4_1 + 1))) else (none)) else (if (bt a0 x4_1) = 45 then (if x3_1.size + 1 ≤ 9223372036854775807 then (spec_OppositeText.l0 kj1 a0 (x3_1 ++ (⟨#[43]⟩ : ByteArray)) (wrap64 (x4_1 + 1))) else (none)) else (if x3_1.size + 1 ≤ 9223372036854775807 then (spec_OppositeText.l0 kj1 a0 (x3_1 ++ (⟨#[48]⟩ : ByteArray)) (wrap64 (x4_1 + 1))) else (none)))) else (none)) else (none)) = some r := by rw [if_pos rfl] at H; exact H
      clear H
      have H := H1
      clear H1
      by_cases c6 : 0 ≤ x4_1
      ·rw [if_pos c6] at H
       have c6b0 : decide (0 ≤ x4_1) = true := decide_eq_true c6
       clear c6
       by_cases c7 : x4_1 < (a0.size : Int)
       ·rw [if_pos c7] at H
        have c7b0 : decide (x4_1 < (a0.size : Int)) = true := decide_eq_true c7
        clear c7
        by_cases c9 : (bt a0 x4_1) = 43
        ·rw [if_pos c9] at H
         have c9b0 : ((bt a0 x4_1) == 43) = true := beq_iff_eq.mpr c9
         have c9b1 : ((bt a0 x4_1) != 43) = false := bne_eq_false_iff_eq.mpr c9
         clear c9
         by_cases c10 : x3_1.size + 1 ≤ 9223372036854775807
         ·rw [if_pos c10] at H
          have c10b0 := eq_true c10
          have c10b1 : decide (x3_1.size + 1 ≤ 9223372036854775807) = true := decide_eq_true c10
          try have c10b2 : (9223372036854775807 < x3_1.size + 1) = False := eq_false (Nat.not_lt.2 c10)
          have H' := Aside0.mk H
          clear H
          have p8 : 0 ≤ (x4_1 : Int) := of_decide_eq_true (by first | (with_reducible assumption) | assumption)
          have q8 : x4_1 < (a0.size : Int) := of_decide_eq_true (by first | (with_reducible assumption) | assumption)
          have hx8 := bt_at a0 x4_1
          replace p8 := eq_true p8
          replace q8 := eq_true q8
          go_wp2
          go_roundg kj1
          case measure => have := HK1.out; have := HJ1.out; omega
          case rel => exact ⟨(x3_1 ++ (⟨#[45]⟩ : ByteArray)), (wrap64 (x4_1 + 1)), (by first | rfl | (simp; done) | (simp [*]; done)), (by first | rfl | (simp; done) | (simp [*]; done)), H', ⟨by have := HK1.out; have := HJ1.out; omega⟩, by repeat (first | exact Drawn0.refl _ | apply Drawn0.step)⟩
         ·rw [if_neg c10] at H
          exact absurd H (by simp)
        ·rw [if_neg c9] at H
         have c9b0 : ((bt a0 x4_1) == 43) = false := beq_eq_false_iff_ne.mpr c9
         have c9b1 : ((bt a0 x4_1) != 43) = true := bne_iff_ne.mpr c9
         by_cases c11 : (bt a0 x4_1) = 45
         ·rw [if_pos c11] at H
          have c11b0 : ((bt a0 x4_1) == 45) = true := beq_iff_eq.mpr c11
          have c11b1 : ((bt a0 x4_1) != 45) = false := bne_eq_false_iff_eq.mpr c11
          clear c11
          by_cases c12 : x3_1.size + 1 ≤ 9223372036854775807
          ·rw [if_pos c12] at H
           have c12b0 := eq_true c12
           have c12b1 : decide (x3_1.size + 1 ≤ 9223372036854775807) = true := decide_eq_true c12
           try have c12b2 : (9223372036854775807 < x3_1.size + 1) = False := eq_false (Nat.not_lt.2 c12)
           have H' := Aside0.mk H
           clear H
           have p8 : 0 ≤ (x4_1 : Int) := of_decide_eq_true (by first | (with_reducible assumption) | assumption)
           have q8 : x4_1 < (a0.size : Int) := of_decide_eq_true (by first | (with_reducible assumption) | assumption)
           have hx8 := bt_at a0 x4_1
           replace p8 := eq_true p8
           replace q8 := eq_true q8
           go_wp2
           go_roundg kj1
           case measure => have := HK1.out; have := HJ1.out; omega
           case rel => exact ⟨(x3_1 ++ (⟨#[43]⟩ : ByteArray)), (wrap64 (x4_1 + 1)), (by first | rfl | (simp; done) | (simp [*]; done)), (by first | rfl | (simp; done) | (simp [*]; done)), H', ⟨by have := HK1.out; have := HJ1.out; omega⟩, by repeat (first | exact Drawn0.refl _ | apply Drawn0.step)⟩
          ·rw [if_neg c12] at H
           exact absurd H (by simp)
         ·rw [if_neg c11] at H
          have c11b0 : ((bt a0 x4_1) == 45) = false := beq_eq_false_iff_ne.mpr c11
          have c11b1 : ((bt a0 x4_1) != 45) = true := bne_iff_ne.mpr c11
          by_cases c13 : x3_1.size + 1 ≤ 9223372036854775807
          ·rw [if_pos c13] at H
           have c13b0 := eq_true c13
           have c13b1 : decide (x3_1.size + 1 ≤ 9223372036854775807) = true := decide_eq_true c13
           try have c13b2 : (9223372036854775807 < x3_1.size + 1) = False := eq_false (Nat.not_lt.2 c13)
           have H' := Aside0.mk H
           clear H
           have p8 : 0 ≤ (x4_1 : Int) := of_decide_eq_true (by first | (with_reducible assumption) | assumption)
           have q8 : x4_1 < (a0.size : Int) := of_decide_eq_true (by first | (with_reducible assumption) | assumption)
           have hx8 := bt_at a0 x4_1
           replace p8 := eq_true p8
           replace q8 := eq_true q8
           go_wp2
           go_roundg kj1
           case measure => have := HK1.out; have := HJ1.out; omega
           case rel => exact ⟨(x3_1 ++ (⟨#[48]⟩ : ByteArray)), (wrap64 (x4_1 + 1)), (by first | rfl | (simp; done) | (simp [*]; done)), (by first | rfl | (simp; done) | (simp [*]; done)), H', ⟨by have := HK1.out; have := HJ1.out; omega⟩, by repeat (first | exact Drawn0.refl _ | apply Drawn0.step)⟩
          ·rw [if_neg c13] at H
           exact absurd H (by simp)
       ·rw [if_neg c7] at H
        exact absurd H (by simp)
      ·rw [if_neg c6] at H
       exact absurd H (by simp)
     ·replace c5 := Bool.eq_false_iff.mpr c5
      subst c5
      have H1 : (some x3_1) = some r := by rw [if_neg (show ¬ (false = true) by decide)] at H; exact H
      clear H
      have H := H1
      clear H1
      obtain rfl := Option.some.inj H
      go_wp2
      go_ret
      exact ⟨by first | rfl | (simp; done) | (simp [*]; done), by repeat (first | exact Drawn0.refl _ | apply Drawn0.step)⟩
end Go.Proofs.YtajogmlblknfdaaDoor.P
namespace Go.Proofs.YtajogmlblknfdaaDoor.P
open Go.RowKit Go.Proofs.YtajogmlblknfdaaDoorW.PrintWords Go.Proofs.YtajogmlblknfdaaDoorW.PrintLast Go.Proofs.YtajogmlblknfdaaDoorW.PrintMore
set_option linter.unusedVariables false
set_option linter.unusedSimpArgs false
def trimRen : Go.Shelf.Ren := ⟨fun x => if x = 227 then 38 else if x = 228 then 50 else x, fun x => if x = 116 then 52 else if x = 124 then 56 else if x = 9 then 9 else if x = 4 then 4 else if x = 3 then 3 else if x = 5 then 5 else x, fun x => x⟩
theorem trim227 : Lays.n227 Tryd.prog trimRen :=
  { mixed := by kernel_rfl, f227 := Tryd.func38.trans (congrArg some (by kernel_rfl)),
    t0 := Tryd.underlying0, a0 := Tryd.isAgg0, z0 := Tryd.sizeOf0, v0 := Tryd.zeroValue0,
    t3 := Tryd.underlying3, a3 := Tryd.isAgg3, z3 := Tryd.sizeOf3, v3 := Tryd.zeroValue3,
    t4 := Tryd.underlying4, a4 := Tryd.isAgg4, z4 := Tryd.sizeOf4, v4 := Tryd.zeroValue4,
    t5 := Tryd.underlying5, a5 := Tryd.isAgg5, z5 := Tryd.sizeOf5, v5 := Tryd.zeroValue5,
    t9 := Tryd.underlying9, a9 := Tryd.isAgg9, z9 := Tryd.sizeOf9, v9 := Tryd.zeroValue9,
    t116 := Tryd.underlying52, a116 := Tryd.isAgg52, z116 := Tryd.sizeOf52 }
theorem trim228 : Lays.n228 Tryd.prog trimRen :=
  { mixed := by kernel_rfl, f228 := Tryd.func50.trans (congrArg some (by kernel_rfl)),
    t0 := Tryd.underlying0, a0 := Tryd.isAgg0, z0 := Tryd.sizeOf0, v0 := Tryd.zeroValue0,
    t4 := Tryd.underlying4, a4 := Tryd.isAgg4, z4 := Tryd.sizeOf4, v4 := Tryd.zeroValue4,
    t5 := Tryd.underlying5, a5 := Tryd.isAgg5, z5 := Tryd.sizeOf5, v5 := Tryd.zeroValue5,
    t116 := Tryd.underlying52, a116 := Tryd.isAgg52, z116 := Tryd.sizeOf52,
    t124 := Tryd.underlying56, a124 := Tryd.isAgg56, z124 := Tryd.sizeOf56, v124 := Tryd.zeroValue56 }
def inSet (cs : List UInt8) (x : Int) : Bool := cs.contains (UInt8.ofNat x.toNat)
abbrev SETB (cs : List UInt8) : Obj := .cells (Lib.setCells cs) 52 (0, 0)
theorem asciiSet_has.calls (b : Nat) (cs : List UInt8) (x : Int) (w : World) (h0 : 0 ≤ x) (h1 : x < 256) (hb : w.heap[b]? = some (SETB cs)) :
    Calls Tryd.prog 50 #[.pointer (some ⟨b, 0, none⟩), .int .u8 x] w fun e w' => e = .returned (.bool (inSet cs x)) ∧ w' = w := by
  have hx : (((UInt8.ofNat x.toNat).toNat : Nat) : Int) = x := by
    rw [UInt8.toNat_ofNat']
    omega
  have h := Any.asciiSet_contains trim228 b (UInt8.ofNat x.toNat) (inSet cs x) w ((blk_cell hb _).trans (Lib.setCells_at cs _))
  rw [hx] at h
  exact h
def trimL : Nat → List UInt8 → ByteArray → Option ByteArray
  | 0, _, _ => none
  | k + 1, cs, s => if 0 < (s.size : Int) then (if inSet cs (bt s 0) = true then trimL k cs (s.extract 1 s.size) else some s) else some s
def trimR : Nat → List UInt8 → ByteArray → Option ByteArray
  | 0, _, _ => none
  | k + 1, cs, s => if 0 < (s.size : Int) then (if 0 ≤ (wrap64 ((s.size : Int) - 1)) then (if (wrap64 ((s.size : Int) - 1)) < (s.size : Int) then (if inSet cs (bt s (wrap64 ((s.size : Int) - 1))) = true then trimR k cs (s.extract 0 ((wrap64 ((s.size : Int) - 1)) : Int).toNat) else some s) else none) else none) else some s
theorem trimL.mono_l : ∀ k, ∀ cs s, LeO (trimL k cs s) (trimL (k + 1) cs s)
  | 0 => fun _ _ r h => by simp [trimL] at h
  | k + 1 => by
    have ih := trimL.mono_l k
    intro cs s
    unfold trimL
    repeat' first
      | (with_reducible exact ih _ _)
      | (with_reducible exact LeO.refl _)
      | (with_reducible exact LeO.none _)
      | (with_reducible refine LeO.ite ?_ ?_)
      | (with_reducible refine LeO.bind ?_ (fun _ => ?_))
theorem trimR.mono_l : ∀ k, ∀ cs s, LeO (trimR k cs s) (trimR (k + 1) cs s)
  | 0 => fun _ _ r h => by simp [trimR] at h
  | k + 1 => by
    have ih := trimR.mono_l k
    intro cs s
    unfold trimR
    repeat' first
      | (with_reducible exact ih _ _)
      | (with_reducible exact LeO.refl _)
      | (with_reducible exact LeO.none _)
      | (with_reducible refine LeO.ite ?_ ?_)
      | (with_reducible refine LeO.bind ?_ (fun _ => ?_))
set_option maxHeartbeats 8000000 in
set_option maxRecDepth 100000 in
theorem trimL.calls (k b : Nat) (cs : List UInt8) (s r : ByteArray) (w : World) (hb : w.heap[b]? = some (SETB cs)) (h : trimL k cs s = some r) :
    Calls Tryd.prog 39 #[.string s, .pointer (some ⟨b, 0, none⟩)] w fun e w' => e = .returned (.string r) ∧ Drawn0 w w' := by
  have H' := Aside0.mk h
  have HS := Aside0.mk hb
  clear h hb
  go_enter Tryd.func39, Tryd.ntmps39
  go_wp2
  go_loopg [0] k (fun kq v0 w' => ∃ (x0_1 : ByteArray), v0 = .string x0_1 ∧ Aside0 (trimL kq cs x0_1 = some r) ∧ Aside0 (kq ≤ k) ∧ Drawn0 w w')
  case atStart => exact ⟨s, rfl, H', ⟨Nat.le_refl _⟩, by repeat (first | exact Drawn0.refl _ | apply Drawn0.step)⟩
  case round =>
    clear H'
    obtain ⟨x0_1, rfl, HA, HK1, ⟨m1, rfl⟩⟩ := hrel
    cases gk with
    | zero => exact absurd HA.out (by simp [trimL])
    | succ k1 =>
      have H := HA.out
      clear HA
      simp only [trimL] at H
      by_cases c3 : 0 < (x0_1.size : Int)
      · rw [if_pos c3] at H
        have c3b0 : decide (0 < (x0_1.size : Int)) = true := decide_eq_true c3
        have c3b1 : decide (0 < x0_1.size) = true := decide_eq_true (by omega)
        have qi5 : (0 < (x0_1.size : Int)) = True := eq_true c3
        have c7b0 : (1 ≤ (x0_1.size : Int)) = True := eq_true (by omega)
        have q5 : (0 < x0_1.size) = True := eq_true (by omega)
        have hx5 : ∀ h : 0 < x0_1.size, ((x0_1[0]'h).toNat : Int) = bt x0_1 0 := bt_at x0_1 0
        have hr0 : 0 ≤ bt x0_1 0 ∧ bt x0_1 0 < 256 := by
          have h0 : 0 < x0_1.size := by omega
          rw [← hx5 h0]
          have := (x0_1[0]'h0).toNat_lt
          omega
        have HR := Aside0.mk hr0
        clear hr0 c3
        by_cases c6 : inSet cs (bt x0_1 0) = true
        · rw [if_pos c6] at H
          have H' := Aside0.mk H
          clear H
          go_wp2_with (go_at_call 50; (with_reducible refine (asciiSet_has.calls b cs _ _ HR.out.1 HR.out.2 (blk_drewN HS.out _)).mono ?_); rintro e w' ⟨rfl, rfl⟩)
          go_roundg k1
          case measure => have := HK1.out; omega
          case rel => exact ⟨(x0_1.extract 1 x0_1.size), (by first | rfl | (simp; done) | (simp [*]; done)), H', ⟨by have := HK1.out; omega⟩, by repeat (first | exact Drawn0.refl _ | apply Drawn0.step)⟩
        · rw [if_neg c6] at H
          have c6b : inSet cs (bt x0_1 0) = false := by simpa using c6
          obtain rfl := Option.some.inj H
          clear c6
          go_wp2_with (go_at_call 50; (with_reducible refine (asciiSet_has.calls b cs _ _ HR.out.1 HR.out.2 (blk_drewN HS.out _)).mono ?_); rintro e w' ⟨rfl, rfl⟩)
          go_ret
          exact ⟨by first | rfl | (simp; done) | (simp [*]; done), by repeat (first | exact Drawn0.refl _ | apply Drawn0.step)⟩
      · rw [if_neg c3] at H
        have c3b0 : decide (0 < (x0_1.size : Int)) = false := decide_eq_false c3
        have c3b1 : decide (0 < x0_1.size) = false := decide_eq_false (by omega)
        clear c3
        obtain rfl := Option.some.inj H
        go_wp2
        go_ret
        exact ⟨by first | rfl | (simp; done) | (simp [*]; done), by repeat (first | exact Drawn0.refl _ | apply Drawn0.step)⟩
set_option maxHeartbeats 8000000 in
set_option maxRecDepth 100000 in
theorem trimR.calls (k b : Nat) (cs : List UInt8) (s r : ByteArray) (w : World) (hb : w.heap[b]? = some (SETB cs)) (h : trimR k cs s = some r) :
    Calls Tryd.prog 40 #[.string s, .pointer (some ⟨b, 0, none⟩)] w fun e w' => e = .returned (.string r) ∧ Drawn0 w w' := by
  have H' := Aside0.mk h
  have HS := Aside0.mk hb
  clear h hb
  go_enter Tryd.func40, Tryd.ntmps40
  go_wp2
  go_loopg [0] k (fun kq v0 w' => ∃ (x0_1 : ByteArray), v0 = .string x0_1 ∧ Aside0 (trimR kq cs x0_1 = some r) ∧ Aside0 (kq ≤ k) ∧ Drawn0 w w')
  case atStart => exact ⟨s, rfl, H', ⟨Nat.le_refl _⟩, by repeat (first | exact Drawn0.refl _ | apply Drawn0.step)⟩
  case round =>
    clear H'
    obtain ⟨x0_1, rfl, HA, HK1, ⟨m1, rfl⟩⟩ := hrel
    cases gk with
    | zero => exact absurd HA.out (by simp [trimR])
    | succ k1 =>
      have H := HA.out
      clear HA
      simp only [trimR] at H
      by_cases c3 : 0 < (x0_1.size : Int)
      · rw [if_pos c3] at H
        have c3b0 : decide (0 < (x0_1.size : Int)) = true := decide_eq_true c3
        have c3b1 : decide (0 < x0_1.size) = true := decide_eq_true (by omega)
        clear c3
        obtain ⟨ji4, hji4⟩ : ∃ j_ : Int, (wrap64 ((x0_1.size : Int) - 1)) = j_ := ⟨_, rfl⟩
        rw [hji4] at H
        have hji4w : (IntKind.i64.wrap ((x0_1.size : Int) - 1)) = ji4 := (i64_w _).trans hji4
        by_cases c5 : 0 ≤ ji4
        · rw [if_pos c5] at H
          by_cases c6 : ji4 < (x0_1.size : Int)
          · rw [if_pos c6] at H
            have c5b0 : decide (0 ≤ ji4) = true := decide_eq_true c5
            have c6b0 : decide (ji4 < (x0_1.size : Int)) = true := decide_eq_true c6
            have c10b1 : decide (ji4 ≤ (x0_1.size : Int)) = true := decide_eq_true (by omega)
            have c10b0 : (ji4 ≤ (x0_1.size : Int)) = True := eq_true (by omega)
            have p7 : (0 ≤ ji4) = True := eq_true c5
            have q7 : (ji4 < (x0_1.size : Int)) = True := eq_true c6
            have hx7 := bt_at x0_1 ji4
            have hr0 : 0 ≤ bt x0_1 ji4 ∧ bt x0_1 ji4 < 256 := by
              have h0 : ji4.toNat < x0_1.size := by omega
              rw [← hx7 h0]
              have := (x0_1[ji4.toNat]'h0).toNat_lt
              omega
            have HR := Aside0.mk hr0
            clear hr0 c5 c6
            by_cases c8 : inSet cs (bt x0_1 ji4) = true
            · rw [if_pos c8] at H
              have H' := Aside0.mk H
              clear H
              go_wp2_with (go_at_call 50; (with_reducible refine (asciiSet_has.calls b cs _ _ HR.out.1 HR.out.2 (blk_drewN HS.out _)).mono ?_); rintro e w' ⟨rfl, rfl⟩)
              go_roundg k1
              case measure => have := HK1.out; omega
              case rel => exact ⟨(x0_1.extract 0 ji4.toNat), (by first | rfl | (simp; done) | (simp only [← hji4] <;> (first | rfl | simp)) | (simp [*]; done)), H', ⟨by have := HK1.out; omega⟩, by repeat (first | exact Drawn0.refl _ | apply Drawn0.step)⟩
            · rw [if_neg c8] at H
              have c8b : inSet cs (bt x0_1 ji4) = false := by simpa using c8
              obtain rfl := Option.some.inj H
              clear c8
              go_wp2_with (go_at_call 50; (with_reducible refine (asciiSet_has.calls b cs _ _ HR.out.1 HR.out.2 (blk_drewN HS.out _)).mono ?_); rintro e w' ⟨rfl, rfl⟩)
              go_ret
              exact ⟨by first | rfl | (simp; done) | (simp [*]; done), by repeat (first | exact Drawn0.refl _ | apply Drawn0.step)⟩
          · rw [if_neg c6] at H
            exact absurd H (by simp)
        · rw [if_neg c5] at H
          exact absurd H (by simp)
      · rw [if_neg c3] at H
        have c3b0 : decide (0 < (x0_1.size : Int)) = false := decide_eq_false c3
        have c3b1 : decide (0 < x0_1.size) = false := decide_eq_false (by omega)
        clear c3
        obtain rfl := Option.some.inj H
        go_wp2
        go_ret
        exact ⟨by first | rfl | (simp; done) | (simp [*]; done), by repeat (first | exact Drawn0.refl _ | apply Drawn0.step)⟩
def cutOk (c : ByteArray) : Bool := decide (2 ≤ c.size) && c.data.toList.all fun x => decide (x.toNat < 128)
def strings_Trim.f (k : Nat) (a0 a1 : ByteArray) : Option ByteArray := if cutOk a1 = true ∧ a1.size ≤ 1000 then (if a0.toList = [] then some a0 else (trimR k a1.data.toList a0).bind fun t => trimL k a1.data.toList t) else none
theorem strings_Trim.mono : ∀ a0 a1 k, LeO (strings_Trim.f k a0 a1) (strings_Trim.f (k + 1) a0 a1) := by
  intro a0 a1 k
  have ih := trimL.mono_l k
  have ih2 := trimR.mono_l k
  unfold strings_Trim.f
  repeat' first
    | (with_reducible exact ih _ _)
    | (with_reducible exact LeO.refl _)
    | (with_reducible exact LeO.none _)
    | (with_reducible refine LeO.ite ?_ ?_)
    | (with_reducible refine LeO.bind ?_ (fun _ => ?_))
    | (with_reducible exact ih2 _ _)
set_option maxHeartbeats 8000000 in
set_option maxRecDepth 100000 in
theorem strings_Trim.calls (k : Nat) (a0 a1 : ByteArray) (r : ByteArray) (w : World) (h : strings_Trim.f k a0 a1 = some r) :
    Calls Tryd.prog 26 #[.string a0, .string a1] w fun e w' => e = .returned (.string r) ∧ Below w.heap.size w w' := by
  unfold strings_Trim.f at h
  by_cases hc : cutOk a1 = true ∧ a1.size ≤ 1000
  case neg => rw [if_neg hc] at h; cases h
  rw [if_pos hc] at h
  obtain ⟨hc1, hc2⟩ := hc
  unfold cutOk at hc1
  rw [Bool.and_eq_true, decide_eq_true_eq, List.all_eq_true] at hc1
  have hne : a1.toList ≠ [] := fun e => by
    have h2 := hc1.1
    rw [Lib.toList_data] at e
    have h3 : a1.size = a1.data.toList.length := rfl
    rw [e, List.length_nil] at h3
    omega
  have e1 : (a1.toList == ([] : List UInt8)) = false := beq_eq_false_iff_ne.mpr hne
  have e1e : a1.toList.isEmpty = false := by
    cases h : a1.toList with
    | nil => exact absurd h hne
    | cons _ _ => rfl
  have e2 : ((a1.size : Int) == 1) = false := beq_eq_false_iff_ne.mpr (by omega)
  by_cases h0 : a0.toList = []
  · rw [if_pos h0] at h
    obtain rfl := Option.some.inj h
    have e0 : (a0.toList == ([] : List UInt8)) = true := beq_iff_eq.mpr h0
    have e0e : a0.toList.isEmpty = true := by rw [h0]; rfl
    clear h h0 hne hc1
    go_enter Tryd.func26, Tryd.ntmps26
    go_wp2
    go_ret
    exact ⟨by first | rfl | (simp; done) | (simp [*]; done), by repeat (first | exact Below.refl _ _ | apply pw_below_drewN | apply below_drew1)⟩
  rw [if_neg h0] at h
  obtain ⟨t, hR, hL⟩ := Option.bind_eq_some_iff.mp h
  have e0 : (a0.toList == ([] : List UInt8)) = false := beq_eq_false_iff_ne.mpr h0
  have e0e : a0.toList.isEmpty = false := by
    cases h : a0.toList with
    | nil => exact absurd h h0
    | cons _ _ => rfl
  have hM : ∀ W : World, Calls Tryd.prog 38 #[.string a1] W fun e w' => e = .returned (.tuple #[.agg (Lib.setCells a1.data.toList), .bool true]) ∧ w' = W.alloc (.cells (Lib.setCells a1.data.toList) 52) := fun W => Any.strings_makeASCIISet trim227 Tryd.zeroValue52 (by kernel_rfl) a1 W (by omega) (fun j b hb => of_decide_eq_true (hc1.2 b (List.mem_of_getElem? hb)))
  have hsz := Lib.setCells_size a1.data.toList
  have hone := Lib.setCells_one a1.data.toList
  have hbl : ∀ W : World, (W.alloc (.cells (Lib.setCells a1.data.toList) 52 (0, 0))).heap[W.heap.size]? = some (.cells (Lib.setCells a1.data.toList) 52 (0, 0)) := fun W => blk_new W _
  have hLc := fun (W : World) (n : Nat) => trimL.calls k W.heap.size a1.data.toList t r ((W.alloc (.cells (Lib.setCells a1.data.toList) 52 (0, 0))).drewN n) (blk_drewN (hbl W) n) hL
  have hRc := fun W => trimR.calls k W.heap.size a1.data.toList a0 t (W.alloc (.cells (Lib.setCells a1.data.toList) 52 (0, 0))) (hbl W) hR
  have hst : ∀ W : World, (storeCells ⟨W.heap.size, 0, none⟩ (Lib.setCells a1.data.toList).toList 0).run Tryd.prog (W.alloc (.cells Tryd.zeroCells52 52)) = .ok () (W.alloc (.cells (Lib.setCells a1.data.toList) 52 (0, 0))) := fun W => run_storeCells_new W 52 Tryd.zeroCells52 (Lib.setCells a1.data.toList) (by rw [hsz]; kernel_rfl) (by rw [hsz]; kernel_rfl) hone
  have HM := Aside0.mk hM
  have HR := Aside0.mk hR
  have HL := Aside0.mk hL
  have hsz1 : ∀ o : Obj, (w.alloc o).heap.size = w.heap.size + 1 := fun o => by
    show (w.heap.push o).size = w.heap.size + 1
    exact Array.size_push ..
  have hst2 := hst (w.alloc (.cells (Lib.setCells a1.data.toList) 52 (0, 0)))
  have hLc2 := hLc (w.alloc (.cells (Lib.setCells a1.data.toList) 52 (0, 0)))
  have hRc2 := hRc (w.alloc (.cells (Lib.setCells a1.data.toList) 52 (0, 0)))
  rw [hsz1] at hst2 hLc2 hRc2
  have HB := Aside0.mk hbl
  have HLC := Aside0.mk hLc2
  have HRC := Aside0.mk hRc2
  clear hLc2 hRc2 hst
  generalize Lib.setCells a1.data.toList = C at *
  clear h h0 hne hc1 hM hR hL hbl hLc hRc hone
  go_enter Tryd.func26, Tryd.ntmps26
  go_wp2_with (first | (go_at_call 38; (refine (HM.out _).mono ?_); rintro e w' ⟨rfl, rfl⟩) | (go_at_call 40; (refine (HRC.out).mono ?_); rintro e w' ⟨rfl, ⟨n1, rfl⟩⟩) | (go_at_call 39; (refine (HLC.out _).mono ?_); rintro e w' ⟨rfl, ⟨n2, rfl⟩⟩))
  go_ret
  exact ⟨by first | rfl | (simp; done) | (simp [*]; done), by repeat (first | exact Below.refl _ _ | apply below_alloc | apply pw_below_drewN | apply below_drew1)⟩
end Go.Proofs.YtajogmlblknfdaaDoor.P
namespace Go.Proofs.YtajogmlblknfdaaDoor.P
open Go.RowKit Go.Proofs.YtajogmlblknfdaaDoorW.PrintWords Go.Proofs.YtajogmlblknfdaaDoorW.PrintLast Go.Proofs.YtajogmlblknfdaaDoorW.PrintMore
attribute [local go_sem] ptrOf_slice
attribute [local go_sem] max2_int min2_int max_two min_two max_three min_three max_four min_four
set_option linter.unusedVariables false
set_option linter.unusedSimpArgs false
def impl_isCoverText.f (k : Nat) (a0 : ByteArray) : Option (Bool) := if (a0.size : Int) ≤ 7 then ((strings_Trim.f k a0 (⟨#[43, 45, 48]⟩ : ByteArray)).bind fun t105 => (some (t105.toList == ([] : List UInt8)))) else (some false)
set_option maxHeartbeats 8000000 in
set_option maxRecDepth 100000 in
theorem impl_isCoverText.calls (k : Nat) (a0 : ByteArray) (r : Bool) (w : World) (h : impl_isCoverText.f k a0 = some r) :
  Calls Tryd.prog 19 #[.string a0] w fun e w' => e = .returned (.bool r) ∧ Below w.heap.size w w' := by
 have HB := Aside0.mk (Below.refl w.heap.size w)
 have H : (if (a0.size : Int) ≤ 7 then ((strings_Trim.f k a0 (⟨#[43, 45, 48]⟩ : ByteArray)).bind fun t105 => (some (t105.toList == ([] : List UInt8)))) else (some false)) = some r := h
 clear h
 by_cases c2 : (a0.size : Int) ≤ 7
 ·rw [if_pos c2] at H
  have c2b0 : decide ((a0.size : Int) ≤ 7) = true := decide_eq_true c2
  have c2b1 : decide (a0.size ≤ 7) = true := decide_eq_true (by omega)
  clear c2
  replace H := Option.bind_eq_some_iff.mp H
  obtain ⟨t105, A30, H⟩ := H
  replace H : (some (t105.toList == ([] : List UInt8))) = some r := H
  have A3 := Aside0.mk A30
  clear A30
  obtain rfl := Option.some.inj H
  go_enter Tryd.func19, Tryd.ntmps19
  go_wp2_with (first | (go_at_call 26; (with_reducible refine (strings_Trim.calls k a0 (⟨#[43, 45, 48]⟩ : ByteArray) t105 _ A3.out).mono ?_); rintro e w4 ⟨rfl, hb⟩; have n0_ := Aside0.mk (below_step (by repeat (first | (with_reducible first | exact HB.out | apply below_alloc | apply pw_below_drewN | apply below_drew1) | exact HB.out)) hb); clear HB; have HB := n0_; clear n0_; (try clear hb); (try clear hb2); (try clear hk); (try clear hi)))
  go_ret
  exact ⟨by first | rfl | (simp [errW_none, errW_some] <;> rfl) | (simp [*, errW_none, errW_some] <;> rfl), by repeat (first | (with_reducible first | exact HB.out | apply below_alloc | apply pw_below_drewN | apply below_drew1) | exact HB.out)⟩
 ·rw [if_neg c2] at H
  have c2b0 : decide ((a0.size : Int) ≤ 7) = false := decide_eq_false c2
  have c2b1 : decide (a0.size ≤ 7) = false := decide_eq_false (by omega)
  clear c2
  obtain rfl := Option.some.inj H
  go_enter Tryd.func19, Tryd.ntmps19
  go_wp2
  go_ret
  exact ⟨by first | rfl | (simp [errW_none, errW_some] <;> rfl) | (simp [*, errW_none, errW_some] <;> rfl), by repeat (first | (with_reducible first | exact HB.out | apply below_alloc | apply pw_below_drewN | apply below_drew1) | exact HB.out)⟩
end Go.Proofs.YtajogmlblknfdaaDoor.P
namespace Go.Proofs.YtajogmlblknfdaaDoor.P
open Go.RowKit Go.Proofs.YtajogmlblknfdaaDoorW.PrintWords Go.Proofs.YtajogmlblknfdaaDoorW.PrintLast Go.Proofs.YtajogmlblknfdaaDoorW.PrintMore
set_option linter.unusedVariables false
set_option linter.unusedSimpArgs false
def oppI (x : Int) : Int := if x = 43 then 45 else if x = 45 then 43 else x
def oppL (s : ByteArray) : List Int := (List.range s.size).map fun j : Nat => oppI (bt s (j : Int))
def impl_opposite.f (a0 : ByteArray) : Option ByteArray := if a0.size ≤ 9223372036854775807 then some (strOfNums (oppL a0)) else none
def oppR (s : ByteArray) (i j : Nat) : Int := if j < i then oppI (bt s (j : Int)) else bt s (j : Int)
theorem OPB (w : World) (e : TypeId) (s : ByteArray) : Below w.heap.size w (Lib.bytesWorld w e s) :=
  ⟨rfl, rfl, rfl, by rw [Lib.bytesWorld_size]; omega, fun k hk => Lib.bytesWorld_at_old w e s k hk⟩
theorem OPW (i : Nat) (h : i < 9223372036854775807) : wrap64 ((i : Int) + 1) = ((i + 1 : Nat) : Int) := by
  unfold wrap64
  omega
theorem opp_bt (s : ByteArray) (j : Nat) (hj : j < s.size) : (some (Value.int .u8 (s.data.toList.getD j 0).toNat)) = some (.int .u8 (bt s (j : Int))) := by
  unfold bt
  rw [dif_pos (by simpa using hj)]
  have h : j < s.data.toList.length := hj
  rw [List.getD_eq_getElem?_getD, List.getElem?_eq_getElem h]
  rfl
theorem opp_frozen (w : World) (e : TypeId) (s : ByteArray) (j : Nat) (hj : j < s.size) : (Lib.bytesWorld w e s).frozen? ⟨w.heap.size, j, none⟩ = false := by
  have h1 : s.size ≤ (Lib.bytesCells w e s).size := by
    unfold Lib.bytesCells
    rw [Array.size_append, Array.size_map]
    exact Nat.le_add_right _ _
  unfold World.frozen?
  simp only [Lib.bytesWorld_at_new]
  simp
  omega
set_option maxHeartbeats 2000000 in
set_option maxRecDepth 100000 in
theorem impl_opposite.calls (a0 : ByteArray) (r : ByteArray) (w : World) (h : impl_opposite.f a0 = some r) :
    Calls Tryd.prog 20 #[.string a0] w fun e w' => e = .returned (.string r) ∧ Below w.heap.size w w' := by
  unfold impl_opposite.f at h
  by_cases hsz : a0.size ≤ 9223372036854775807
  case neg => rw [if_neg hsz] at h; cases h
  rw [if_pos hsz] at h
  obtain rfl := Option.some.inj h
  clear h
  have hcv : ∀ W : World, (convert 9 36 (.string a0)).run Tryd.prog W = .ok (.slice (some ⟨W.heap.size, 0, none⟩) a0.size (grownCap W a0.size 0 5)) (Lib.bytesWorld W 5 a0) :=
    fun W => Lib.run_convert_string_bytes W _ _ _ a0 Tryd.underlying9 Tryd.underlying36 Tryd.underlying5
  have hbel0 : Below w.heap.size w (Lib.bytesWorld w 5 a0) := OPB w 5 a0
  have hc0 : ∀ j, j < a0.size → (Lib.bytesWorld w 5 a0).cell? ⟨w.heap.size, j, none⟩ = some (.int .u8 (bt a0 (j : Int))) := fun j hj => by
    rw [Lib.bytesWorld_cell w 5 a0 j hj, opp_bt a0 j hj]
  have hf0 : ∀ j, j < a0.size → (Lib.bytesWorld w 5 a0).frozen? ⟨w.heap.size, j, none⟩ = false := fun j hj => opp_frozen w 5 a0 j hj
  have HC := Aside0.mk hc0; have HF := Aside0.mk hf0; have HB := Aside0.mk hbel0; have HS := Aside0.mk hsz
  clear hc0 hf0 hbel0 hsz
  go_enter Tryd.func20, Tryd.ntmps20
  go_wp2
  generalize grownCap w a0.size 0 5 = cap
  generalize Lib.bytesWorld w 5 a0 = w1 at HC HF HB ⊢
  go_loopg [10] a0.size (fun gg v10 wr => ∃ i : Nat, i ≤ a0.size ∧ a0.size - i ≤ gg ∧ v10 = .int .i64 i ∧ Aside0 (Below w.heap.size w wr) ∧ Aside0 (∀ j, j < a0.size → wr.cell? ⟨w.heap.size, j, none⟩ = some (.int .u8 (oppR a0 i j))) ∧ Aside0 (∀ j, j < a0.size → wr.frozen? ⟨w.heap.size, j, none⟩ = false))
  case atStart =>
    refine ⟨0, Nat.zero_le _, by omega, rfl, HB, ⟨fun j hj => ?_⟩, HF⟩
    rw [HC.out j hj]
    rfl
  case round =>
    clear HC HF HB
    obtain ⟨i, hi, hg, rfl, HB, HC, HF⟩ := hrel
    by_cases hlt : i < a0.size
    · have hltz : (i : Int) < (a0.size : Int) := by omega
      have l1 := HC.out i hlt
      have f1 := HF.out i hlt
      rw [show oppR a0 i i = bt a0 (i : Int) by unfold oppR; rw [if_neg (Nat.lt_irrefl _)]] at l1
      have hstep : ∀ (W : World) (x : Int), x = oppI (bt a0 (i : Int)) → (∀ j, j < a0.size → W.cell? ⟨w.heap.size, j, none⟩ = some (.int .u8 (if j = i then x else oppR a0 i j))) → ∀ j, j < a0.size → W.cell? ⟨w.heap.size, j, none⟩ = some (.int .u8 (oppR a0 (i + 1) j)) := by
        intro W x hx hW j hj
        rw [hW j hj]
        unfold oppR
        by_cases e : j = i
        · subst e; rw [if_pos rfl, if_pos (Nat.lt_succ_self _), hx]
        · rw [if_neg e]
          by_cases e2 : j < i
          · rw [if_pos e2, if_pos (by omega)]
          · rw [if_neg e2, if_neg (by omega)]
      have HSTEP := Aside0.mk hstep
      clear hstep
      generalize hb : bt a0 (i : Int) = b at l1 HSTEP
      have HBB := Aside0.mk hb
      clear hb
      by_cases h43 : b = 43
      · subst h43
        go_wp2
        go_roundg (a0.size - (i + 1))
        case measure => omega
        case rel =>
          refine ⟨i + 1, by omega, by omega, by rw [OPW i (by have := HS.out; omega)], ⟨HB.out.setCell (Nat.le_refl _) _⟩, ⟨HSTEP.out _ 45 rfl (fun j hj => ?_)⟩, ⟨fun j hj => by rw [World.frozen?_setCell]; exact HF.out j hj⟩⟩
          by_cases e : j = i
          · subst e; rw [if_pos rfl, World.cell?_setCell_same (h := l1)]
          · rw [if_neg e, World.cell?_setCell_other (h := by intro h; injection h with _ h2 _; exact e h2.symm)]; exact HC.out j hj
      · by_cases h45 : b = 45
        · subst h45
          have n43 : ((45 : Int) == 43) = false := rfl
          go_wp2
          go_roundg (a0.size - (i + 1))
          case measure => omega
          case rel =>
            refine ⟨i + 1, by omega, by omega, by rw [OPW i (by have := HS.out; omega)], ⟨HB.out.setCell (Nat.le_refl _) _⟩, ⟨HSTEP.out _ 43 rfl (fun j hj => ?_)⟩, ⟨fun j hj => by rw [World.frozen?_setCell]; exact HF.out j hj⟩⟩
            by_cases e : j = i
            · subst e; rw [if_pos rfl, World.cell?_setCell_same (h := l1)]
            · rw [if_neg e, World.cell?_setCell_other (h := by intro h; injection h with _ h2 _; exact e h2.symm)]; exact HC.out j hj
        · have n43 : (b == 43) = false := beq_eq_false_iff_ne.mpr h43
          have n45 : (b == 45) = false := beq_eq_false_iff_ne.mpr h45
          go_wp2
          go_roundg (a0.size - (i + 1))
          case measure => omega
          case rel =>
            refine ⟨i + 1, by omega, by omega, by rw [OPW i (by have := HS.out; omega)], HB, ⟨HSTEP.out _ b (by unfold oppI; rw [if_neg h43, if_neg h45]) (fun j hj => ?_)⟩, HF⟩
            by_cases e : j = i
            · subst e; rw [if_pos rfl]; exact l1
            · rw [if_neg e]; exact HC.out j hj
    · have hltz : ¬ (i : Int) < (a0.size : Int) := by omega
      have : i = a0.size := by omega
      subst this
      have hcv2 : ∀ W : World, (∀ j, j < a0.size → W.cell? ⟨w.heap.size, 0 + j, none⟩ = some (.int .u8 ((oppL a0).getD j 0))) → (convert 36 9 (Value.slice (some ⟨w.heap.size, 0, none⟩) a0.size cap)).run Tryd.prog W = .ok (.string (strOfNums (oppL a0))) W :=
        fun W hW => run_convert_bytes_arg W 36 5 Tryd.underlying36 Tryd.underlying5 w.heap.size 0 a0.size cap (oppL a0) (by rw [oppL, List.length_map, List.length_range]) hW 9 Tryd.underlying9
      have hcv3 := hcv2 wr (fun j hj => by
        rw [Nat.zero_add, HC.out j hj]
        unfold oppR oppL
        rw [if_pos hj, List.getD_eq_getElem?_getD, List.getElem?_map, List.getElem?_range hj]
        rfl)
      go_wp2
      go_ret
      exact ⟨rfl, HB.out⟩
end Go.Proofs.YtajogmlblknfdaaDoor.P
namespace Go.Proofs.YtajogmlblknfdaaDoor.P
open Go.RowKit Go.Proofs.YtajogmlblknfdaaDoorW.PrintWords Go.Proofs.YtajogmlblknfdaaDoorW.PrintLast Go.Proofs.YtajogmlblknfdaaDoorW.PrintMore
attribute [local go_sem] ptrOf_slice
attribute [local go_sem] max2_int min2_int max_two min_two max_three min_three max_four min_four
set_option linter.unusedVariables false
set_option linter.unusedSimpArgs false
def impl_OppositeText.f (k : Nat) (a0 : ByteArray) : Option (ByteArray) := (impl_isCoverText.f k a0).bind fun t111 => (if t111 = true then ((impl_opposite.f a0).bind fun t112 => (some t112)) else (some (⟨#[]⟩ : ByteArray)))
set_option maxHeartbeats 8000000 in
set_option maxRecDepth 100000 in
theorem impl_OppositeText.calls (k : Nat) (a0 : ByteArray) (r : ByteArray) (w : World) (h : impl_OppositeText.f k a0 = some r) :
  Calls Tryd.prog 10 #[.string a0] w fun e w' => e = .returned (.string r) ∧ Below w.heap.size w w' := by
 have HB := Aside0.mk (Below.refl w.heap.size w)
 have H : ((impl_isCoverText.f k a0).bind fun t111 => (if t111 = true then ((impl_opposite.f a0).bind fun t112 => (some t112)) else (some (⟨#[]⟩ : ByteArray)))) = some r := h
 clear h
 replace H := Option.bind_eq_some_iff.mp H
 obtain ⟨t111, A20, H⟩ := H
 replace H : (if t111 = true then ((impl_opposite.f a0).bind fun t112 => (some t112)) else (some (⟨#[]⟩ : ByteArray))) = some r := H
 have A2 := Aside0.mk A20
 clear A20
 by_cases c3 : t111 = true
 ·subst c3
  have H1 : ((impl_opposite.f a0).bind fun t112 => (some t112)) = some r := by rw [if_pos rfl] at H; exact H
  clear H
  have H := H1
  clear H1
  replace H := Option.bind_eq_some_iff.mp H
  obtain ⟨t112, A40, H⟩ := H
  replace H : (some t112) = some r := H
  have A4 := Aside0.mk A40
  clear A40
  obtain rfl := Option.some.inj H
  go_enter Tryd.func10, Tryd.ntmps10
  go_wp2_with (first | ((with_reducible refine gate_callee (f := 19) rfl ?_); refine goesL_ (some 4) rfl rfl Tryd.func19 (by kernel_rfl) rfl #[.string a0] rfl (by (try simp only [List.map_toArray, List.map_cons, List.map_nil]); first | done | rfl | (simp only [List.length_drop, List.length_take]; rfl)) ?_; (with_reducible refine (impl_isCoverText.calls k a0 true _ A2.out).mono ?_); rintro e w5 ⟨rfl, hb⟩; refine ⟨_, rfl, ?_⟩; have n0_ := Aside0.mk (below_step (by repeat (first | (with_reducible first | exact HB.out | apply below_alloc | apply pw_below_drewN | apply below_drew1) | exact HB.out)) hb); clear HB; have HB := n0_; clear n0_; (try clear hb); (try clear hb2); (try clear hk); (try clear hi)) | ((with_reducible refine gate_callee (f := 20) rfl ?_); refine goesL_ (some 7) rfl rfl Tryd.func20 (by kernel_rfl) rfl #[.string a0] rfl (by (try simp only [List.map_toArray, List.map_cons, List.map_nil]); first | done | rfl | (simp only [List.length_drop, List.length_take]; rfl)) ?_; (with_reducible refine (impl_opposite.calls a0 t112 _ A4.out).mono ?_); rintro e w6 ⟨rfl, hb⟩; refine ⟨_, rfl, ?_⟩; have n0_ := Aside0.mk (below_step (by repeat (first | (with_reducible first | exact HB.out | apply below_alloc | apply pw_below_drewN | apply below_drew1) | exact HB.out)) hb); clear HB; have HB := n0_; clear n0_; (try clear hb); (try clear hb2); (try clear hk); (try clear hi)))
  go_ret
  exact ⟨by first | rfl | (simp [errW_none, errW_some] <;> rfl) | (simp [*, errW_none, errW_some] <;> rfl), by repeat (first | (with_reducible first | exact HB.out | apply below_alloc | apply pw_below_drewN | apply below_drew1) | exact HB.out)⟩
 ·replace c3 := Bool.eq_false_iff.mpr c3
  subst c3
  have H1 : (some (⟨#[]⟩ : ByteArray)) = some r := by rw [if_neg (show ¬ (false = true) by decide)] at H; exact H
  clear H
  have H := H1
  clear H1
  obtain rfl := Option.some.inj H
  go_enter Tryd.func10, Tryd.ntmps10
  go_wp2_with (first | ((with_reducible refine gate_callee (f := 19) rfl ?_); refine goesL_ (some 4) rfl rfl Tryd.func19 (by kernel_rfl) rfl #[.string a0] rfl (by (try simp only [List.map_toArray, List.map_cons, List.map_nil]); first | done | rfl | (simp only [List.length_drop, List.length_take]; rfl)) ?_; (with_reducible refine (impl_isCoverText.calls k a0 false _ A2.out).mono ?_); rintro e w7 ⟨rfl, hb⟩; refine ⟨_, rfl, ?_⟩; have n0_ := Aside0.mk (below_step (by repeat (first | (with_reducible first | exact HB.out | apply below_alloc | apply pw_below_drewN | apply below_drew1) | exact HB.out)) hb); clear HB; have HB := n0_; clear n0_; (try clear hb); (try clear hb2); (try clear hk); (try clear hi)))
  go_ret
  exact ⟨by first | rfl | (simp [errW_none, errW_some] <;> rfl) | (simp [*, errW_none, errW_some] <;> rfl), by repeat (first | (with_reducible first | exact HB.out | apply below_alloc | apply pw_below_drewN | apply below_drew1) | exact HB.out)⟩
def laws_FnExactOppositeText.f (k : Nat) (a0 : ByteArray) : Option (Bool) := if (a0.size : Int) > 1048576 then (some true) else ((spec_OppositeText.f k a0).bind fun t113 => ((impl_OppositeText.f k a0).bind fun t114 => (if t114.toList = t113.toList then (some true) else (some false))))
set_option maxHeartbeats 8000000 in
set_option maxRecDepth 100000 in
theorem laws_FnExactOppositeText.calls (k : Nat) (a0 : ByteArray) (r : Bool) (w : World) (h : laws_FnExactOppositeText.f k a0 = some r) :
  Calls Tryd.prog 4 #[.string a0] w fun e w' => e = .returned (.bool r) ∧ Below w.heap.size w w' := by
 have HB := Aside0.mk (Below.refl w.heap.size w)
 have H : (if (a0.size : Int) > 1048576 then (some true) else ((spec_OppositeText.f k a0).bind fun t113 => ((impl_OppositeText.f k a0).bind fun t114 => (if t114.toList = t113.toList then (some true) else (some false))))) = some r := h
 clear h
 by_cases c2 : (a0.size : Int) > 1048576
 ·rw [if_pos c2] at H
  have c2b0 : decide (1048576 < (a0.size : Int)) = true := decide_eq_true c2
  have c2b1 : decide (1048576 < a0.size) = true := decide_eq_true (by omega)
  clear c2
  obtain rfl := Option.some.inj H
  go_enter Tryd.func4, Tryd.ntmps4
  go_wp2
  go_ret
  exact ⟨by first | rfl | (simp [errW_none, errW_some] <;> rfl) | (simp [*, errW_none, errW_some] <;> rfl), by repeat (first | (with_reducible first | exact HB.out | apply below_alloc | apply pw_below_drewN | apply below_drew1) | exact HB.out)⟩
 ·rw [if_neg c2] at H
  have c2b0 : decide (1048576 < (a0.size : Int)) = false := decide_eq_false c2
  have c2b1 : decide (1048576 < a0.size) = false := decide_eq_false (by omega)
  clear c2
  replace H := Option.bind_eq_some_iff.mp H
  obtain ⟨t113, A30, H⟩ := H
  replace H : ((impl_OppositeText.f k a0).bind fun t114 => (if t114.toList = t113.toList then (some true) else (some false))) = some r := H
  have A3 := Aside0.mk A30
  clear A30
  replace H := Option.bind_eq_some_iff.mp H
  obtain ⟨t114, A40, H⟩ := H
  replace H : (if t114.toList = t113.toList then (some true) else (some false)) = some r := H
  have A4 := Aside0.mk A40
  clear A40
  by_cases c5 : t114.toList = t113.toList
  ·rw [if_pos c5] at H
   have c5b0 : (t114.toList == t113.toList) = true := beq_iff_eq.mpr c5
   have c5b1 : (t114.toList != t113.toList) = false := bne_eq_false_iff_eq.mpr c5
   clear c5
   obtain rfl := Option.some.inj H
   go_enter Tryd.func4, Tryd.ntmps4
   go_wp2_with (first | ((with_reducible refine gate_callee (f := 9) rfl ?_); refine goesL_ (some 9) rfl rfl Tryd.func9 (by kernel_rfl) rfl #[.string a0] rfl (by (try simp only [List.map_toArray, List.map_cons, List.map_nil]); first | done | rfl | (simp only [List.length_drop, List.length_take]; rfl)) ?_; (with_reducible refine (spec_OppositeText.calls k a0 t113 _ A3.out).mono ?_); rintro e w' ⟨rfl, ⟨nd, rfl⟩⟩; refine ⟨_, rfl, ?_⟩) | ((with_reducible refine gate_callee (f := 10) rfl ?_); refine goesL_ (some 11) rfl rfl Tryd.func10 (by kernel_rfl) rfl #[.string a0] rfl (by (try simp only [List.map_toArray, List.map_cons, List.map_nil]); first | done | rfl | (simp only [List.length_drop, List.length_take]; rfl)) ?_; (with_reducible refine (impl_OppositeText.calls k a0 t114 _ A4.out).mono ?_); rintro e w6 ⟨rfl, hb⟩; refine ⟨_, rfl, ?_⟩; have n0_ := Aside0.mk (below_step (by repeat (first | (with_reducible first | exact HB.out | apply below_alloc | apply pw_below_drewN | apply below_drew1) | exact HB.out)) hb); clear HB; have HB := n0_; clear n0_; (try clear hb); (try clear hb2); (try clear hk); (try clear hi)))
   go_ret
   exact ⟨by first | rfl | (simp [errW_none, errW_some] <;> rfl) | (simp [*, errW_none, errW_some] <;> rfl), by repeat (first | (with_reducible first | exact HB.out | apply below_alloc | apply pw_below_drewN | apply below_drew1) | exact HB.out)⟩
  ·rw [if_neg c5] at H
   have c5b0 : (t114.toList == t113.toList) = false := beq_eq_false_iff_ne.mpr c5
   have c5b1 : (t114.toList != t113.toList) = true := bne_iff_ne.mpr c5
   obtain rfl := Option.some.inj H
   go_enter Tryd.func4, Tryd.ntmps4
   go_wp2_with (first | ((with_reducible refine gate_callee (f := 9) rfl ?_); refine goesL_ (some 9) rfl rfl Tryd.func9 (by kernel_rfl) rfl #[.string a0] rfl (by (try simp only [List.map_toArray, List.map_cons, List.map_nil]); first | done | rfl | (simp only [List.length_drop, List.length_take]; rfl)) ?_; (with_reducible refine (spec_OppositeText.calls k a0 t113 _ A3.out).mono ?_); rintro e w' ⟨rfl, ⟨nd, rfl⟩⟩; refine ⟨_, rfl, ?_⟩) | ((with_reducible refine gate_callee (f := 10) rfl ?_); refine goesL_ (some 11) rfl rfl Tryd.func10 (by kernel_rfl) rfl #[.string a0] rfl (by (try simp only [List.map_toArray, List.map_cons, List.map_nil]); first | done | rfl | (simp only [List.length_drop, List.length_take]; rfl)) ?_; (with_reducible refine (impl_OppositeText.calls k a0 t114 _ A4.out).mono ?_); rintro e w7 ⟨rfl, hb⟩; refine ⟨_, rfl, ?_⟩; have n0_ := Aside0.mk (below_step (by repeat (first | (with_reducible first | exact HB.out | apply below_alloc | apply pw_below_drewN | apply below_drew1) | exact HB.out)) hb); clear HB; have HB := n0_; clear n0_; (try clear hb); (try clear hb2); (try clear hk); (try clear hi)))
   go_ret
   exact ⟨by first | rfl | (simp [errW_none, errW_some] <;> rfl) | (simp [*, errW_none, errW_some] <;> rfl), by repeat (first | (with_reducible first | exact HB.out | apply below_alloc | apply pw_below_drewN | apply below_drew1) | exact HB.out)⟩
def laws_FnExactOppositeText.Pure : Prop := ∀ (a0 : ByteArray), a0.size ≤ 140737488351232 → ∃ k, laws_FnExactOppositeText.f k a0 = some true
end Go.Proofs.YtajogmlblknfdaaDoor.P
namespace Go.Proofs.YtajogmlblknfdaaDoor.Rk
open Go.RowKit Go.ChangeShapes Go.WideShapes Go.Deep Go.Proofs.YtajogmlblknfdaaDoorW.PrintWords
def I64 (n : Int) : Prop := -9223372036854775808 ≤ n ∧ n ≤ 9223372036854775807
section
variable {H : Type} {enc : TypeId × Value → H} {P : Program} {w : World} {base : Nat} {spare : Nat → Bool} {held : Bool} {α : Type}
def Elem (enc : TypeId × Value → H) (P : Program) (w : World) (base : Nat) (spare : Nat → Bool) (held : Bool) (e : TypeId) (d : Kd α) (Q : α → Prop) : Prop :=
  ∀ (fuel : Nat) (cs : List Value) (x : DataW H × List MemPlace), DataW.trod enc P w base spare held fuel e cs = some x → ∃ y, d.K w y cs ∧ Q y
end
end Go.Proofs.YtajogmlblknfdaaDoor.Rk
namespace Go.Proofs.YtajogmlblknfdaaDoor.P
open Go.RowKit Go.ChangeShapes Go.WideShapes Go.Deep Go.Proofs.YtajogmlblknfdaaDoor.Rk Go.Proofs.YtajogmlblknfdaaDoorW.PrintWords
def Q29 (x : S29) : Prop := I64 x.f0 ∧ x.f1.size ≤ 9223372036854775807
instance : Inhabited S29 := ⟨z29⟩
end Go.Proofs.YtajogmlblknfdaaDoor.P
namespace Go.Proofs.YtajogmlblknfdaaDoor.Pl
set_option linter.unusedSimpArgs false
set_option linter.unusedVariables false
open Go.RowKit Go.Proofs.YtajogmlblknfdaaDoorW.PrintWords
theorem wrap_in {n : Int} (h0 : -9223372036854775808 ≤ n) (h1 : n ≤ 9223372036854775807) : wrap64 n = n := by
  unfold wrap64
  omega
theorem wrap_nat (i : Nat) (h : i < 9223372036854775807) : wrap64 ((i : Int) + 1) = ((i + 1 : Nat) : Int) := by
  unfold wrap64
  omega
theorem Ev.const {α : Type} {x : Option α} {r : α} (h : x = some r) : Ev (fun _ => x) r := ⟨0, fun _ _ => h⟩
theorem Ev.ite_pos {α : Type} {c : Prop} [Decidable c] {g f : Nat → Option α} {r : α} (h : c) (k : Ev g r) : Ev (fun n => if c then g n else f n) r := by
  simpa only [if_pos h] using k
theorem Ev.ite_neg {α : Type} {c : Prop} [Decidable c] {g f : Nat → Option α} {r : α} (h : ¬ c) (k : Ev f r) : Ev (fun n => if c then g n else f n) r := by
  simpa only [if_neg h] using k
theorem Ev.bind0 {α β : Type} {x : Option α} {f : Nat → α → Option β} {a : α} {r : β} (h : x = some a) (k : Ev (fun n => f n a) r) : Ev (fun n => x.bind (f n)) r := by
  subst h
  exact k
theorem Ev.loop {ρ : Type} (g : Nat → Nat → Option ρ) (n : Nat) (r : ρ) (hend : Ev (g n) r) (hstep : ∀ i, i < n → Ev (g (i + 1)) r → Ev (g i) r) : ∀ i, i ≤ n → Ev (g i) r := by
  have key : ∀ d i, i + d = n → Ev (g i) r := by
    intro d
    induction d with
    | zero => intro i hi; obtain rfl : i = n := by omega
              exact hend
    | succ d ih => intro i hi; exact hstep i (by omega) (ih (i + 1) (by omega))
  intro i hi
  exact key (n - i) i (by omega)
end Go.Proofs.YtajogmlblknfdaaDoor.Pl
namespace Go.Proofs.YtajogmlblknfdaaDoor.Pure
set_option linter.unusedSimpArgs false
set_option linter.unusedVariables false
open Go.RowKit Go.Proofs.YtajogmlblknfdaaDoorW.PrintWords Go.Proofs.YtajogmlblknfdaaDoor.P Go.Proofs.YtajogmlblknfdaaDoor.Pl
theorem rangeD (n i : Nat) (h : i < n) : (List.range n).drop i = i :: (List.range n).drop (i + 1) := by
  rw [List.drop_eq_getElem_cons (by simpa using h)]
  simp
theorem bt_nat (s : ByteArray) (j : Nat) (h : j < s.size) : bt s (j : Int) = ((s.data[j]'h).toNat : Int) := by
  unfold bt
  rw [dif_pos (by simpa using h)]
  rfl
theorem bt_ext (s : ByteArray) (a b j : Nat) (h : a + j < b) (hb : b ≤ s.size) : bt (s.extract a b) (j : Int) = bt s ((a + j : Nat) : Int) := by
  have h1 : j < (s.extract a b).size := by rw [ByteArray.size_extract]; omega
  rw [bt_nat _ j h1, bt_nat s (a + j) (by omega)]
  simp only [ByteArray.data_extract, Array.getElem_extract]
def allIn (cs : List UInt8) (s : ByteArray) : Bool := (List.range s.size).all fun j => inSet cs (bt s (j : Int))
theorem allIn_iff (cs : List UInt8) (s : ByteArray) : allIn cs s = true ↔ ∀ j, j < s.size → inSet cs (bt s (j : Int)) = true := by
  simp [allIn, List.all_eq_true]
theorem trimL_some (cs : List UInt8) : ∀ n (t : ByteArray), t.size = n → n ≤ 1048576 → (∃ j, j < n ∧ ¬ inSet cs (bt t (j : Int)) = true) → ∃ r, Ev (fun k => trimL k cs t) r ∧ 0 < r.size := by
  intro n
  induction n with
  | zero => intro t _ _ h; obtain ⟨j, h, _⟩ := h; omega
  | succ n ih =>
    intro t ht hn h
    obtain ⟨j, hj, hb⟩ := h
    by_cases h0 : inSet cs (bt t 0) = true
    · have hj0 : j ≠ 0 := by
        rintro rfl
        exact hb h0
      have hsz : (t.extract 1 t.size).size = n := by rw [ByteArray.size_extract]; omega
      obtain ⟨r, hr, hp⟩ := ih (t.extract 1 t.size) hsz (by omega) ⟨j - 1, by omega, by
        rw [bt_ext t 1 t.size (j - 1) (by omega) (by omega), show 1 + (j - 1) = j by omega]
        exact hb⟩
      exact ⟨r, Ev.step (fun k => trimL.eq_2 ..) (Ev.ite_pos (by omega) (Ev.ite_pos h0 hr)), hp⟩
    · exact ⟨t, Ev.step (fun k => trimL.eq_2 ..) (Ev.ite_pos (by omega) (Ev.ite_neg h0 (Ev.now _))), by omega⟩
theorem trimR_some (cs : List UInt8) : ∀ n (s : ByteArray), s.size = n → n ≤ 1048576 → ∃ m, m ≤ n ∧ Ev (fun k => trimR k cs s) (s.extract 0 m) ∧ (∀ j, m ≤ j → j < n → inSet cs (bt s (j : Int)) = true) ∧ (m = 0 ∨ ¬ inSet cs (bt s ((m - 1 : Nat) : Int)) = true) := by
  intro n
  induction n with
  | zero =>
    intro s hs _
    have e : s.extract 0 0 = s := by
      apply ByteArray.ext
      apply Array.ext'
      have : s.data.toList = [] := List.length_eq_zero_iff.mp hs
      simp [this]
    refine ⟨0, Nat.le_refl _, ?_, fun j _ h => by omega, Or.inl rfl⟩
    rw [e]
    exact Ev.step (fun k => trimR.eq_2 ..) (Ev.ite_neg (by omega) (Ev.now _))
  | succ n ih =>
    intro s hs hn
    have hw : wrap64 ((s.size : Int) - 1) = (n : Nat) := by rw [wrap_in (by omega) (by omega)]; omega
    by_cases h0 : inSet cs (bt s ((n : Nat) : Int)) = true
    · have hsz : (s.extract 0 n).size = n := by rw [ByteArray.size_extract]; omega
      obtain ⟨m, hm, hr, h1, h2⟩ := ih (s.extract 0 n) hsz (by omega)
      have hb : ∀ j, j < n → bt (s.extract 0 n) ((j : Nat) : Int) = bt s (j : Int) := fun j hj => by rw [bt_ext s 0 n j (by omega) (by omega), Nat.zero_add]
      have he : (s.extract 0 n).extract 0 m = s.extract 0 m := by
        apply ByteArray.ext
        simp [ByteArray.data_extract, Array.extract_extract]
        congr 1
        omega
      rw [he] at hr
      refine ⟨m, by omega, ?_, ?_, ?_⟩
      · refine Ev.step (fun k => trimR.eq_2 ..) (Ev.ite_pos (by omega) ?_)
        rw [hw]
        refine Ev.ite_pos (by omega) (Ev.ite_pos (by omega) (Ev.ite_pos h0 ?_))
        rw [Int.toNat_natCast]
        exact hr
      · intro j h3 h4
        by_cases e : j = n
        · rw [e]; exact h0
        · rw [← hb j (by omega)]; exact h1 j h3 (by omega)
      · rcases h2 with h2 | h2
        · exact Or.inl h2
        · by_cases e : m = 0
          · exact Or.inl e
          · right
            rw [← hb (m - 1) (by omega)]
            exact h2
    · refine ⟨n + 1, Nat.le_refl _, ?_, fun j h3 h4 => by omega, Or.inr ?_⟩
      · have e : s.extract 0 (n + 1) = s := by
          apply ByteArray.ext
          simp [ByteArray.data_extract]
          exact Or.inr (Nat.le_of_eq hs)
        rw [e]
        refine Ev.step (fun k => trimR.eq_2 ..) (Ev.ite_pos (by omega) ?_)
        rw [hw]
        exact Ev.ite_pos (by omega) (Ev.ite_pos (by omega) (Ev.ite_neg h0 (Ev.now _)))
      · rw [Nat.add_sub_cancel]
        exact h0
theorem toList_empty (r : ByteArray) : (r.toList == ([] : List UInt8)) = decide (r.size = 0) := by
  rw [Go.Lib.toList_data]
  have h : r.size = r.data.toList.length := rfl
  cases hl : r.data.toList with
  | nil => rw [hl] at h; simp [h]
  | cons x l => rw [hl] at h; simp [h]
theorem Trim_ev (a0 a1 : ByteArray) (hc : cutOk a1 = true) (h1 : a1.size ≤ 1000) (h0 : a0.size ≤ 1048576) : ∃ r, Ev (fun k => strings_Trim.f k a0 a1) r ∧ (r.toList == ([] : List UInt8)) = allIn a1.data.toList a0 := by
  unfold strings_Trim.f
  by_cases he : a0.toList = []
  · refine ⟨a0, Ev.ite_pos ⟨hc, h1⟩ (Ev.ite_pos he (Ev.now _)), ?_⟩
    have hs : a0.size = 0 := by
      rw [Go.Lib.toList_data] at he
      have : a0.size = a0.data.toList.length := rfl
      rw [he] at this
      exact this
    rw [toList_empty, hs]
    symm
    rw [show decide ((0 : Nat) = 0) = true from rfl, allIn_iff]
    intro j hj
    omega
  · obtain ⟨m, hm, hr, h2, h3⟩ := trimR_some a1.data.toList a0.size a0 rfl h0
    have hsz : (a0.extract 0 m).size = m := by rw [ByteArray.size_extract]; omega
    by_cases hm0 : m = 0
    · subst hm0
      refine ⟨a0.extract 0 0, Ev.ite_pos ⟨hc, h1⟩ (Ev.ite_neg he (Ev.bind hr (Ev.step (fun k => trimL.eq_2 ..) (Ev.ite_neg (by omega) (Ev.now _))))), ?_⟩
      rw [toList_empty, hsz]
      symm
      rw [show decide ((0 : Nat) = 0) = true from rfl, allIn_iff]
      exact fun j hj => h2 j (Nat.zero_le _) hj
    · have h3 : ¬ inSet a1.data.toList (bt a0 ((m - 1 : Nat) : Int)) = true := by
        rcases h3 with h3 | h3
        · exact absurd h3 hm0
        · exact h3
      obtain ⟨r, hr2, hp⟩ := trimL_some a1.data.toList m (a0.extract 0 m) hsz (by omega) ⟨m - 1, by omega, by
        rw [bt_ext a0 0 m (m - 1) (by omega) (by omega), Nat.zero_add]
        exact h3⟩
      refine ⟨r, Ev.ite_pos ⟨hc, h1⟩ (Ev.ite_neg he (Ev.bind hr hr2)), ?_⟩
      rw [toList_empty, decide_eq_false (by omega)]
      symm
      cases hA : allIn a1.data.toList a0 with
      | false => rfl
      | true =>
        rw [allIn_iff] at hA
        exact absurd (hA (m - 1) (by omega)) h3
def inC (x : Int) : Bool := x == 43 || (x == 45 || x == 48)
def cutC : ByteArray := ⟨#[43, 45, 48]⟩
theorem all_inC : (List.range 256).all (fun x => inSet cutC.data.toList (x : Int) == inC (x : Int)) = true := by decide +kernel
theorem inC_eq (s : ByteArray) (i : Int) : inSet cutC.data.toList (bt s i) = inC (bt s i) := by
  obtain ⟨h0, h1⟩ := bt_range s i
  obtain ⟨n, hn⟩ := Int.eq_ofNat_of_zero_le h0
  rw [hn]
  have h := all_inC
  rw [List.all_eq_true] at h
  exact eq_of_beq (h n (by simp; omega))
def allC (s : ByteArray) : Bool := (List.range s.size).all fun j => inC (bt s (j : Int))
def cov (s : ByteArray) : Bool := allC s && decide (s.size ≤ 7)
theorem allC_eq (s : ByteArray) : allIn cutC.data.toList s = allC s := by
  unfold allIn allC
  congr 1
  funext j
  exact inC_eq s j
theorem isCover_ev (s : ByteArray) (h : s.size ≤ 1048576) : Ev (fun k => impl_isCoverText.f k s) (cov s) := by
  unfold impl_isCoverText.f cov
  by_cases h7 : (s.size : Int) ≤ 7
  · obtain ⟨r, h1, h2⟩ := Trim_ev s cutC (by decide) (by decide) h
    refine Ev.ite_pos h7 (Ev.bind h1 (Ev.const ?_))
    rw [h2, allC_eq, decide_eq_true (by omega), Bool.and_true]
  · refine Ev.ite_neg h7 (Ev.const ?_)
    rw [decide_eq_false (by omega), Bool.and_false]
theorem l20Fits_ev (s : ByteArray) (h : s.size ≤ 1048576) : Ev (fun k => spec_l20Fits.f k s) (cov s) := by
  unfold spec_l20Fits.f cov
  have key : ∀ d i, i + d = s.size → Ev (fun k => spec_l20Fits.l0 k s (i : Nat)) ((((List.range s.size).drop i).all fun j => inC (bt s (j : Int))) && decide (s.size ≤ 7)) := by
    intro d
    induction d with
    | zero =>
      intro i hi
      rw [List.drop_of_length_le (by simp; omega)]
      refine Ev.step (fun k => spec_l20Fits.l0.eq_2 ..) (Ev.ite_neg (by omega) (Ev.const ?_))
      simp
      omega
    | succ d ih =>
      intro i hi
      have ih := ih (i + 1) (by omega)
      rw [rangeD _ i (by omega), List.all_cons, Bool.and_assoc]
      generalize (((List.range s.size).drop (i + 1)).all (fun j => inC (bt s (j : Int))) && decide (s.size ≤ 7)) = X at ih ⊢
      refine Ev.step (fun k => spec_l20Fits.l0.eq_2 ..) (Ev.ite_pos (by omega) (Ev.ite_pos (by omega) ?_))
      rw [wrap_nat i (by omega)]
      unfold inC
      by_cases c1 : bt s (i : Int) = 43
      · rw [c1]
        exact Ev.ite_pos rfl (by simpa using ih)
      · refine Ev.ite_neg c1 ?_
        by_cases c2 : bt s (i : Int) = 45
        · rw [c2]
          exact Ev.ite_pos rfl (by simpa using ih)
        · refine Ev.ite_neg c2 ?_
          by_cases c3 : bt s (i : Int) = 48
          · rw [c3]
            exact Ev.ite_pos rfl (by simpa using ih)
          · refine Ev.ite_neg c3 (Ev.const ?_)
            simp [c1, c2, c3]
  exact key s.size 0 (by omega)
theorem allC_at {s : ByteArray} (h : allC s = true) (j : Nat) (hj : j < s.size) : bt s (j : Int) = 43 ∨ bt s (j : Int) = 45 ∨ bt s (j : Int) = 48 := by
  unfold allC at h
  rw [List.all_eq_true] at h
  have h := h j (by simpa using hj)
  unfold inC at h
  simpa using h
theorem cov_at {s : ByteArray} (h : cov s = true) : allC s = true ∧ s.size ≤ 7 := by
  unfold cov at h
  rw [Bool.and_eq_true, decide_eq_true_eq] at h
  exact h
theorem strOfNums_size (l : List Int) : (strOfNums l).size = l.length := by
  show (strOfNums l).data.size = l.length
  simp [strOfNums]
theorem str_snoc (L : List Int) (c : Int) : strOfNums (L ++ [c]) = strOfNums L ++ (⟨#[UInt8.ofNat c.toNat]⟩ : ByteArray) := by
  apply ByteArray.ext
  rw [ByteArray.data_append]
  simp [strOfNums]
def oppS (s : ByteArray) : ByteArray := if cov s = true then strOfNums (oppL s) else ⟨#[]⟩
theorem oppS_ev (s : ByteArray) (h : s.size ≤ 1048576) : Ev (fun k => spec_OppositeText.f k s) (oppS s) := by
  have hF := l20Fits_ev s h
  unfold spec_OppositeText.f oppS
  cases hc : cov s with
  | false =>
    rw [hc] at hF
    rw [if_neg (by simp)]
    have e : Ev (fun k => spec_OppositeText.j1 k s (⟨#[]⟩ : ByteArray) 0 false) (⟨#[]⟩ : ByteArray) := Ev.step (fun k => spec_OppositeText.j1.eq_2 ..) (Ev.ite_neg (by simp) (Ev.now _))
    refine Ev.step (fun k => spec_OppositeText.l0.eq_2 ..) ?_
    by_cases h0 : (0 : Int) < (s.size : Int)
    · exact Ev.ite_pos h0 (Ev.bind hF e)
    · exact Ev.ite_neg h0 e
  | true =>
    rw [hc] at hF
    rw [if_pos rfl]
    obtain ⟨hA, h7⟩ := cov_at hc
    refine Ev.loop (fun i k => spec_OppositeText.l0 k s (strOfNums ((List.range i).map fun j : Nat => oppI (bt s (j : Int)))) (i : Nat)) s.size (strOfNums (oppL s)) ?_ ?_ 0 (by omega)
    · exact Ev.step (fun k => spec_OppositeText.l0.eq_2 ..) (Ev.ite_neg (by omega) (Ev.step (fun k => spec_OppositeText.j1.eq_2 ..) (Ev.ite_neg (by simp) (Ev.now _))))
    · intro i hi ih
      rw [List.range_succ, List.map_append, List.map_singleton, str_snoc] at ih
      have hsz : (strOfNums ((List.range i).map fun j : Nat => oppI (bt s (j : Int)))).size = i := by rw [strOfNums_size]; simp
      refine Ev.step (fun k => spec_OppositeText.l0.eq_2 ..) (Ev.ite_pos (by omega) (Ev.bind hF (Ev.step (fun k => spec_OppositeText.j1.eq_2 ..) (Ev.ite_pos rfl (Ev.ite_pos (by omega) (Ev.ite_pos (by omega) ?_))))))
      rw [wrap_nat i (by omega)]
      rcases allC_at hA i hi with hp | hp | hp
      · rw [hp] at ih
        exact Ev.ite_pos hp (Ev.ite_pos (by omega) ih)
      · rw [hp] at ih
        exact Ev.ite_neg (by omega) (Ev.ite_pos hp (Ev.ite_pos (by omega) ih))
      · rw [hp] at ih
        exact Ev.ite_neg (by omega) (Ev.ite_neg (by omega) (Ev.ite_pos (by omega) ih))
theorem FnExactOppositeText (a0 : ByteArray) (_ : a0.size ≤ 9223372036854775807) : ∃ k, laws_FnExactOppositeText.f k a0 = some true := by
  refine Ev.rounds (g := fun k => laws_FnExactOppositeText.f k a0) ?_
  unfold laws_FnExactOppositeText.f
  by_cases hs : (a0.size : Int) > 1048576
  · exact Ev.ite_pos hs (Ev.now _)
  refine Ev.ite_neg hs (Ev.bind (oppS_ev a0 (by omega)) (Ev.bind ?_ (Ev.ite_pos rfl (Ev.now _))))
  unfold impl_OppositeText.f oppS
  have hI := isCover_ev a0 (by omega)
  cases hc : cov a0 with
  | false =>
    rw [hc] at hI
    exact Ev.bind hI (Ev.ite_neg (by simp) (Ev.now _))
  | true =>
    rw [hc] at hI
    refine Ev.bind hI (Ev.ite_pos rfl (Ev.bind0 (a := strOfNums (oppL a0)) ?_ (Ev.now _)))
    unfold impl_opposite.f
    rw [if_pos (by omega)]
end Go.Proofs.YtajogmlblknfdaaDoor.Pure
