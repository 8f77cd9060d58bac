/- What the law FnExactJoinTexts reaches, part 1: functions as plain Lean functions with the proofs that their calls come to them, and plain lemmas over these. Put together by a program (wip/pack.py). -/
import Derived.Lib.SliceRun
import Derived.Test.YtajogmlblknfdaaDoorWWords
import Derived.Test.YtajogmlblknfdaaDoorWMore
import Derived.Laws.MakeOwn
import Derived.Test.YtajogmlblknfdaaDoorProg
import Derived.Below
import Derived.Deep.Draws
import Derived.Deep.AppendLies
import Derived.Maps.AppendAt
import Derived.OwnWalk
import Derived.Laws.BytesArg
import Derived.Laws.OwnMore
import Derived.Deep.OwnRows
import Derived.Tactics
import Derived.Lib.ConvBytes
import Derived.Laws.Slices
import Derived.WalkKit
import Derived.KernelRfl
import Derived.RowKit3
import Derived.Deep.LoopGhost
import Derived.Deep.QuietTactic
import Derived.BigQuiet
import Derived.WideLaws
import Derived.Deep.DeepCutAuto
import Derived.Deep.CutBlock
import Derived.Deep.RegionHeld3
import Derived.Laws.Rows
import Derived.Lib.AppendStr
import Derived.ArgAppend
import Derived.Laws.IdiomCopy
import Derived.OrdersHeld
import Derived.Laws.BitsLemmas
import Derived.RowKit
import Derived.Test.YtajogmlblknfdaaDoorWLast
import Derived.Test.YtajogmlblknfdaaDoorWTab
import Derived.Test.YtajogmlblknfdaaDoorWFour
import Derived.Test.YtajogmlblknfdaaDoorWQPut
import Derived.Test.YtajogmlblknfdaaDoorWApart
import Derived.Test.YtajogmlblknfdaaDoorWArr
import Derived.Test.YtajogmlblknfdaaDoorWZeros
import Derived.Test.YtajogmlblknfdaaDoorWFoot
import Derived.Test.YtajogmlblknfdaaDoorWKept
import Derived.Test.YtajogmlblknfdaaDoorWShare
import Derived.Test.YtajogmlblknfdaaDoorWN
import Derived.Test.YtajogmlblknfdaaDoorWFootNe
import Derived.Test.YtajogmlblknfdaaDoorWAt
import Derived.Test.YtajogmlblknfdaaDoorWEqStruct
import Derived.Test.YtajogmlblknfdaaDoorWRepsOne
import Derived.Test.YtajogmlblknfdaaDoorWInv
import Derived.Test.YtajogmlblknfdaaDoorWInvWords
import Derived.Test.YtajogmlblknfdaaDoorWGuard
import Derived.Test.YtajogmlblknfdaaDoorWNEv
import Derived.Shelf.Strings.AsciiSet
import Derived.ChangeArms
import Derived.Deep.Slices
import Derived.Deep.Fields
import Derived.WideShapes
namespace Go.Proofs.YtajogmlblknfdaaDoor.P
open Go.RowKit Go.Proofs.YtajogmlblknfdaaDoorW.PrintWords
def chiN (l : List Int) : Int := rd l 0
def chiA (l : List Int) (i j k : Int) : Int := rd l (1 + 49 * i + 7 * j + k)
def ptrOf : Value → Value
  | .slice A _ _ => .pointer A
  | v => v
theorem ptrOf_slice (A : Option Addr) (n c : Nat) : ptrOf (.slice A n c) = .pointer A := rfl
def chiNew (n : Int) : List Int := n :: List.replicate 343 0
def chiCells (n : Int) : Array Value := (encs (Value.int .i64) (chiNew n)).toArray
section
variable {P : Program} {ops : Array Oper} {rest : List Oper} {o : Oper} {a : Act} {Q : Exit → Act → World → Prop}
end
def NZ {α : Type} (v : Value) (xs : List α) : Prop := xs = [] → v = .slice none 0 0
end Go.Proofs.YtajogmlblknfdaaDoor.P
namespace Go.Proofs.YtajogmlblknfdaaDoor.P
open Go.RowKit Go.Proofs.YtajogmlblknfdaaDoorW.PrintWords Go.Proofs.YtajogmlblknfdaaDoorW.PrintLast Go.Proofs.YtajogmlblknfdaaDoorW.PrintMore
attribute [local go_sem] ptrOf_slice
attribute [local go_sem] max2_int min2_int max_two min_two max_three min_three max_four min_four
set_option linter.unusedVariables false
set_option linter.unusedSimpArgs false
def errW : Option Int → Value
  | none => .nilIface
  | some c => .iface 0 (.int .i64 c)
theorem errW_none : errW none = .nilIface := rfl
theorem errW_some (c : Int) : errW (some c) = .iface 0 (.int .i64 c) := rfl
structure S64 where
  f0 : Int
  f1 : Int
  f2 : Int
def z64 : S64 := ⟨(0 : Int), (0 : Int), (0 : Int)⟩
def k64 : Kd S64 := Kd.iso (Kd.pair (Kd.int .i64) (Kd.pair (Kd.int .i64) (Kd.int .i64))) (fun x : S64 => (x.f0, x.f1, x.f2))
def rd_T64 (xs : List S64) (i : Int) : S64 := xs.getD i.toNat z64
def rd_L4 (xs : List (List Int)) (i : Int) : (List Int) := xs.getD i.toNat ([] : List Int)
structure S44 where
  f0 : Int
  f1 : Int
  f2 : Int
  f3 : Int
def z44 : S44 := ⟨(0 : Int), (0 : Int), (0 : Int), (0 : Int)⟩
def k44 : Kd S44 := Kd.iso (Kd.pair (Kd.int .i64) (Kd.pair (Kd.int .i64) (Kd.pair (Kd.int .i64) (Kd.int .i64)))) (fun x : S44 => (x.f0, x.f1, x.f2, x.f3))
def rd_T44 (xs : List S44) (i : Int) : S44 := xs.getD i.toNat z44
structure S29 where
  f0 : Int
  f1 : ByteArray
def z29 : S29 := ⟨(0 : Int), (⟨#[]⟩ : ByteArray)⟩
def k29 : Kd S29 := Kd.iso (Kd.pair (Kd.int .i64) Kd.string) (fun x : S29 => (x.f0, x.f1))
def rd_T29 (xs : List S29) (i : Int) : S29 := xs.getD i.toNat z29
def spec_l20Fits.l0 : Nat → ByteArray → Int → Option (Bool)
 | 0, _, _ => none
 | k + 1, x0, x3 => if x3 < (x0.size : Int) then (if 0 ≤ x3 then (if (bt x0 x3) = 43 then (spec_l20Fits.l0 k x0 (wrap64 (x3 + 1))) else (if (bt x0 x3) = 45 then (spec_l20Fits.l0 k x0 (wrap64 (x3 + 1))) else (if (bt x0 x3) = 48 then (spec_l20Fits.l0 k x0 (wrap64 (x3 + 1))) else (some false)))) else (none)) else (some (decide ((x0.size : Int) ≤ 7)))
def spec_l20Fits.f (k : Nat) (a0 : ByteArray) : Option (Bool) := spec_l20Fits.l0 k a0 0
set_option maxHeartbeats 8000000 in
set_option maxRecDepth 100000 in
theorem spec_l20Fits.calls (k : Nat) (a0 : ByteArray) (r : Bool) (w : World) (h : spec_l20Fits.f k a0 = some r) :
  Calls Tryd.prog 17 #[.string a0] w fun e w' => e = .returned (.bool r) ∧ Drawn0 w w' := by
 have H : (spec_l20Fits.l0 k a0 0) = some r := h
 clear h
 have H' := Aside0.mk H
 clear H
 go_enter Tryd.func17, Tryd.ntmps17
 go_wp2
 go_loopg [3] k (fun kq v3 w' => ∃ (x3_1 : Int), v3 = .int .i64 x3_1 ∧ Aside0 (spec_l20Fits.l0 kq a0 x3_1 = some r) ∧ Aside0 (kq ≤ k) ∧ Drawn0 w w')
 case atStart => exact ⟨(0), (by first | rfl | (simp; done) | (simp [*]; done)), H', ⟨Nat.le_refl _⟩, by repeat (first | exact Drawn0.refl _ | apply Drawn0.step)⟩
 case round =>
  clear H'
  try clear c1
  obtain ⟨x3_1, rfl, HA, HK1, ⟨m1, rfl⟩⟩ := hrel
  cases gk with
  | zero => exact absurd HA.out (by simp [spec_l20Fits.l0])
  | succ k1 =>
   have H := HA.out
   clear HA
   simp only [spec_l20Fits.l0] at H
   by_cases c2 : x3_1 < (a0.size : Int)
   ·rw [if_pos c2] at H
    have c2b0 : decide (x3_1 < (a0.size : Int)) = true := decide_eq_true c2
    clear c2
    by_cases c3 : 0 ≤ x3_1
    ·rw [if_pos c3] at H
     have c3b0 : decide (0 ≤ x3_1) = true := decide_eq_true c3
     clear c3
     by_cases c5 : (bt a0 x3_1) = 43
     ·rw [if_pos c5] at H
      have c5b0 : ((bt a0 x3_1) == 43) = true := beq_iff_eq.mpr c5
      have c5b1 : ((bt a0 x3_1) != 43) = false := bne_eq_false_iff_eq.mpr c5
      clear c5
      have H' := Aside0.mk H
      clear H
      have p4 : 0 ≤ (x3_1 : Int) := of_decide_eq_true (by first | (with_reducible assumption) | assumption)
      have q4 : x3_1 < (a0.size : Int) := of_decide_eq_true (by first | (with_reducible assumption) | assumption)
      have hx4 := bt_at a0 x3_1
      replace p4 := eq_true p4
      replace q4 := eq_true q4
      go_wp2
      go_roundg k1
      case measure => have := HK1.out; omega
      case rel => exact ⟨(wrap64 (x3_1 + 1)), (by first | rfl | (simp; done) | (simp [*]; done)), H', ⟨by have := HK1.out; omega⟩, by repeat (first | exact Drawn0.refl _ | apply Drawn0.step)⟩
     ·rw [if_neg c5] at H
      have c5b0 : ((bt a0 x3_1) == 43) = false := beq_eq_false_iff_ne.mpr c5
      have c5b1 : ((bt a0 x3_1) != 43) = true := bne_iff_ne.mpr c5
      by_cases c7 : (bt a0 x3_1) = 45
      ·rw [if_pos c7] at H
       have c7b0 : ((bt a0 x3_1) == 45) = true := beq_iff_eq.mpr c7
       have c7b1 : ((bt a0 x3_1) != 45) = false := bne_eq_false_iff_eq.mpr c7
       clear c7
       have H' := Aside0.mk H
       clear H
       have p4 : 0 ≤ (x3_1 : Int) := of_decide_eq_true (by first | (with_reducible assumption) | assumption)
       have q4 : x3_1 < (a0.size : Int) := of_decide_eq_true (by first | (with_reducible assumption) | assumption)
       have hx4 := bt_at a0 x3_1
       replace p4 := eq_true p4
       replace q4 := eq_true q4
       have p6 : 0 ≤ (x3_1 : Int) := of_decide_eq_true (by first | (with_reducible assumption) | assumption)
       have q6 : x3_1 < (a0.size : Int) := of_decide_eq_true (by first | (with_reducible assumption) | assumption)
       have hx6 := bt_at a0 x3_1
       replace p6 := eq_true p6
       replace q6 := eq_true q6
       go_wp2
       go_roundg k1
       case measure => have := HK1.out; omega
       case rel => exact ⟨(wrap64 (x3_1 + 1)), (by first | rfl | (simp; done) | (simp [*]; done)), H', ⟨by have := HK1.out; omega⟩, by repeat (first | exact Drawn0.refl _ | apply Drawn0.step)⟩
      ·rw [if_neg c7] at H
       have c7b0 : ((bt a0 x3_1) == 45) = false := beq_eq_false_iff_ne.mpr c7
       have c7b1 : ((bt a0 x3_1) != 45) = true := bne_iff_ne.mpr c7
       by_cases c9 : (bt a0 x3_1) = 48
       ·rw [if_pos c9] at H
        have c9b0 : ((bt a0 x3_1) == 48) = true := beq_iff_eq.mpr c9
        have c9b1 : ((bt a0 x3_1) != 48) = false := bne_eq_false_iff_eq.mpr c9
        clear c9
        have H' := Aside0.mk H
        clear H
        have p4 : 0 ≤ (x3_1 : Int) := of_decide_eq_true (by first | (with_reducible assumption) | assumption)
        have q4 : x3_1 < (a0.size : Int) := of_decide_eq_true (by first | (with_reducible assumption) | assumption)
        have hx4 := bt_at a0 x3_1
        replace p4 := eq_true p4
        replace q4 := eq_true q4
        have p6 : 0 ≤ (x3_1 : Int) := of_decide_eq_true (by first | (with_reducible assumption) | assumption)
        have q6 : x3_1 < (a0.size : Int) := of_decide_eq_true (by first | (with_reducible assumption) | assumption)
        have hx6 := bt_at a0 x3_1
        replace p6 := eq_true p6
        replace q6 := eq_true q6
        have p8 : 0 ≤ (x3_1 : Int) := of_decide_eq_true (by first | (with_reducible assumption) | assumption)
        have q8 : x3_1 < (a0.size : Int) := of_decide_eq_true (by first | (with_reducible assumption) | assumption)
        have hx8 := bt_at a0 x3_1
        replace p8 := eq_true p8
        replace q8 := eq_true q8
        go_wp2
        go_roundg k1
        case measure => have := HK1.out; omega
        case rel => exact ⟨(wrap64 (x3_1 + 1)), (by first | rfl | (simp; done) | (simp [*]; done)), H', ⟨by have := HK1.out; omega⟩, by repeat (first | exact Drawn0.refl _ | apply Drawn0.step)⟩
       ·rw [if_neg c9] at H
        have c9b0 : ((bt a0 x3_1) == 48) = false := beq_eq_false_iff_ne.mpr c9
        have c9b1 : ((bt a0 x3_1) != 48) = true := bne_iff_ne.mpr c9
        obtain rfl := Option.some.inj H
        have p4 : 0 ≤ (x3_1 : Int) := of_decide_eq_true (by first | (with_reducible assumption) | assumption)
        have q4 : x3_1 < (a0.size : Int) := of_decide_eq_true (by first | (with_reducible assumption) | assumption)
        have hx4 := bt_at a0 x3_1
        replace p4 := eq_true p4
        replace q4 := eq_true q4
        have p6 : 0 ≤ (x3_1 : Int) := of_decide_eq_true (by first | (with_reducible assumption) | assumption)
        have q6 : x3_1 < (a0.size : Int) := of_decide_eq_true (by first | (with_reducible assumption) | assumption)
        have hx6 := bt_at a0 x3_1
        replace p6 := eq_true p6
        replace q6 := eq_true q6
        have p8 : 0 ≤ (x3_1 : Int) := of_decide_eq_true (by first | (with_reducible assumption) | assumption)
        have q8 : x3_1 < (a0.size : Int) := of_decide_eq_true (by first | (with_reducible assumption) | assumption)
        have hx8 := bt_at a0 x3_1
        replace p8 := eq_true p8
        replace q8 := eq_true q8
        go_wp2
        go_ret
        exact ⟨by first | rfl | (simp; done) | (simp [*]; done), by repeat (first | exact Drawn0.refl _ | apply Drawn0.step)⟩
    ·rw [if_neg c3] at H
     exact absurd H (by simp)
   ·rw [if_neg c2] at H
    have c2b0 : decide (x3_1 < (a0.size : Int)) = false := decide_eq_false c2
    clear c2
    obtain rfl := Option.some.inj H
    go_wp2
    go_ret
    exact ⟨by first | rfl | (simp; done) | (simp [*]; done), by repeat (first | exact Drawn0.refl _ | apply Drawn0.step)⟩
def spec_l20Join.l0 : Nat → ByteArray → ByteArray → ByteArray → Int → Option (ByteArray)
 | 0, _, _, _, _ => none
 | k + 1, x0, x1, x5, x6 => if x6 < (x0.size : Int) then (if 0 ≤ x6 then (if (bt x0 x6) = 48 then (if x6 ≤ (wrap64 (x6 + 1)) then (if (wrap64 (x6 + 1)) ≤ (x1.size : Int) then (if x5.size + (x1.extract (x6 : Int).toNat ((wrap64 (x6 + 1)) : Int).toNat).size ≤ 9223372036854775807 then (spec_l20Join.l0 k x0 x1 (x5 ++ (x1.extract (x6 : Int).toNat ((wrap64 (x6 + 1)) : Int).toNat)) (wrap64 (x6 + 1))) else (none)) else (none)) else (none)) else (if x6 ≤ (wrap64 (x6 + 1)) then (if (wrap64 (x6 + 1)) ≤ (x0.size : Int) then (if x5.size + (x0.extract (x6 : Int).toNat ((wrap64 (x6 + 1)) : Int).toNat).size ≤ 9223372036854775807 then (spec_l20Join.l0 k x0 x1 (x5 ++ (x0.extract (x6 : Int).toNat ((wrap64 (x6 + 1)) : Int).toNat)) (wrap64 (x6 + 1))) else (none)) else (none)) else (none))) else (none)) else (some x5)
def spec_l20Join.f (k : Nat) (a0 : ByteArray) (a1 : ByteArray) : Option (ByteArray) := spec_l20Join.l0 k a0 a1 (⟨#[]⟩ : ByteArray) 0
set_option maxHeartbeats 8000000 in
set_option maxRecDepth 100000 in
theorem spec_l20Join.calls (k : Nat) (a0 : ByteArray) (a1 : ByteArray) (r : ByteArray) (w : World) (h : spec_l20Join.f k a0 a1 = some r) :
  Calls Tryd.prog 18 #[.string a0, .string a1] w fun e w' => e = .returned (.string r) ∧ Drawn0 w w' := by
 have H : (spec_l20Join.l0 k a0 a1 (⟨#[]⟩ : ByteArray) 0) = some r := h
 clear h
 have H' := Aside0.mk H
 clear H
 go_enter Tryd.func18, Tryd.ntmps18
 go_wp2
 go_loopg [5, 6] k (fun kq v5 v6 w' => ∃ (x5_1 : ByteArray) (x6_1 : Int), v5 = .string x5_1 ∧ v6 = .int .i64 x6_1 ∧ Aside0 (spec_l20Join.l0 kq a0 a1 x5_1 x6_1 = some r) ∧ Aside0 (kq ≤ k) ∧ Drawn0 w w')
 case atStart => exact ⟨((⟨#[]⟩ : ByteArray)), (0), (by first | rfl | (simp; done) | (simp [*]; done)), (by first | rfl | (simp; done) | (simp [*]; done)), H', ⟨Nat.le_refl _⟩, by repeat (first | exact Drawn0.refl _ | apply Drawn0.step)⟩
 case round =>
  clear H'
  try clear c1
  try clear p2
  obtain ⟨x5_1, x6_1, rfl, rfl, HA, HK1, ⟨m1, rfl⟩⟩ := hrel
  cases gk with
  | zero => exact absurd HA.out (by simp [spec_l20Join.l0])
  | succ k1 =>
   have H := HA.out
   clear HA
   simp only [spec_l20Join.l0] at H
   by_cases c3 : x6_1 < (a0.size : Int)
   ·rw [if_pos c3] at H
    have c3b0 : decide (x6_1 < (a0.size : Int)) = true := decide_eq_true c3
    clear c3
    by_cases c4 : 0 ≤ x6_1
    ·rw [if_pos c4] at H
     have c4b0 : decide (0 ≤ x6_1) = true := decide_eq_true c4
     clear c4
     by_cases c6 : (bt a0 x6_1) = 48
     ·rw [if_pos c6] at H
      have c6b0 : ((bt a0 x6_1) == 48) = true := beq_iff_eq.mpr c6
      have c6b1 : ((bt a0 x6_1) != 48) = false := bne_eq_false_iff_eq.mpr c6
      clear c6
      have c7b0 := eq_true (of_decide_eq_true (by first | (with_reducible assumption) | assumption) : 0 ≤ x6_1)
      by_cases c8 : x6_1 ≤ (wrap64 (x6_1 + 1))
      ·rw [if_pos c8] at H
       have c8b0 := eq_true c8
       have c8b1 : decide (x6_1 ≤ (wrap64 (x6_1 + 1))) = true := decide_eq_true c8
       by_cases c9 : (wrap64 (x6_1 + 1)) ≤ (a1.size : Int)
       ·rw [if_pos c9] at H
        have c9b0 := eq_true c9
        have c9b1 : decide ((wrap64 (x6_1 + 1)) ≤ (a1.size : Int)) = true := decide_eq_true c9
        by_cases c10 : x5_1.size + (a1.extract (x6_1 : Int).toNat ((wrap64 (x6_1 + 1)) : Int).toNat).size ≤ 9223372036854775807
        ·rw [if_pos c10] at H
         have c10b0 := eq_true c10
         have c10b1 : decide (x5_1.size + (a1.extract (x6_1 : Int).toNat ((wrap64 (x6_1 + 1)) : Int).toNat).size ≤ 9223372036854775807) = true := decide_eq_true c10
         try have c10b2 : (9223372036854775807 < x5_1.size + (a1.extract (x6_1 : Int).toNat ((wrap64 (x6_1 + 1)) : Int).toNat).size) = False := eq_false (Nat.not_lt.2 c10)
         have H' := Aside0.mk H
         clear H
         have p5 : 0 ≤ (x6_1 : Int) := of_decide_eq_true (by first | (with_reducible assumption) | assumption)
         have q5 : x6_1 < (a0.size : Int) := of_decide_eq_true (by first | (with_reducible assumption) | assumption)
         have hx5 := bt_at a0 x6_1
         replace p5 := eq_true p5
         replace q5 := eq_true q5
         go_wp2
         go_roundg k1
         case measure => have := HK1.out; omega
         case rel => exact ⟨(x5_1 ++ (a1.extract (x6_1 : Int).toNat ((wrap64 (x6_1 + 1)) : Int).toNat)), (wrap64 (x6_1 + 1)), (by first | rfl | (simp; done) | (simp [*]; done)), (by first | rfl | (simp; done) | (simp [*]; done)), H', ⟨by have := HK1.out; omega⟩, by repeat (first | exact Drawn0.refl _ | apply Drawn0.step)⟩
        ·rw [if_neg c10] at H
         exact absurd H (by simp)
       ·rw [if_neg c9] at H
        exact absurd H (by simp)
      ·rw [if_neg c8] at H
       exact absurd H (by simp)
     ·rw [if_neg c6] at H
      have c6b0 : ((bt a0 x6_1) == 48) = false := beq_eq_false_iff_ne.mpr c6
      have c6b1 : ((bt a0 x6_1) != 48) = true := bne_iff_ne.mpr c6
      have c11b0 := eq_true (of_decide_eq_true (by first | (with_reducible assumption) | assumption) : 0 ≤ x6_1)
      by_cases c12 : x6_1 ≤ (wrap64 (x6_1 + 1))
      ·rw [if_pos c12] at H
       have c12b0 := eq_true c12
       have c12b1 : decide (x6_1 ≤ (wrap64 (x6_1 + 1))) = true := decide_eq_true c12
       by_cases c13 : (wrap64 (x6_1 + 1)) ≤ (a0.size : Int)
       ·rw [if_pos c13] at H
        have c13b0 := eq_true c13
        have c13b1 : decide ((wrap64 (x6_1 + 1)) ≤ (a0.size : Int)) = true := decide_eq_true c13
        by_cases c14 : x5_1.size + (a0.extract (x6_1 : Int).toNat ((wrap64 (x6_1 + 1)) : Int).toNat).size ≤ 9223372036854775807
        ·rw [if_pos c14] at H
         have c14b0 := eq_true c14
         have c14b1 : decide (x5_1.size + (a0.extract (x6_1 : Int).toNat ((wrap64 (x6_1 + 1)) : Int).toNat).size ≤ 9223372036854775807) = true := decide_eq_true c14
         try have c14b2 : (9223372036854775807 < x5_1.size + (a0.extract (x6_1 : Int).toNat ((wrap64 (x6_1 + 1)) : Int).toNat).size) = False := eq_false (Nat.not_lt.2 c14)
         have H' := Aside0.mk H
         clear H
         have p5 : 0 ≤ (x6_1 : Int) := of_decide_eq_true (by first | (with_reducible assumption) | assumption)
         have q5 : x6_1 < (a0.size : Int) := of_decide_eq_true (by first | (with_reducible assumption) | assumption)
         have hx5 := bt_at a0 x6_1
         replace p5 := eq_true p5
         replace q5 := eq_true q5
         go_wp2
         go_roundg k1
         case measure => have := HK1.out; omega
         case rel => exact ⟨(x5_1 ++ (a0.extract (x6_1 : Int).toNat ((wrap64 (x6_1 + 1)) : Int).toNat)), (wrap64 (x6_1 + 1)), (by first | rfl | (simp; done) | (simp [*]; done)), (by first | rfl | (simp; done) | (simp [*]; done)), H', ⟨by have := HK1.out; omega⟩, by repeat (first | exact Drawn0.refl _ | apply Drawn0.step)⟩
        ·rw [if_neg c14] at H
         exact absurd H (by simp)
       ·rw [if_neg c13] at H
        exact absurd H (by simp)
      ·rw [if_neg c12] at H
       exact absurd H (by simp)
    ·rw [if_neg c4] at H
     exact absurd H (by simp)
   ·rw [if_neg c3] at H
    have c3b0 : decide (x6_1 < (a0.size : Int)) = false := decide_eq_false c3
    clear c3
    obtain rfl := Option.some.inj H
    go_wp2
    go_ret
    exact ⟨by first | rfl | (simp; done) | (simp [*]; done), by repeat (first | exact Drawn0.refl _ | apply Drawn0.step)⟩
def spec_JoinTexts.f (k : Nat) (a0 : ByteArray) (a1 : ByteArray) : Option (ByteArray × Bool) := (spec_l20Fits.f k a0).bind fun t101 => (if t101 = true then ((spec_l20Fits.f k a1).bind fun t102 => (if t102 = true then (if (a0.size : Int) = (a1.size : Int) then ((spec_l20Join.f k a0 a1).bind fun t103 => (some (t103, true))) else (some ((⟨#[]⟩ : ByteArray), false))) else (some ((⟨#[]⟩ : ByteArray), false)))) else (some ((⟨#[]⟩ : ByteArray), false)))
set_option maxHeartbeats 8000000 in
set_option maxRecDepth 100000 in
theorem spec_JoinTexts.calls (k : Nat) (a0 : ByteArray) (a1 : ByteArray) (r1 : ByteArray) (r2 : Bool) (w : World) (h : spec_JoinTexts.f k a0 a1 = some (r1, r2)) :
  Calls Tryd.prog 7 #[.string a0, .string a1] w fun e w' => e = .returned (.tuple #[.string r1, .bool r2]) ∧ Drawn0 w w' := by
 have H : ((spec_l20Fits.f k a0).bind fun t101 => (if t101 = true then ((spec_l20Fits.f k a1).bind fun t102 => (if t102 = true then (if (a0.size : Int) = (a1.size : Int) then ((spec_l20Join.f k a0 a1).bind fun t103 => (some (t103, true))) else (some ((⟨#[]⟩ : ByteArray), false))) else (some ((⟨#[]⟩ : ByteArray), false)))) else (some ((⟨#[]⟩ : ByteArray), false)))) = some (r1, r2) := h
 clear h
 replace H := Option.bind_eq_some_iff.mp H
 obtain ⟨t101, A30, H⟩ := H
 replace H : (if t101 = true then ((spec_l20Fits.f k a1).bind fun t102 => (if t102 = true then (if (a0.size : Int) = (a1.size : Int) then ((spec_l20Join.f k a0 a1).bind fun t103 => (some (t103, true))) else (some ((⟨#[]⟩ : ByteArray), false))) else (some ((⟨#[]⟩ : ByteArray), false)))) else (some ((⟨#[]⟩ : ByteArray), false))) = some (r1, r2) := H
 have A3 := Aside0.mk A30
 clear A30
 by_cases c4 : t101 = true
 ·subst c4
  have H1 : ((spec_l20Fits.f k a1).bind fun t102 => (if t102 = true then (if (a0.size : Int) = (a1.size : Int) then ((spec_l20Join.f k a0 a1).bind fun t103 => (some (t103, true))) else (some ((⟨#[]⟩ : ByteArray), false))) else (some ((⟨#[]⟩ : ByteArray), false)))) = some (r1, r2) := by rw [if_pos rfl] at H; exact H
  clear H
  have H := H1
  clear H1
  replace H := Option.bind_eq_some_iff.mp H
  obtain ⟨t102, A50, H⟩ := H
  replace H : (if t102 = true then (if (a0.size : Int) = (a1.size : Int) then ((spec_l20Join.f k a0 a1).bind fun t103 => (some (t103, true))) else (some ((⟨#[]⟩ : ByteArray), false))) else (some ((⟨#[]⟩ : ByteArray), false))) = some (r1, r2) := H
  have A5 := Aside0.mk A50
  clear A50
  by_cases c6 : t102 = true
  ·subst c6
   have H1 : (if (a0.size : Int) = (a1.size : Int) then ((spec_l20Join.f k a0 a1).bind fun t103 => (some (t103, true))) else (some ((⟨#[]⟩ : ByteArray), false))) = some (r1, r2) := by rw [if_pos rfl] at H; exact H
   clear H
   have H := H1
   clear H1
   by_cases c7 : (a0.size : Int) = (a1.size : Int)
   ·rw [if_pos c7] at H
    have c7b0 : ((a0.size : Int) == (a1.size : Int)) = true := beq_iff_eq.mpr c7
    have c7b1 : ((a0.size : Int) != (a1.size : Int)) = false := bne_eq_false_iff_eq.mpr c7
    have c7b2 : (a0.size == a1.size) = true := by first | simpa using c7 | (simp at c7 ⊢; omega)
    clear c7
    replace H := Option.bind_eq_some_iff.mp H
    obtain ⟨t103, A80, H⟩ := H
    replace H : (some (t103, true)) = some (r1, r2) := H
    have A8 := Aside0.mk A80
    clear A80
    simp only [Option.some.injEq, Prod.mk.injEq] at H
    obtain ⟨rfl, rfl⟩ := H
    go_enter Tryd.func7, Tryd.ntmps7
    go_wp2_with (first | ((with_reducible refine gate_callee (f := 17) rfl ?_); refine goesL_ (some 7) rfl rfl Tryd.func17 (by kernel_rfl) rfl #[.string a0] rfl (by (try simp only [List.map_toArray, List.map_cons, List.map_nil]); first | done | rfl | (simp only [List.length_drop, List.length_take]; rfl)) ?_; (with_reducible refine (spec_l20Fits.calls k a0 true _ A3.out).mono ?_); rintro e w' ⟨rfl, ⟨nd, rfl⟩⟩; refine ⟨_, rfl, ?_⟩) | (go_at_call 17; (with_reducible refine (spec_l20Fits.calls k a1 true _ A5.out).mono ?_); rintro e w' ⟨rfl, ⟨nd, rfl⟩⟩) | ((with_reducible refine gate_callee (f := 18) rfl ?_); refine goesL_ (some 23) rfl rfl Tryd.func18 (by kernel_rfl) rfl #[.string a0, .string a1] rfl (by (try simp only [List.map_toArray, List.map_cons, List.map_nil]); first | done | rfl | (simp only [List.length_drop, List.length_take]; rfl)) ?_; (with_reducible refine (spec_l20Join.calls k a0 a1 t103 _ A8.out).mono ?_); rintro e w' ⟨rfl, ⟨nd, rfl⟩⟩; refine ⟨_, rfl, ?_⟩))
    go_ret2
    exact ⟨by first | rfl | (simp; done) | (simp [*]; done), by repeat (first | exact Drawn0.refl _ | apply Drawn0.step)⟩
   ·rw [if_neg c7] at H
    have c7b0 : ((a0.size : Int) == (a1.size : Int)) = false := beq_eq_false_iff_ne.mpr c7
    have c7b1 : ((a0.size : Int) != (a1.size : Int)) = true := bne_iff_ne.mpr c7
    have c7b2 : (a0.size == a1.size) = false := by first | simpa using c7 | (simp at c7 ⊢; omega)
    simp only [Option.some.injEq, Prod.mk.injEq] at H
    obtain ⟨rfl, rfl⟩ := H
    go_enter Tryd.func7, Tryd.ntmps7
    go_wp2_with (first | ((with_reducible refine gate_callee (f := 17) rfl ?_); refine goesL_ (some 7) rfl rfl Tryd.func17 (by kernel_rfl) rfl #[.string a0] rfl (by (try simp only [List.map_toArray, List.map_cons, List.map_nil]); first | done | rfl | (simp only [List.length_drop, List.length_take]; rfl)) ?_; (with_reducible refine (spec_l20Fits.calls k a0 true _ A3.out).mono ?_); rintro e w' ⟨rfl, ⟨nd, rfl⟩⟩; refine ⟨_, rfl, ?_⟩) | (go_at_call 17; (with_reducible refine (spec_l20Fits.calls k a1 true _ A5.out).mono ?_); rintro e w' ⟨rfl, ⟨nd, rfl⟩⟩))
    go_ret2
    exact ⟨by first | rfl | (simp; done) | (simp [*]; done), by repeat (first | exact Drawn0.refl _ | apply Drawn0.step)⟩
  ·replace c6 := Bool.eq_false_iff.mpr c6
   subst c6
   have H1 : (some ((⟨#[]⟩ : ByteArray), false)) = some (r1, r2) := by rw [if_neg (show ¬ (false = true) by decide)] at H; exact H
   clear H
   have H := H1
   clear H1
   simp only [Option.some.injEq, Prod.mk.injEq] at H
   obtain ⟨rfl, rfl⟩ := H
   go_enter Tryd.func7, Tryd.ntmps7
   go_wp2_with (first | ((with_reducible refine gate_callee (f := 17) rfl ?_); refine goesL_ (some 7) rfl rfl Tryd.func17 (by kernel_rfl) rfl #[.string a0] rfl (by (try simp only [List.map_toArray, List.map_cons, List.map_nil]); first | done | rfl | (simp only [List.length_drop, List.length_take]; rfl)) ?_; (with_reducible refine (spec_l20Fits.calls k a0 true _ A3.out).mono ?_); rintro e w' ⟨rfl, ⟨nd, rfl⟩⟩; refine ⟨_, rfl, ?_⟩) | (go_at_call 17; (with_reducible refine (spec_l20Fits.calls k a1 false _ A5.out).mono ?_); rintro e w' ⟨rfl, ⟨nd, rfl⟩⟩))
   go_ret2
   exact ⟨by first | rfl | (simp; done) | (simp [*]; done), by repeat (first | exact Drawn0.refl _ | apply Drawn0.step)⟩
 ·replace c4 := Bool.eq_false_iff.mpr c4
  subst c4
  have H1 : (some ((⟨#[]⟩ : ByteArray), false)) = some (r1, r2) := by rw [if_neg (show ¬ (false = true) by decide)] at H; exact H
  clear H
  have H := H1
  clear H1
  simp only [Option.some.injEq, Prod.mk.injEq] at H
  obtain ⟨rfl, rfl⟩ := H
  go_enter Tryd.func7, Tryd.ntmps7
  go_wp2_with (first | ((with_reducible refine gate_callee (f := 17) rfl ?_); refine goesL_ (some 7) rfl rfl Tryd.func17 (by kernel_rfl) rfl #[.string a0] rfl (by (try simp only [List.map_toArray, List.map_cons, List.map_nil]); first | done | rfl | (simp only [List.length_drop, List.length_take]; rfl)) ?_; (with_reducible refine (spec_l20Fits.calls k a0 false _ A3.out).mono ?_); rintro e w' ⟨rfl, ⟨nd, rfl⟩⟩; refine ⟨_, rfl, ?_⟩))
  go_ret2
  exact ⟨by first | rfl | (simp; done) | (simp [*]; done), by repeat (first | exact Drawn0.refl _ | apply Drawn0.step)⟩
end Go.Proofs.YtajogmlblknfdaaDoor.P
namespace Go.Proofs.YtajogmlblknfdaaDoor.P
open Go.RowKit Go.Proofs.YtajogmlblknfdaaDoorW.PrintWords Go.Proofs.YtajogmlblknfdaaDoorW.PrintLast Go.Proofs.YtajogmlblknfdaaDoorW.PrintMore
set_option linter.unusedVariables false
set_option linter.unusedSimpArgs false
def oppI (x : Int) : Int := if x = 43 then 45 else if x = 45 then 43 else x
def oppL (s : ByteArray) : List Int := (List.range s.size).map fun j : Nat => oppI (bt s (j : Int))
def impl_opposite.f (a0 : ByteArray) : Option ByteArray := if a0.size ≤ 9223372036854775807 then some (strOfNums (oppL a0)) else none
def oppR (s : ByteArray) (i j : Nat) : Int := if j < i then oppI (bt s (j : Int)) else bt s (j : Int)
theorem OPB (w : World) (e : TypeId) (s : ByteArray) : Below w.heap.size w (Lib.bytesWorld w e s) :=
  ⟨rfl, rfl, rfl, by rw [Lib.bytesWorld_size]; omega, fun k hk => Lib.bytesWorld_at_old w e s k hk⟩
theorem OPW (i : Nat) (h : i < 9223372036854775807) : wrap64 ((i : Int) + 1) = ((i + 1 : Nat) : Int) := by
  unfold wrap64
  omega
theorem opp_bt (s : ByteArray) (j : Nat) (hj : j < s.size) : (some (Value.int .u8 (s.data.toList.getD j 0).toNat)) = some (.int .u8 (bt s (j : Int))) := by
  unfold bt
  rw [dif_pos (by simpa using hj)]
  have h : j < s.data.toList.length := hj
  rw [List.getD_eq_getElem?_getD, List.getElem?_eq_getElem h]
  rfl
theorem opp_frozen (w : World) (e : TypeId) (s : ByteArray) (j : Nat) (hj : j < s.size) : (Lib.bytesWorld w e s).frozen? ⟨w.heap.size, j, none⟩ = false := by
  have h1 : s.size ≤ (Lib.bytesCells w e s).size := by
    unfold Lib.bytesCells
    rw [Array.size_append, Array.size_map]
    exact Nat.le_add_right _ _
  unfold World.frozen?
  simp only [Lib.bytesWorld_at_new]
  simp
  omega
set_option maxHeartbeats 2000000 in
set_option maxRecDepth 100000 in
theorem impl_opposite.calls (a0 : ByteArray) (r : ByteArray) (w : World) (h : impl_opposite.f a0 = some r) :
    Calls Tryd.prog 20 #[.string a0] w fun e w' => e = .returned (.string r) ∧ Below w.heap.size w w' := by
  unfold impl_opposite.f at h
  by_cases hsz : a0.size ≤ 9223372036854775807
  case neg => rw [if_neg hsz] at h; cases h
  rw [if_pos hsz] at h
  obtain rfl := Option.some.inj h
  clear h
  have hcv : ∀ W : World, (convert 9 36 (.string a0)).run Tryd.prog W = .ok (.slice (some ⟨W.heap.size, 0, none⟩) a0.size (grownCap W a0.size 0 5)) (Lib.bytesWorld W 5 a0) :=
    fun W => Lib.run_convert_string_bytes W _ _ _ a0 Tryd.underlying9 Tryd.underlying36 Tryd.underlying5
  have hbel0 : Below w.heap.size w (Lib.bytesWorld w 5 a0) := OPB w 5 a0
  have hc0 : ∀ j, j < a0.size → (Lib.bytesWorld w 5 a0).cell? ⟨w.heap.size, j, none⟩ = some (.int .u8 (bt a0 (j : Int))) := fun j hj => by
    rw [Lib.bytesWorld_cell w 5 a0 j hj, opp_bt a0 j hj]
  have hf0 : ∀ j, j < a0.size → (Lib.bytesWorld w 5 a0).frozen? ⟨w.heap.size, j, none⟩ = false := fun j hj => opp_frozen w 5 a0 j hj
  have HC := Aside0.mk hc0; have HF := Aside0.mk hf0; have HB := Aside0.mk hbel0; have HS := Aside0.mk hsz
  clear hc0 hf0 hbel0 hsz
  go_enter Tryd.func20, Tryd.ntmps20
  go_wp2
  generalize grownCap w a0.size 0 5 = cap
  generalize Lib.bytesWorld w 5 a0 = w1 at HC HF HB ⊢
  go_loopg [10] a0.size (fun gg v10 wr => ∃ i : Nat, i ≤ a0.size ∧ a0.size - i ≤ gg ∧ v10 = .int .i64 i ∧ Aside0 (Below w.heap.size w wr) ∧ Aside0 (∀ j, j < a0.size → wr.cell? ⟨w.heap.size, j, none⟩ = some (.int .u8 (oppR a0 i j))) ∧ Aside0 (∀ j, j < a0.size → wr.frozen? ⟨w.heap.size, j, none⟩ = false))
  case atStart =>
    refine ⟨0, Nat.zero_le _, by omega, rfl, HB, ⟨fun j hj => ?_⟩, HF⟩
    rw [HC.out j hj]
    rfl
  case round =>
    clear HC HF HB
    obtain ⟨i, hi, hg, rfl, HB, HC, HF⟩ := hrel
    by_cases hlt : i < a0.size
    · have hltz : (i : Int) < (a0.size : Int) := by omega
      have l1 := HC.out i hlt
      have f1 := HF.out i hlt
      rw [show oppR a0 i i = bt a0 (i : Int) by unfold oppR; rw [if_neg (Nat.lt_irrefl _)]] at l1
      have hstep : ∀ (W : World) (x : Int), x = oppI (bt a0 (i : Int)) → (∀ j, j < a0.size → W.cell? ⟨w.heap.size, j, none⟩ = some (.int .u8 (if j = i then x else oppR a0 i j))) → ∀ j, j < a0.size → W.cell? ⟨w.heap.size, j, none⟩ = some (.int .u8 (oppR a0 (i + 1) j)) := by
        intro W x hx hW j hj
        rw [hW j hj]
        unfold oppR
        by_cases e : j = i
        · subst e; rw [if_pos rfl, if_pos (Nat.lt_succ_self _), hx]
        · rw [if_neg e]
          by_cases e2 : j < i
          · rw [if_pos e2, if_pos (by omega)]
          · rw [if_neg e2, if_neg (by omega)]
      have HSTEP := Aside0.mk hstep
      clear hstep
      generalize hb : bt a0 (i : Int) = b at l1 HSTEP
      have HBB := Aside0.mk hb
      clear hb
      by_cases h43 : b = 43
      · subst h43
        go_wp2
        go_roundg (a0.size - (i + 1))
        case measure => omega
        case rel =>
          refine ⟨i + 1, by omega, by omega, by rw [OPW i (by have := HS.out; omega)], ⟨HB.out.setCell (Nat.le_refl _) _⟩, ⟨HSTEP.out _ 45 rfl (fun j hj => ?_)⟩, ⟨fun j hj => by rw [World.frozen?_setCell]; exact HF.out j hj⟩⟩
          by_cases e : j = i
          · subst e; rw [if_pos rfl, World.cell?_setCell_same (h := l1)]
          · rw [if_neg e, World.cell?_setCell_other (h := by intro h; injection h with _ h2 _; exact e h2.symm)]; exact HC.out j hj
      · by_cases h45 : b = 45
        · subst h45
          have n43 : ((45 : Int) == 43) = false := rfl
          go_wp2
          go_roundg (a0.size - (i + 1))
          case measure => omega
          case rel =>
            refine ⟨i + 1, by omega, by omega, by rw [OPW i (by have := HS.out; omega)], ⟨HB.out.setCell (Nat.le_refl _) _⟩, ⟨HSTEP.out _ 43 rfl (fun j hj => ?_)⟩, ⟨fun j hj => by rw [World.frozen?_setCell]; exact HF.out j hj⟩⟩
            by_cases e : j = i
            · subst e; rw [if_pos rfl, World.cell?_setCell_same (h := l1)]
            · rw [if_neg e, World.cell?_setCell_other (h := by intro h; injection h with _ h2 _; exact e h2.symm)]; exact HC.out j hj
        · have n43 : (b == 43) = false := beq_eq_false_iff_ne.mpr h43
          have n45 : (b == 45) = false := beq_eq_false_iff_ne.mpr h45
          go_wp2
          go_roundg (a0.size - (i + 1))
          case measure => omega
          case rel =>
            refine ⟨i + 1, by omega, by omega, by rw [OPW i (by have := HS.out; omega)], HB, ⟨HSTEP.out _ b (by unfold oppI; rw [if_neg h43, if_neg h45]) (fun j hj => ?_)⟩, HF⟩
            by_cases e : j = i
            · subst e; rw [if_pos rfl]; exact l1
            · rw [if_neg e]; exact HC.out j hj
    · have hltz : ¬ (i : Int) < (a0.size : Int) := by omega
      have : i = a0.size := by omega
      subst this
      have hcv2 : ∀ W : World, (∀ j, j < a0.size → W.cell? ⟨w.heap.size, 0 + j, none⟩ = some (.int .u8 ((oppL a0).getD j 0))) → (convert 36 9 (Value.slice (some ⟨w.heap.size, 0, none⟩) a0.size cap)).run Tryd.prog W = .ok (.string (strOfNums (oppL a0))) W :=
        fun W hW => run_convert_bytes_arg W 36 5 Tryd.underlying36 Tryd.underlying5 w.heap.size 0 a0.size cap (oppL a0) (by rw [oppL, List.length_map, List.length_range]) hW 9 Tryd.underlying9
      have hcv3 := hcv2 wr (fun j hj => by
        rw [Nat.zero_add, HC.out j hj]
        unfold oppR oppL
        rw [if_pos hj, List.getD_eq_getElem?_getD, List.getElem?_map, List.getElem?_range hj]
        rfl)
      go_wp2
      go_ret
      exact ⟨rfl, HB.out⟩
def trimRen : Go.Shelf.Ren := ⟨fun x => if x = 227 then 38 else if x = 228 then 50 else x, fun x => if x = 116 then 52 else if x = 124 then 56 else if x = 9 then 9 else if x = 4 then 4 else if x = 3 then 3 else if x = 5 then 5 else x, fun x => x⟩
theorem trim227 : Lays.n227 Tryd.prog trimRen :=
  { mixed := by kernel_rfl, f227 := Tryd.func38.trans (congrArg some (by kernel_rfl)),
    t0 := Tryd.underlying0, a0 := Tryd.isAgg0, z0 := Tryd.sizeOf0, v0 := Tryd.zeroValue0,
    t3 := Tryd.underlying3, a3 := Tryd.isAgg3, z3 := Tryd.sizeOf3, v3 := Tryd.zeroValue3,
    t4 := Tryd.underlying4, a4 := Tryd.isAgg4, z4 := Tryd.sizeOf4, v4 := Tryd.zeroValue4,
    t5 := Tryd.underlying5, a5 := Tryd.isAgg5, z5 := Tryd.sizeOf5, v5 := Tryd.zeroValue5,
    t9 := Tryd.underlying9, a9 := Tryd.isAgg9, z9 := Tryd.sizeOf9, v9 := Tryd.zeroValue9,
    t116 := Tryd.underlying52, a116 := Tryd.isAgg52, z116 := Tryd.sizeOf52 }
theorem trim228 : Lays.n228 Tryd.prog trimRen :=
  { mixed := by kernel_rfl, f228 := Tryd.func50.trans (congrArg some (by kernel_rfl)),
    t0 := Tryd.underlying0, a0 := Tryd.isAgg0, z0 := Tryd.sizeOf0, v0 := Tryd.zeroValue0,
    t4 := Tryd.underlying4, a4 := Tryd.isAgg4, z4 := Tryd.sizeOf4, v4 := Tryd.zeroValue4,
    t5 := Tryd.underlying5, a5 := Tryd.isAgg5, z5 := Tryd.sizeOf5, v5 := Tryd.zeroValue5,
    t116 := Tryd.underlying52, a116 := Tryd.isAgg52, z116 := Tryd.sizeOf52,
    t124 := Tryd.underlying56, a124 := Tryd.isAgg56, z124 := Tryd.sizeOf56, v124 := Tryd.zeroValue56 }
def inSet (cs : List UInt8) (x : Int) : Bool := cs.contains (UInt8.ofNat x.toNat)
abbrev SETB (cs : List UInt8) : Obj := .cells (Lib.setCells cs) 52 (0, 0)
theorem asciiSet_has.calls (b : Nat) (cs : List UInt8) (x : Int) (w : World) (h0 : 0 ≤ x) (h1 : x < 256) (hb : w.heap[b]? = some (SETB cs)) :
    Calls Tryd.prog 50 #[.pointer (some ⟨b, 0, none⟩), .int .u8 x] w fun e w' => e = .returned (.bool (inSet cs x)) ∧ w' = w := by
  have hx : (((UInt8.ofNat x.toNat).toNat : Nat) : Int) = x := by
    rw [UInt8.toNat_ofNat']
    omega
  have h := Any.asciiSet_contains trim228 b (UInt8.ofNat x.toNat) (inSet cs x) w ((blk_cell hb _).trans (Lib.setCells_at cs _))
  rw [hx] at h
  exact h
def trimL : Nat → List UInt8 → ByteArray → Option ByteArray
  | 0, _, _ => none
  | k + 1, cs, s => if 0 < (s.size : Int) then (if inSet cs (bt s 0) = true then trimL k cs (s.extract 1 s.size) else some s) else some s
def trimR : Nat → List UInt8 → ByteArray → Option ByteArray
  | 0, _, _ => none
  | k + 1, cs, s => if 0 < (s.size : Int) then (if 0 ≤ (wrap64 ((s.size : Int) - 1)) then (if (wrap64 ((s.size : Int) - 1)) < (s.size : Int) then (if inSet cs (bt s (wrap64 ((s.size : Int) - 1))) = true then trimR k cs (s.extract 0 ((wrap64 ((s.size : Int) - 1)) : Int).toNat) else some s) else none) else none) else some s
theorem trimL.mono_l : ∀ k, ∀ cs s, LeO (trimL k cs s) (trimL (k + 1) cs s)
  | 0 => fun _ _ r h => by simp [trimL] at h
  | k + 1 => by
    have ih := trimL.mono_l k
    intro cs s
    unfold trimL
    repeat' first
      | (with_reducible exact ih _ _)
      | (with_reducible exact LeO.refl _)
      | (with_reducible exact LeO.none _)
      | (with_reducible refine LeO.ite ?_ ?_)
      | (with_reducible refine LeO.bind ?_ (fun _ => ?_))
theorem trimR.mono_l : ∀ k, ∀ cs s, LeO (trimR k cs s) (trimR (k + 1) cs s)
  | 0 => fun _ _ r h => by simp [trimR] at h
  | k + 1 => by
    have ih := trimR.mono_l k
    intro cs s
    unfold trimR
    repeat' first
      | (with_reducible exact ih _ _)
      | (with_reducible exact LeO.refl _)
      | (with_reducible exact LeO.none _)
      | (with_reducible refine LeO.ite ?_ ?_)
      | (with_reducible refine LeO.bind ?_ (fun _ => ?_))
set_option maxHeartbeats 8000000 in
set_option maxRecDepth 100000 in
theorem trimL.calls (k b : Nat) (cs : List UInt8) (s r : ByteArray) (w : World) (hb : w.heap[b]? = some (SETB cs)) (h : trimL k cs s = some r) :
    Calls Tryd.prog 39 #[.string s, .pointer (some ⟨b, 0, none⟩)] w fun e w' => e = .returned (.string r) ∧ Drawn0 w w' := by
  have H' := Aside0.mk h
  have HS := Aside0.mk hb
  clear h hb
  go_enter Tryd.func39, Tryd.ntmps39
  go_wp2
  go_loopg [0] k (fun kq v0 w' => ∃ (x0_1 : ByteArray), v0 = .string x0_1 ∧ Aside0 (trimL kq cs x0_1 = some r) ∧ Aside0 (kq ≤ k) ∧ Drawn0 w w')
  case atStart => exact ⟨s, rfl, H', ⟨Nat.le_refl _⟩, by repeat (first | exact Drawn0.refl _ | apply Drawn0.step)⟩
  case round =>
    clear H'
    obtain ⟨x0_1, rfl, HA, HK1, ⟨m1, rfl⟩⟩ := hrel
    cases gk with
    | zero => exact absurd HA.out (by simp [trimL])
    | succ k1 =>
      have H := HA.out
      clear HA
      simp only [trimL] at H
      by_cases c3 : 0 < (x0_1.size : Int)
      · rw [if_pos c3] at H
        have c3b0 : decide (0 < (x0_1.size : Int)) = true := decide_eq_true c3
        have c3b1 : decide (0 < x0_1.size) = true := decide_eq_true (by omega)
        have qi5 : (0 < (x0_1.size : Int)) = True := eq_true c3
        have c7b0 : (1 ≤ (x0_1.size : Int)) = True := eq_true (by omega)
        have q5 : (0 < x0_1.size) = True := eq_true (by omega)
        have hx5 : ∀ h : 0 < x0_1.size, ((x0_1[0]'h).toNat : Int) = bt x0_1 0 := bt_at x0_1 0
        have hr0 : 0 ≤ bt x0_1 0 ∧ bt x0_1 0 < 256 := by
          have h0 : 0 < x0_1.size := by omega
          rw [← hx5 h0]
          have := (x0_1[0]'h0).toNat_lt
          omega
        have HR := Aside0.mk hr0
        clear hr0 c3
        by_cases c6 : inSet cs (bt x0_1 0) = true
        · rw [if_pos c6] at H
          have H' := Aside0.mk H
          clear H
          go_wp2_with (go_at_call 50; (with_reducible refine (asciiSet_has.calls b cs _ _ HR.out.1 HR.out.2 (blk_drewN HS.out _)).mono ?_); rintro e w' ⟨rfl, rfl⟩)
          go_roundg k1
          case measure => have := HK1.out; omega
          case rel => exact ⟨(x0_1.extract 1 x0_1.size), (by first | rfl | (simp; done) | (simp [*]; done)), H', ⟨by have := HK1.out; omega⟩, by repeat (first | exact Drawn0.refl _ | apply Drawn0.step)⟩
        · rw [if_neg c6] at H
          have c6b : inSet cs (bt x0_1 0) = false := by simpa using c6
          obtain rfl := Option.some.inj H
          clear c6
          go_wp2_with (go_at_call 50; (with_reducible refine (asciiSet_has.calls b cs _ _ HR.out.1 HR.out.2 (blk_drewN HS.out _)).mono ?_); rintro e w' ⟨rfl, rfl⟩)
          go_ret
          exact ⟨by first | rfl | (simp; done) | (simp [*]; done), by repeat (first | exact Drawn0.refl _ | apply Drawn0.step)⟩
      · rw [if_neg c3] at H
        have c3b0 : decide (0 < (x0_1.size : Int)) = false := decide_eq_false c3
        have c3b1 : decide (0 < x0_1.size) = false := decide_eq_false (by omega)
        clear c3
        obtain rfl := Option.some.inj H
        go_wp2
        go_ret
        exact ⟨by first | rfl | (simp; done) | (simp [*]; done), by repeat (first | exact Drawn0.refl _ | apply Drawn0.step)⟩
set_option maxHeartbeats 8000000 in
set_option maxRecDepth 100000 in
theorem trimR.calls (k b : Nat) (cs : List UInt8) (s r : ByteArray) (w : World) (hb : w.heap[b]? = some (SETB cs)) (h : trimR k cs s = some r) :
    Calls Tryd.prog 40 #[.string s, .pointer (some ⟨b, 0, none⟩)] w fun e w' => e = .returned (.string r) ∧ Drawn0 w w' := by
  have H' := Aside0.mk h
  have HS := Aside0.mk hb
  clear h hb
  go_enter Tryd.func40, Tryd.ntmps40
  go_wp2
  go_loopg [0] k (fun kq v0 w' => ∃ (x0_1 : ByteArray), v0 = .string x0_1 ∧ Aside0 (trimR kq cs x0_1 = some r) ∧ Aside0 (kq ≤ k) ∧ Drawn0 w w')
  case atStart => exact ⟨s, rfl, H', ⟨Nat.le_refl _⟩, by repeat (first | exact Drawn0.refl _ | apply Drawn0.step)⟩
  case round =>
    clear H'
    obtain ⟨x0_1, rfl, HA, HK1, ⟨m1, rfl⟩⟩ := hrel
    cases gk with
    | zero => exact absurd HA.out (by simp [trimR])
    | succ k1 =>
      have H := HA.out
      clear HA
      simp only [trimR] at H
      by_cases c3 : 0 < (x0_1.size : Int)
      · rw [if_pos c3] at H
        have c3b0 : decide (0 < (x0_1.size : Int)) = true := decide_eq_true c3
        have c3b1 : decide (0 < x0_1.size) = true := decide_eq_true (by omega)
        clear c3
        obtain ⟨ji4, hji4⟩ : ∃ j_ : Int, (wrap64 ((x0_1.size : Int) - 1)) = j_ := ⟨_, rfl⟩
        rw [hji4] at H
        have hji4w : (IntKind.i64.wrap ((x0_1.size : Int) - 1)) = ji4 := (i64_w _).trans hji4
        by_cases c5 : 0 ≤ ji4
        · rw [if_pos c5] at H
          by_cases c6 : ji4 < (x0_1.size : Int)
          · rw [if_pos c6] at H
            have c5b0 : decide (0 ≤ ji4) = true := decide_eq_true c5
            have c6b0 : decide (ji4 < (x0_1.size : Int)) = true := decide_eq_true c6
            have c10b1 : decide (ji4 ≤ (x0_1.size : Int)) = true := decide_eq_true (by omega)
            have c10b0 : (ji4 ≤ (x0_1.size : Int)) = True := eq_true (by omega)
            have p7 : (0 ≤ ji4) = True := eq_true c5
            have q7 : (ji4 < (x0_1.size : Int)) = True := eq_true c6
            have hx7 := bt_at x0_1 ji4
            have hr0 : 0 ≤ bt x0_1 ji4 ∧ bt x0_1 ji4 < 256 := by
              have h0 : ji4.toNat < x0_1.size := by omega
              rw [← hx7 h0]
              have := (x0_1[ji4.toNat]'h0).toNat_lt
              omega
            have HR := Aside0.mk hr0
            clear hr0 c5 c6
            by_cases c8 : inSet cs (bt x0_1 ji4) = true
            · rw [if_pos c8] at H
              have H' := Aside0.mk H
              clear H
              go_wp2_with (go_at_call 50; (with_reducible refine (asciiSet_has.calls b cs _ _ HR.out.1 HR.out.2 (blk_drewN HS.out _)).mono ?_); rintro e w' ⟨rfl, rfl⟩)
              go_roundg k1
              case measure => have := HK1.out; omega
              case rel => exact ⟨(x0_1.extract 0 ji4.toNat), (by first | rfl | (simp; done) | (simp only [← hji4] <;> (first | rfl | simp)) | (simp [*]; done)), H', ⟨by have := HK1.out; omega⟩, by repeat (first | exact Drawn0.refl _ | apply Drawn0.step)⟩
            · rw [if_neg c8] at H
              have c8b : inSet cs (bt x0_1 ji4) = false := by simpa using c8
              obtain rfl := Option.some.inj H
              clear c8
              go_wp2_with (go_at_call 50; (with_reducible refine (asciiSet_has.calls b cs _ _ HR.out.1 HR.out.2 (blk_drewN HS.out _)).mono ?_); rintro e w' ⟨rfl, rfl⟩)
              go_ret
              exact ⟨by first | rfl | (simp; done) | (simp [*]; done), by repeat (first | exact Drawn0.refl _ | apply Drawn0.step)⟩
          · rw [if_neg c6] at H
            exact absurd H (by simp)
        · rw [if_neg c5] at H
          exact absurd H (by simp)
      · rw [if_neg c3] at H
        have c3b0 : decide (0 < (x0_1.size : Int)) = false := decide_eq_false c3
        have c3b1 : decide (0 < x0_1.size) = false := decide_eq_false (by omega)
        clear c3
        obtain rfl := Option.some.inj H
        go_wp2
        go_ret
        exact ⟨by first | rfl | (simp; done) | (simp [*]; done), by repeat (first | exact Drawn0.refl _ | apply Drawn0.step)⟩
def cutOk (c : ByteArray) : Bool := decide (2 ≤ c.size) && c.data.toList.all fun x => decide (x.toNat < 128)
def strings_Trim.f (k : Nat) (a0 a1 : ByteArray) : Option ByteArray := if cutOk a1 = true ∧ a1.size ≤ 1000 then (if a0.toList = [] then some a0 else (trimR k a1.data.toList a0).bind fun t => trimL k a1.data.toList t) else none
theorem strings_Trim.mono : ∀ a0 a1 k, LeO (strings_Trim.f k a0 a1) (strings_Trim.f (k + 1) a0 a1) := by
  intro a0 a1 k
  have ih := trimL.mono_l k
  have ih2 := trimR.mono_l k
  unfold strings_Trim.f
  repeat' first
    | (with_reducible exact ih _ _)
    | (with_reducible exact LeO.refl _)
    | (with_reducible exact LeO.none _)
    | (with_reducible refine LeO.ite ?_ ?_)
    | (with_reducible refine LeO.bind ?_ (fun _ => ?_))
    | (with_reducible exact ih2 _ _)
set_option maxHeartbeats 8000000 in
set_option maxRecDepth 100000 in
theorem strings_Trim.calls (k : Nat) (a0 a1 : ByteArray) (r : ByteArray) (w : World) (h : strings_Trim.f k a0 a1 = some r) :
    Calls Tryd.prog 26 #[.string a0, .string a1] w fun e w' => e = .returned (.string r) ∧ Below w.heap.size w w' := by
  unfold strings_Trim.f at h
  by_cases hc : cutOk a1 = true ∧ a1.size ≤ 1000
  case neg => rw [if_neg hc] at h; cases h
  rw [if_pos hc] at h
  obtain ⟨hc1, hc2⟩ := hc
  unfold cutOk at hc1
  rw [Bool.and_eq_true, decide_eq_true_eq, List.all_eq_true] at hc1
  have hne : a1.toList ≠ [] := fun e => by
    have h2 := hc1.1
    rw [Lib.toList_data] at e
    have h3 : a1.size = a1.data.toList.length := rfl
    rw [e, List.length_nil] at h3
    omega
  have e1 : (a1.toList == ([] : List UInt8)) = false := beq_eq_false_iff_ne.mpr hne
  have e1e : a1.toList.isEmpty = false := by
    cases h : a1.toList with
    | nil => exact absurd h hne
    | cons _ _ => rfl
  have e2 : ((a1.size : Int) == 1) = false := beq_eq_false_iff_ne.mpr (by omega)
  by_cases h0 : a0.toList = []
  · rw [if_pos h0] at h
    obtain rfl := Option.some.inj h
    have e0 : (a0.toList == ([] : List UInt8)) = true := beq_iff_eq.mpr h0
    have e0e : a0.toList.isEmpty = true := by rw [h0]; rfl
    clear h h0 hne hc1
    go_enter Tryd.func26, Tryd.ntmps26
    go_wp2
    go_ret
    exact ⟨by first | rfl | (simp; done) | (simp [*]; done), by repeat (first | exact Below.refl _ _ | apply pw_below_drewN | apply below_drew1)⟩
  rw [if_neg h0] at h
  obtain ⟨t, hR, hL⟩ := Option.bind_eq_some_iff.mp h
  have e0 : (a0.toList == ([] : List UInt8)) = false := beq_eq_false_iff_ne.mpr h0
  have e0e : a0.toList.isEmpty = false := by
    cases h : a0.toList with
    | nil => exact absurd h h0
    | cons _ _ => rfl
  have hM : ∀ W : World, Calls Tryd.prog 38 #[.string a1] W fun e w' => e = .returned (.tuple #[.agg (Lib.setCells a1.data.toList), .bool true]) ∧ w' = W.alloc (.cells (Lib.setCells a1.data.toList) 52) := fun W => Any.strings_makeASCIISet trim227 Tryd.zeroValue52 (by kernel_rfl) a1 W (by omega) (fun j b hb => of_decide_eq_true (hc1.2 b (List.mem_of_getElem? hb)))
  have hsz := Lib.setCells_size a1.data.toList
  have hone := Lib.setCells_one a1.data.toList
  have hbl : ∀ W : World, (W.alloc (.cells (Lib.setCells a1.data.toList) 52 (0, 0))).heap[W.heap.size]? = some (.cells (Lib.setCells a1.data.toList) 52 (0, 0)) := fun W => blk_new W _
  have hLc := fun (W : World) (n : Nat) => trimL.calls k W.heap.size a1.data.toList t r ((W.alloc (.cells (Lib.setCells a1.data.toList) 52 (0, 0))).drewN n) (blk_drewN (hbl W) n) hL
  have hRc := fun W => trimR.calls k W.heap.size a1.data.toList a0 t (W.alloc (.cells (Lib.setCells a1.data.toList) 52 (0, 0))) (hbl W) hR
  have hst : ∀ W : World, (storeCells ⟨W.heap.size, 0, none⟩ (Lib.setCells a1.data.toList).toList 0).run Tryd.prog (W.alloc (.cells Tryd.zeroCells52 52)) = .ok () (W.alloc (.cells (Lib.setCells a1.data.toList) 52 (0, 0))) := fun W => run_storeCells_new W 52 Tryd.zeroCells52 (Lib.setCells a1.data.toList) (by rw [hsz]; kernel_rfl) (by rw [hsz]; kernel_rfl) hone
  have HM := Aside0.mk hM
  have HR := Aside0.mk hR
  have HL := Aside0.mk hL
  have hsz1 : ∀ o : Obj, (w.alloc o).heap.size = w.heap.size + 1 := fun o => by
    show (w.heap.push o).size = w.heap.size + 1
    exact Array.size_push ..
  have hst2 := hst (w.alloc (.cells (Lib.setCells a1.data.toList) 52 (0, 0)))
  have hLc2 := hLc (w.alloc (.cells (Lib.setCells a1.data.toList) 52 (0, 0)))
  have hRc2 := hRc (w.alloc (.cells (Lib.setCells a1.data.toList) 52 (0, 0)))
  rw [hsz1] at hst2 hLc2 hRc2
  have HB := Aside0.mk hbl
  have HLC := Aside0.mk hLc2
  have HRC := Aside0.mk hRc2
  clear hLc2 hRc2 hst
  generalize Lib.setCells a1.data.toList = C at *
  clear h h0 hne hc1 hM hR hL hbl hLc hRc hone
  go_enter Tryd.func26, Tryd.ntmps26
  go_wp2_with (first | (go_at_call 38; (refine (HM.out _).mono ?_); rintro e w' ⟨rfl, rfl⟩) | (go_at_call 40; (refine (HRC.out).mono ?_); rintro e w' ⟨rfl, ⟨n1, rfl⟩⟩) | (go_at_call 39; (refine (HLC.out _).mono ?_); rintro e w' ⟨rfl, ⟨n2, rfl⟩⟩))
  go_ret
  exact ⟨by first | rfl | (simp; done) | (simp [*]; done), by repeat (first | exact Below.refl _ _ | apply below_alloc | apply pw_below_drewN | apply below_drew1)⟩
end Go.Proofs.YtajogmlblknfdaaDoor.P
namespace Go.Proofs.YtajogmlblknfdaaDoor.P
open Go.RowKit Go.Proofs.YtajogmlblknfdaaDoorW.PrintWords Go.Proofs.YtajogmlblknfdaaDoorW.PrintLast Go.Proofs.YtajogmlblknfdaaDoorW.PrintMore
attribute [local go_sem] ptrOf_slice
attribute [local go_sem] max2_int min2_int max_two min_two max_three min_three max_four min_four
set_option linter.unusedVariables false
set_option linter.unusedSimpArgs false
def impl_isCoverText.f (k : Nat) (a0 : ByteArray) : Option (Bool) := if (a0.size : Int) ≤ 7 then ((strings_Trim.f k a0 (⟨#[43, 45, 48]⟩ : ByteArray)).bind fun t105 => (some (t105.toList == ([] : List UInt8)))) else (some false)
theorem impl_isCoverText.mono : ∀ a0 k, LeO (impl_isCoverText.f k a0) (impl_isCoverText.f (k + 1) a0) := by
 intro a0 k
 unfold impl_isCoverText.f
 repeat' first
   | (with_reducible exact strings_Trim.mono _ _ _)
   | (with_reducible exact LeO.refl _)
   | (with_reducible exact LeO.none _)
   | (with_reducible refine LeO.ite ?_ ?_)
   | (with_reducible refine LeO.bind ?_ (fun _ => ?_))
   | exact strings_Trim.mono _ _ _
   | exact LeO.none _
   | refine LeO.ite ?_ ?_
   | refine LeO.bind ?_ (fun _ => ?_)
set_option maxHeartbeats 8000000 in
set_option maxRecDepth 100000 in
theorem impl_isCoverText.calls (k : Nat) (a0 : ByteArray) (r : Bool) (w : World) (h : impl_isCoverText.f k a0 = some r) :
  Calls Tryd.prog 19 #[.string a0] w fun e w' => e = .returned (.bool r) ∧ Below w.heap.size w w' := by
 have HB := Aside0.mk (Below.refl w.heap.size w)
 have H : (if (a0.size : Int) ≤ 7 then ((strings_Trim.f k a0 (⟨#[43, 45, 48]⟩ : ByteArray)).bind fun t105 => (some (t105.toList == ([] : List UInt8)))) else (some false)) = some r := h
 clear h
 by_cases c2 : (a0.size : Int) ≤ 7
 ·rw [if_pos c2] at H
  have c2b0 : decide ((a0.size : Int) ≤ 7) = true := decide_eq_true c2
  have c2b1 : decide (a0.size ≤ 7) = true := decide_eq_true (by omega)
  clear c2
  replace H := Option.bind_eq_some_iff.mp H
  obtain ⟨t105, A30, H⟩ := H
  replace H : (some (t105.toList == ([] : List UInt8))) = some r := H
  have A3 := Aside0.mk A30
  clear A30
  obtain rfl := Option.some.inj H
  go_enter Tryd.func19, Tryd.ntmps19
  go_wp2_with (first | (go_at_call 26; (with_reducible refine (strings_Trim.calls k a0 (⟨#[43, 45, 48]⟩ : ByteArray) t105 _ A3.out).mono ?_); rintro e w4 ⟨rfl, hb⟩; have n0_ := Aside0.mk (below_step (by repeat (first | (with_reducible first | exact HB.out | apply below_alloc | apply pw_below_drewN | apply below_drew1) | exact HB.out)) hb); clear HB; have HB := n0_; clear n0_; (try clear hb); (try clear hb2); (try clear hk); (try clear hi)))
  go_ret
  exact ⟨by first | rfl | (simp [errW_none, errW_some] <;> rfl) | (simp [*, errW_none, errW_some] <;> rfl), by repeat (first | (with_reducible first | exact HB.out | apply below_alloc | apply pw_below_drewN | apply below_drew1) | exact HB.out)⟩
 ·rw [if_neg c2] at H
  have c2b0 : decide ((a0.size : Int) ≤ 7) = false := decide_eq_false c2
  have c2b1 : decide (a0.size ≤ 7) = false := decide_eq_false (by omega)
  clear c2
  obtain rfl := Option.some.inj H
  go_enter Tryd.func19, Tryd.ntmps19
  go_wp2
  go_ret
  exact ⟨by first | rfl | (simp [errW_none, errW_some] <;> rfl) | (simp [*, errW_none, errW_some] <;> rfl), by repeat (first | (with_reducible first | exact HB.out | apply below_alloc | apply pw_below_drewN | apply below_drew1) | exact HB.out)⟩
end Go.Proofs.YtajogmlblknfdaaDoor.P
namespace Go.Proofs.YtajogmlblknfdaaDoor.P
open Go.RowKit Go.Proofs.YtajogmlblknfdaaDoorW.PrintWords Go.Proofs.YtajogmlblknfdaaDoorW.PrintLast Go.Proofs.YtajogmlblknfdaaDoorW.PrintMore
set_option linter.unusedVariables false
set_option linter.unusedSimpArgs false
def jnI (x y : Int) : Int := if x = 48 then y else x
def jnL (a b : ByteArray) : List Int := (List.range a.size).map fun j : Nat => jnI (bt a (j : Int)) (bt b (j : Int))
def impl_JoinTexts.f (k : Nat) (a0 a1 : ByteArray) : Option (ByteArray × Bool) :=
  if a0.size ≤ 9223372036854775807 then (if (a0.size : Int) = (a1.size : Int) then (impl_isCoverText.f k a0).bind fun t => if t = true then (impl_isCoverText.f k a1).bind fun t => if t = true then some (strOfNums (jnL a0 a1), true) else some (⟨#[]⟩, false) else some (⟨#[]⟩, false) else some (⟨#[]⟩, false)) else none
theorem impl_JoinTexts.mono : ∀ a0 a1 k, LeO (impl_JoinTexts.f k a0 a1) (impl_JoinTexts.f (k + 1) a0 a1) := by
  intro a0 a1 k
  unfold impl_JoinTexts.f
  repeat' first
    | (with_reducible exact impl_isCoverText.mono _ _)
    | (with_reducible exact LeO.refl _)
    | (with_reducible exact LeO.none _)
    | (with_reducible refine LeO.ite ?_ ?_)
    | (with_reducible refine LeO.bind ?_ (fun _ => ?_))
def jnR (a b : ByteArray) (i j : Nat) : Int := if j < i then jnI (bt a (j : Int)) (bt b (j : Int)) else bt a (j : Int)
set_option maxHeartbeats 4000000 in
set_option maxRecDepth 100000 in
theorem impl_JoinTexts.calls (k : Nat) (a0 a1 : ByteArray) (r1 : ByteArray) (r2 : Bool) (w : World) (h : impl_JoinTexts.f k a0 a1 = some (r1, r2)) :
    Calls Tryd.prog 8 #[.string a0, .string a1] w fun e w' => e = .returned (.tuple #[.string r1, .bool r2]) ∧ Below w.heap.size w w' := by
  unfold impl_JoinTexts.f at h
  by_cases hsz : a0.size ≤ 9223372036854775807
  case neg => rw [if_neg hsz] at h; cases h
  rw [if_pos hsz] at h
  by_cases he : (a0.size : Int) = (a1.size : Int)
  case neg =>
    rw [if_neg he] at h
    cases h
    have e0 : ((a0.size : Int) == (a1.size : Int)) = false := beq_eq_false_iff_ne.mpr he
    have e1 : ((a0.size : Int) != (a1.size : Int)) = true := bne_iff_ne.mpr he
    clear he hsz
    go_enter Tryd.func8, Tryd.ntmps8
    go_wp2
    go_ret2
    exact ⟨rfl, by repeat (first | exact Below.refl _ _ | apply pw_below_drewN | apply below_drew1)⟩
  rw [if_pos he] at h
  have e0 : ((a0.size : Int) == (a1.size : Int)) = true := beq_iff_eq.mpr he
  have e1 : ((a0.size : Int) != (a1.size : Int)) = false := bne_eq_false_iff_eq.mpr he
  obtain ⟨t1, hA, h⟩ := Option.bind_eq_some_iff.mp h
  have A1 := Aside0.mk hA
  clear hA
  cases t1 with
  | false =>
    rw [if_neg (by simp)] at h
    cases h
    clear he hsz
    go_enter Tryd.func8, Tryd.ntmps8
    go_wp2_with (go_at_call 19; (with_reducible refine (impl_isCoverText.calls k a0 false _ A1.out).mono ?_); rintro e w1 ⟨rfl, hb1⟩; have HB1 := Aside0.mk hb1; clear hb1)
    go_ret2
    exact ⟨rfl, HB1.out⟩
  | true =>
    rw [if_pos rfl] at h
    obtain ⟨t2, hA, h⟩ := Option.bind_eq_some_iff.mp h
    have A2 := Aside0.mk hA
    clear hA
    cases t2 with
    | false =>
      rw [if_neg (by simp)] at h
      cases h
      clear he hsz
      go_enter Tryd.func8, Tryd.ntmps8
      go_wp2_with (first | (go_at_call 19; (with_reducible refine (impl_isCoverText.calls k a0 true _ A1.out).mono ?_); rintro e w1 ⟨rfl, hb1⟩; have HB1 := Aside0.mk hb1; clear hb1 A1) | (go_at_call 19; (with_reducible refine (impl_isCoverText.calls k a1 false _ A2.out).mono ?_); rintro e w2 ⟨rfl, hb2⟩; have HB2 := Aside0.mk (below_step HB1.out hb2); clear hb2))
      go_ret2
      exact ⟨rfl, HB2.out⟩
    | true =>
      rw [if_pos rfl] at h
      cases h
      have hcv : ∀ W : World, (convert 9 36 (.string a0)).run Tryd.prog W = .ok (.slice (some ⟨W.heap.size, 0, none⟩) a0.size (grownCap W a0.size 0 5)) (Lib.bytesWorld W 5 a0) :=
        fun W => Lib.run_convert_string_bytes W _ _ _ a0 Tryd.underlying9 Tryd.underlying36 Tryd.underlying5
      have HS := Aside0.mk hsz
      have HE := Aside0.mk he
      clear hsz he
      go_enter Tryd.func8, Tryd.ntmps8
      go_wp2_with (first | (go_at_call 19; (with_reducible refine (impl_isCoverText.calls k a0 true _ A1.out).mono ?_); rintro e w1 ⟨rfl, hb1⟩; have HB1 := Aside0.mk hb1; clear hb1 A1) | (go_at_call 19; (with_reducible refine (impl_isCoverText.calls k a1 true _ A2.out).mono ?_); rintro e w2 ⟨rfl, hb2⟩; have HB2 := Aside0.mk (below_step HB1.out hb2); clear hb2 A2))
      have hc0 : ∀ j, j < a0.size → (Lib.bytesWorld w2 5 a0).cell? ⟨w2.heap.size, j, none⟩ = some (.int .u8 (bt a0 (j : Int))) := fun j hj => by
        rw [Lib.bytesWorld_cell w2 5 a0 j hj, opp_bt a0 j hj]
      have hf0 : ∀ j, j < a0.size → (Lib.bytesWorld w2 5 a0).frozen? ⟨w2.heap.size, j, none⟩ = false := fun j hj => opp_frozen w2 5 a0 j hj
      have HB := Aside0.mk (below_step HB2.out (OPB w2 5 a0))
      have HG := Aside0.mk (below_size HB2.out)
      have HC := Aside0.mk hc0
      have HF := Aside0.mk hf0
      clear hc0 hf0 HB1 HB2 hcv
      generalize grownCap w2 a0.size 0 5 = cap
      generalize Lib.bytesWorld w2 5 a0 = w3 at HC HF HB ⊢
      generalize w2.heap.size = g at HC HF HG ⊢
      go_loopg [28] a0.size (fun gg v10 wr => ∃ i : Nat, i ≤ a0.size ∧ a0.size - i ≤ gg ∧ v10 = .int .i64 i ∧ Aside0 (Below w.heap.size w wr) ∧ Aside0 (∀ j, j < a0.size → wr.cell? ⟨g, j, none⟩ = some (.int .u8 (jnR a0 a1 i j))) ∧ Aside0 (∀ j, j < a0.size → wr.frozen? ⟨g, j, none⟩ = false))
      case atStart =>
        refine ⟨0, Nat.zero_le _, by omega, rfl, HB, ⟨fun j hj => ?_⟩, HF⟩
        rw [HC.out j hj]
        rfl
      case round =>
        clear HC HF HB
        obtain ⟨i, hi, hg, rfl, HB, HC, HF⟩ := hrel
        by_cases hlt : i < a0.size
        · have hltz : (i : Int) < (a0.size : Int) := by omega
          have l1 := HC.out i hlt
          have f1 := HF.out i hlt
          rw [show jnR a0 a1 i i = bt a0 (i : Int) by unfold jnR; rw [if_neg (Nat.lt_irrefl _)]] at l1
          have hstep : ∀ (W : World) (x : Int), x = jnI (bt a0 (i : Int)) (bt a1 (i : Int)) → (∀ j, j < a0.size → W.cell? ⟨g, j, none⟩ = some (.int .u8 (if j = i then x else jnR a0 a1 i j))) → ∀ j, j < a0.size → W.cell? ⟨g, j, none⟩ = some (.int .u8 (jnR a0 a1 (i + 1) j)) := by
            intro W x hx hW j hj
            rw [hW j hj]
            unfold jnR
            by_cases e : j = i
            · subst e; rw [if_pos rfl, if_pos (Nat.lt_succ_self _), hx]
            · rw [if_neg e]
              by_cases e2 : j < i
              · rw [if_pos e2, if_pos (by omega)]
              · rw [if_neg e2, if_neg (by omega)]
          have HSTEP := Aside0.mk hstep
          clear hstep
          have hlt1 : i < a1.size := by have := HE.out; omega
          have q7 : ((i : Int) < (a1.size : Int)) = True := eq_true (by omega)
          have q8 : (i < a1.size) = True := eq_true hlt1
          have hx7 : ∀ h : i < a1.size, ((a1[i]'h).toNat : Int) = bt a1 (i : Int) := bt_at a1 (i : Int)
          have BW : ∀ v, Below w.heap.size w (wr.setCell ⟨g, i, none⟩ v) := fun v => HB.out.setCell HG.out _
          have HBW := Aside0.mk BW
          clear BW
          generalize hb : bt a0 (i : Int) = b at l1 HSTEP
          have HBB := Aside0.mk hb
          clear hb
          by_cases h48 : b = 48
          · subst h48
            go_wp2
            go_roundg (a0.size - (i + 1))
            case measure => omega
            case rel =>
              refine ⟨i + 1, by omega, by omega, by rw [OPW i (by have := HS.out; omega)], ⟨HBW.out _⟩, ⟨HSTEP.out _ (bt a1 (i : Int)) rfl (fun j hj => ?_)⟩, ⟨fun j hj => by rw [World.frozen?_setCell]; exact HF.out j hj⟩⟩
              by_cases e : j = i
              · subst e; rw [if_pos rfl, World.cell?_setCell_same (h := l1)]
              · rw [if_neg e, World.cell?_setCell_other (h := by intro h; injection h with _ h2 _; exact e h2.symm)]; exact HC.out j hj
          · have n48 : (b == 48) = false := beq_eq_false_iff_ne.mpr h48
            go_wp2
            go_roundg (a0.size - (i + 1))
            case measure => omega
            case rel =>
              refine ⟨i + 1, by omega, by omega, by rw [OPW i (by have := HS.out; omega)], HB, ⟨HSTEP.out _ b (by unfold jnI; rw [if_neg h48]) (fun j hj => ?_)⟩, HF⟩
              by_cases e : j = i
              · subst e; rw [if_pos rfl]; exact l1
              · rw [if_neg e]; exact HC.out j hj
        · have hltz : ¬ (i : Int) < (a0.size : Int) := by omega
          have : i = a0.size := by omega
          subst this
          have hcv2 : ∀ W : World, (∀ j, j < a0.size → W.cell? ⟨g, 0 + j, none⟩ = some (.int .u8 ((jnL a0 a1).getD j 0))) → (convert 36 9 (Value.slice (some ⟨g, 0, none⟩) a0.size cap)).run Tryd.prog W = .ok (.string (strOfNums (jnL a0 a1))) W :=
            fun W hW => run_convert_bytes_arg W 36 5 Tryd.underlying36 Tryd.underlying5 g 0 a0.size cap (jnL a0 a1) (by rw [jnL, List.length_map, List.length_range]) hW 9 Tryd.underlying9
          have hcv3 := hcv2 wr (fun j hj => by
            rw [Nat.zero_add, HC.out j hj]
            unfold jnR jnL
            rw [if_pos hj, List.getD_eq_getElem?_getD, List.getElem?_map, List.getElem?_range hj]
            rfl)
          go_wp2
          go_ret2
          exact ⟨rfl, HB.out⟩
end Go.Proofs.YtajogmlblknfdaaDoor.P
namespace Go.Proofs.YtajogmlblknfdaaDoor.P
open Go.RowKit Go.Proofs.YtajogmlblknfdaaDoorW.PrintWords Go.Proofs.YtajogmlblknfdaaDoorW.PrintLast Go.Proofs.YtajogmlblknfdaaDoorW.PrintMore
attribute [local go_sem] ptrOf_slice
attribute [local go_sem] max2_int min2_int max_two min_two max_three min_three max_four min_four
set_option linter.unusedVariables false
set_option linter.unusedSimpArgs false
def laws_FnExactJoinTexts.f (k : Nat) (a0 : ByteArray) (a1 : ByteArray) : Option (Bool) := if (a0.size : Int) > 1048576 then (some true) else (if (a1.size : Int) > 1048576 then (some true) else ((spec_JoinTexts.f k a0 a1).bind fun bt106 => ((impl_JoinTexts.f k a0 a1).bind fun bt108 => (if bt108.1.toList = bt106.1.toList then (if (bt108.2 != bt106.2) = true then (some false) else (some true)) else (some false)))))
set_option maxHeartbeats 8000000 in
set_option maxRecDepth 100000 in
theorem laws_FnExactJoinTexts.calls (k : Nat) (a0 : ByteArray) (a1 : ByteArray) (r : Bool) (w : World) (h : laws_FnExactJoinTexts.f k a0 a1 = some r) :
  Calls Tryd.prog 3 #[.string a0, .string a1] w fun e w' => e = .returned (.bool r) ∧ Below w.heap.size w w' := by
 have HB := Aside0.mk (Below.refl w.heap.size w)
 have H : (if (a0.size : Int) > 1048576 then (some true) else (if (a1.size : Int) > 1048576 then (some true) else ((spec_JoinTexts.f k a0 a1).bind fun bt106 => ((impl_JoinTexts.f k a0 a1).bind fun bt108 => (if bt108.1.toList = bt106.1.toList then (if (bt108.2 != bt106.2) = true then (some false) else (some true)) else (some false)))))) = some r := h
 clear h
 by_cases c3 : (a0.size : Int) > 1048576
 ·rw [if_pos c3] at H
  have c3b0 : decide (1048576 < (a0.size : Int)) = true := decide_eq_true c3
  have c3b1 : decide (1048576 < a0.size) = true := decide_eq_true (by omega)
  clear c3
  obtain rfl := Option.some.inj H
  go_enter Tryd.func3, Tryd.ntmps3
  go_wp2
  go_ret
  exact ⟨by first | rfl | (simp [errW_none, errW_some] <;> rfl) | (simp [*, errW_none, errW_some] <;> rfl), by repeat (first | (with_reducible first | exact HB.out | apply below_alloc | apply pw_below_drewN | apply below_drew1) | exact HB.out)⟩
 ·rw [if_neg c3] at H
  have c3b0 : decide (1048576 < (a0.size : Int)) = false := decide_eq_false c3
  have c3b1 : decide (1048576 < a0.size) = false := decide_eq_false (by omega)
  clear c3
  by_cases c4 : (a1.size : Int) > 1048576
  ·rw [if_pos c4] at H
   have c4b0 : decide (1048576 < (a1.size : Int)) = true := decide_eq_true c4
   have c4b1 : decide (1048576 < a1.size) = true := decide_eq_true (by omega)
   clear c4
   obtain rfl := Option.some.inj H
   go_enter Tryd.func3, Tryd.ntmps3
   go_wp2
   go_ret
   exact ⟨by first | rfl | (simp [errW_none, errW_some] <;> rfl) | (simp [*, errW_none, errW_some] <;> rfl), by repeat (first | (with_reducible first | exact HB.out | apply below_alloc | apply pw_below_drewN | apply below_drew1) | exact HB.out)⟩
  ·rw [if_neg c4] at H
   have c4b0 : decide (1048576 < (a1.size : Int)) = false := decide_eq_false c4
   have c4b1 : decide (1048576 < a1.size) = false := decide_eq_false (by omega)
   clear c4
   replace H := Option.bind_eq_some_iff.mp H
   obtain ⟨⟨t106, t107⟩, A50, H⟩ := H
   replace H : ((impl_JoinTexts.f k a0 a1).bind fun bt108 => (if bt108.1.toList = t106.toList then (if (bt108.2 != t107) = true then (some false) else (some true)) else (some false))) = some r := H
   have A5 := Aside0.mk A50
   clear A50
   replace H := Option.bind_eq_some_iff.mp H
   obtain ⟨⟨t108, t109⟩, A60, H⟩ := H
   replace H : (if t108.toList = t106.toList then (if (t109 != t107) = true then (some false) else (some true)) else (some false)) = some r := H
   have A6 := Aside0.mk A60
   clear A60
   by_cases c7 : t108.toList = t106.toList
   ·rw [if_pos c7] at H
    have c7b0 : (t108.toList == t106.toList) = true := beq_iff_eq.mpr c7
    have c7b1 : (t108.toList != t106.toList) = false := bne_eq_false_iff_eq.mpr c7
    clear c7
    by_cases c8 : (t109 != t107) = true
    ·rw [if_pos c8] at H
     have c8b0 : (t109 != t107) = true := c8
     (try (have c8b1 : decide (t109 = t107) = false := by simpa using c8))
     (try (have c8b2 : (t109 == t107) = false := by simpa using c8))
     (try (have c8b3 : ¬ (t109 = t107) := by simpa using c8))
     clear c8
     obtain rfl := Option.some.inj H
     go_enter Tryd.func3, Tryd.ntmps3
     go_wp2_with (first | ((with_reducible refine gate_callee (f := 7) rfl ?_); refine goesL_ (some 18) rfl rfl Tryd.func7 (by kernel_rfl) rfl #[.string a0, .string a1] rfl (by (try simp only [List.map_toArray, List.map_cons, List.map_nil]); first | done | rfl | (simp only [List.length_drop, List.length_take]; rfl)) ?_; (with_reducible refine (spec_JoinTexts.calls k a0 a1 t106 t107 _ A5.out).mono ?_); rintro e w' ⟨rfl, ⟨nd, rfl⟩⟩; refine ⟨_, rfl, ?_⟩) | ((with_reducible refine gate_callee (f := 8) rfl ?_); refine goesL_ (some 24) rfl rfl Tryd.func8 (by kernel_rfl) rfl #[.string a0, .string a1] rfl (by (try simp only [List.map_toArray, List.map_cons, List.map_nil]); first | done | rfl | (simp only [List.length_drop, List.length_take]; rfl)) ?_; (with_reducible refine (impl_JoinTexts.calls k a0 a1 t108 t109 _ A6.out).mono ?_); rintro e w9 ⟨rfl, hb⟩; refine ⟨_, rfl, ?_⟩; have n0_ := Aside0.mk (below_step (by repeat (first | (with_reducible first | exact HB.out | apply below_alloc | apply pw_below_drewN | apply below_drew1) | exact HB.out)) hb); clear HB; have HB := n0_; clear n0_; (try clear hb); (try clear hb2); (try clear hk); (try clear hi)))
     go_ret
     exact ⟨by first | rfl | (simp [errW_none, errW_some] <;> rfl) | (simp [*, errW_none, errW_some] <;> rfl), by repeat (first | (with_reducible first | exact HB.out | apply below_alloc | apply pw_below_drewN | apply below_drew1) | exact HB.out)⟩
    ·rw [if_neg c8] at H
     have c8b0 : (t109 != t107) = false := by simpa using c8
     (try (have c8b1 : decide (t109 = t107) = true := by simpa using c8))
     (try (have c8b2 : (t109 == t107) = true := by simpa using c8))
     clear c8
     obtain rfl := Option.some.inj H
     go_enter Tryd.func3, Tryd.ntmps3
     go_wp2_with (first | ((with_reducible refine gate_callee (f := 7) rfl ?_); refine goesL_ (some 18) rfl rfl Tryd.func7 (by kernel_rfl) rfl #[.string a0, .string a1] rfl (by (try simp only [List.map_toArray, List.map_cons, List.map_nil]); first | done | rfl | (simp only [List.length_drop, List.length_take]; rfl)) ?_; (with_reducible refine (spec_JoinTexts.calls k a0 a1 t106 t107 _ A5.out).mono ?_); rintro e w' ⟨rfl, ⟨nd, rfl⟩⟩; refine ⟨_, rfl, ?_⟩) | ((with_reducible refine gate_callee (f := 8) rfl ?_); refine goesL_ (some 24) rfl rfl Tryd.func8 (by kernel_rfl) rfl #[.string a0, .string a1] rfl (by (try simp only [List.map_toArray, List.map_cons, List.map_nil]); first | done | rfl | (simp only [List.length_drop, List.length_take]; rfl)) ?_; (with_reducible refine (impl_JoinTexts.calls k a0 a1 t108 t109 _ A6.out).mono ?_); rintro e w10 ⟨rfl, hb⟩; refine ⟨_, rfl, ?_⟩; have n0_ := Aside0.mk (below_step (by repeat (first | (with_reducible first | exact HB.out | apply below_alloc | apply pw_below_drewN | apply below_drew1) | exact HB.out)) hb); clear HB; have HB := n0_; clear n0_; (try clear hb); (try clear hb2); (try clear hk); (try clear hi)))
     go_ret
     exact ⟨by first | rfl | (simp [errW_none, errW_some] <;> rfl) | (simp [*, errW_none, errW_some] <;> rfl), by repeat (first | (with_reducible first | exact HB.out | apply below_alloc | apply pw_below_drewN | apply below_drew1) | exact HB.out)⟩
   ·rw [if_neg c7] at H
    have c7b0 : (t108.toList == t106.toList) = false := beq_eq_false_iff_ne.mpr c7
    have c7b1 : (t108.toList != t106.toList) = true := bne_iff_ne.mpr c7
    obtain rfl := Option.some.inj H
    go_enter Tryd.func3, Tryd.ntmps3
    go_wp2_with (first | ((with_reducible refine gate_callee (f := 7) rfl ?_); refine goesL_ (some 18) rfl rfl Tryd.func7 (by kernel_rfl) rfl #[.string a0, .string a1] rfl (by (try simp only [List.map_toArray, List.map_cons, List.map_nil]); first | done | rfl | (simp only [List.length_drop, List.length_take]; rfl)) ?_; (with_reducible refine (spec_JoinTexts.calls k a0 a1 t106 t107 _ A5.out).mono ?_); rintro e w' ⟨rfl, ⟨nd, rfl⟩⟩; refine ⟨_, rfl, ?_⟩) | ((with_reducible refine gate_callee (f := 8) rfl ?_); refine goesL_ (some 24) rfl rfl Tryd.func8 (by kernel_rfl) rfl #[.string a0, .string a1] rfl (by (try simp only [List.map_toArray, List.map_cons, List.map_nil]); first | done | rfl | (simp only [List.length_drop, List.length_take]; rfl)) ?_; (with_reducible refine (impl_JoinTexts.calls k a0 a1 t108 t109 _ A6.out).mono ?_); rintro e w11 ⟨rfl, hb⟩; refine ⟨_, rfl, ?_⟩; have n0_ := Aside0.mk (below_step (by repeat (first | (with_reducible first | exact HB.out | apply below_alloc | apply pw_below_drewN | apply below_drew1) | exact HB.out)) hb); clear HB; have HB := n0_; clear n0_; (try clear hb); (try clear hb2); (try clear hk); (try clear hi)))
    go_ret
    exact ⟨by first | rfl | (simp [errW_none, errW_some] <;> rfl) | (simp [*, errW_none, errW_some] <;> rfl), by repeat (first | (with_reducible first | exact HB.out | apply below_alloc | apply pw_below_drewN | apply below_drew1) | exact HB.out)⟩
def laws_FnExactJoinTexts.Pure : Prop := ∀ (a0 : ByteArray) (a1 : ByteArray), a0.size ≤ 140737488351232 → a1.size ≤ 140737488351232 → ∃ k, laws_FnExactJoinTexts.f k a0 a1 = some true
end Go.Proofs.YtajogmlblknfdaaDoor.P
namespace Go.Proofs.YtajogmlblknfdaaDoor.Rk
open Go.RowKit Go.ChangeShapes Go.WideShapes Go.Deep Go.Proofs.YtajogmlblknfdaaDoorW.PrintWords
def I64 (n : Int) : Prop := -9223372036854775808 ≤ n ∧ n ≤ 9223372036854775807
section
variable {H : Type} {enc : TypeId × Value → H} {P : Program} {w : World} {base : Nat} {spare : Nat → Bool} {held : Bool} {α : Type}
def Elem (enc : TypeId × Value → H) (P : Program) (w : World) (base : Nat) (spare : Nat → Bool) (held : Bool) (e : TypeId) (d : Kd α) (Q : α → Prop) : Prop :=
  ∀ (fuel : Nat) (cs : List Value) (x : DataW H × List MemPlace), DataW.trod enc P w base spare held fuel e cs = some x → ∃ y, d.K w y cs ∧ Q y
end
end Go.Proofs.YtajogmlblknfdaaDoor.Rk
namespace Go.Proofs.YtajogmlblknfdaaDoor.P
open Go.RowKit Go.ChangeShapes Go.WideShapes Go.Deep Go.Proofs.YtajogmlblknfdaaDoor.Rk Go.Proofs.YtajogmlblknfdaaDoorW.PrintWords
def Q29 (x : S29) : Prop := I64 x.f0 ∧ x.f1.size ≤ 9223372036854775807
instance : Inhabited S29 := ⟨z29⟩
end Go.Proofs.YtajogmlblknfdaaDoor.P
namespace Go.Proofs.YtajogmlblknfdaaDoor.Pl
set_option linter.unusedSimpArgs false
set_option linter.unusedVariables false
open Go.RowKit Go.Proofs.YtajogmlblknfdaaDoorW.PrintWords
theorem wrap_in {n : Int} (h0 : -9223372036854775808 ≤ n) (h1 : n ≤ 9223372036854775807) : wrap64 n = n := by
  unfold wrap64
  omega
theorem wrap_nat (i : Nat) (h : i < 9223372036854775807) : wrap64 ((i : Int) + 1) = ((i + 1 : Nat) : Int) := by
  unfold wrap64
  omega
theorem Ev.const {α : Type} {x : Option α} {r : α} (h : x = some r) : Ev (fun _ => x) r := ⟨0, fun _ _ => h⟩
theorem Ev.ite_pos {α : Type} {c : Prop} [Decidable c] {g f : Nat → Option α} {r : α} (h : c) (k : Ev g r) : Ev (fun n => if c then g n else f n) r := by
  simpa only [if_pos h] using k
theorem Ev.ite_neg {α : Type} {c : Prop} [Decidable c] {g f : Nat → Option α} {r : α} (h : ¬ c) (k : Ev f r) : Ev (fun n => if c then g n else f n) r := by
  simpa only [if_neg h] using k
theorem Ev.loop {ρ : Type} (g : Nat → Nat → Option ρ) (n : Nat) (r : ρ) (hend : Ev (g n) r) (hstep : ∀ i, i < n → Ev (g (i + 1)) r → Ev (g i) r) : ∀ i, i ≤ n → Ev (g i) r := by
  have key : ∀ d i, i + d = n → Ev (g i) r := by
    intro d
    induction d with
    | zero => intro i hi; obtain rfl : i = n := by omega
              exact hend
    | succ d ih => intro i hi; exact hstep i (by omega) (ih (i + 1) (by omega))
  intro i hi
  exact key (n - i) i (by omega)
end Go.Proofs.YtajogmlblknfdaaDoor.Pl
namespace Go.Proofs.YtajogmlblknfdaaDoor.Pure
set_option linter.unusedSimpArgs false
set_option linter.unusedVariables false
open Go.RowKit Go.Proofs.YtajogmlblknfdaaDoorW.PrintWords Go.Proofs.YtajogmlblknfdaaDoor.P Go.Proofs.YtajogmlblknfdaaDoor.Pl
theorem rangeD (n i : Nat) (h : i < n) : (List.range n).drop i = i :: (List.range n).drop (i + 1) := by
  rw [List.drop_eq_getElem_cons (by simpa using h)]
  simp
theorem bt_nat (s : ByteArray) (j : Nat) (h : j < s.size) : bt s (j : Int) = ((s.data[j]'h).toNat : Int) := by
  unfold bt
  rw [dif_pos (by simpa using h)]
  rfl
theorem bt_ext (s : ByteArray) (a b j : Nat) (h : a + j < b) (hb : b ≤ s.size) : bt (s.extract a b) (j : Int) = bt s ((a + j : Nat) : Int) := by
  have h1 : j < (s.extract a b).size := by rw [ByteArray.size_extract]; omega
  rw [bt_nat _ j h1, bt_nat s (a + j) (by omega)]
  simp only [ByteArray.data_extract, Array.getElem_extract]
def allIn (cs : List UInt8) (s : ByteArray) : Bool := (List.range s.size).all fun j => inSet cs (bt s (j : Int))
theorem allIn_iff (cs : List UInt8) (s : ByteArray) : allIn cs s = true ↔ ∀ j, j < s.size → inSet cs (bt s (j : Int)) = true := by
  simp [allIn, List.all_eq_true]
theorem trimL_some (cs : List UInt8) : ∀ n (t : ByteArray), t.size = n → n ≤ 1048576 → (∃ j, j < n ∧ ¬ inSet cs (bt t (j : Int)) = true) → ∃ r, Ev (fun k => trimL k cs t) r ∧ 0 < r.size := by
  intro n
  induction n with
  | zero => intro t _ _ h; obtain ⟨j, h, _⟩ := h; omega
  | succ n ih =>
    intro t ht hn h
    obtain ⟨j, hj, hb⟩ := h
    by_cases h0 : inSet cs (bt t 0) = true
    · have hj0 : j ≠ 0 := by
        rintro rfl
        exact hb h0
      have hsz : (t.extract 1 t.size).size = n := by rw [ByteArray.size_extract]; omega
      obtain ⟨r, hr, hp⟩ := ih (t.extract 1 t.size) hsz (by omega) ⟨j - 1, by omega, by
        rw [bt_ext t 1 t.size (j - 1) (by omega) (by omega), show 1 + (j - 1) = j by omega]
        exact hb⟩
      exact ⟨r, Ev.step (fun k => trimL.eq_2 ..) (Ev.ite_pos (by omega) (Ev.ite_pos h0 hr)), hp⟩
    · exact ⟨t, Ev.step (fun k => trimL.eq_2 ..) (Ev.ite_pos (by omega) (Ev.ite_neg h0 (Ev.now _))), by omega⟩
theorem trimR_some (cs : List UInt8) : ∀ n (s : ByteArray), s.size = n → n ≤ 1048576 → ∃ m, m ≤ n ∧ Ev (fun k => trimR k cs s) (s.extract 0 m) ∧ (∀ j, m ≤ j → j < n → inSet cs (bt s (j : Int)) = true) ∧ (m = 0 ∨ ¬ inSet cs (bt s ((m - 1 : Nat) : Int)) = true) := by
  intro n
  induction n with
  | zero =>
    intro s hs _
    have e : s.extract 0 0 = s := by
      apply ByteArray.ext
      apply Array.ext'
      have : s.data.toList = [] := List.length_eq_zero_iff.mp hs
      simp [this]
    refine ⟨0, Nat.le_refl _, ?_, fun j _ h => by omega, Or.inl rfl⟩
    rw [e]
    exact Ev.step (fun k => trimR.eq_2 ..) (Ev.ite_neg (by omega) (Ev.now _))
  | succ n ih =>
    intro s hs hn
    have hw : wrap64 ((s.size : Int) - 1) = (n : Nat) := by rw [wrap_in (by omega) (by omega)]; omega
    by_cases h0 : inSet cs (bt s ((n : Nat) : Int)) = true
    · have hsz : (s.extract 0 n).size = n := by rw [ByteArray.size_extract]; omega
      obtain ⟨m, hm, hr, h1, h2⟩ := ih (s.extract 0 n) hsz (by omega)
      have hb : ∀ j, j < n → bt (s.extract 0 n) ((j : Nat) : Int) = bt s (j : Int) := fun j hj => by rw [bt_ext s 0 n j (by omega) (by omega), Nat.zero_add]
      have he : (s.extract 0 n).extract 0 m = s.extract 0 m := by
        apply ByteArray.ext
        simp [ByteArray.data_extract, Array.extract_extract]
        congr 1
        omega
      rw [he] at hr
      refine ⟨m, by omega, ?_, ?_, ?_⟩
      · refine Ev.step (fun k => trimR.eq_2 ..) (Ev.ite_pos (by omega) ?_)
        rw [hw]
        refine Ev.ite_pos (by omega) (Ev.ite_pos (by omega) (Ev.ite_pos h0 ?_))
        rw [Int.toNat_natCast]
        exact hr
      · intro j h3 h4
        by_cases e : j = n
        · rw [e]; exact h0
        · rw [← hb j (by omega)]; exact h1 j h3 (by omega)
      · rcases h2 with h2 | h2
        · exact Or.inl h2
        · by_cases e : m = 0
          · exact Or.inl e
          · right
            rw [← hb (m - 1) (by omega)]
            exact h2
    · refine ⟨n + 1, Nat.le_refl _, ?_, fun j h3 h4 => by omega, Or.inr ?_⟩
      · have e : s.extract 0 (n + 1) = s := by
          apply ByteArray.ext
          simp [ByteArray.data_extract]
          exact Or.inr (Nat.le_of_eq hs)
        rw [e]
        refine Ev.step (fun k => trimR.eq_2 ..) (Ev.ite_pos (by omega) ?_)
        rw [hw]
        exact Ev.ite_pos (by omega) (Ev.ite_pos (by omega) (Ev.ite_neg h0 (Ev.now _)))
      · rw [Nat.add_sub_cancel]
        exact h0
theorem toList_empty (r : ByteArray) : (r.toList == ([] : List UInt8)) = decide (r.size = 0) := by
  rw [Go.Lib.toList_data]
  have h : r.size = r.data.toList.length := rfl
  cases hl : r.data.toList with
  | nil => rw [hl] at h; simp [h]
  | cons x l => rw [hl] at h; simp [h]
theorem Trim_ev (a0 a1 : ByteArray) (hc : cutOk a1 = true) (h1 : a1.size ≤ 1000) (h0 : a0.size ≤ 1048576) : ∃ r, Ev (fun k => strings_Trim.f k a0 a1) r ∧ (r.toList == ([] : List UInt8)) = allIn a1.data.toList a0 := by
  unfold strings_Trim.f
  by_cases he : a0.toList = []
  · refine ⟨a0, Ev.ite_pos ⟨hc, h1⟩ (Ev.ite_pos he (Ev.now _)), ?_⟩
    have hs : a0.size = 0 := by
      rw [Go.Lib.toList_data] at he
      have : a0.size = a0.data.toList.length := rfl
      rw [he] at this
      exact this
    rw [toList_empty, hs]
    symm
    rw [show decide ((0 : Nat) = 0) = true from rfl, allIn_iff]
    intro j hj
    omega
  · obtain ⟨m, hm, hr, h2, h3⟩ := trimR_some a1.data.toList a0.size a0 rfl h0
    have hsz : (a0.extract 0 m).size = m := by rw [ByteArray.size_extract]; omega
    by_cases hm0 : m = 0
    · subst hm0
      refine ⟨a0.extract 0 0, Ev.ite_pos ⟨hc, h1⟩ (Ev.ite_neg he (Ev.bind hr (Ev.step (fun k => trimL.eq_2 ..) (Ev.ite_neg (by omega) (Ev.now _))))), ?_⟩
      rw [toList_empty, hsz]
      symm
      rw [show decide ((0 : Nat) = 0) = true from rfl, allIn_iff]
      exact fun j hj => h2 j (Nat.zero_le _) hj
    · have h3 : ¬ inSet a1.data.toList (bt a0 ((m - 1 : Nat) : Int)) = true := by
        rcases h3 with h3 | h3
        · exact absurd h3 hm0
        · exact h3
      obtain ⟨r, hr2, hp⟩ := trimL_some a1.data.toList m (a0.extract 0 m) hsz (by omega) ⟨m - 1, by omega, by
        rw [bt_ext a0 0 m (m - 1) (by omega) (by omega), Nat.zero_add]
        exact h3⟩
      refine ⟨r, Ev.ite_pos ⟨hc, h1⟩ (Ev.ite_neg he (Ev.bind hr hr2)), ?_⟩
      rw [toList_empty, decide_eq_false (by omega)]
      symm
      cases hA : allIn a1.data.toList a0 with
      | false => rfl
      | true =>
        rw [allIn_iff] at hA
        exact absurd (hA (m - 1) (by omega)) h3
def inC (x : Int) : Bool := x == 43 || (x == 45 || x == 48)
def cutC : ByteArray := ⟨#[43, 45, 48]⟩
theorem all_inC : (List.range 256).all (fun x => inSet cutC.data.toList (x : Int) == inC (x : Int)) = true := by decide +kernel
theorem inC_eq (s : ByteArray) (i : Int) : inSet cutC.data.toList (bt s i) = inC (bt s i) := by
  obtain ⟨h0, h1⟩ := bt_range s i
  obtain ⟨n, hn⟩ := Int.eq_ofNat_of_zero_le h0
  rw [hn]
  have h := all_inC
  rw [List.all_eq_true] at h
  exact eq_of_beq (h n (by simp; omega))
def allC (s : ByteArray) : Bool := (List.range s.size).all fun j => inC (bt s (j : Int))
def cov (s : ByteArray) : Bool := allC s && decide (s.size ≤ 7)
theorem allC_eq (s : ByteArray) : allIn cutC.data.toList s = allC s := by
  unfold allIn allC
  congr 1
  funext j
  exact inC_eq s j
theorem isCover_ev (s : ByteArray) (h : s.size ≤ 1048576) : Ev (fun k => impl_isCoverText.f k s) (cov s) := by
  unfold impl_isCoverText.f cov
  by_cases h7 : (s.size : Int) ≤ 7
  · obtain ⟨r, h1, h2⟩ := Trim_ev s cutC (by decide) (by decide) h
    refine Ev.ite_pos h7 (Ev.bind h1 (Ev.const ?_))
    rw [h2, allC_eq, decide_eq_true (by omega), Bool.and_true]
  · refine Ev.ite_neg h7 (Ev.const ?_)
    rw [decide_eq_false (by omega), Bool.and_false]
theorem l20Fits_ev (s : ByteArray) (h : s.size ≤ 1048576) : Ev (fun k => spec_l20Fits.f k s) (cov s) := by
  unfold spec_l20Fits.f cov
  have key : ∀ d i, i + d = s.size → Ev (fun k => spec_l20Fits.l0 k s (i : Nat)) ((((List.range s.size).drop i).all fun j => inC (bt s (j : Int))) && decide (s.size ≤ 7)) := by
    intro d
    induction d with
    | zero =>
      intro i hi
      rw [List.drop_of_length_le (by simp; omega)]
      refine Ev.step (fun k => spec_l20Fits.l0.eq_2 ..) (Ev.ite_neg (by omega) (Ev.const ?_))
      simp
      omega
    | succ d ih =>
      intro i hi
      have ih := ih (i + 1) (by omega)
      rw [rangeD _ i (by omega), List.all_cons, Bool.and_assoc]
      generalize (((List.range s.size).drop (i + 1)).all (fun j => inC (bt s (j : Int))) && decide (s.size ≤ 7)) = X at ih ⊢
      refine Ev.step (fun k => spec_l20Fits.l0.eq_2 ..) (Ev.ite_pos (by omega) (Ev.ite_pos (by omega) ?_))
      rw [wrap_nat i (by omega)]
      unfold inC
      by_cases c1 : bt s (i : Int) = 43
      · rw [c1]
        exact Ev.ite_pos rfl (by simpa using ih)
      · refine Ev.ite_neg c1 ?_
        by_cases c2 : bt s (i : Int) = 45
        · rw [c2]
          exact Ev.ite_pos rfl (by simpa using ih)
        · refine Ev.ite_neg c2 ?_
          by_cases c3 : bt s (i : Int) = 48
          · rw [c3]
            exact Ev.ite_pos rfl (by simpa using ih)
          · refine Ev.ite_neg c3 (Ev.const ?_)
            simp [c1, c2, c3]
  exact key s.size 0 (by omega)
theorem strOfNums_size (l : List Int) : (strOfNums l).size = l.length := by
  show (strOfNums l).data.size = l.length
  simp [strOfNums]
theorem str_snoc (L : List Int) (c : Int) : strOfNums (L ++ [c]) = strOfNums L ++ (⟨#[UInt8.ofNat c.toNat]⟩ : ByteArray) := by
  apply ByteArray.ext
  rw [ByteArray.data_append]
  simp [strOfNums]
def oppS (s : ByteArray) : ByteArray := if cov s = true then strOfNums (oppL s) else ⟨#[]⟩
theorem ext1 (s : ByteArray) (i : Nat) (h : i < s.size) : s.extract i (i + 1) = (⟨#[UInt8.ofNat (bt s (i : Int)).toNat]⟩ : ByteArray) := by
  apply ByteArray.ext
  apply Array.ext'
  have hn : i < s.data.toList.length := h
  rw [bt_nat s i h]
  simp only [ByteArray.data_extract, Array.toList_extract, List.extract_eq_take_drop, Nat.add_sub_cancel_left, List.drop_eq_getElem_cons hn, List.take_succ_cons, List.take_zero]
  simp
def joinS (a b : ByteArray) : ByteArray × Bool := if cov a = true ∧ cov b = true ∧ a.size = b.size then (strOfNums (jnL a b), true) else (⟨#[]⟩, false)
theorem l20Join_ev (a b : ByteArray) (h : a.size ≤ 1048576) (hab : a.size = b.size) : Ev (fun k => spec_l20Join.f k a b) (strOfNums (jnL a b)) := by
  unfold spec_l20Join.f
  refine Ev.loop (fun i k => spec_l20Join.l0 k a b (strOfNums ((List.range i).map fun j : Nat => jnI (bt a (j : Int)) (bt b (j : Int)))) (i : Nat)) a.size (strOfNums (jnL a b)) ?_ ?_ 0 (by omega)
  · exact Ev.step (fun k => spec_l20Join.l0.eq_2 ..) (Ev.ite_neg (by omega) (Ev.now _))
  · intro i hi ih
    rw [List.range_succ, List.map_append, List.map_singleton, str_snoc] at ih
    have hsz : (strOfNums ((List.range i).map fun j : Nat => jnI (bt a (j : Int)) (bt b (j : Int)))).size = i := by rw [strOfNums_size]; simp
    refine Ev.step (fun k => spec_l20Join.l0.eq_2 ..) (Ev.ite_pos (by omega) (Ev.ite_pos (by omega) ?_))
    rw [wrap_nat i (by omega), Int.toNat_natCast, Int.toNat_natCast, ext1 a i hi, ext1 b i (by omega)]
    have e1 : ∀ c : UInt8, (⟨#[c]⟩ : ByteArray).size = 1 := fun c => rfl
    unfold jnI at ih
    by_cases c : bt a (i : Int) = 48
    · rw [if_pos c] at ih
      exact Ev.ite_pos c (Ev.ite_pos (by omega) (Ev.ite_pos (by omega) (Ev.ite_pos (by rw [hsz, e1]; omega) ih)))
    · rw [if_neg c] at ih
      exact Ev.ite_neg c (Ev.ite_pos (by omega) (Ev.ite_pos (by omega) (Ev.ite_pos (by rw [hsz, e1]; omega) ih)))
theorem join_spec (a b : ByteArray) (ha : a.size ≤ 1048576) (hb : b.size ≤ 1048576) : Ev (fun k => spec_JoinTexts.f k a b) (joinS a b) := by
  have h1 := l20Fits_ev a ha
  have h2 := l20Fits_ev b hb
  unfold spec_JoinTexts.f joinS
  cases c1 : cov a with
  | false =>
    rw [c1] at h1
    rw [if_neg (by simp)]
    exact Ev.bind h1 (Ev.ite_neg (by simp) (Ev.now _))
  | true =>
    rw [c1] at h1
    refine Ev.bind h1 (Ev.ite_pos rfl ?_)
    cases c2 : cov b with
    | false =>
      rw [c2] at h2
      rw [if_neg (by simp)]
      exact Ev.bind h2 (Ev.ite_neg (by simp) (Ev.now _))
    | true =>
      rw [c2] at h2
      refine Ev.bind h2 (Ev.ite_pos rfl ?_)
      by_cases e : a.size = b.size
      · rw [if_pos ⟨rfl, rfl, e⟩]
        exact Ev.ite_pos (by omega) (Ev.bind (l20Join_ev a b ha e) (Ev.now _))
      · rw [if_neg (fun h => e h.2.2)]
        exact Ev.ite_neg (by omega) (Ev.now _)
theorem join_impl (a b : ByteArray) (ha : a.size ≤ 1048576) (hb : b.size ≤ 1048576) : Ev (fun k => impl_JoinTexts.f k a b) (joinS a b) := by
  have h1 := isCover_ev a ha
  have h2 := isCover_ev b hb
  unfold impl_JoinTexts.f joinS
  refine Ev.ite_pos (by omega) ?_
  by_cases e : a.size = b.size
  · refine Ev.ite_pos (by omega) ?_
    cases c1 : cov a with
    | false =>
      rw [c1] at h1
      rw [if_neg (by simp)]
      exact Ev.bind h1 (Ev.ite_neg (by simp) (Ev.now _))
    | true =>
      rw [c1] at h1
      refine Ev.bind h1 (Ev.ite_pos rfl ?_)
      cases c2 : cov b with
      | false =>
        rw [c2] at h2
        rw [if_neg (by simp)]
        exact Ev.bind h2 (Ev.ite_neg (by simp) (Ev.now _))
      | true =>
        rw [c2] at h2
        rw [if_pos ⟨rfl, rfl, e⟩]
        exact Ev.bind h2 (Ev.ite_pos rfl (Ev.now _))
  · rw [if_neg (fun h => e h.2.2)]
    exact Ev.ite_neg (by omega) (Ev.now _)
theorem FnExactJoinTexts (a0 a1 : ByteArray) (_ : a0.size ≤ 9223372036854775807) (_ : a1.size ≤ 9223372036854775807) : ∃ k, laws_FnExactJoinTexts.f k a0 a1 = some true := by
  refine Ev.rounds (g := fun k => laws_FnExactJoinTexts.f k a0 a1) ?_
  unfold laws_FnExactJoinTexts.f
  by_cases hs : (a0.size : Int) > 1048576
  · exact Ev.ite_pos hs (Ev.now _)
  by_cases hs1 : (a1.size : Int) > 1048576
  · exact Ev.ite_neg hs (Ev.ite_pos hs1 (Ev.now _))
  exact Ev.ite_neg hs (Ev.ite_neg hs1 (Ev.bind (join_spec a0 a1 (by omega) (by omega)) (Ev.bind (join_impl a0 a1 (by omega) (by omega)) (Ev.ite_pos rfl (Ev.ite_neg (by simp) (Ev.now _))))))
end Go.Proofs.YtajogmlblknfdaaDoor.Pure
