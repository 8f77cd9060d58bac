/- What the law FnExactCountWays reaches, part 1: functions as plain Lean functions with the proofs that their calls come to them, and plain lemmas over these. Put together by a program (wip/pack.py). -/
import Derived.Lib.SliceRun
import Derived.Test.YtoajlmlobaccdaaWWords
import Derived.Test.YtoajlmlobaccdaaWMore
import Derived.Laws.MakeOwn
import Derived.Test.YtoajlmlobaccdaaProg
import Derived.Below
import Derived.Deep.Draws
import Derived.Deep.AppendLies
import Derived.Maps.AppendAt
import Derived.OwnWalk
import Derived.Laws.BytesArg
import Derived.Laws.OwnMore
import Derived.Deep.OwnRows
import Derived.Tactics
import Derived.Lib.ConvBytes
import Derived.Laws.Slices
import Derived.WalkKit
import Derived.KernelRfl
import Derived.RowKit3
import Derived.Deep.LoopGhost
import Derived.Deep.QuietTactic
import Derived.BigQuiet
import Derived.WideLaws
import Derived.Deep.DeepCutAuto
import Derived.Deep.CutBlock
import Derived.Deep.RegionHeld3
import Derived.Laws.Rows
import Derived.Lib.AppendStr
import Derived.ArgAppend
import Derived.Laws.IdiomCopy
import Derived.OrdersHeld
import Derived.Laws.BitsLemmas
import Derived.RowKit
import Derived.Test.YtoajlmlobaccdaaWLast
import Derived.Test.YtoajlmlobaccdaaWTab
import Derived.Test.YtoajlmlobaccdaaWFour
import Derived.Test.YtoajlmlobaccdaaWQPut
import Derived.Test.YtoajlmlobaccdaaWApart
import Derived.Test.YtoajlmlobaccdaaWArr
import Derived.Test.YtoajlmlobaccdaaWZeros
import Derived.Test.YtoajlmlobaccdaaWFoot
import Derived.Test.YtoajlmlobaccdaaWKept
import Derived.Test.YtoajlmlobaccdaaWShare
import Derived.Test.YtoajlmlobaccdaaWN
import Derived.Test.YtoajlmlobaccdaaWFootNe
import Derived.Test.YtoajlmlobaccdaaWAt
import Derived.Test.YtoajlmlobaccdaaWEqStruct
import Derived.Test.YtoajlmlobaccdaaWRepsOne
import Derived.Test.YtoajlmlobaccdaaWInv
import Derived.Test.YtoajlmlobaccdaaWInvWords
import Derived.Test.YtoajlmlobaccdaaWGuard
import Derived.Test.YtoajlmlobaccdaaWNEv
namespace Go.Proofs.Ytoajlmlobaccdaa.P
open Go.RowKit Go.Proofs.YtoajlmlobaccdaaW.PrintWords
def chiN (l : List Int) : Int := rd l 0
def chiA (l : List Int) (i j k : Int) : Int := rd l (1 + 49 * i + 7 * j + k)
def ptrOf : Value → Value
  | .slice A _ _ => .pointer A
  | v => v
theorem ptrOf_slice (A : Option Addr) (n c : Nat) : ptrOf (.slice A n c) = .pointer A := rfl
def chiNew (n : Int) : List Int := n :: List.replicate 343 0
def chiCells (n : Int) : Array Value := (encs (Value.int .i64) (chiNew n)).toArray
section
variable {P : Program} {ops : Array Oper} {rest : List Oper} {o : Oper} {a : Act} {Q : Exit → Act → World → Prop}
end
def NZ {α : Type} (v : Value) (xs : List α) : Prop := xs = [] → v = .slice none 0 0
def mnT (x y : ByteArray) : ByteArray := if (Op.bytesLess x.toList y.toList || x.toList == y.toList) = true then x else y
theorem min2_str (x y : ByteArray) : Builtin.min2 (.string x) (.string y) = pure (.string (mnT x y)) := by
  unfold mnT
  simp [Builtin.min2, Op.stringOp, asBool]
end Go.Proofs.Ytoajlmlobaccdaa.P
namespace Go.Proofs.Ytoajlmlobaccdaa.P
open Go.RowKit Go.Proofs.YtoajlmlobaccdaaW.PrintWords Go.Proofs.YtoajlmlobaccdaaW.PrintLast Go.Proofs.YtoajlmlobaccdaaW.PrintMore
attribute [local go_sem] ptrOf_slice
attribute [local go_sem] min2_str max2_int min2_int max_two min_two max_three min_three max_four min_four
set_option linter.unusedVariables false
set_option linter.unusedSimpArgs false
def errW : Option Int → Value
  | none => .nilIface
  | some c => .iface 0 (.int .i64 c)
theorem errW_none : errW none = .nilIface := rfl
theorem errW_some (c : Int) : errW (some c) = .iface 0 (.int .i64 c) := rfl
theorem info3 : (Try.prog.info? 3).map (fun i => (i.zero, i.size, i.bytes)) = some (some (.int .i64 0), 1, 8) := by kernel_rfl
theorem info99 : (Try.prog.info? 99).map (fun i => (i.zero, i.size, i.bytes)) = some (some (.slice none 0 0), 1, 24) := by kernel_rfl
def rd_L1 (xs : List (List Int)) (i : Int) : (List Int) := xs.getD i.toNat ([] : List Int)
def rd_L3 (xs : List (List (List Int))) (i : Int) : (List (List Int)) := xs.getD i.toNat ([] : List (List Int))
def rd_L5 (xs : List (List ByteArray)) (i : Int) : (List ByteArray) := xs.getD i.toNat ([] : List ByteArray)
structure S89 where
  f0 : Int
  f1 : Int
  f2 : Int
def z89 : S89 := ⟨(0 : Int), (0 : Int), (0 : Int)⟩
def k89 : Kd S89 := Kd.iso (Kd.pair (Kd.int .i64) (Kd.pair (Kd.int .i64) (Kd.int .i64))) (fun x : S89 => (x.f0, x.f1, x.f2))
def rd_T89 (xs : List S89) (i : Int) : S89 := xs.getD i.toNat z89
def rd_L7 (xs : List (List Int)) (i : Int) : (List Int) := xs.getD i.toNat ([] : List Int)
structure S180 where
  f0 : Int
  f1 : Int
  f2 : Int
  f3 : Int
def z180 : S180 := ⟨(0 : Int), (0 : Int), (0 : Int), (0 : Int)⟩
def k180 : Kd S180 := Kd.iso (Kd.pair (Kd.int .i64) (Kd.pair (Kd.int .i64) (Kd.pair (Kd.int .i64) (Kd.int .i64)))) (fun x : S180 => (x.f0, x.f1, x.f2, x.f3))
def rd_T180 (xs : List S180) (i : Int) : S180 := xs.getD i.toNat z180
structure S101 where
  f0 : Int
  f1 : Int
  f2 : Int
  f3 : Int
  f4 : Int
def z101 : S101 := ⟨(0 : Int), (0 : Int), (0 : Int), (0 : Int), (0 : Int)⟩
def k101 : Kd S101 := Kd.iso (Kd.pair (Kd.int .i64) (Kd.pair (Kd.int .i64) (Kd.pair (Kd.int .i64) (Kd.pair (Kd.int .i64) (Kd.int .i64))))) (fun x : S101 => (x.f0, x.f1, x.f2, x.f3, x.f4))
theorem k101_open {w : World} {x : S101} {cs : List Value} (h : k101.K w x cs) : cs = [.int .i64 x.f0, .int .i64 x.f1, .int .i64 x.f2, .int .i64 x.f3, .int .i64 x.f4] := by
  obtain ⟨_, _, rfl, rfl, ⟨_, _, rfl, rfl, ⟨_, _, rfl, rfl, ⟨_, _, rfl, rfl, rfl⟩⟩⟩⟩ := h
  exact rfl
theorem k101_openM {w : World} {base : Nat} {ok : Nat → Prop} {x : S101} {cs : List Value} (h : k101.M w base ok x cs) : cs = [.int .i64 x.f0, .int .i64 x.f1, .int .i64 x.f2, .int .i64 x.f3, .int .i64 x.f4] := by
  obtain ⟨_, _, rfl, rfl, ⟨_, _, rfl, rfl, ⟨_, _, rfl, rfl, ⟨_, _, rfl, rfl, rfl⟩⟩⟩⟩ := h
  exact rfl
theorem k101_mkM (w : World) (base : Nat) (ok : Nat → Prop) (x : S101)  : k101.M w base ok x [.int .i64 x.f0, .int .i64 x.f1, .int .i64 x.f2, .int .i64 x.f3, .int .i64 x.f4] := ⟨[.int .i64 x.f0], [.int .i64 x.f1, .int .i64 x.f2, .int .i64 x.f3, .int .i64 x.f4], rfl, rfl, ⟨[.int .i64 x.f1], [.int .i64 x.f2, .int .i64 x.f3, .int .i64 x.f4], rfl, rfl, ⟨[.int .i64 x.f2], [.int .i64 x.f3, .int .i64 x.f4], rfl, rfl, ⟨[.int .i64 x.f3], [.int .i64 x.f4], rfl, rfl, rfl⟩⟩⟩⟩
def rd_T101 (xs : List S101) (i : Int) : S101 := xs.getD i.toNat z101
theorem at_T101 {w : World} {A : Option Addr} {n : Nat} {xs : List S101} (h : Kd.C k101 w A n xs) (i : Int) (h0 : 0 ≤ i) (h1 : i < n) : ∃ ad , A = some ad ∧ w.cell? (ad.add (i.toNat * 5)) = some (.int .i64 (rd_T101 xs i).f0) ∧ w.cell? ⟨(ad.add (i.toNat * 5)).block, (ad.add (i.toNat * 5)).off + 1, none⟩ = some (.int .i64 (rd_T101 xs i).f1) ∧ w.cell? ⟨(ad.add (i.toNat * 5)).block, (ad.add (i.toNat * 5)).off + 2, none⟩ = some (.int .i64 (rd_T101 xs i).f2) ∧ w.cell? ⟨(ad.add (i.toNat * 5)).block, (ad.add (i.toNat * 5)).off + 3, none⟩ = some (.int .i64 (rd_T101 xs i).f3) ∧ w.cell? ⟨(ad.add (i.toNat * 5)).block, (ad.add (i.toNat * 5)).off + 4, none⟩ = some (.int .i64 (rd_T101 xs i).f4) := by
  obtain ⟨ad, c, e, _, hK, hc0⟩ := Kd.C_get h z101 i h0 h1
  have hc : ∀ j u, c[j]? = some u → w.cell? (ad.add (i.toNat * 5 + j)) = some u := hc0
  obtain rfl := k101_open hK
  exact ⟨ad, e, hc 0 _ rfl, by rw [← add_field _ _ 1 (by omega)]; exact hc 1 _ rfl, by rw [← add_field _ _ 2 (by omega)]; exact hc 2 _ rfl, by rw [← add_field _ _ 3 (by omega)]; exact hc 3 _ rfl, by rw [← add_field _ _ 4 (by omega)]; exact hc 4 _ rfl⟩
def rd_L11 (xs : List (List S101)) (i : Int) : (List S101) := xs.getD i.toNat ([] : List S101)
theorem at_L11 {w : World} {A : Option Addr} {n : Nat} {xs : List (List S101)} (h : Kd.C (Kd.slice 101 k101) w A n xs) (i : Int) (h0 : 0 ≤ i) (h1 : i < n) : ∃ ad A0 c0, A = some ad ∧ w.cell? (ad.add i.toNat) = some (.slice A0 (rd_L11 xs i).length c0) ∧ (rd_L11 xs i).length ≤ c0 ∧ k101.C w A0 (rd_L11 xs i).length (rd_L11 xs i) := by
  obtain ⟨ad, c, e, _, hK, hc0⟩ := Kd.C_get h ([] : List S101) i h0 h1
  have hc : ∀ j u, c[j]? = some u → w.cell? (ad.add (i.toNat * 1 + j)) = some u := hc0
  obtain ⟨A0, c0, rfl, l0, g0⟩ := hK
  exact ⟨ad, A0, c0, e, by have hq := hc 0 _ rfl; rwa [Nat.mul_one, Nat.add_zero] at hq, l0, g0⟩
def rd_L12 (xs : List (List (List S101))) (i : Int) : (List (List S101)) := xs.getD i.toNat ([] : List (List S101))
structure S106 where
  f0 : Int
  f1 : Int
def z106 : S106 := ⟨(0 : Int), (0 : Int)⟩
def k106 : Kd S106 := Kd.iso (Kd.pair (Kd.int .i64) (Kd.int .i64)) (fun x : S106 => (x.f0, x.f1))
def rd_T106 (xs : List S106) (i : Int) : S106 := xs.getD i.toNat z106
structure S31 where
  f0 : Int
  f1 : ByteArray
def z31 : S31 := ⟨(0 : Int), (⟨#[]⟩ : ByteArray)⟩
def k31 : Kd S31 := Kd.iso (Kd.pair (Kd.int .i64) Kd.string) (fun x : S31 => (x.f0, x.f1))
def rd_T31 (xs : List S31) (i : Int) : S31 := xs.getD i.toNat z31
structure S56 where
  f0 : Int
  f1 : Int
def z56 : S56 := ⟨(0 : Int), (0 : Int)⟩
def k56 : Kd S56 := Kd.iso (Kd.pair (Kd.int .i64) (Kd.int .i64)) (fun x : S56 => (x.f0, x.f1))
def rd_T56 (xs : List S56) (i : Int) : S56 := xs.getD i.toNat z56
structure S28 where
  f0 : Int
  f1 : ByteArray
def z28 : S28 := ⟨(0 : Int), (⟨#[]⟩ : ByteArray)⟩
def k28 : Kd S28 := Kd.iso (Kd.pair (Kd.int .i64) Kd.string) (fun x : S28 => (x.f0, x.f1))
def rd_T28 (xs : List S28) (i : Int) : S28 := xs.getD i.toNat z28
end Go.Proofs.Ytoajlmlobaccdaa.P
namespace Go.Proofs.Ytoajlmlobaccdaa.P
open Go.RowKit Go.Proofs.YtoajlmlobaccdaaW.PrintWords Go.Proofs.YtoajlmlobaccdaaW.PrintLast Go.Proofs.YtoajlmlobaccdaaW.PrintMore
theorem bx0 {p q : Prop} (h : q) (f : q → p := by intro H_; repeat (first | (with_reducible first | exact H_ | apply below_alloc | apply pw_below_drewN | apply below_drew1) | exact H_)) : p := f h
theorem kx_ {p q : Prop} (h : q) (f : q → p := by intro H_; (with_reducible repeat (first | refine blk_drewN ?_ _ | refine blk_drew ?_ | refine blk_alloc ?_ _)); exact H_) : p := f h
theorem rx_ {p q : Prop} (h : q) (f : q → p := by intro H_; (with_reducible repeat (first | apply Kd.R_alloc | apply Kd.R_drewN | apply Kd.R_drew)); exact H_) : p := f h
theorem am_ {p : Prop} (h : p) : Aside0 p := ⟨h⟩
theorem sA_ {α : Type _} {l : List α} {i : Nat} {a : α} : l.toArray.setIfInBounds i a = (l.set i a).toArray := by simp
theorem sZ_ {α : Type _} {x : α} {xs : List α} {a : α} : (x :: xs).set 0 a = a :: xs := rfl
theorem sS_ {α : Type _} {x : α} {xs : List α} {n : Nat} {a : α} : (x :: xs).set (n + 1) a = x :: xs.set n a := rfl
theorem pD_ {P : Program} {md : Region.Mode} {ops : Array Oper} {Q : Exit → Act → World → Prop} {S : World → Prop} {ds : List Nat} {T : Bool × List (List Nat × List Nat)} (i : Nat) (N : Option Tmp) {oi : Oper} {v : Value} {fuel : Nat} {l l' : Array Bool} {a a' : Act} {w : World} (HT_ : Aside0 (rtab md ops = T)) (hi : ops[i]? = some oi := by rfl) (hN : oi.dst = N := by rfl) (_hl : l.setIfInBounds i true = l' := by (simp only [List.setIfInBounds_toArray, List.set_cons_zero, List.set_cons_succ]; rfl)) (hc : anyT T l.toList l'.toList i = true := by kernel_rfl) (hQ : ∀ c a w, Q (.panic c) (a.put oi.dst v) w → Q (.panic c) a w := by exact fun _ _ _ h => h) (hy : Yields P ops oi v a := by (refine Or.inl ⟨by rfl, ?_⟩; intro w'; go_simp; with_reducible rfl)) (ha : a.put N v = a' := by (simp only [Act.put, List.setIfInBounds_toArray, List.set_cons_zero, List.set_cons_succ, i64_w, i32_w]; rfl)) (h : wpAnyLast P md ops Q S ds fuel l' a' w) : wpAnyLast P md ops Q S ds (fuel + 1) l a w := pure_ l' hi hN (any_of HT_.out hc) hQ hy ha h
theorem gL_ {P : Program} {ops : Array Oper} {Q : Exit → Act → World → Prop} {rest : List Oper} {oi : Oper} {a : Act} {w : World} (N : Option Tmp) {f : FuncId} {fn : Func} {as_ : Array Operand} {ts : Array TypeId} (hf : P.funcs[f]? = some fn) (args : Array Value) (h : Calls P f args w fun e w' => ∃ v, e = .returned v ∧ wpList P ops Q rest (a.put N v) w') (hd : oi.dst = N := by rfl) (hg : oi.guard = none := by rfl) (hname : (fn.name == "runtime.NumGoroutine") = false := by kernel_rfl) (hb : fn.body.isSome = true := by rfl) (hop : oi.op = .call { callee := .value (.func f), args := as_, argTypes := ts } := by rfl) (hargs : as_.map a.eval = args := by ((try simp only [List.map_toArray, List.map_cons, List.map_nil]); first | done | rfl | (simp only [List.length_drop, List.length_take]; rfl))) : wpList P ops Q (oi :: rest) a w := goesL_ N hd hg hf hname hb args hop hargs h
theorem tD2_ {P : Program} {md : Region.Mode} {ops : Array Oper} {Q : Exit → Act → World → Prop} {S : World → Prop} {ds : List Nat} {T : Bool × List (List Nat × List Nat)} (i : Nat) (N : Option Tmp) {oi : Oper} {v : Value} {fuel : Nat} {l l' : Array Bool} {a a' : Act} {w : World} (HT_ : Aside0 (rtab md ops = T)) {B : List Nat} (HW_ : Aside0 (waitsOk T.2 B = true)) (hHeld : S w) (hi : ops[i]? = some oi := by rfl) (hN : oi.dst = N := by rfl) (_hl : l.setIfInBounds i true = l' := by (simp only [List.setIfInBounds_toArray, List.set_cons_zero, List.set_cons_succ]; rfl)) (hc : takeW T B ds l.toList l'.toList i = true := by kernel_rfl) (hQ : ∀ c a w, Q (.panic c) (a.put oi.dst v) w → Q (.panic c) a w := by exact fun _ _ _ h => h) (hy : YieldsIf P ops S oi v a := by (refine Or.inl ⟨by rfl, ?_⟩; rintro w' ⟨s0, s1⟩; go_simp; with_reducible rfl)) (ha : a.put N v = a' := by (simp only [Act.put, List.setIfInBounds_toArray, List.set_cons_zero, List.set_cons_succ, i64_w, i32_w]; rfl)) (h : wpAnyLast P md ops Q S ds fuel l' a' w) : wpAnyLast P md ops Q S ds (fuel + 1) l a w := take_ l' hi hN (take_ofW HT_.out HW_.out hc) hQ hy hHeld ha h
theorem tD3_ {P : Program} {md : Region.Mode} {ops : Array Oper} {Q : Exit → Act → World → Prop} {S : World → Prop} {ds : List Nat} {T : Bool × List (List Nat × List Nat)} (i : Nat) (N : Option Tmp) {oi : Oper} {v : Value} {fuel : Nat} {l l' : Array Bool} {a a' : Act} {w : World} (HT_ : Aside0 (rtab md ops = T)) {B : List Nat} (HW_ : Aside0 (waitsOk T.2 B = true)) (hHeld : S w) (hi : ops[i]? = some oi := by rfl) (hN : oi.dst = N := by rfl) (_hl : l.setIfInBounds i true = l' := by (simp only [List.setIfInBounds_toArray, List.set_cons_zero, List.set_cons_succ]; rfl)) (hc : takeW T B ds l.toList l'.toList i = true := by kernel_rfl) (hQ : ∀ c a w, Q (.panic c) (a.put oi.dst v) w → Q (.panic c) a w := by exact fun _ _ _ h => h) (hy : YieldsIf P ops S oi v a := by (refine Or.inl ⟨by rfl, ?_⟩; rintro w' ⟨s0, s1, s2⟩; go_simp; with_reducible rfl)) (ha : a.put N v = a' := by (simp only [Act.put, List.setIfInBounds_toArray, List.set_cons_zero, List.set_cons_succ, i64_w, i32_w]; rfl)) (h : wpAnyLast P md ops Q S ds fuel l' a' w) : wpAnyLast P md ops Q S ds (fuel + 1) l a w := take_ l' hi hN (take_ofW HT_.out HW_.out hc) hQ hy hHeld ha h
theorem tD8_ {P : Program} {md : Region.Mode} {ops : Array Oper} {Q : Exit → Act → World → Prop} {S : World → Prop} {ds : List Nat} {T : Bool × List (List Nat × List Nat)} (i : Nat) (N : Option Tmp) {oi : Oper} {v : Value} {fuel : Nat} {l l' : Array Bool} {a a' : Act} {w : World} (HT_ : Aside0 (rtab md ops = T)) {B : List Nat} (HW_ : Aside0 (waitsOk T.2 B = true)) (hHeld : S w) (hi : ops[i]? = some oi := by rfl) (hN : oi.dst = N := by rfl) (_hl : l.setIfInBounds i true = l' := by (simp only [List.setIfInBounds_toArray, List.set_cons_zero, List.set_cons_succ]; rfl)) (hc : takeW T B ds l.toList l'.toList i = true := by kernel_rfl) (hQ : ∀ c a w, Q (.panic c) (a.put oi.dst v) w → Q (.panic c) a w := by exact fun _ _ _ h => h) (hy : YieldsIf P ops S oi v a := by (refine Or.inl ⟨by rfl, ?_⟩; rintro w' ⟨s0, s1, s2, s3, s4, s5, s6, s7⟩; go_simp; with_reducible rfl)) (ha : a.put N v = a' := by (simp only [Act.put, List.setIfInBounds_toArray, List.set_cons_zero, List.set_cons_succ, i64_w, i32_w]; rfl)) (h : wpAnyLast P md ops Q S ds fuel l' a' w) : wpAnyLast P md ops Q S ds (fuel + 1) l a w := take_ l' hi hN (take_ofW HT_.out HW_.out hc) hQ hy hHeld ha h
theorem ifT_ {α : Sort _} {d : Decidable (true = true)} {a b r : α} (h : @ite α (true = true) d a b = r) : a = r := by rw [if_pos rfl] at h; exact h
theorem ifF_ {α : Sort _} {d : Decidable (false = true)} {a b r : α} (h : @ite α (false = true) d a b = r) : b = r := by rw [if_neg (by simp)] at h; exact h
theorem bnd_ {α β : Type _} {x : Option α} {f : α → Option β} {r : β} (h : x.bind f = some r) : ∃ t, Aside0 (x = some t) ∧ f t = some r := by obtain ⟨t, h1, h2⟩ := Option.bind_eq_some_iff.mp h; exact ⟨t, ⟨h1⟩, h2⟩
theorem eqT_ {α : Type _} [BEq α] [LawfulBEq α] {x y : α} (h : x = y) : (x == y) = true ∧ (x != y) = false := ⟨beq_iff_eq.mpr h, bne_eq_false_iff_eq.mpr h⟩
theorem eqF_ {α : Type _} [BEq α] [LawfulBEq α] {x y : α} (h : ¬ x = y) : (x == y) = false ∧ (x != y) = true := ⟨beq_eq_false_iff_ne.mpr h, bne_iff_ne.mpr h⟩
theorem oda_ {p : Prop} {d : Decidable p} (h : decide p = true := by first | (with_reducible assumption) | assumption) : p := of_decide_eq_true h
theorem vt_ {p : Prop} (h : p := by first | rfl | (simp; done) | (simp [*]; done)) : p := h
theorem er_ {p : Prop} (h : p := by first | rfl | (simp [errW_none, errW_some] <;> rfl) | (simp [*, errW_none, errW_some] <;> rfl)) : p := h
theorem hl_ {p q : Prop} (h : Aside0 q) (f : q → p := by intro H_; omega) : Aside0 p := ⟨f h.out⟩
theorem rX_ {p q : Prop} (h : Aside0 q) (f : q → p := by intro H_; (with_reducible repeat (first | apply Kd.R_alloc | apply Kd.R_drewN | apply Kd.R_drew)); exact H_) : Aside0 p := ⟨f h.out⟩
theorem bX0_ {p q : Prop} (h : Aside0 q) (f : q → p := by intro H_; repeat (first | (with_reducible first | exact H_ | apply below_alloc | apply pw_below_drewN | apply below_drew1) | exact H_)) : Aside0 p := ⟨f h.out⟩
theorem bs0_ {w W W1 w2 : World} (h : Aside0 (Below w.heap.size w W)) (k : Below W1.heap.size W1 w2) (f : Below w.heap.size w W → Below w.heap.size w W1 := by intro H_; repeat (first | (with_reducible first | exact H_ | apply below_alloc | apply pw_below_drewN | apply below_drew1) | exact H_)) : Aside0 (Below w.heap.size w w2) := ⟨below_step (f h.out) k⟩
theorem gw0_ {w W W1 : World} {g : Nat} (h : Aside0 (Below w.heap.size w W)) (e : g = W1.heap.size) (f : Below w.heap.size w W → Below w.heap.size w W1 := by intro H_; repeat (first | (with_reducible first | exact H_ | apply below_alloc | apply pw_below_drewN | apply below_drew1) | exact H_)) : Aside0 (w.heap.size ≤ g) := ⟨e ▸ below_size (f h.out)⟩
theorem bX1_ {p q r0 : Prop} (h : Aside0 q) (g0 : Aside0 r0) (f : q → r0 → p := by intro H_ G0_; repeat (first | (with_reducible first | exact H_ | apply below_alloc | apply pw_below_drewN | apply below_drew1 | refine below_set ?_ G0_) | exact H_)) : Aside0 p := ⟨f h.out g0.out⟩
theorem bs1_ {w W W1 w2 : World} {r0 : Prop} (h : Aside0 (Below w.heap.size w W)) (k : Below W1.heap.size W1 w2) (g0 : Aside0 r0) (f : Below w.heap.size w W → r0 → Below w.heap.size w W1 := by intro H_ G0_; repeat (first | (with_reducible first | exact H_ | apply below_alloc | apply pw_below_drewN | apply below_drew1 | refine below_set ?_ G0_) | exact H_)) : Aside0 (Below w.heap.size w w2) := ⟨below_step (f h.out g0.out) k⟩
theorem gw1_ {w W W1 : World} {g : Nat} {r0 : Prop} (h : Aside0 (Below w.heap.size w W)) (e : g = W1.heap.size) (g0 : Aside0 r0) (f : Below w.heap.size w W → r0 → Below w.heap.size w W1 := by intro H_ G0_; repeat (first | (with_reducible first | exact H_ | apply below_alloc | apply pw_below_drewN | apply below_drew1 | refine below_set ?_ G0_) | exact H_)) : Aside0 (w.heap.size ≤ g) := ⟨e ▸ below_size (f h.out g0.out)⟩
theorem bX2_ {p q r0 r1 : Prop} (h : Aside0 q) (g0 : Aside0 r0) (g1 : Aside0 r1) (f : q → r0 → r1 → p := by intro H_ G0_ G1_; repeat (first | (with_reducible first | exact H_ | apply below_alloc | apply pw_below_drewN | apply below_drew1 | refine below_set ?_ G0_ | refine below_set ?_ G1_) | exact H_)) : Aside0 p := ⟨f h.out g0.out g1.out⟩
theorem bX3_ {p q r0 r1 r2 : Prop} (h : Aside0 q) (g0 : Aside0 r0) (g1 : Aside0 r1) (g2 : Aside0 r2) (f : q → r0 → r1 → r2 → p := by intro H_ G0_ G1_ G2_; repeat (first | (with_reducible first | exact H_ | apply below_alloc | apply pw_below_drewN | apply below_drew1 | refine below_set ?_ G0_ | refine below_set ?_ G1_ | refine below_set ?_ G2_) | exact H_)) : Aside0 p := ⟨f h.out g0.out g1.out g2.out⟩
theorem bd_ {w W : World} {b : Nat} (h : Aside0 (Below b w W)) : Aside0 (Below b w W.drew) := ⟨below_drew1 h.out⟩
theorem bb_ {w W W1 : World} {g : Nat} {o : Obj} (h : Aside0 (w.heap[g]? = some o)) (hb : Below W.heap.size W W1) (f : w.heap[g]? = some o → W.heap[g]? = some o := by intro H_; (with_reducible repeat (first | refine blk_drewN ?_ _ | refine blk_drew ?_ | refine blk_alloc ?_ _)); exact H_) : Aside0 (W1.heap[g]? = some o) := ⟨blk_below (f h.out) hb⟩
theorem nl_ {w W : World} {g g2 : Nat} {o : Obj} (h : Aside0 (w.heap[g]? = some o)) (e : g2 = W.heap.size) (f : w.heap[g]? = some o → W.heap[g]? = some o := by intro H_; (with_reducible repeat (first | refine blk_drewN ?_ _ | refine blk_drew ?_ | refine blk_alloc ?_ _)); exact H_) : Aside0 (g ≠ g2) := ⟨e ▸ Nat.ne_of_lt (blk_lt (f h.out))⟩
theorem ng_ {w W : World} {g g2 : Nat} {o : Obj} (h : Aside0 (w.heap[g]? = some o)) (e : g2 = W.heap.size) (f : w.heap[g]? = some o → W.heap[g]? = some o := by intro H_; (with_reducible repeat (first | refine blk_drewN ?_ _ | refine blk_drew ?_ | refine blk_alloc ?_ _)); exact H_) : Aside0 (g2 ≠ g) := ⟨e ▸ Nat.ne_of_gt (blk_lt (f h.out))⟩
theorem bk5_ {w : World} {g : Nat} {t : TypeId} {x0 x1 x2 x3 x4 : Value} {xs : List Value} (h : Aside0 (w.heap[g]? = some (.cells (List.toArray (x0 :: x1 :: x2 :: x3 :: x4 :: xs)) t (0, 0)))) : w.cell? ⟨g, 0, none⟩ = some x0 ∧ w.frozen? ⟨g, 0, none⟩ = false ∧ w.cell? ⟨g, 1, none⟩ = some x1 ∧ w.frozen? ⟨g, 1, none⟩ = false ∧ w.cell? ⟨g, 2, none⟩ = some x2 ∧ w.frozen? ⟨g, 2, none⟩ = false ∧ w.cell? ⟨g, 3, none⟩ = some x3 ∧ w.frozen? ⟨g, 3, none⟩ = false ∧ w.cell? ⟨g, 4, none⟩ = some x4 ∧ w.frozen? ⟨g, 4, none⟩ = false := ⟨(blk_cell h.out 0).trans (by simp), blk_frozen h.out 0, (blk_cell h.out 1).trans (by simp), blk_frozen h.out 1, (blk_cell h.out 2).trans (by simp), blk_frozen h.out 2, (blk_cell h.out 3).trans (by simp), blk_frozen h.out 3, (blk_cell h.out 4).trans (by simp), blk_frozen h.out 4⟩
theorem nm_ {P : Program} {md : Region.Mode} {ops : Array Oper} {Q : Exit → Act → World → Prop} {S : World → Prop} {ds : List Nat} {fuel : Nat} {l : Array Bool} {a a' : Act} {w : World} (n : Nat) {v : Value} (h : wpAnyLast P md ops Q S ds fuel l a' w) (ha : Act.put a (some n) v = a' := by (simp only [Act.put, List.setIfInBounds_toArray, List.set_cons_zero, List.set_cons_succ, i64_w, i32_w]; rfl)) : wpAnyLast P md ops Q S ds fuel l (Act.put a (some n) v) w := norm_ ha h
theorem gO_ {P : Program} {ops : Array Oper} {Q_ : Exit → Act → World → Prop} {oi : Oper} {N : Option Tmp} {a : Act} {w : World} {K : Act → World → Prop} {f : FuncId} {fn : Func} {as_ : Array Operand} {ts : Array TypeId} (hf : P.funcs[f]? = some fn) (args : Array Value) (h : Calls P f args w fun e w' => ∃ v, e = .returned v ∧ K (a.put N v) w') (hname : (fn.name == "runtime.NumGoroutine") = false := by kernel_rfl) (hb : fn.body.isSome = true := by rfl) (hw : Region.wanted oi (yielded ops a.tmps) = true := by rfl) (hN : oi.dst = N := by rfl) (hop : oi.op = .call { callee := .value (.func f), args := as_, argTypes := ts } := by rfl) (hargs : as_.map a.eval = args := by ((try simp only [List.map_toArray, List.map_cons, List.map_nil]); first | done | rfl | (simp only [List.length_drop, List.length_take]; rfl))) : if Region.wanted oi (yielded ops a.tmps) = true then Oper.wp P oi a w K Q_ else K (a.put N undef) w := goes_ hf hname hb args hw hN hop hargs h
theorem gP_ {P : Program} {ops : Array Oper} {Q : Exit → Act → World → Prop} {rest : List Oper} {oi : Oper} {a : Act} {w : World} (N : Option Tmp) {f : FuncId} {fn : Func} {as_ : Array Operand} {ts : Array TypeId} (hf : P.funcs[f]? = some fn) (args : Array Value) {v : Value} (hc : Calls P f args w fun e w' => e = .returned v ∧ Drawn0 w w') (h : ∀ nd, wpList P ops Q rest (a.put N v) (w.drewN nd)) (hd : oi.dst = N := by rfl) (hg : oi.guard = none := by rfl) (hname : (fn.name == "runtime.NumGoroutine") = false := by kernel_rfl) (hb : fn.body.isSome = true := by rfl) (hop : oi.op = .call { callee := .value (.func f), args := as_, argTypes := ts } := by rfl) (hargs : as_.map a.eval = args := by ((try simp only [List.map_toArray, List.map_cons, List.map_nil]); first | done | rfl | (simp only [List.length_drop, List.length_take]; rfl))) : wpList P ops Q (oi :: rest) a w := goesL_ N hd hg hf hname hb args hop hargs (hc.mono (by rintro e w' ⟨rfl, ⟨nd, rfl⟩⟩; exact ⟨_, rfl, h nd⟩))
theorem gR_ {P : Program} {ops : Array Oper} {Q : Exit → Act → World → Prop} {rest : List Oper} {oi : Oper} {a : Act} {w : World} (N : Option Tmp) {f : FuncId} {fn : Func} {as_ : Array Operand} {ts : Array TypeId} (hf : P.funcs[f]? = some fn) (args : Array Value) {R : Value → World → Prop} {E : Value → Value} (hc : Calls P f args w fun e w' => ∃ v, e = .returned (E v) ∧ R v w' ∧ Below w.heap.size w w') (h : ∀ w' v, R v w' → Below w.heap.size w w' → wpList P ops Q rest (a.put N (E v)) w') (hd : oi.dst = N := by rfl) (hg : oi.guard = none := by rfl) (hname : (fn.name == "runtime.NumGoroutine") = false := by kernel_rfl) (hb : fn.body.isSome = true := by rfl) (hop : oi.op = .call { callee := .value (.func f), args := as_, argTypes := ts } := by rfl) (hargs : as_.map a.eval = args := by ((try simp only [List.map_toArray, List.map_cons, List.map_nil]); first | done | rfl | (simp only [List.length_drop, List.length_take]; rfl))) : wpList P ops Q (oi :: rest) a w := goesL_ N hd hg hf hname hb args hop hargs (hc.mono (by rintro e w' ⟨v, rfl, ho, hb⟩; exact ⟨_, rfl, h _ _ ho hb⟩))
theorem be_ {P : Program} {ops : Array Oper} {Q : Exit → Act → World → Prop} {rest : List Oper} {o : Oper} {a : Act} {W : World} (N : Tmp) (cs : Array Value) (t : TypeId) (h : ∀ g, g = W.heap.size → ∀ w1, w1.heap[g]? = some (.cells cs t (0, 0)) → Below W.heap.size W w1 → wpList P ops Q rest (a.put o.dst (.pointer (some ⟨g, 0, none⟩))) w1) (hgd : o.guard = none := by rfl) (hd : o.dst = some N := by rfl) (hrun : (execOp a.eval o).run P W = .ok (.value (.pointer (some ⟨W.heap.size, 0, none⟩))) (W.alloc (.cells cs t (0, 0))) := by first | (go_simp; done) | (go_simp; rfl)) : wpList P ops Q (o :: rest) a W := box_event hgd (N := N) hd (cs := cs) (t := t) hrun h
theorem cS_ {p q r : Prop} (h : Aside0 q) (hb : Aside0 r) (f : q → r → p := by intro H_ B_; (repeat (first | exact (Kd.C_below H_ B_) | (with_reducible refine Kd.C_alloc ?_ _) | (with_reducible refine Kd.C_drewN ?_ _) | (with_reducible refine Kd.C_drew ?_)))) : p := f h.out hb.out
theorem cR_ {α : Type} {p : Prop} {d : Kd α} {e base : Nat} {w : World} {ok : Nat → Prop} {v : Value} {xs : List α} (h : Aside0 (d.R e w base ok v xs)) (f : d.R e w base ok v xs → p := by intro H_; (repeat (first | exact (Kd.R_reads' H_).2.2 | (with_reducible refine Kd.C_alloc ?_ _) | (with_reducible refine Kd.C_drewN ?_ _) | (with_reducible refine Kd.C_drew ?_)))) : p := f h.out
theorem hl2_ {p q r : Prop} (h : Aside0 q) (g : Aside0 r) (f : q → r → p := by intro H_ G_; omega) : Aside0 p := ⟨f h.out g.out⟩
theorem hl3_ {p q r s : Prop} (h : Aside0 q) (g : Aside0 r) (i : Aside0 s) (f : q → r → s → p := by intro H_ G_ I_; omega) : Aside0 p := ⟨f h.out g.out i.out⟩
theorem le_ {p : Prop} (h : p := by first | omega | exact Nat.le_refl _) : Aside0 p := ⟨h⟩
theorem yH_ {α : Type _} {a b : α} {p q : Prop} (e : a = b) (h : q) (f : a = b → q → p := by intro e_ H; first | (rw [e_]; with_reducible exact H) | (have H2_ := (Option.bind_some _ _).symm.trans H; rw [e_]; with_reducible exact H2_) | (have H2_ := (Option.bind_some _ _).symm.trans H; with_reducible exact H2_) | with_reducible exact H | (rw [e_]; exact H) | exact H) : p := f e h
theorem c2_ {w : World} {g : Nat} {t : TypeId} {x0 x1 x2 : Value} {xs : List Value} (h : Aside0 (w.heap[g]? = some (.cells (List.toArray (x0 :: x1 :: x2 :: xs)) t (0, 0)))) : w.cell? ⟨g, 2, none⟩ = some x2 := (blk_cell h.out 2).trans (by simp)
theorem hc_ {w W W1 : World} {ad : Addr} {v : Value} (h : Aside0 (Below w.heap.size w W)) (e : w.cell? ad = some v) (g : W.cell? ad = some v → W1.cell? ad = some v := by exact id) : W1.cell? ad = some v := g ((h.out.cell (World.block_lt_of_cell? w _ e)).trans e)
theorem dr_ {p : Prop} (h : p := by repeat (first | exact Drawn0.refl _ | apply Drawn0.step)) : p := h
theorem rb_ {α : Type} {d : Kd α} {e base : Nat} {w W W1 : World} {ok : Nat → Prop} {v : Value} {xs : List α} (h : Aside0 (d.R e w base ok v xs)) (hb : Below W.heap.size W W1) (f : d.R e w base ok v xs → d.R e W base ok v xs := by intro H_; (with_reducible repeat (first | apply Kd.R_alloc | apply Kd.R_drewN | apply Kd.R_drew)); exact H_) : Aside0 (d.R e W1 base ok v xs) := ⟨Kd.R_below (f h.out) hb⟩
theorem re_ {α : Type} {d : Kd α} {e base : Nat} {w W W1 : World} {ok : Nat → Prop} {v : Value} {xs : List α} {β : Type} {d' : Kd β} {e' b : Nat} {w' : World} {ok' : Nat → Prop} {u : Value} {ys : List β} (h : Aside0 (d.R e w base ok v xs)) (ho : d'.R e' w' b ok' u ys) (hb : Below W.heap.size W W1) (f : d.R e w base ok v xs → d.R e W base ok v xs := by intro H_; (with_reducible repeat (first | apply Kd.R_alloc | apply Kd.R_drewN | apply Kd.R_drew)); exact H_) (g : b = W.heap.size := by rfl) : Aside0 (d.R e W1 base (fun k => ok k ∧ some k ≠ u.ownBlock) v xs) := ⟨Kd.R_elder' (f h.out) (g ▸ Kd.R_base ho) hb⟩
theorem rl0_ {α : Type} {d : Kd α} {e : Nat} {w w1 W W0 : World} {ok : Nat → Prop} {v : Value} {xs : List α} (ho : d.R e w1 W0.heap.size ok v xs) (h : Aside0 (Below w.heap.size w W)) (f : Below w.heap.size w W → Below w.heap.size w W0 := by intro H_; repeat (first | (with_reducible first | exact H_ | apply below_alloc | apply pw_below_drewN | apply below_drew1) | exact H_)) : Aside0 (d.R e w1 w.heap.size ok v xs) := ⟨Kd.R_lower ho (below_size (f h.out))⟩
theorem gc_ {P : Program} {ops : Array Oper} {o : Oper} {rest : List Oper} {a : Act} {W : World} {Q : Exit → Act → World → Prop} (f : FuncId) {as_ : Array Operand} {ts : Array TypeId} (_ho : o.op = .call { callee := .value (.func f), args := as_, argTypes := ts }) (h : wpList P ops Q (o :: rest) a W) : wpList P ops Q (o :: rest) a W := h
theorem gd_ {P : Program} {ops : Array Oper} {o : Oper} {rest : List Oper} {a : Act} {W : World} {Q : Exit → Act → World → Prop} (N : Tmp) (_hN : o.dst = some N) (h : wpList P ops Q (o :: rest) a W) : wpList P ops Q (o :: rest) a W := h
theorem oN_ {P : Program} {md : Region.Mode} {ops : Array Oper} {Q : Exit → Act → World → Prop} {S : World → Prop} {ds : List Nat} {T : Bool × List (List Nat × List Nat)} (i : Nat) (N : Option Tmp) {oi : Oper} {fuel : Nat} {l l' : Array Bool} {a : Act} {w : World} (HT_ : Aside0 (rtab md ops = T)) (h : ∀ K : Act → World → Prop, Shut (∀ a' w', S w' → (S w' → wpAnyLast P md ops Q S ds fuel l' a' w') → K a' w') → if Region.wanted oi (yielded ops a.tmps) = true then Oper.wp P oi a w K Q else K (a.put N undef) w) (hi : ops[i]? = some oi := by rfl) (hN : oi.dst = N := by rfl) (_hl : l.setIfInBounds i true = l' := by (simp only [List.setIfInBounds_toArray, List.set_cons_zero, List.set_cons_succ]; rfl)) (hc : (readyT T.2 l.toList == [i] && l.toList.set i true == l'.toList) = true := by kernel_rfl) (hd : i ∉ ds := by decide) : wpAnyLast P md ops Q S ds (fuel + 1) l a w := one_ l' hi hN (one_of HT_.out hc) hd h
end Go.Proofs.Ytoajlmlobaccdaa.P
namespace Go.Proofs.Ytoajlmlobaccdaa.P
open Go.RowKit Go.Proofs.YtoajlmlobaccdaaW.PrintWords Go.Proofs.YtoajlmlobaccdaaW.PrintLast Go.Proofs.YtoajlmlobaccdaaW.PrintMore
attribute [local go_sem] ptrOf_slice
attribute [local go_sem] min2_str max2_int min2_int max_two min_two max_three min_three max_four min_four
set_option linter.unusedVariables false
set_option linter.unusedSimpArgs false
def spec_l1In.f (a0 : Int) (a1 : Int) (a2 : Int) : Option (Bool) := if a0 ≥ a1 then (some (decide (a0 ≤ a2))) else (some false)
set_option maxHeartbeats 8000000 in
set_option maxRecDepth 100000 in
theorem spec_l1In.calls (a0 : Int) (a1 : Int) (a2 : Int) (r : Bool) (w : World) (h : spec_l1In.f a0 a1 a2 = some r) :
  Calls Try.prog 79 #[.int .i64 a0, .int .i64 a1, .int .i64 a2] w fun e w' => e = .returned (.bool r) ∧ Drawn0 w w' := by
 have H : (if a0 ≥ a1 then (some (decide (a0 ≤ a2))) else (some false)) = some r := h; clear h; by_cases c4 : a0 ≥ a1
 ·rw [if_pos c4] at H; have c4b0 := decide_eq_true c4; clear c4; obtain rfl := Option.some.inj H; go_enter Try.func79, Try.ntmps79
  go_wp2; go_ret; exact ⟨by first | rfl | (simp; done) | (simp [*]; done), dr_⟩
 ·rw [if_neg c4] at H; have c4b0 := decide_eq_false c4; clear c4; obtain rfl := Option.some.inj H; go_enter Try.func79, Try.ntmps79
  go_wp2; go_ret; exact ⟨by first | rfl | (simp; done) | (simp [*]; done), dr_⟩
def spec_l12Start.l0 : Nat → Int → List Int → Int → Option (List Int)
 | 0, _, _, _ => none
 | k + 1, x0, x3, x4 => if x4 < x0 then (if x3.length < 17592186044416 then (spec_l12Start.l0 k x0 (x3 ++ [x4]) (wrap64 (x4 + 1))) else (none)) else (some x3)
def spec_l12Start.f (k : Nat) (a0 : Int) : Option (List Int) := spec_l12Start.l0 k a0 (([] : List Int)) 0
set_option maxHeartbeats 8000000 in
set_option maxRecDepth 100000 in
theorem spec_l12Start.calls (k : Nat) (a0 : Int) (r : List Int) (w : World) (h : spec_l12Start.f k a0 = some r) :
  Calls Try.prog 145 #[.int .i64 a0] w fun e w' => ∃ v0_ : Value, e = .returned (v0_) ∧ Kd.R (Kd.int .i64) 3 w' w.heap.size (fun _ => True) v0_ r ∧ Below w.heap.size w w' := by
 have HB := am_ (Below.refl w.heap.size w); have H : (spec_l12Start.l0 k a0 (([] : List Int)) 0) = some r := h; clear h; obtain ⟨y101, hy101⟩ : ∃ y_ : List Int, y_ = (([] : List Int)) := ⟨_, rfl⟩; replace H : (spec_l12Start.l0 k a0 y101 0) = some r := yH_ hy101 H; have Ny101 := am_ hy101; clear hy101; have H' := am_ H; clear H; go_enter Try.func145, Try.ntmps145
 go_wp2_with (first | ((with_reducible refine gd_ 5 rfl ?_); refine Kd.R_lit (Kd.int .i64) _ 3 ?hg (N := 5) ?hd (xs := ([] : List Int)) (inner := []) (ok := fun _ => True) (okp := fun _ => True) ?hr ?hp (fun _ hk => hk) trivial (Below.refl _ _) (Nat.le_refl _) (by simp) ?_; (case hd => rfl); (case hg => rfl); (case hr => first | (go_simp; done) | (go_simp; rfl)); (case hp => exact (Reps.none _ _)); intro v102 w2 ho3 hb hg_ hnew_; clear hg_ hnew_; (first | rw [← Ny101.out] at ho3 | (simp only [Int.reduceToNat] at ho3; rw [← Ny101.out] at ho3)); have HO103 := rl0_ ho3 HB; replace HB := bs0_ HB hb; clear hb ho3))
 go_loopg [3, 4] k (fun kq v3 v4 w' => ∃ (x3_1 : List Int) (x4_1 : Int), v4 = .int .i64 x4_1 ∧ Aside0 (spec_l12Start.l0 kq a0 x3_1 x4_1 = some r) ∧ Aside0 (kq ≤ k) ∧ Aside0 (Kd.R (Kd.int .i64) 3 w' w.heap.size (fun _ => True) v3 x3_1) ∧ Aside0 (Below w.heap.size w w'))
 case atStart => exact ⟨(y101), (0), vt_, H', ⟨Nat.le_refl _⟩, rX_ HO103, bX0_ HB⟩
 case round =>
  clear H'; obtain ⟨x3_1, x4_1, rfl, HA, HK1, HO_3, HB⟩ := hrel; cases gk with
  | zero => exact absurd HA.out (by simp [spec_l12Start.l0])
  | succ k1 =>
   have H := HA.out; clear HA; simp only [spec_l12Start.l0] at H
   by_cases c4 : x4_1 < a0
   ·rw [if_pos c4] at H; have c4b0 := decide_eq_true c4; clear c4; by_cases c5 : x3_1.length < 17592186044416
    ·rw [if_pos c5] at H; have LMc5 := am_ c5; clear c5; obtain ⟨y104, hy104⟩ : ∃ y_ : List Int, y_ = (x3_1 ++ [x4_1]) := ⟨_, rfl⟩; replace H : (spec_l12Start.l0 k1 a0 y104 (wrap64 (x4_1 + 1))) = some r := yH_ hy104 H; have Ny104 := am_ hy104; clear hy104; have H' := am_ H; clear H; go_wp2_with (first | ((with_reducible refine gate_builtin (b := .append) (xs := #[.tmp 11, .tmp 13]) rfl ?_); at_builtin; refine Kd.R_append (Kd.int .i64) (w0 := w) w.heap.size rfl (.tmp 11) (.tmp 13) 34 3 (.int .i64 0) 8 rfl Try.underlying34 info3 rfl (by decide) (by omega) u3 x3_1 x4_1 [.int .i64 x4_1] (fun _ => True) (fun _ => False) rfl rfl ?aP (fun _ hk => hk.elim) ?aF ?aO ?aB ?aS ?aL ?_; (case aP => exact rfl); (case aB => exact (bx0 HB.out)); (case aF => exact (fun _ _ => trivial)); (case aO => exact (rx_ HO_3.out)); (case aS => exact (below_size (bx0 HB.out))); (case aL => have := LMc5.out; omega); intro v105 w6 ho hb hg hat; rw [← Ny104.out] at ho; replace HB := am_ hb; have HO106 := am_ ho; clear HO_3; clear ho hb hg hat))
     go_roundg k1
     case measure => have := HK1.out; omega
     case rel => exact ⟨(y104), (wrap64 (x4_1 + 1)), vt_, H', hl_ HK1, rX_ HO106, bX0_ HB⟩
    ·rw [if_neg c5] at H; exact absurd H (by simp)
   ·rw [if_neg c4] at H; have c4b0 := decide_eq_false c4; clear c4; obtain rfl := Option.some.inj H; go_wp2; go_ret; exact ⟨_, by first | rfl | (simp [errW_none, errW_some] <;> rfl) | (simp [*, errW_none, errW_some] <;> rfl), rx_ HO_3.out, bx0 HB.out⟩
def spec_l12Swap.f (l0 : List Int) (a1 : Int) : Option (Bool × List Int) := (spec_l1In.f a1 0 (wrap64 ((l0.length : Int) - 2))).bind fun t107 => (if t107 = true then (if 0 ≤ a1 then (if a1 < (l0.length : Int) then (if 0 ≤ (wrap64 (a1 + 1)) then (if (wrap64 (a1 + 1)) < (l0.length : Int) then (if (rd l0 a1) > (rd l0 (wrap64 (a1 + 1))) then (some (false, l0)) else (some (true, ((l0.set (a1 : Int).toNat (rd l0 (wrap64 (a1 + 1)))).set ((wrap64 (a1 + 1)) : Int).toNat (rd l0 a1))))) else (none)) else (none)) else (none)) else (none)) else (some (false, l0)))
def spec_l12Swap.T1 : Bool × List (List Nat × List Nat) := (true, [([], []), ([], []), ([1], [1]), ([2], [2]), ([0, 3], [0, 3]), ([4], [4]), ([5, 4], [5]), ([6], [6]), ([6], [6]), ([7, 8, 6], [6, 7, 8]), ([9, 6], [6, 9]), ([6], [6]), ([6], [6]), ([12, 6], [6, 12]), ([11, 13, 6], [6, 11, 13]), ([14, 6], [6, 14]), ([10, 15, 6], [6, 10, 15]), ([6, 16], [6, 16])])
def spec_l12Swap.B1 : List Nat := [0, 0, 2, 6, 15, 31, 63, 127, 127, 511, 1023, 127, 127, 4223, 14463, 30847, 65535, 131071]
theorem spec_l12Swap.tab1 : rtab .any (opsOf Try.f147 1) = spec_l12Swap.T1 := by kernel_rfl
theorem spec_l12Swap.bits1 : waitsOk spec_l12Swap.T1.2 spec_l12Swap.B1 = true := by kernel_rfl
set_option maxHeartbeats 8000000 in
set_option maxRecDepth 100000 in
theorem spec_l12Swap.calls (P0_ : Nat → Prop) (u9000_ : Value) (l0 : List Int) (a1 : Int) (r1 : Bool) (r2 : List Int) (w0 w : World) (hB : Below w0.heap.size w0 w) (ho0 : Kd.R (Kd.int .i64) 3 w w0.heap.size P0_ u9000_ l0) (h : spec_l12Swap.f l0 a1 = some (r1, r2)) :
  Calls Try.prog 147 #[u9000_, .int .i64 a1] w fun e w' => e = .returned (.bool r1) ∧ Kd.R (Kd.int .i64) 3 w' w0.heap.size (fun k_ => (P0_ k_ ∨ w.heap.size ≤ k_)) u9000_ r2 ∧ Below w0.heap.size w0 w' ∧ Kept w w' (fun k_ => P0_ k_) := by
 have HO0 := am_ (show Kd.R (Kd.int .i64) 3 w w0.heap.size (fun k_ => (P0_ k_ ∨ w.heap.size ≤ k_)) u9000_ l0 from Kd.R_mono ho0 (fun k_ hk => (.inl hk))); have HK := am_ (Kept.refl w (fun k_ => P0_ k_)); have HW0 := am_ hB.size; have HB := am_ hB; clear hB; have H : ((spec_l1In.f a1 0 (wrap64 ((l0.length : Int) - 2))).bind fun t107 => (if t107 = true then (if 0 ≤ a1 then (if a1 < (l0.length : Int) then (if 0 ≤ (wrap64 (a1 + 1)) then (if (wrap64 (a1 + 1)) < (l0.length : Int) then (if (rd l0 a1) > (rd l0 (wrap64 (a1 + 1))) then (some (false, l0)) else (some (true, ((l0.set (a1 : Int).toNat (rd l0 (wrap64 (a1 + 1)))).set ((wrap64 (a1 + 1)) : Int).toNat (rd l0 a1))))) else (none)) else (none)) else (none)) else (none)) else (some (false, l0)))) = some (r1, r2) := h; clear h; obtain ⟨t107, A3, H⟩ := bnd_ H; by_cases c4 : t107 = true
 ·subst c4; replace H := ifT_ H; by_cases c5 : 0 ≤ a1
  ·rw [if_pos c5] at H; have c5b0 := decide_eq_true c5; clear c5; by_cases c6 : a1 < (l0.length : Int)
   ·rw [if_pos c6] at H; have c6b0 := decide_eq_true c6; clear c6; obtain ⟨ji7, hji7⟩ : ∃ j_ : Int, (wrap64 (a1 + 1)) = j_ := ⟨_, rfl⟩; first | rw [hji7] at H | simp only [hji7] at H
    (try rw [hji7] at A3)
    have hji7w : (IntKind.i64.wrap (a1 + 1)) = ji7 := (i64_w _).trans hji7; by_cases c8 : 0 ≤ (ji7)
    ·rw [if_pos c8] at H; have c8b0 := decide_eq_true c8; clear c8; by_cases c9 : (ji7) < (l0.length : Int)
     ·rw [if_pos c9] at H; have c9b0 := decide_eq_true c9; clear c9; by_cases c10 : (rd l0 a1) > (rd l0 (ji7))
      ·rw [if_pos c10] at H; have c10b0 := decide_eq_true c10; clear c10; simp only [Option.some.injEq, Prod.mk.injEq] at H
       obtain ⟨rfl, rfl⟩ := H; go_enter Try.func147, Try.ntmps147
       try go_wp2
       replace HO0 := am_ (Kd.R_drew HO0.out); replace HK := am_ (Kept.drew HK.out); replace HB := bd_ HB; obtain ⟨Ao12, co12, eo12⟩ := Kd.R_slice HO0.out; (first | subst eo12 | (injection eo12 with f1_ f2_ f3_; have f4_ := f1_.symm; have f5_ := f3_.symm; clear f1_ f2_ f3_; subst f4_; subst f5_))
       have p108 : 0 ≤ (a1 : Int) := oda_; have q108 : a1 < (l0.length : Int) := oda_; obtain ⟨ad108, e108, hx108_0⟩ := Kd.at_int (Kd.R_reads' HO0.out).2.2 a1 p108 q108; cases e108; replace p108 := eq_true p108; replace q108 := eq_true q108; have p109 : 0 ≤ ((ji7) : Int) := oda_; have q109 : (ji7) < (l0.length : Int) := oda_; obtain ⟨ad109, e109, hx109_0⟩ := Kd.at_int (Kd.R_reads' HO0.out).2.2 (ji7) p109 q109; obtain rfl : ad108 = ad109 := (by injection e109); replace p109 := eq_true p109; replace q109 := eq_true q109; refine start_ (n := 18) (S := fun w' => w'.cell? (ad108.add (a1).toNat) = some (.int .i64 (rd l0 a1)) ∧ w'.cell? (ad108.add ((ji7)).toNat) = some (.int .i64 (rd l0 (ji7)))) (ds := []) #[false, false, false, false, false, false, false, false, false, false, false, false, false, false, false, false, false, false] (by kernel_rfl) rfl rfl ⟨hx108_0, hx109_0⟩ (fun hHeld => ?_); refine with_tabW spec_l12Swap.tab1 spec_l12Swap.bits1 (fun HT_ HW_ => ?_); generalize w.drew = w11 at HO0 HK HB hx108_0 hx109_0 hHeld ⊢
       refine pD_ 0 (some 6) HT_ (h := ?_); refine pD_ 1 (some 7) HT_ (h := ?_); refine pD_ 2 (some 8) HT_ (h := ?_); refine pD_ 3 (some 9) HT_ (h := ?_); refine oN_ 4 (some 10) HT_ (fun K hK => ?_); refine gO_ Try.func79 #[.int .i64 a1, .int .i64 0, .int .i64 (wrap64 ((l0.length : Int) - 2))] ?_; with_reducible refine (spec_l1In.calls a1 0 (wrap64 ((l0.length : Int) - 2)) true _ A3.out).mono ?_
       rintro e w' ⟨rfl, ⟨nd, rfl⟩⟩; refine ⟨_, rfl, ?_⟩; refine hK.out _ _ ⟨hHeld.1, hHeld.2⟩ (fun hHeld => ?_); clear hK K; refine nm_ 10 (h := ?_); refine pD_ 5 (some 11) HT_ (h := ?_); refine pD_ 6 (some 12) HT_ (h := ?_); refine pD_ 7 (some 13) HT_ (h := ?_); refine pD_ 8 (some 14) HT_ (h := ?_); refine pD_ 9 (some 15) HT_ (h := ?_); refine pD_ 11 (some 17) HT_ (h := ?_); refine pD_ 12 (some 18) HT_ (h := ?_); refine pD_ 13 (some 19) HT_ (h := ?_); refine pD_ 14 (some 20) HT_ (h := ?_); refine tD2_ 10 (some 16) HT_ HW_ hHeld (h := ?_); refine tD2_ 15 (some 21) HT_ HW_ hHeld (h := ?_); refine pD_ 16 (some 22) HT_ (h := ?_); refine pD_ 17 (some 23) HT_ (h := ?_); refine done_ (done_of HT_.out (by kernel_rfl)) ?_; try go_wp2
       go_ret; exact ⟨by first | rfl | (simp [errW_none, errW_some] <;> rfl) | (simp only [← hji7]; first | rfl | (simp [errW_none, errW_some] <;> rfl)) | (simp [*, errW_none, errW_some] <;> rfl), rx_ HO0.out, bx0 HB.out, by repeat (first | (with_reducible first | exact HK.out | apply Kept.alloc | apply Kept.drewN | apply Kept.drew) | exact HK.out)⟩
      ·rw [if_neg c10] at H; have c10b0 := decide_eq_false c10; clear c10; obtain ⟨y112, hy112⟩ : ∃ y_ : List Int, y_ = (l0.set (a1 : Int).toNat (rd l0 (ji7))) := ⟨_, rfl⟩; replace H : (some (true, (y112.set ((ji7) : Int).toNat (rd l0 a1)))) = some (r1, r2) := yH_ hy112 H; have Ny112 := am_ hy112; clear hy112; obtain ⟨y113, hy113⟩ : ∃ y_ : List Int, y_ = (y112.set ((ji7) : Int).toNat (rd l0 a1)) := ⟨_, rfl⟩; replace H : (some (true, y113)) = some (r1, r2) := yH_ hy113 H; have Ny113 := am_ hy113; clear hy113; simp only [Option.some.injEq, Prod.mk.injEq] at H
       obtain ⟨rfl, rfl⟩ := H; go_enter Try.func147, Try.ntmps147
       try go_wp2
       replace HO0 := am_ (Kd.R_drew HO0.out); replace HK := am_ (Kept.drew HK.out); replace HB := bd_ HB; obtain ⟨Ao16, co16, eo16⟩ := Kd.R_slice HO0.out; (first | subst eo16 | (injection eo16 with f1_ f2_ f3_; have f4_ := f1_.symm; have f5_ := f3_.symm; clear f1_ f2_ f3_; subst f4_; subst f5_))
       have p108 : 0 ≤ (a1 : Int) := oda_; have q108 : a1 < (l0.length : Int) := oda_; obtain ⟨ad108, e108, hx108_0⟩ := Kd.at_int (Kd.R_reads' HO0.out).2.2 a1 p108 q108; cases e108; replace p108 := eq_true p108; replace q108 := eq_true q108; have p109 : 0 ≤ ((ji7) : Int) := oda_; have q109 : (ji7) < (l0.length : Int) := oda_; obtain ⟨ad109, e109, hx109_0⟩ := Kd.at_int (Kd.R_reads' HO0.out).2.2 (ji7) p109 q109; obtain rfl : ad108 = ad109 := (by injection e109); replace p109 := eq_true p109; replace q109 := eq_true q109; refine start_ (n := 18) (S := fun w' => w'.cell? (ad108.add (a1).toNat) = some (.int .i64 (rd l0 a1)) ∧ w'.cell? (ad108.add ((ji7)).toNat) = some (.int .i64 (rd l0 (ji7)))) (ds := []) #[false, false, false, false, false, false, false, false, false, false, false, false, false, false, false, false, false, false] (by kernel_rfl) rfl rfl ⟨hx108_0, hx109_0⟩ (fun hHeld => ?_); refine with_tabW spec_l12Swap.tab1 spec_l12Swap.bits1 (fun HT_ HW_ => ?_); generalize w.drew = w15 at HO0 HK HB hx108_0 hx109_0 hHeld ⊢
       refine pD_ 0 (some 6) HT_ (h := ?_); refine pD_ 1 (some 7) HT_ (h := ?_); refine pD_ 2 (some 8) HT_ (h := ?_); refine pD_ 3 (some 9) HT_ (h := ?_); refine oN_ 4 (some 10) HT_ (fun K hK => ?_); refine gO_ Try.func79 #[.int .i64 a1, .int .i64 0, .int .i64 (wrap64 ((l0.length : Int) - 2))] ?_; with_reducible refine (spec_l1In.calls a1 0 (wrap64 ((l0.length : Int) - 2)) true _ A3.out).mono ?_
       rintro e w' ⟨rfl, ⟨nd, rfl⟩⟩; refine ⟨_, rfl, ?_⟩; refine hK.out _ _ ⟨hHeld.1, hHeld.2⟩ (fun hHeld => ?_); clear hK K; refine nm_ 10 (h := ?_); refine pD_ 5 (some 11) HT_ (h := ?_); refine pD_ 6 (some 12) HT_ (h := ?_); refine pD_ 7 (some 13) HT_ (h := ?_); refine pD_ 8 (some 14) HT_ (h := ?_); refine pD_ 9 (some 15) HT_ (h := ?_); refine pD_ 11 (some 17) HT_ (h := ?_); refine pD_ 12 (some 18) HT_ (h := ?_); refine pD_ 13 (some 19) HT_ (h := ?_); refine pD_ 14 (some 20) HT_ (h := ?_); refine tD2_ 10 (some 16) HT_ HW_ hHeld (h := ?_); refine tD2_ 15 (some 21) HT_ HW_ hHeld (h := ?_); refine pD_ 16 (some 22) HT_ (h := ?_); refine pD_ 17 (some 23) HT_ (h := ?_); refine done_ (done_of HT_.out (by kernel_rfl)) ?_; (try (rw [drewN_self w15]; generalize hq_ : World.drewN w15 _ = w15; have n0_ : Aside0 (Kd.R (Kd.int .i64) 3 w15 w0.heap.size (fun k_ => (P0_ k_ ∨ w.heap.size ≤ k_)) (.slice (some ad108) l0.length co16) l0) := ⟨by rw [← hq_]; exact (rx_ HO0.out)⟩; have n1_ : Aside0 (Kept w w15 (fun k_ => P0_ k_)) := ⟨by rw [← hq_]; exact (by repeat (first | (with_reducible first | exact HK.out | apply Kept.alloc | apply Kept.drewN | apply Kept.drew) | exact HK.out))⟩; have n2_ : Aside0 (Below w0.heap.size w0 w15) := ⟨by rw [← hq_]; exact (bx0 HB.out)⟩; clear HO0 HK HB hq_; have HO0 := n0_; have HK := n1_; have HB := n2_; clear n0_ n1_ n2_))
       have p110 : 0 ≤ (a1 : Int) := oda_; have q110 : a1 < (l0.length : Int) := oda_; obtain ⟨ad110, e110, hx110_0⟩ := Kd.at_int (Kd.R_reads' HO0.out).2.2 a1 p110 q110; obtain rfl : ad108 = ad110 := (by injection e110); replace p110 := eq_true p110; replace q110 := eq_true q110; have p111 : 0 ≤ ((ji7) : Int) := oda_; have q111 : (ji7) < (l0.length : Int) := oda_; obtain ⟨ad111, e111, hx111_0⟩ := Kd.at_int (Kd.R_reads' HO0.out).2.2 (ji7) p111 q111; obtain rfl : ad108 = ad111 := (by injection e111); replace p111 := eq_true p111; replace q111 := eq_true q111; have p13 : 0 ≤ (a1 : Int) := oda_; have q13 : (a1 : Int) < ((l0.length : Int) : Int) := oda_; obtain ⟨go13, co13, eo13, gb13, gl13, cl13, HG13⟩ := Kd.R_form HO0.out (by omega); (first | cases eo13 | (injection eo13 with ea_ en_ ec_; (first | subst ea_ | (injection ea_ with ea_; subst ea_)); subst ec_; clear en_))
       have GB13 := am_ gb13; have GG13 := am_ HG13; clear gb13 gl13 HG13; have HMgo13 := am_ (show (P0_ go13 ∨ w.heap.size ≤ go13) from (HO0.out.1 _ rfl)); (first | simp only [add_plain] at hx108_0 | skip)
       (first | simp only [add_plain] at hx109_0 | skip)
       (first | simp only [add_plain] at hx110_0 | skip)
       (first | simp only [add_plain] at hx111_0 | skip)
       obtain ⟨hx13_0, hf13_0⟩ := Kd.R_celln 0 HO0.out (a1 : Int) p13 q13; replace p13 := eq_true p13; replace q13 := eq_true q13; obtain ⟨hy17_, hz17_⟩ := Kd.R_celln 0 HO0.out (a1 : Int) (oda_) (oda_); have HP17 := Kd.R_putg HO0.out (a1 : Int) (rd l0 (ji7)); try go_wp2_with (first | ((with_reducible refine gate_store (t := 3) (p := 35) rfl ?_); refine store_event (t := 3) (p := 35) (v := ?vo_w18) (w1 := (w15.setCell ⟨go13, (a1 : Int).toNat, none⟩ (.int .i64 (rd l0 (ji7))))) ?hg ?ho ?hn ?hr ?_; (case ho => rfl); (case hg => rfl); (case hn => rfl); (case hr => first | (go_simp; done) | (go_simp; rfl)); intro w18 hw; have hg : w15.grownBy w18 (some go13) := (by rw [hw]; exact HP17.2); have hp_ : Kd.R (Kd.int .i64) 3 w18 w0.heap.size (fun k_ => (P0_ k_ ∨ w.heap.size ≤ k_)) (.slice (some ⟨go13, 0, none⟩) l0.length co16) y112 := (by rw [hw, Ny112.out]; exact HP17.1); clear HP17; replace HB := am_ ((by rw [hw]; exact below_set (HB.out) GB13.out : Below w0.heap.size w0 w18)); replace HK := am_ (Kept.of_grown (S := (fun k_ => P0_ k_)) hg (by repeat (first | (with_reducible first | exact HK.out | apply Kept.alloc | apply Kept.drewN | apply Kept.drew) | exact HK.out)) (fun k_ e_ => (HO0.out.1 k_ e_))); replace HO0 := am_ hp_; clear hg hw hp_; have p14 : 0 ≤ ((ji7) : Int) := oda_; have q14 : ((ji7) : Int) < ((l0.length : Int) : Int) := oda_; obtain ⟨hx14_0, hf14_0⟩ := Kd.R_celln 0 HO0.out ((ji7) : Int) p14 q14; replace p14 := eq_true p14; replace q14 := eq_true q14; obtain ⟨hy19_, hz19_⟩ := Kd.R_celln 0 HO0.out ((ji7) : Int) (oda_) (oda_); have HP19 := Kd.R_putg HO0.out ((ji7) : Int) (rd l0 a1)) | ((with_reducible refine gate_store (t := 3) (p := 40) rfl ?_); refine store_event (t := 3) (p := 40) (v := ?vo_w20) (w1 := (w18.setCell ⟨go13, ((ji7) : Int).toNat, none⟩ (.int .i64 (rd l0 a1)))) ?hg ?ho ?hn ?hr ?_; (case ho => rfl); (case hg => rfl); (case hn => rfl); (case hr => first | (go_simp; done) | (go_simp; rfl)); intro w20 hw; have hg : w18.grownBy w20 (some go13) := (by rw [hw]; exact HP19.2); have hp_ : Kd.R (Kd.int .i64) 3 w20 w0.heap.size (fun k_ => (P0_ k_ ∨ w.heap.size ≤ k_)) (.slice (some ⟨go13, 0, none⟩) l0.length co16) y113 := (by rw [hw, Ny113.out]; exact HP19.1); clear HP19; replace HB := am_ ((by rw [hw]; exact below_set (HB.out) GB13.out : Below w0.heap.size w0 w20)); replace HK := am_ (Kept.of_grown (S := (fun k_ => P0_ k_)) hg (by repeat (first | (with_reducible first | exact HK.out | apply Kept.alloc | apply Kept.drewN | apply Kept.drew) | exact HK.out)) (fun k_ e_ => (HO0.out.1 k_ e_))); replace HO0 := am_ hp_; clear hg hw hp_))
       go_ret; exact ⟨by first | rfl | (simp [errW_none, errW_some] <;> rfl) | (simp only [← hji7]; first | rfl | (simp [errW_none, errW_some] <;> rfl)) | (simp [*, errW_none, errW_some] <;> rfl), rx_ HO0.out, bx0 HB.out, by repeat (first | (with_reducible first | exact HK.out | apply Kept.alloc | apply Kept.drewN | apply Kept.drew) | exact HK.out)⟩
     ·rw [if_neg c9] at H; exact absurd H (by simp)
    ·rw [if_neg c8] at H; exact absurd H (by simp)
   ·rw [if_neg c6] at H; exact absurd H (by simp)
  ·rw [if_neg c5] at H; exact absurd H (by simp)
 ·replace c4 := Bool.eq_false_iff.mpr c4; subst c4; replace H := ifF_ H; simp only [Option.some.injEq, Prod.mk.injEq] at H
  obtain ⟨rfl, rfl⟩ := H; go_enter Try.func147, Try.ntmps147
  try go_wp2
  replace HO0 := am_ (Kd.R_drew HO0.out); replace HK := am_ (Kept.drew HK.out); replace HB := bd_ HB; obtain ⟨Ao22, co22, eo22⟩ := Kd.R_slice HO0.out; (first | subst eo22 | (injection eo22 with f1_ f2_ f3_; have f4_ := f1_.symm; have f5_ := f3_.symm; clear f1_ f2_ f3_; subst f4_; subst f5_))
  refine start_ (n := 18) (S := fun w' => True) (ds := []) #[false, false, false, false, false, false, false, false, false, false, false, false, false, false, false, false, false, false] (by kernel_rfl) rfl rfl trivial (fun hHeld => ?_); refine with_tabW spec_l12Swap.tab1 spec_l12Swap.bits1 (fun HT_ HW_ => ?_); generalize w.drew = w21 at HO0 HK HB hHeld ⊢
  refine pD_ 0 (some 6) HT_ (h := ?_); refine pD_ 1 (some 7) HT_ (h := ?_); refine pD_ 2 (some 8) HT_ (h := ?_); refine pD_ 3 (some 9) HT_ (h := ?_); refine oN_ 4 (some 10) HT_ (fun K hK => ?_); refine gO_ Try.func79 #[.int .i64 a1, .int .i64 0, .int .i64 (wrap64 ((l0.length : Int) - 2))] ?_; with_reducible refine (spec_l1In.calls a1 0 (wrap64 ((l0.length : Int) - 2)) false _ A3.out).mono ?_
  rintro e w' ⟨rfl, ⟨nd, rfl⟩⟩; refine ⟨_, rfl, ?_⟩; refine hK.out _ _ trivial (fun hHeld => ?_); clear hK K; refine nm_ 10 (h := ?_); refine pD_ 5 (some 11) HT_ (h := ?_); refine pD_ 6 (some 12) HT_ (h := ?_); refine pure_ (i := 7) (N := some 13) (v := undef) (a' := ?_) #[true, true, true, true, true, true, true, true, false, false, false, false, false, false, false, false, false, false] rfl rfl (any_of HT_.out (by kernel_rfl)) (fun _ _ _ h => h) (Or.inr ⟨by rfl, rfl⟩) ?_ ?_; rotate_left
  ·simp only [Act.put, sA_, sZ_, sS_, i64_w, i32_w]
   rfl
  refine pure_ (i := 8) (N := some 14) (v := undef) (a' := ?_) #[true, true, true, true, true, true, true, true, true, false, false, false, false, false, false, false, false, false] rfl rfl (any_of HT_.out (by kernel_rfl)) (fun _ _ _ h => h) (Or.inr ⟨by rfl, rfl⟩) ?_ ?_; rotate_left
  ·simp only [Act.put, sA_, sZ_, sS_, i64_w, i32_w]
   rfl
  refine pure_ (i := 9) (N := some 15) (v := undef) (a' := ?_) #[true, true, true, true, true, true, true, true, true, true, false, false, false, false, false, false, false, false] rfl rfl (any_of HT_.out (by kernel_rfl)) (fun _ _ _ h => h) (Or.inr ⟨by rfl, rfl⟩) ?_ ?_; rotate_left
  ·simp only [Act.put, sA_, sZ_, sS_, i64_w, i32_w]
   rfl
  refine pure_ (i := 10) (N := some 16) (v := undef) (a' := ?_) #[true, true, true, true, true, true, true, true, true, true, true, false, false, false, false, false, false, false] rfl rfl (any_of HT_.out (by kernel_rfl)) (fun _ _ _ h => h) (Or.inr ⟨by rfl, rfl⟩) ?_ ?_; rotate_left
  ·simp only [Act.put, sA_, sZ_, sS_, i64_w, i32_w]
   rfl
  refine pure_ (i := 11) (N := some 17) (v := undef) (a' := ?_) #[true, true, true, true, true, true, true, true, true, true, true, true, false, false, false, false, false, false] rfl rfl (any_of HT_.out (by kernel_rfl)) (fun _ _ _ h => h) (Or.inr ⟨by rfl, rfl⟩) ?_ ?_; rotate_left
  ·simp only [Act.put, sA_, sZ_, sS_, i64_w, i32_w]
   rfl
  refine pure_ (i := 12) (N := some 18) (v := undef) (a' := ?_) #[true, true, true, true, true, true, true, true, true, true, true, true, true, false, false, false, false, false] rfl rfl (any_of HT_.out (by kernel_rfl)) (fun _ _ _ h => h) (Or.inr ⟨by rfl, rfl⟩) ?_ ?_; rotate_left
  ·simp only [Act.put, sA_, sZ_, sS_, i64_w, i32_w]
   rfl
  refine pure_ (i := 13) (N := some 19) (v := undef) (a' := ?_) #[true, true, true, true, true, true, true, true, true, true, true, true, true, true, false, false, false, false] rfl rfl (any_of HT_.out (by kernel_rfl)) (fun _ _ _ h => h) (Or.inr ⟨by rfl, rfl⟩) ?_ ?_; rotate_left
  ·simp only [Act.put, sA_, sZ_, sS_, i64_w, i32_w]
   rfl
  refine pure_ (i := 14) (N := some 20) (v := undef) (a' := ?_) #[true, true, true, true, true, true, true, true, true, true, true, true, true, true, true, false, false, false] rfl rfl (any_of HT_.out (by kernel_rfl)) (fun _ _ _ h => h) (Or.inr ⟨by rfl, rfl⟩) ?_ ?_; rotate_left
  ·simp only [Act.put, sA_, sZ_, sS_, i64_w, i32_w]
   rfl
  refine pure_ (i := 15) (N := some 21) (v := undef) (a' := ?_) #[true, true, true, true, true, true, true, true, true, true, true, true, true, true, true, true, false, false] rfl rfl (any_of HT_.out (by kernel_rfl)) (fun _ _ _ h => h) (Or.inr ⟨by rfl, rfl⟩) ?_ ?_; rotate_left
  ·simp only [Act.put, sA_, sZ_, sS_, i64_w, i32_w]
   rfl
  refine pure_ (i := 16) (N := some 22) (v := undef) (a' := ?_) #[true, true, true, true, true, true, true, true, true, true, true, true, true, true, true, true, true, false] rfl rfl (any_of HT_.out (by kernel_rfl)) (fun _ _ _ h => h) (Or.inr ⟨by rfl, rfl⟩) ?_ ?_; rotate_left
  ·simp only [Act.put, sA_, sZ_, sS_, i64_w, i32_w]
   rfl
  refine pD_ 17 (some 23) HT_ (h := ?_); refine done_ (done_of HT_.out (by kernel_rfl)) ?_; try go_wp2
  go_ret; exact ⟨er_, rx_ HO0.out, bx0 HB.out, by repeat (first | (with_reducible first | exact HK.out | apply Kept.alloc | apply Kept.drewN | apply Kept.drew) | exact HK.out)⟩
mutual
def spec_IsWiring.j0 : Nat → Int → List Int → Bool → Option (Bool)
 | 0, _, _, _ => none
 | k + 1, x0, x1, x19 => if x19 = true then (some false) else ((spec_l12Start.f k x0).bind fun t115 => (spec_IsWiring.l0 k x1 t115 0))
def spec_IsWiring.l0 : Nat → List Int → List Int → Int → Option (Bool)
 | 0, _, _, _ => none
 | k + 1, x1, x5, x6 => if x6 < (x1.length : Int) then (if 0 ≤ x6 then ((spec_l12Swap.f x5 (rd x1 x6)).bind fun bt119 => (if bt119.1 = true then (spec_IsWiring.l0 k x1 bt119.2 (wrap64 (x6 + 1))) else (some false))) else (none)) else (some true)
end
def spec_IsWiring.f (k : Nat) (a0 : Int) (l1 : List Int) : Option (Bool) := (spec_l1In.f a0 3 6).bind fun t114 => (if t114 = true then (spec_IsWiring.j0 k a0 l1 ((l1.length : Int) != (wrap64 (Int.tdiv (wrap64 (a0 * (wrap64 (a0 - 1)))) 2)))) else (spec_IsWiring.j0 k a0 l1 true))
set_option maxHeartbeats 8000000 in
set_option maxRecDepth 100000 in
theorem spec_IsWiring.calls (k : Nat) (a0 : Int) (A1 : Option Addr) (c1 : Nat) (l1 : List Int) (r : Bool) (w : World) (hr1 : Kd.C (Kd.int .i64) w A1 l1.length l1) (hc1 : l1.length ≤ c1) (h : spec_IsWiring.f k a0 l1 = some r) :
  Calls Try.prog 78 #[.int .i64 a0, .slice A1 l1.length c1] w fun e w' => e = .returned (.bool r) ∧ Below w.heap.size w w' := by
 have HR1 := am_ hr1; have HC1 := am_ hc1; clear hr1 hc1; have HB := am_ (Below.refl w.heap.size w); have H : ((spec_l1In.f a0 3 6).bind fun t114 => (if t114 = true then (spec_IsWiring.j0 k a0 l1 ((l1.length : Int) != (wrap64 (Int.tdiv (wrap64 (a0 * (wrap64 (a0 - 1)))) 2)))) else (spec_IsWiring.j0 k a0 l1 true))) = some r := h; clear h; have HC3 := am_ H; clear H; go_enter Try.func78, Try.ntmps78
 go_upto_region 1 with (fail)
 go_cut [19] (fun v19 wc => ∃ (kq : Nat) (x19_2 : Bool), v19 = .bool x19_2 ∧ Aside0 (spec_IsWiring.j0 kq a0 l1 x19_2 = some r) ∧ Aside0 (kq ≤ k) ∧ Aside0 (Below w.heap.size w wc))
 case first =>
  have H := HC3.out; clear HC3; obtain ⟨t114, A4, H⟩ := bnd_ H; by_cases c5 : t114 = true
  ·subst c5; replace H := ifT_ H; have H' := am_ H; clear H; go_wp2_with (first | ((with_reducible refine gc_ 79 rfl ?_); refine gP_ (some 8) Try.func79 #[.int .i64 a0, .int .i64 3, .int .i64 6] (spec_l1In.calls a0 3 6 true _ A4.out) ?_; intro nd))
   go_meet
   case rel => exact ⟨_, (((l1.length : Int) != (wrap64 (Int.tdiv (wrap64 (a0 * (wrap64 (a0 - 1)))) 2)))), vt_, H', le_, bX0_ HB⟩
  ·replace c5 := Bool.eq_false_iff.mpr c5; subst c5; replace H := ifF_ H; have H' := am_ H; clear H; go_wp2_with (first | ((with_reducible refine gc_ 79 rfl ?_); refine gP_ (some 8) Try.func79 #[.int .i64 a0, .int .i64 3, .int .i64 6] (spec_l1In.calls a0 3 6 false _ A4.out) ?_; intro nd))
   go_meet
   case rel => exact ⟨_, (true), vt_, H', le_, bX0_ HB⟩
 case rest =>
  clear HC3; obtain ⟨kq, x19_2, rfl, HA, HJ2, HB⟩ := hcut; cases kq with
  | zero => exact absurd HA.out (by simp [spec_IsWiring.j0])
  | succ kj2 =>
   have H := HA.out; clear HA; simp only [spec_IsWiring.j0] at H
   by_cases c6 : x19_2 = true
   ·subst c6; replace H := ifT_ H; obtain rfl := Option.some.inj H; go_wp2; go_ret; exact ⟨er_, bx0 HB.out⟩
   ·replace c6 := Bool.eq_false_iff.mpr c6; subst c6; replace H := ifF_ H; obtain ⟨t115, A7, H⟩ := bnd_ H; have H' := am_ H; clear H; go_wp2_with (first | ((with_reducible refine gc_ 145 rfl ?_); refine gR_ (some 21) Try.func145 #[.int .i64 a0] (spec_l12Start.calls kj2 a0 t115 _ A7.out) ?_; intro w8 v116 ho0 hb; have HO117 := rl0_ ho0 HB; replace HB := bs0_ HB hb; try clear hb; (try clear ho0)))
    go_loopg [6] kj2 (fun kq v6 w' => ∃ (x5_2 : List Int) (x6_2 : Int), v6 = .int .i64 x6_2 ∧ Aside0 (spec_IsWiring.l0 kq l1 x5_2 x6_2 = some r) ∧ Aside0 (kq ≤ kj2) ∧ Aside0 (Kd.R (Kd.int .i64) 3 w' w.heap.size (fun _ => True) v116 x5_2) ∧ Aside0 (Below w.heap.size w w'))
    case atStart => exact ⟨(t115), (0), vt_, H', ⟨Nat.le_refl _⟩, rX_ HO117, bX0_ HB⟩
    case round =>
     clear H'; try clear c6
     obtain ⟨x5_2, x6_2, rfl, HA, HK2, HO_5, HB⟩ := hrel; cases gk with
     | zero => exact absurd HA.out (by simp [spec_IsWiring.l0])
     | succ k2 =>
      have H := HA.out; clear HA; simp only [spec_IsWiring.l0] at H
      by_cases c9 : x6_2 < (l1.length : Int)
      ·rw [if_pos c9] at H; have c9b0 := decide_eq_true c9; clear c9; by_cases c10 : 0 ≤ x6_2
       ·rw [if_pos c10] at H; have c10b0 := decide_eq_true c10; clear c10; replace H := Option.bind_eq_some_iff.mp H; obtain ⟨⟨t119, t120⟩, A110, H⟩ := H; replace H : (if t119 = true then (spec_IsWiring.l0 k2 l1 t120 (wrap64 (x6_2 + 1))) else (some false)) = some r := H; have A11 := am_ A110; clear A110; by_cases c12 : t119 = true
        ·subst c12; replace H := ifT_ H; have H' := am_ H; clear H; have p118 : 0 ≤ (x6_2 : Int) := oda_; have q118 : x6_2 < (l1.length : Int) := oda_; obtain ⟨ad118, e118, hx118_0⟩ := Kd.at_int HR1.out x6_2 p118 q118; cases e118; replace hx118_0 := hc_ HB hx118_0; replace p118 := eq_true p118; replace q118 := eq_true q118; obtain ⟨Ao13, co13, eo13⟩ := Kd.R_slice HO_5.out; subst eo13; go_wp2_with (first | ((with_reducible refine gc_ 147 rfl ?_); refine gL_ (some 33) Try.func147 #[.slice Ao13 x5_2.length co13, .int .i64 (rd l1 x6_2)] ?_; (with_reducible refine (spec_l12Swap.calls (fun k_ => some k_ = (.slice Ao13 x5_2.length co13 : Value).ownBlock) (.slice Ao13 x5_2.length co13) x5_2 (rd l1 x6_2) true t120 w _ ?side1 ?side2 A11.out).mono ?_); (case side1 => exact bx0 HB.out); (case side2 => exact Kd.R_tight rfl HO_5.out); rintro e w14 ⟨rfl, hy0, hb, hkp⟩; refine ⟨_, rfl, ?_⟩; replace HO_5 := am_ (Kd.R_reok rfl hy0 (fun k_ e_ => HO_5.out.1 k_ e_)); replace HB := am_ hb; (try clear hb); (try clear hkp); (try clear hy0)))
         go_roundg k2
         case measure => have := HJ2.out; have := HK2.out; omega
         case rel => exact ⟨(t120), (wrap64 (x6_2 + 1)), vt_, H', hl2_ HJ2 HK2, rX_ HO_5, bX0_ HB⟩
        ·replace c12 := Bool.eq_false_iff.mpr c12; subst c12; replace H := ifF_ H; obtain rfl := Option.some.inj H; have p118 : 0 ≤ (x6_2 : Int) := oda_; have q118 : x6_2 < (l1.length : Int) := oda_; obtain ⟨ad118, e118, hx118_0⟩ := Kd.at_int HR1.out x6_2 p118 q118; cases e118; replace hx118_0 := hc_ HB hx118_0; replace p118 := eq_true p118; replace q118 := eq_true q118; obtain ⟨Ao15, co15, eo15⟩ := Kd.R_slice HO_5.out; subst eo15; go_wp2_with (first | ((with_reducible refine gc_ 147 rfl ?_); refine gL_ (some 33) Try.func147 #[.slice Ao15 x5_2.length co15, .int .i64 (rd l1 x6_2)] ?_; (with_reducible refine (spec_l12Swap.calls (fun k_ => some k_ = (.slice Ao15 x5_2.length co15 : Value).ownBlock) (.slice Ao15 x5_2.length co15) x5_2 (rd l1 x6_2) false t120 w _ ?side1 ?side2 A11.out).mono ?_); (case side1 => exact bx0 HB.out); (case side2 => exact Kd.R_tight rfl HO_5.out); rintro e w16 ⟨rfl, hy0, hb, hkp⟩; refine ⟨_, rfl, ?_⟩; replace HO_5 := am_ (Kd.R_reok rfl hy0 (fun k_ e_ => HO_5.out.1 k_ e_)); replace HB := am_ hb; (try clear hb); (try clear hkp); (try clear hy0)))
         go_ret; exact ⟨er_, bx0 HB.out⟩
       ·rw [if_neg c10] at H; exact absurd H (by simp)
      ·rw [if_neg c9] at H; have c9b0 := decide_eq_false c9; clear c9; obtain rfl := Option.some.inj H; go_wp2; go_ret; exact ⟨er_, bx0 HB.out⟩
mutual
def spec_l17Next.l0 : Nat → List Int → Int → List Int → List Int → Int → Bool → Int → Option (List Int)
 | 0, _, _, _, _, _, _, _ => none
 | k + 1, x0, x1, x2, x7, x8, x9, x10 => if x10 ≤ (x0.length : Int) then (if x9 = true then (spec_l17Next.j1 k x0 x1 x2 x7 x8 x9 x10) else (if 0 ≤ (wrap64 ((x7.length : Int) - 1)) then (if (wrap64 ((x7.length : Int) - 1)) < (x7.length : Int) then (if 0 ≤ x8 then (if x8 < (x2.length : Int) then (spec_l17Next.j1 k x0 x1 x2 (x7.set ((wrap64 ((x7.length : Int) - 1)) : Int).toNat (wrap64 ((rd x7 (wrap64 ((x7.length : Int) - 1))) + (rd x2 x8)))) x8 true x10) else (none)) else (none)) else (none)) else (none))) else (some x7)
def spec_l17Next.j1 : Nat → List Int → Int → List Int → List Int → Int → Bool → Int → Option (List Int)
 | 0, _, _, _, _, _, _, _ => none
 | k + 1, x0, x1, x2, x7, x8, x9, x10 => if x10 = (x0.length : Int) then (some x7) else (if 0 ≤ x10 then (if x10 < (x0.length : Int) then (if (rd x0 x10) = (wrap64 (x1 - 1)) then (if (rd x0 x10) = (wrap64 (x1 - 2)) then (if x7.length < 17592186044416 then (spec_l17Next.l0 k x0 x1 x2 (x7 ++ [0]) (wrap64 (x8 + 1)) false (wrap64 (x10 + 1))) else (none)) else (spec_l17Next.l0 k x0 x1 x2 x7 (wrap64 (x8 + 1)) false (wrap64 (x10 + 1)))) else (if (rd x0 x10) = (wrap64 (x1 - 2)) then (if x7.length < 17592186044416 then (spec_l17Next.l0 k x0 x1 x2 (x7 ++ [0]) x8 false (wrap64 (x10 + 1))) else (none)) else (spec_l17Next.l0 k x0 x1 x2 x7 x8 x9 (wrap64 (x10 + 1))))) else (none)) else (none))
end
def spec_l17Next.f (k : Nat) (l0 : List Int) (a1 : Int) (l2 : List Int) : Option (List Int) := spec_l17Next.l0 k l0 a1 l2 (([0] : List Int)) 0 false 0
def spec_l17Next.T8 : Bool × List (List Nat × List Nat) := (true, [([], []), ([], []), ([1], [1]), ([2], [2]), ([], []), ([], []), ([5], [5]), ([6], [6]), ([4, 7], [4, 7]), ([8], [8]), ([], []), ([], []), ([10, 11], [10, 11]), ([12], [12]), ([9, 13], [9, 13]), ([0, 3, 0, 1, 2, 3, 4, 5, 6, 7, 8, 9, 10, 11, 12, 13, 14], [0, 3]), ([15, 14, 0, 1, 2, 3, 4, 5, 6, 7, 8, 9, 10, 11, 12, 13, 14], [14, 15])])
def spec_l17Next.B8 : List Nat := [0, 0, 2, 6, 0, 0, 32, 96, 240, 496, 0, 0, 3072, 7168, 16368, 32767, 65535]
theorem spec_l17Next.tab8 : rtab .any (opsOf Try.f93 8) = spec_l17Next.T8 := by kernel_rfl
theorem spec_l17Next.bits8 : waitsOk spec_l17Next.T8.2 spec_l17Next.B8 = true := by kernel_rfl
set_option maxHeartbeats 8000000 in
set_option maxRecDepth 100000 in
theorem spec_l17Next.calls (k : Nat) (A0 : Option Addr) (c0 : Nat) (l0 : List Int) (a1 : Int) (A2 : Option Addr) (c2 : Nat) (l2 : List Int) (r : List Int) (w : World) (hr0 : Kd.C (Kd.int .i64) w A0 l0.length l0) (hc0 : l0.length ≤ c0) (hr2 : Kd.C (Kd.int .i64) w A2 l2.length l2) (hc2 : l2.length ≤ c2) (h : spec_l17Next.f k l0 a1 l2 = some r) :
  Calls Try.prog 93 #[.slice A0 l0.length c0, .int .i64 a1, .slice A2 l2.length c2] w fun e w' => ∃ v0_ : Value, e = .returned (v0_) ∧ Kd.R (Kd.int .i64) 3 w' w.heap.size (fun _ => True) v0_ r ∧ Below w.heap.size w w' := by
 have HR0 := am_ hr0; have HC0 := am_ hc0; clear hr0 hc0; have HR2 := am_ hr2; have HC2 := am_ hc2; clear hr2 hc2; have HB := am_ (Below.refl w.heap.size w); have H : (spec_l17Next.l0 k l0 a1 l2 (([0] : List Int)) 0 false 0) = some r := h; clear h; obtain ⟨y746, hy746⟩ : ∃ y_ : List Int, y_ = (([0] : List Int)) := ⟨_, rfl⟩; replace H : (spec_l17Next.l0 k l0 a1 l2 y746 0 false 0) = some r := yH_ hy746 H; have Ny746 := am_ hy746; clear hy746; have H' := am_ H; clear H; go_enter Try.func93, Try.ntmps93
 go_wp2_with (first | ((with_reducible refine gd_ 11 rfl ?_); refine Kd.R_lit (Kd.int .i64) _ 3 ?hg (N := 11) ?hd (xs := ([0] : List Int)) (inner := [.int .i64 0]) (ok := fun _ => True) (okp := fun _ => True) ?hr ?hp (fun _ hk => hk) trivial (Below.refl _ _) (Nat.le_refl _) (by simp) ?_; (case hd => rfl); (case hg => rfl); (case hr => first | (go_simp; done) | (go_simp; rfl)); (case hp => exact (Reps.one (show Kd.M (Kd.int .i64) _ _ _ 0 [.int .i64 0] from rfl) (Reps.none _ _))); intro v747 w4 ho5 hb hg_ hnew_; clear hg_ hnew_; (first | rw [← Ny746.out] at ho5 | (simp only [Int.reduceToNat] at ho5; rw [← Ny746.out] at ho5)); have HO748 := rl0_ ho5 HB; replace HB := bs0_ HB hb; clear hb ho5))
 go_loopg [7, 8, 9, 10] k (fun kq v7 v8 v9 v10 w' => ∃ (x7_1 : List Int) (x8_1 : Int) (x9_1 : Bool) (x10_1 : Int), v8 = .int .i64 x8_1 ∧ v9 = .bool x9_1 ∧ v10 = .int .i64 x10_1 ∧ Aside0 (spec_l17Next.l0 kq l0 a1 l2 x7_1 x8_1 x9_1 x10_1 = some r) ∧ Aside0 (kq ≤ k) ∧ Aside0 (Kd.R (Kd.int .i64) 3 w' w.heap.size (fun _ => True) v7 x7_1) ∧ Aside0 (Below w.heap.size w w'))
 case atStart => exact ⟨(y746), (0), (false), (0), vt_, vt_, vt_, H', ⟨Nat.le_refl _⟩, rX_ HO748, bX0_ HB⟩
 case round =>
  clear H'; obtain ⟨x7_1, x8_1, x9_1, x10_1, rfl, rfl, rfl, HA, HK1, HO_7, HB⟩ := hrel; cases gk with
  | zero => exact absurd HA.out (by simp [spec_l17Next.l0])
  | succ k1 =>
   have H := HA.out; clear HA; simp only [spec_l17Next.l0] at H
   by_cases c6 : x10_1 ≤ (l0.length : Int)
   ·rw [if_pos c6] at H; have c6b0 := decide_eq_true c6; clear c6; have HC7 := am_ H; clear H; go_upto_if 19 with (fail)
    go_cut [9] (fun v9 wc => ∃ (kq : Nat) (x7_6 : List Int) (x9_6 : Bool), v9 = .bool x9_6 ∧ Aside0 (spec_l17Next.j1 kq l0 a1 l2 x7_6 x8_1 x9_6 x10_1 = some r) ∧ Aside0 (kq ≤ k1) ∧ Aside0 (Kd.R (Kd.int .i64) 3 wc w.heap.size (fun _ => True) u7 x7_6) ∧ Aside0 (Below w.heap.size w wc))
    case first =>
     have H := HC7.out; clear HC7; by_cases c8 : x9_1 = true
     ·subst c8; replace H := ifT_ H; have H' := am_ H; clear H; go_wp2; go_meet
      case rel => exact ⟨_, (x7_1), (true), vt_, H', ⟨by have := HK1.out; first | omega | exact Nat.le_refl _⟩, rX_ HO_7, bX0_ HB⟩
     ·replace c8 := Bool.eq_false_iff.mpr c8; subst c8; replace H := ifF_ H; obtain ⟨ji9, hji9⟩ : ∃ j_ : Int, (wrap64 ((x7_1.length : Int) - 1)) = j_ := ⟨_, rfl⟩; first | rw [hji9] at H | simp only [hji9] at H
      have hji9w : (IntKind.i64.wrap ((x7_1.length : Int) - 1)) = ji9 := (i64_w _).trans hji9; by_cases c10 : 0 ≤ (ji9)
      ·rw [if_pos c10] at H; have c10b0 := decide_eq_true c10; clear c10; (first | rw [c10b0] | (simp only [i64_w, i32_w]; rw [c10b0]) | skip)
       by_cases c11 : (ji9) < (x7_1.length : Int)
       ·rw [if_pos c11] at H; have c11b0 := decide_eq_true c11; clear c11; by_cases c12 : 0 ≤ x8_1
        ·rw [if_pos c12] at H; have c12b0 := decide_eq_true c12; clear c12; by_cases c13 : x8_1 < (l2.length : Int)
         ·rw [if_pos c13] at H; have c13b0 := decide_eq_true c13; clear c13; obtain ⟨y751, hy751⟩ : ∃ y_ : List Int, y_ = (x7_1.set ((ji9) : Int).toNat (wrap64 ((rd x7_1 (ji9)) + (rd l2 x8_1)))) := ⟨_, rfl⟩; replace H : (spec_l17Next.j1 k1 l0 a1 l2 y751 x8_1 true x10_1) = some r := yH_ hy751 H; have Ny751 := am_ hy751; clear hy751; have H' := am_ H; clear H; try go_wp2
          replace HO_7 := am_ (Kd.R_drew HO_7.out); replace HB := bd_ HB; obtain ⟨Ao16, co16, eo16⟩ := Kd.R_slice HO_7.out; (first | subst eo16 | (injection eo16 with f1_ f2_ f3_; have f4_ := f1_.symm; have f5_ := f3_.symm; clear f1_ f2_ f3_; subst f4_; subst f5_))
          have p749 : 0 ≤ ((ji9) : Int) := oda_; have q749 : (ji9) < (x7_1.length : Int) := oda_; obtain ⟨ad749, e749, hx749_0⟩ := Kd.at_int (Kd.R_reads' HO_7.out).2.2 (ji9) p749 q749; cases e749; replace p749 := eq_true p749; replace q749 := eq_true q749; have p750 : 0 ≤ (x8_1 : Int) := oda_; have q750 : x8_1 < (l2.length : Int) := oda_; obtain ⟨ad750, e750, hx750_0⟩ := Kd.at_int HR2.out x8_1 p750 q750; have hw750_0 := hx750_0; cases e750; replace hx750_0 := hc_ HB hx750_0; replace p750 := eq_true p750; replace q750 := eq_true q750; have p14 : 0 ≤ ((ji9) : Int) := oda_; have q14 : ((ji9) : Int) < ((x7_1.length : Int) : Int) := oda_; obtain ⟨go14, co14, eo14, gb14, gl14, cl14, HG14⟩ := Kd.R_form HO_7.out (by omega); (first | cases eo14 | (injection eo14 with ea_ en_ ec_; (first | subst ea_ | (injection ea_ with ea_; subst ea_)); subst ec_; clear en_))
          have GB14 := am_ gb14; have GG14 := am_ HG14; clear gb14 gl14 HG14; (first | simp only [add_plain] at hx749_0 | skip)
          obtain ⟨hx14_0, hf14_0⟩ := Kd.R_celln 0 HO_7.out ((ji9) : Int) p14 q14; replace p14 := eq_true p14; replace q14 := eq_true q14; have HP17 := Kd.R_putn HO_7.out ((ji9) : Int) (wrap64 ((rd x7_1 (ji9)) + (rd l2 x8_1))); rw [← Ny751.out] at HP17; have HQ17 := am_ HP17; clear HP17; refine start_ (n := 17) (S := fun w' => w'.cell? ⟨go14, ((ji9)).toNat, none⟩ = some (.int .i64 (rd x7_1 (ji9))) ∧ w'.cell? (ad750.add (x8_1).toNat) = some (.int .i64 (rd l2 x8_1))) (ds := [16]) #[false, false, false, false, false, false, false, false, false, false, false, false, false, false, false, false, false] (by kernel_rfl) rfl rfl ⟨hx749_0, (hc_ HB hw750_0)⟩ (fun hHeld => ?_); refine with_tabW spec_l17Next.tab8 spec_l17Next.bits8 (fun HT_ HW_ => ?_); generalize wr.drew = w15 at HO_7 HB GG14 HQ17 hf14_0 hx14_0 hx749_0 hx750_0 hHeld ⊢
          refine pD_ 0 (some 20) HT_ (h := ?_); refine pD_ 1 (some 21) HT_ (h := ?_); refine pD_ 2 (some 22) HT_ (h := ?_); refine pD_ 3 (some 23) HT_ (h := ?_); refine pD_ 4 (some 24) HT_ (h := ?_); refine pD_ 5 (some 25) HT_ (h := ?_); refine pD_ 6 (some 26) HT_ (h := ?_); refine pD_ 7 (some 27) HT_ (h := ?_); refine pD_ 8 (some 28) HT_ (h := ?_); refine pD_ 10 (some 30) HT_ (h := ?_); refine pD_ 11 (some 31) HT_ (h := ?_); refine pD_ 12 (some 32) HT_ (h := ?_); refine tD2_ 9 (some 29) HT_ HW_ hHeld (h := ?_); refine tD2_ 13 (some 33) HT_ HW_ hHeld (h := ?_); refine pD_ 14 (some 34) HT_ (h := ?_); refine pD_ 15 (some 35) HT_ (h := ?_); refine last_ (i := 16) (N := none) #[true, true, true, true, true, true, true, true, true, true, true, true, true, true, true, true, true] rfl rfl (one_of HT_.out (by kernel_rfl)) (by decide) (fun K hK => ?_); refine skip_ (w1 := ?_) (by rfl) rfl ?_ ?_; rotate_left
          ·go_simp
           rfl
          refine hK.out _ _ ?_; clear hK K; refine done_ (done_of HT_.out (by kernel_rfl)) ?_; try go_wp2
          go_meet
          case rel => exact ⟨_, (y751), (true), vt_, H', ⟨by have := HK1.out; first | omega | exact Nat.le_refl _⟩, rX_ HQ17, bX1_ HB GB14⟩
         ·rw [if_neg c13] at H; exact absurd H (by simp)
        ·rw [if_neg c12] at H; exact absurd H (by simp)
       ·rw [if_neg c11] at H; exact absurd H (by simp)
      ·rw [if_neg c10] at H; exact absurd H (by simp)
    case rest =>
     clear HC7; try clear c6b0
     obtain ⟨kq, x7_6, x9_6, rfl, HA, HJ6, HO_7, HB⟩ := hcut; cases kq with
     | zero => exact absurd HA.out (by simp [spec_l17Next.j1])
     | succ kj6 =>
      have H := HA.out; clear HA; simp only [spec_l17Next.j1] at H
      by_cases c18 : x10_1 = (l0.length : Int)
      ·rw [if_pos c18] at H; obtain ⟨c18b0, c18b1⟩ := eqT_ c18; clear c18; obtain rfl := Option.some.inj H; go_wp2; go_ret; exact ⟨_, by first | rfl | (simp [errW_none, errW_some] <;> rfl) | (simp [*, errW_none, errW_some] <;> rfl), rx_ HO_7.out, bx0 HB.out⟩
      ·rw [if_neg c18] at H; obtain ⟨c18b0, c18b1⟩ := eqF_ c18; by_cases c19 : 0 ≤ x10_1
       ·rw [if_pos c19] at H; have c19b0 := decide_eq_true c19; clear c19; by_cases c20 : x10_1 < (l0.length : Int)
        ·rw [if_pos c20] at H; have c20b0 := decide_eq_true c20; clear c20; by_cases c21 : (rd l0 x10_1) = (wrap64 (a1 - 1))
         ·rw [if_pos c21] at H; obtain ⟨c21b0, c21b1⟩ := eqT_ c21; clear c21; by_cases c22 : (rd l0 x10_1) = (wrap64 (a1 - 2))
          ·rw [if_pos c22] at H; obtain ⟨c22b0, c22b1⟩ := eqT_ c22; clear c22; by_cases c23 : x7_6.length < 17592186044416
           ·rw [if_pos c23] at H; have LMc23 := am_ c23; clear c23; obtain ⟨y754, hy754⟩ : ∃ y_ : List Int, y_ = (x7_6 ++ [0]) := ⟨_, rfl⟩; replace H : (spec_l17Next.l0 kj6 l0 a1 l2 y754 (wrap64 (x8_1 + 1)) false (wrap64 (x10_1 + 1))) = some r := yH_ hy754 H; have Ny754 := am_ hy754; clear hy754; have H' := am_ H; clear H; have p752 : 0 ≤ (x10_1 : Int) := oda_; have q752 : x10_1 < (l0.length : Int) := oda_; obtain ⟨ad752, e752, hx752_0⟩ := Kd.at_int HR0.out x10_1 p752 q752; cases e752; replace hx752_0 := hc_ HB hx752_0; replace p752 := eq_true p752; replace q752 := eq_true q752; have p753 : 0 ≤ (x10_1 : Int) := oda_; have q753 : x10_1 < (l0.length : Int) := oda_; obtain ⟨ad753, e753, hx753_0⟩ := Kd.at_int HR0.out x10_1 p753 q753; obtain rfl : ad752 = ad753 := (by injection e753); replace hx753_0 := hc_ HB hx753_0; replace p753 := eq_true p753; replace q753 := eq_true q753; go_wp2_with (first | ((with_reducible refine gate_builtin (b := .append) (xs := #[.tmp 56, .tmp 57]) rfl ?_); at_builtin; refine Kd.R_append (Kd.int .i64) (w0 := w) w.heap.size rfl (.tmp 56) (.tmp 57) 34 3 (.int .i64 0) 8 rfl Try.underlying34 info3 rfl (by decide) (by omega) u7 x7_6 0 [.int .i64 0] (fun _ => True) (fun _ => False) rfl rfl ?aP (fun _ hk => hk.elim) ?aF ?aO ?aB ?aS ?aL ?_; (case aP => exact rfl); (case aB => exact (bx0 HB.out)); (case aF => exact (fun _ _ => trivial)); (case aO => exact (rx_ HO_7.out)); (case aS => exact (below_size (bx0 HB.out))); (case aL => have := LMc23.out; omega); intro v755 w24 ho hb hg hat; rw [← Ny754.out] at ho; replace HB := am_ hb; have HO756 := am_ ho; clear HO_7; clear ho hb hg hat))
            go_roundg kj6
            case measure => have := HK1.out; have := HJ6.out; omega
            case rel => exact ⟨(y754), (wrap64 (x8_1 + 1)), (false), (wrap64 (x10_1 + 1)), vt_, vt_, vt_, H', hl2_ HK1 HJ6, rX_ HO756, bX0_ HB⟩
           ·rw [if_neg c23] at H; exact absurd H (by simp)
          ·rw [if_neg c22] at H; obtain ⟨c22b0, c22b1⟩ := eqF_ c22; have H' := am_ H; clear H; have p752 : 0 ≤ (x10_1 : Int) := oda_; have q752 : x10_1 < (l0.length : Int) := oda_; obtain ⟨ad752, e752, hx752_0⟩ := Kd.at_int HR0.out x10_1 p752 q752; cases e752; replace hx752_0 := hc_ HB hx752_0; replace p752 := eq_true p752; replace q752 := eq_true q752; have p753 : 0 ≤ (x10_1 : Int) := oda_; have q753 : x10_1 < (l0.length : Int) := oda_; obtain ⟨ad753, e753, hx753_0⟩ := Kd.at_int HR0.out x10_1 p753 q753; obtain rfl : ad752 = ad753 := (by injection e753); replace hx753_0 := hc_ HB hx753_0; replace p753 := eq_true p753; replace q753 := eq_true q753; go_wp2; go_roundg kj6
           case measure => have := HK1.out; have := HJ6.out; omega
           case rel => exact ⟨(x7_6), (wrap64 (x8_1 + 1)), (false), (wrap64 (x10_1 + 1)), vt_, vt_, vt_, H', hl2_ HK1 HJ6, rX_ HO_7, bX0_ HB⟩
         ·rw [if_neg c21] at H; obtain ⟨c21b0, c21b1⟩ := eqF_ c21; by_cases c25 : (rd l0 x10_1) = (wrap64 (a1 - 2))
          ·rw [if_pos c25] at H; obtain ⟨c25b0, c25b1⟩ := eqT_ c25; clear c25; by_cases c26 : x7_6.length < 17592186044416
           ·rw [if_pos c26] at H; have LMc26 := am_ c26; clear c26; obtain ⟨y758, hy758⟩ : ∃ y_ : List Int, y_ = (x7_6 ++ [0]) := ⟨_, rfl⟩; replace H : (spec_l17Next.l0 kj6 l0 a1 l2 y758 x8_1 false (wrap64 (x10_1 + 1))) = some r := yH_ hy758 H; have Ny758 := am_ hy758; clear hy758; have H' := am_ H; clear H; have p752 : 0 ≤ (x10_1 : Int) := oda_; have q752 : x10_1 < (l0.length : Int) := oda_; obtain ⟨ad752, e752, hx752_0⟩ := Kd.at_int HR0.out x10_1 p752 q752; cases e752; replace hx752_0 := hc_ HB hx752_0; replace p752 := eq_true p752; replace q752 := eq_true q752; have p757 : 0 ≤ (x10_1 : Int) := oda_; have q757 : x10_1 < (l0.length : Int) := oda_; obtain ⟨ad757, e757, hx757_0⟩ := Kd.at_int HR0.out x10_1 p757 q757; obtain rfl : ad752 = ad757 := (by injection e757); replace hx757_0 := hc_ HB hx757_0; replace p757 := eq_true p757; replace q757 := eq_true q757; go_wp2_with (first | ((with_reducible refine gate_builtin (b := .append) (xs := #[.tmp 56, .tmp 57]) rfl ?_); at_builtin; refine Kd.R_append (Kd.int .i64) (w0 := w) w.heap.size rfl (.tmp 56) (.tmp 57) 34 3 (.int .i64 0) 8 rfl Try.underlying34 info3 rfl (by decide) (by omega) u7 x7_6 0 [.int .i64 0] (fun _ => True) (fun _ => False) rfl rfl ?aP (fun _ hk => hk.elim) ?aF ?aO ?aB ?aS ?aL ?_; (case aP => exact rfl); (case aB => exact (bx0 HB.out)); (case aF => exact (fun _ _ => trivial)); (case aO => exact (rx_ HO_7.out)); (case aS => exact (below_size (bx0 HB.out))); (case aL => have := LMc26.out; omega); intro v759 w27 ho hb hg hat; rw [← Ny758.out] at ho; replace HB := am_ hb; have HO760 := am_ ho; clear HO_7; clear ho hb hg hat))
            go_roundg kj6
            case measure => have := HK1.out; have := HJ6.out; omega
            case rel => exact ⟨(y758), (x8_1), (false), (wrap64 (x10_1 + 1)), vt_, vt_, vt_, H', hl2_ HK1 HJ6, rX_ HO760, bX0_ HB⟩
           ·rw [if_neg c26] at H; exact absurd H (by simp)
          ·rw [if_neg c25] at H; obtain ⟨c25b0, c25b1⟩ := eqF_ c25; have H' := am_ H; clear H; have p752 : 0 ≤ (x10_1 : Int) := oda_; have q752 : x10_1 < (l0.length : Int) := oda_; obtain ⟨ad752, e752, hx752_0⟩ := Kd.at_int HR0.out x10_1 p752 q752; cases e752; replace hx752_0 := hc_ HB hx752_0; replace p752 := eq_true p752; replace q752 := eq_true q752; have p757 : 0 ≤ (x10_1 : Int) := oda_; have q757 : x10_1 < (l0.length : Int) := oda_; obtain ⟨ad757, e757, hx757_0⟩ := Kd.at_int HR0.out x10_1 p757 q757; obtain rfl : ad752 = ad757 := (by injection e757); replace hx757_0 := hc_ HB hx757_0; replace p757 := eq_true p757; replace q757 := eq_true q757; go_wp2; go_roundg kj6
           case measure => have := HK1.out; have := HJ6.out; omega
           case rel => exact ⟨(x7_6), (x8_1), (x9_6), (wrap64 (x10_1 + 1)), vt_, vt_, vt_, H', hl2_ HK1 HJ6, rX_ HO_7, bX0_ HB⟩
        ·rw [if_neg c20] at H; exact absurd H (by simp)
       ·rw [if_neg c19] at H; exact absurd H (by simp)
   ·rw [if_neg c6] at H; have c6b0 := decide_eq_false c6; clear c6; obtain rfl := Option.some.inj H; go_wp2; go_ret; exact ⟨_, by first | rfl | (simp [errW_none, errW_some] <;> rfl) | (simp [*, errW_none, errW_some] <;> rfl), rx_ HO_7.out, bx0 HB.out⟩
def spec_CountWays.l0 : Nat → List Int → List Int → Int → Option (Int)
 | 0, _, _, _ => none
 | k + 1, x1, x5, x6 => if x6 ≥ 1 then ((spec_l17Next.f k x1 x6 x5).bind fun t765 => (spec_CountWays.l0 k x1 t765 (wrap64 (x6 - 1)))) else (if 0 < (x5.length : Int) then (some (rd x5 0)) else (none))
def spec_CountWays.f (k : Nat) (a0 : Int) (l1 : List Int) : Option (Int) := (spec_IsWiring.f k a0 l1).bind fun t761 => (if t761 = true then (spec_CountWays.l0 k l1 (([1] : List Int)) a0) else (some (-1)))
set_option maxHeartbeats 8000000 in
set_option maxRecDepth 100000 in
theorem spec_CountWays.calls (k : Nat) (a0 : Int) (A1 : Option Addr) (c1 : Nat) (l1 : List Int) (r : Int) (w : World) (hr1 : Kd.C (Kd.int .i64) w A1 l1.length l1) (hc1 : l1.length ≤ c1) (h : spec_CountWays.f k a0 l1 = some r) :
  Calls Try.prog 20 #[.int .i64 a0, .slice A1 l1.length c1] w fun e w' => e = .returned (.int .i64 r) ∧ Below w.heap.size w w' := by
 have HR1 := am_ hr1; have HC1 := am_ hc1; clear hr1 hc1; have HB := am_ (Below.refl w.heap.size w); have H : ((spec_IsWiring.f k a0 l1).bind fun t761 => (if t761 = true then (spec_CountWays.l0 k l1 (([1] : List Int)) a0) else (some (-1)))) = some r := h; clear h; obtain ⟨t761, A3, H⟩ := bnd_ H; by_cases c4 : t761 = true
 ·subst c4; replace H := ifT_ H; obtain ⟨y762, hy762⟩ : ∃ y_ : List Int, y_ = (([1] : List Int)) := ⟨_, rfl⟩; replace H : (spec_CountWays.l0 k l1 y762 a0) = some r := yH_ hy762 H; have Ny762 := am_ hy762; clear hy762; have H' := am_ H; clear H; go_enter Try.func20, Try.ntmps20
  go_wp2_with (first | ((with_reducible refine gc_ 78 rfl ?_); refine gL_ (some 9) Try.func78 #[.int .i64 a0, .slice A1 l1.length c1] ?_; (with_reducible refine (spec_IsWiring.calls k a0 _ _ l1 true _ ?side1 ?side2 A3.out).mono ?_); (case side1 => repeat (first | exact HR1.out | (with_reducible refine Kd.C_alloc ?_ _) | (with_reducible refine Kd.C_drewN ?_ _) | (with_reducible refine Kd.C_drew ?_))); (case side2 => exact HC1.out); rintro e w5 ⟨rfl, hb⟩; refine ⟨_, rfl, ?_⟩; replace HB := bs0_ HB hb; try clear hb) | ((with_reducible refine gd_ 11 rfl ?_); refine Kd.R_lit (Kd.int .i64) _ 3 ?hg (N := 11) ?hd (xs := ([1] : List Int)) (inner := [.int .i64 1]) (ok := fun _ => True) (okp := fun _ => True) ?hr ?hp (fun _ hk => hk) trivial (Below.refl _ _) (Nat.le_refl _) (by simp) ?_; (case hd => rfl); (case hg => rfl); (case hr => first | (go_simp; done) | (go_simp; rfl)); (case hp => exact (Reps.one (show Kd.M (Kd.int .i64) _ _ _ 1 [.int .i64 1] from rfl) (Reps.none _ _))); intro v763 w6 ho7 hb hg_ hnew_; clear hg_ hnew_; (first | rw [← Ny762.out] at ho7 | (simp only [Int.reduceToNat] at ho7; rw [← Ny762.out] at ho7)); have HO764 := rl0_ ho7 HB; replace HB := bs0_ HB hb; clear hb ho7))
  go_loopg [5, 6] k (fun kq v5 v6 w' => ∃ (x5_1 : List Int) (x6_1 : Int), v6 = .int .i64 x6_1 ∧ Aside0 (spec_CountWays.l0 kq l1 x5_1 x6_1 = some r) ∧ Aside0 (kq ≤ k) ∧ Aside0 (Kd.R (Kd.int .i64) 3 w' w.heap.size (fun _ => True) v5 x5_1) ∧ Aside0 (Below w.heap.size w w'))
  case atStart => exact ⟨(y762), (a0), vt_, H', ⟨Nat.le_refl _⟩, rX_ HO764, bX0_ HB⟩
  case round =>
   clear H'; try clear c4
   obtain ⟨x5_1, x6_1, rfl, HA, HK1, HO_5, HB⟩ := hrel; cases gk with
   | zero => exact absurd HA.out (by simp [spec_CountWays.l0])
   | succ k1 =>
    have H := HA.out; clear HA; simp only [spec_CountWays.l0] at H
    by_cases c8 : x6_1 ≥ 1
    ·rw [if_pos c8] at H; have c8b0 := decide_eq_true c8; clear c8; obtain ⟨t765, A9, H⟩ := bnd_ H; have H' := am_ H; clear H; obtain ⟨Ao10, co10, eo10⟩ := Kd.R_slice HO_5.out; subst eo10; go_wp2_with (first | ((with_reducible refine gc_ 93 rfl ?_); refine gL_ (some 20) Try.func93 #[.slice A1 l1.length c1, .int .i64 x6_1, .slice Ao10 x5_1.length co10] ?_; (with_reducible refine (spec_l17Next.calls k1 _ _ l1 x6_1 _ _ x5_1 t765 _ ?side1 ?side2 ?side3 ?side4 A9.out).mono ?_); (case side1 => exact cS_ HR1 HB); (case side2 => exact HC1.out); (case side3 => exact cR_ HO_5); (case side4 => exact (Kd.R_reads' HO_5.out).2.1); rintro e w11 ⟨v766, rfl, ho0, hb⟩; refine ⟨_, rfl, ?_⟩; have HO767 := am_ (Kd.R_lower (Kd.R_new' ho0 (Kd.R_lt (rx_ HO_5.out))) (below_size (bx0 HB.out))); replace HO_5 := re_ HO_5 ho0 hb; replace HB := bs0_ HB hb; try clear hb; (try clear ho0)))
     go_roundg k1
     case measure => have := HK1.out; omega
     case rel => exact ⟨(t765), (wrap64 (x6_1 - 1)), vt_, H', hl_ HK1, ⟨by refine rx_ ?_; exact Kd.R_mono HO767.out (fun _ hk => trivial)⟩, bX0_ HB⟩
    ·rw [if_neg c8] at H; have c8b0 := decide_eq_false c8; clear c8; by_cases c12 : 0 < (x5_1.length : Int)
     ·rw [if_pos c12] at H; have c12b0 := decide_eq_true c12; have c12b1 : decide (0 < x5_1.length) = true := decide_eq_true (by omega); clear c12; obtain rfl := Option.some.inj H; obtain ⟨Ao13, co13, eo13⟩ := Kd.R_slice HO_5.out; subst eo13; have p768 : 0 ≤ (0 : Int) := (by omega); have q768 : 0 < (x5_1.length : Int) := oda_; obtain ⟨ad768, e768, hx768_0⟩ := Kd.at_int (Kd.R_reads' HO_5.out).2.2 0 p768 q768; cases e768; have qi768 : (0 < x5_1.length) = True := eq_true (by omega); (try rw [show ((0 : Int)).toNat = 0 from rfl] at hx768_0)
      (try rw [Addr.add_zero'] at hx768_0)
      replace p768 := eq_true p768; replace q768 := eq_true q768; go_wp2; go_ret; exact ⟨er_, bx0 HB.out⟩
     ·rw [if_neg c12] at H; exact absurd H (by simp)
 ·replace c4 := Bool.eq_false_iff.mpr c4; subst c4; replace H := ifF_ H; obtain rfl := Option.some.inj H; go_enter Try.func20, Try.ntmps20
  go_wp2_with (first | ((with_reducible refine gc_ 78 rfl ?_); refine gL_ (some 9) Try.func78 #[.int .i64 a0, .slice A1 l1.length c1] ?_; (with_reducible refine (spec_IsWiring.calls k a0 _ _ l1 false _ ?side1 ?side2 A3.out).mono ?_); (case side1 => repeat (first | exact HR1.out | (with_reducible refine Kd.C_alloc ?_ _) | (with_reducible refine Kd.C_drewN ?_ _) | (with_reducible refine Kd.C_drew ?_))); (case side2 => exact HC1.out); rintro e w14 ⟨rfl, hb⟩; refine ⟨_, rfl, ?_⟩; replace HB := bs0_ HB hb; try clear hb))
  go_ret; exact ⟨er_, bx0 HB.out⟩
def laws_toIntS.l0 : Nat → List Int → List Int → Int → Option (List Int)
 | 0, _, _, _ => none
 | k + 1, x0, x3, x4 => if x4 < (x0.length : Int) then (if 0 ≤ x4 then (if x4 < (x3.length : Int) then (laws_toIntS.l0 k x0 (x3.set (x4 : Int).toNat (rd x0 x4)) (wrap64 (x4 + 1))) else (none)) else (none)) else (some x3)
def laws_toIntS.f (k : Nat) (l0 : List Int) : Option (List Int) := if 0 ≤ (l0.length : Int) then (if ((l0.length : Int) : Int).toNat ≤ 35184372088832 then (laws_toIntS.l0 k l0 (List.replicate ((l0.length : Int) : Int).toNat 0) 0) else (none)) else (none)
set_option maxHeartbeats 8000000 in
set_option maxRecDepth 100000 in
theorem laws_toIntS.calls (k : Nat) (A0 : Option Addr) (c0 : Nat) (l0 : List Int) (r : List Int) (w : World) (hr0 : Kd.C (Kd.int .i64) w A0 l0.length l0) (hc0 : l0.length ≤ c0) (h : laws_toIntS.f k l0 = some r) :
  Calls Try.prog 21 #[.slice A0 l0.length c0] w fun e w' => ∃ v0_ : Value, e = .returned (v0_) ∧ Kd.R (Kd.int .i64) 3 w' w.heap.size (fun _ => True) v0_ r ∧ Below w.heap.size w w' := by
 have HR0 := am_ hr0; have HC0 := am_ hc0; clear hr0 hc0; have HB := am_ (Below.refl w.heap.size w); have H : (if 0 ≤ (l0.length : Int) then (if ((l0.length : Int) : Int).toNat ≤ 35184372088832 then (laws_toIntS.l0 k l0 (List.replicate ((l0.length : Int) : Int).toNat 0) 0) else (none)) else (none)) = some r := h; clear h; by_cases c2 : 0 ≤ (l0.length : Int)
 ·rw [if_pos c2] at H; have c2b0 := eq_true c2; have c2b1 := decide_eq_true c2; clear c2; by_cases c3 : ((l0.length : Int) : Int).toNat ≤ 35184372088832
  ·rw [if_pos c3] at H; have c3b0 := eq_true c3; have c3b1 := decide_eq_true c3; clear c3; obtain ⟨y769, hy769⟩ : ∃ y_ : List Int, y_ = (List.replicate ((l0.length : Int) : Int).toNat 0) := ⟨_, rfl⟩; replace H : (laws_toIntS.l0 k l0 y769 0) = some r := yH_ hy769 H; have Ny769 := am_ hy769; clear hy769; have H' := am_ H; clear H; go_enter Try.func21, Try.ntmps21
   go_wp2_with (first | ((with_reducible refine gd_ 7 rfl ?_); refine Kd.R_make (Kd.int .i64) _ 3 rfl (N := 7) rfl 34 _ _ rfl (l0.length : Int) rfl rfl Try.underlying34 (.int .i64 0) 8 info3 rfl (by decide) (by omega) 0 (ok := fun _ => True) (okp := fun _ => True) rfl (fun _ hk => hk) trivial (oda_) (Nat.le_trans (Nat.mul_le_mul_right _ (oda_ : (l0.length : Int).toNat ≤ 35184372088832)) (by omega)) (Below.refl _ _) (Nat.le_refl _) ?_; intro v770 w4 ho5 hb hg_ hnew_; clear hg_ hnew_; (first | rw [← Ny769.out] at ho5 | (simp only [Int.reduceToNat] at ho5; rw [← Ny769.out] at ho5)); have HO771 := rl0_ ho5 HB; replace HB := bs0_ HB hb; clear hb ho5))
   go_loopg [4] k (fun kq v4 w' => ∃ (x3_1 : List Int) (x4_1 : Int), v4 = .int .i64 x4_1 ∧ Aside0 (laws_toIntS.l0 kq l0 x3_1 x4_1 = some r) ∧ Aside0 (kq ≤ k) ∧ Aside0 (Kd.R (Kd.int .i64) 3 w' w.heap.size (fun _ => True) v770 x3_1) ∧ Aside0 (Below w.heap.size w w'))
   case atStart => exact ⟨(y769), (0), vt_, H', ⟨Nat.le_refl _⟩, rX_ HO771, bX0_ HB⟩
   case round =>
    clear H'; try clear c2b0 c2b1 c3b0 c3b1
    obtain ⟨x3_1, x4_1, rfl, HA, HK1, HO_3, HB⟩ := hrel; cases gk with
    | zero => exact absurd HA.out (by simp [laws_toIntS.l0])
    | succ k1 =>
     have H := HA.out; clear HA; simp only [laws_toIntS.l0] at H
     by_cases c6 : x4_1 < (l0.length : Int)
     ·rw [if_pos c6] at H; have c6b0 := decide_eq_true c6; clear c6; by_cases c7 : 0 ≤ x4_1
      ·rw [if_pos c7] at H; have c7b0 := decide_eq_true c7; clear c7; by_cases c8 : x4_1 < (x3_1.length : Int)
       ·rw [if_pos c8] at H; have c8b0 := decide_eq_true c8; clear c8; obtain ⟨y773, hy773⟩ : ∃ y_ : List Int, y_ = (x3_1.set (x4_1 : Int).toNat (rd l0 x4_1)) := ⟨_, rfl⟩; replace H : (laws_toIntS.l0 k1 l0 y773 (wrap64 (x4_1 + 1))) = some r := yH_ hy773 H; have Ny773 := am_ hy773; clear hy773; have H' := am_ H; clear H; have p772 : 0 ≤ (x4_1 : Int) := oda_; have q772 : x4_1 < (l0.length : Int) := oda_; obtain ⟨ad772, e772, hx772_0⟩ := Kd.at_int HR0.out x4_1 p772 q772; cases e772; replace hx772_0 := hc_ HB hx772_0; replace p772 := eq_true p772; replace q772 := eq_true q772; have p9 : 0 ≤ (x4_1 : Int) := oda_; have q9 : (x4_1 : Int) < ((x3_1.length : Int) : Int) := oda_; obtain ⟨go9, co9, eo9, gb9, gl9, cl9, HG9⟩ := Kd.R_form HO_3.out (by omega); (first | cases eo9 | (injection eo9 with ea_ en_ ec_; (first | subst ea_ | (injection ea_ with ea_; subst ea_)); subst ec_; clear en_))
        have GB9 := am_ gb9; have GG9 := am_ HG9; clear gb9 gl9 HG9; obtain ⟨hx9_0, hf9_0⟩ := Kd.R_celln 0 HO_3.out (x4_1 : Int) p9 q9; replace p9 := eq_true p9; replace q9 := eq_true q9; have HP10 := Kd.R_putg HO_3.out (x4_1 : Int) (rd l0 x4_1); go_wp2_with (first | ((with_reducible refine gate_store (t := 3) (p := 20) rfl ?_); refine store_event (t := 3) (p := 20) (v := ?vo_w11) (w1 := (wr.setCell ⟨go9, (x4_1 : Int).toNat, none⟩ (.int .i64 (rd l0 x4_1)))) ?hg ?ho ?hn ?hr ?_; (case ho => rfl); (case hg => rfl); (case hn => rfl); (case hr => first | (go_simp; done) | (go_simp; rfl)); intro w11 hw; have hg : wr.grownBy w11 (some go9) := (by rw [hw]; exact HP10.2); have hp_ : Kd.R (Kd.int .i64) 3 w11 w.heap.size (fun _ => True) (.slice (some ⟨go9, 0, none⟩) x3_1.length co9) y773 := (by rw [hw, Ny773.out]; exact HP10.1); clear HP10; replace HO_3 := am_ hp_; replace HB := am_ ((by rw [hw]; exact below_set (HB.out) GB9.out : Below w.heap.size w w11)); clear hg hw hp_))
        go_roundg k1
        case measure => have := HK1.out; omega
        case rel => exact ⟨(y773), (wrap64 (x4_1 + 1)), vt_, H', hl_ HK1, rX_ HO_3, bX0_ HB⟩
       ·rw [if_neg c8] at H; exact absurd H (by simp)
      ·rw [if_neg c7] at H; exact absurd H (by simp)
     ·rw [if_neg c6] at H; have c6b0 := decide_eq_false c6; clear c6; obtain rfl := Option.some.inj H; go_wp2; go_ret; exact ⟨_, by first | rfl | (simp [errW_none, errW_some] <;> rfl) | (simp [*, errW_none, errW_some] <;> rfl), rx_ HO_3.out, bx0 HB.out⟩
  ·rw [if_neg c3] at H; exact absurd H (by simp)
 ·rw [if_neg c2] at H; exact absurd H (by simp)
def laws_eqIntS.l0 : Nat → List Int → List Int → Int → Option (Bool)
 | 0, _, _, _ => none
 | k + 1, x0, x1, x5 => if x5 < (x0.length : Int) then (if 0 ≤ x5 then (if x5 < (x1.length : Int) then (if (rd x0 x5) = (rd x1 x5) then (laws_eqIntS.l0 k x0 x1 (wrap64 (x5 + 1))) else (some false)) else (none)) else (none)) else (some true)
def laws_eqIntS.f (k : Nat) (l0 : List Int) (l1 : List Int) : Option (Bool) := if (l0.length : Int) = (l1.length : Int) then (laws_eqIntS.l0 k l0 l1 0) else (some false)
set_option maxHeartbeats 8000000 in
set_option maxRecDepth 100000 in
theorem laws_eqIntS.calls (k : Nat) (A0 : Option Addr) (c0 : Nat) (l0 : List Int) (A1 : Option Addr) (c1 : Nat) (l1 : List Int) (r : Bool) (w : World) (hr0 : Kd.C (Kd.int .i64) w A0 l0.length l0) (hc0 : l0.length ≤ c0) (hr1 : Kd.C (Kd.int .i64) w A1 l1.length l1) (hc1 : l1.length ≤ c1) (h : laws_eqIntS.f k l0 l1 = some r) :
  Calls Try.prog 23 #[.slice A0 l0.length c0, .slice A1 l1.length c1] w fun e w' => e = .returned (.bool r) ∧ Drawn0 w w' := by
 have HR0 := am_ hr0; have HC0 := am_ hc0; clear hr0 hc0; have HR1 := am_ hr1; have HC1 := am_ hc1; clear hr1 hc1; have H : (if (l0.length : Int) = (l1.length : Int) then (laws_eqIntS.l0 k l0 l1 0) else (some false)) = some r := h; clear h; by_cases c3 : (l0.length : Int) = (l1.length : Int)
 ·rw [if_pos c3] at H; obtain ⟨c3b0, c3b1⟩ := eqT_ c3; have c3b2 : (l0.length == l1.length) = true := by first | simpa using c3 | (simp at c3 ⊢; omega)
  clear c3; have H' := am_ H; clear H; go_enter Try.func23, Try.ntmps23
  go_wp2; repeat (go_quiet (fail); try go_wp2)
  go_loopg [5] k (fun kq v5 w' => ∃ (x5_1 : Int), v5 = .int .i64 x5_1 ∧ Aside0 (laws_eqIntS.l0 kq l0 l1 x5_1 = some r) ∧ Aside0 (kq ≤ k) ∧ Drawn0 w w')
  case atStart => exact ⟨(0), vt_, H', ⟨Nat.le_refl _⟩, dr_⟩
  case round =>
   clear H'; try clear c3b0 c3b1 c3b2
   obtain ⟨x5_1, rfl, HA, HK1, ⟨m1, rfl⟩⟩ := hrel; cases gk with
   | zero => exact absurd HA.out (by simp [laws_eqIntS.l0])
   | succ k1 =>
    have H := HA.out; clear HA; simp only [laws_eqIntS.l0] at H
    by_cases c4 : x5_1 < (l0.length : Int)
    ·rw [if_pos c4] at H; have c4b0 := decide_eq_true c4; clear c4; by_cases c5 : 0 ≤ x5_1
     ·rw [if_pos c5] at H; have c5b0 := decide_eq_true c5; clear c5; by_cases c6 : x5_1 < (l1.length : Int)
      ·rw [if_pos c6] at H; have c6b0 := decide_eq_true c6; clear c6; by_cases c7 : (rd l0 x5_1) = (rd l1 x5_1)
       ·rw [if_pos c7] at H; obtain ⟨c7b0, c7b1⟩ := eqT_ c7; clear c7; have H' := am_ H; clear H; have p789 : 0 ≤ (x5_1 : Int) := oda_; have q789 : x5_1 < (l0.length : Int) := oda_; obtain ⟨ad789, e789, hx789_0⟩ := Kd.at_int HR0.out x5_1 p789 q789; cases e789; replace p789 := eq_true p789; replace q789 := eq_true q789; have p790 : 0 ≤ (x5_1 : Int) := oda_; have q790 : x5_1 < (l1.length : Int) := oda_; obtain ⟨ad790, e790, hx790_0⟩ := Kd.at_int HR1.out x5_1 p790 q790; cases e790; replace p790 := eq_true p790; replace q790 := eq_true q790; go_wp2; repeat (go_quiet (fail); try go_wp2)
        go_roundg k1
        case measure => have := HK1.out; omega
        case rel => exact ⟨(wrap64 (x5_1 + 1)), vt_, H', hl_ HK1, dr_⟩
       ·rw [if_neg c7] at H; obtain ⟨c7b0, c7b1⟩ := eqF_ c7; obtain rfl := Option.some.inj H; have p789 : 0 ≤ (x5_1 : Int) := oda_; have q789 : x5_1 < (l0.length : Int) := oda_; obtain ⟨ad789, e789, hx789_0⟩ := Kd.at_int HR0.out x5_1 p789 q789; cases e789; replace p789 := eq_true p789; replace q789 := eq_true q789; have p790 : 0 ≤ (x5_1 : Int) := oda_; have q790 : x5_1 < (l1.length : Int) := oda_; obtain ⟨ad790, e790, hx790_0⟩ := Kd.at_int HR1.out x5_1 p790 q790; cases e790; replace p790 := eq_true p790; replace q790 := eq_true q790; go_wp2; repeat (go_quiet (fail); try go_wp2)
        go_ret; exact ⟨by first | rfl | (simp; done) | (simp [*]; done), dr_⟩
      ·rw [if_neg c6] at H; exact absurd H (by simp)
     ·rw [if_neg c5] at H; exact absurd H (by simp)
    ·rw [if_neg c4] at H; have c4b0 := decide_eq_false c4; clear c4; obtain rfl := Option.some.inj H; go_wp2; repeat (go_quiet (fail); try go_wp2)
     go_ret; exact ⟨by first | rfl | (simp; done) | (simp [*]; done), dr_⟩
 ·rw [if_neg c3] at H; obtain ⟨c3b0, c3b1⟩ := eqF_ c3; have c3b2 : (l0.length == l1.length) = false := by first | simpa using c3 | (simp at c3 ⊢; omega)
  obtain rfl := Option.some.inj H; go_enter Try.func23, Try.ntmps23
  go_wp2; repeat (go_quiet (fail); try go_wp2)
  go_ret; exact ⟨by first | rfl | (simp; done) | (simp [*]; done), dr_⟩
def impl_isWires.f (a0 : Int) : Option (Bool) := if a0 ≥ 3 then (some (decide (a0 ≤ 6))) else (some false)
set_option maxHeartbeats 8000000 in
set_option maxRecDepth 100000 in
theorem impl_isWires.calls (a0 : Int) (r : Bool) (w : World) (h : impl_isWires.f a0 = some r) :
  Calls Try.prog 162 #[.int .i64 a0] w fun e w' => e = .returned (.bool r) ∧ Drawn0 w w' := by
 have H : (if a0 ≥ 3 then (some (decide (a0 ≤ 6))) else (some false)) = some r := h; clear h; by_cases c2 : a0 ≥ 3
 ·rw [if_pos c2] at H; have c2b0 := decide_eq_true c2; clear c2; obtain rfl := Option.some.inj H; go_enter Try.func162, Try.ntmps162
  go_wp2; go_ret; exact ⟨by first | rfl | (simp; done) | (simp [*]; done), dr_⟩
 ·rw [if_neg c2] at H; have c2b0 := decide_eq_false c2; clear c2; obtain rfl := Option.some.inj H; go_enter Try.func162, Try.ntmps162
  go_wp2; go_ret; exact ⟨by first | rfl | (simp; done) | (simp [*]; done), dr_⟩
def impl_upTo.l0 : Nat → Int → List Int → Int → Option (List Int)
 | 0, _, _, _ => none
 | k + 1, x0, x3, x4 => if x4 < x0 then (if x3.length < 17592186044416 then (impl_upTo.l0 k x0 (x3 ++ [x4]) (wrap64 (x4 + 1))) else (none)) else (some x3)
def impl_upTo.f (k : Nat) (a0 : Int) : Option (List Int) := impl_upTo.l0 k a0 ([] : List Int) 0
theorem impl_upTo.mono_l : ∀ k, (∀ y0 y1 y2, LeO (impl_upTo.l0 k y0 y1 y2) (impl_upTo.l0 (k + 1) y0 y1 y2))
 | 0 => fun _ _ _ r h => by simp [impl_upTo.l0] at h
 | k + 1 => by
  have ih0 := impl_upTo.mono_l k
  ·intro y0 y1 y2; unfold impl_upTo.l0
   repeat' first | (with_reducible first | apply ih0 | exact LeO.refl _ | exact LeO.none _ | refine LeO.ite ?_ ?_ | refine LeO.bind ?_ (fun _ => ?_)) | exact LeO.none _
theorem impl_upTo.mono : ∀ a0 k, LeO (impl_upTo.f k a0) (impl_upTo.f (k + 1) a0) := by
 intro a0 k; have ih0 := impl_upTo.mono_l k; unfold impl_upTo.f
 repeat' first | (with_reducible first | apply ih0 | exact LeO.refl _ | exact LeO.none _ | refine LeO.ite ?_ ?_ | refine LeO.bind ?_ (fun _ => ?_)) | exact LeO.none _
set_option maxHeartbeats 8000000 in
set_option maxRecDepth 100000 in
theorem impl_upTo.calls (k : Nat) (a0 : Int) (r : List Int) (w : World) (h : impl_upTo.f k a0 = some r) :
  Calls Try.prog 168 #[.int .i64 a0] w fun e w' => ∃ v0_ : Value, e = .returned (v0_) ∧ Kd.R (Kd.int .i64) 3 w' w.heap.size (fun _ => True) v0_ r ∧ Below w.heap.size w w' := by
 have HB := am_ (Below.refl w.heap.size w); have H : (impl_upTo.l0 k a0 ([] : List Int) 0) = some r := h; clear h; have H' := am_ H; clear H; go_enter Try.func168, Try.ntmps168
 go_wp2; go_loopg [3, 4] k (fun kq v3 v4 w' => ∃ (x3_1 : List Int) (x4_1 : Int), v4 = .int .i64 x4_1 ∧ Aside0 (impl_upTo.l0 kq a0 x3_1 x4_1 = some r) ∧ Aside0 (kq ≤ k) ∧ Aside0 (Kd.R (Kd.int .i64) 3 w' w.heap.size (fun _ => True) v3 x3_1) ∧ Aside0 (Below w.heap.size w w'))
 case atStart => exact ⟨(([] : List Int)), (0), vt_, H', ⟨Nat.le_refl _⟩, ⟨by first | exact Kd.R_nil _ _ _ _ _ | exact Kd.N_nil _ _ _ _ _ | exact Kd.V_nil _ _ _ _ _ | exact Kd.Q_nil _ _ _ _ _ | exact Kd.S_nil _ _ _ _ _⟩, bX0_ HB⟩
 case round =>
  clear H'; obtain ⟨x3_1, x4_1, rfl, HA, HK1, HO_3, HB⟩ := hrel; cases gk with
  | zero => exact absurd HA.out (by simp [impl_upTo.l0])
  | succ k1 =>
   have H := HA.out; clear HA; simp only [impl_upTo.l0] at H
   by_cases c2 : x4_1 < a0
   ·rw [if_pos c2] at H; have c2b0 := decide_eq_true c2; clear c2; by_cases c3 : x3_1.length < 17592186044416
    ·rw [if_pos c3] at H; have LMc3 := am_ c3; clear c3; obtain ⟨y774, hy774⟩ : ∃ y_ : List Int, y_ = (x3_1 ++ [x4_1]) := ⟨_, rfl⟩; replace H : (impl_upTo.l0 k1 a0 y774 (wrap64 (x4_1 + 1))) = some r := yH_ hy774 H; have Ny774 := am_ hy774; clear hy774; have H' := am_ H; clear H; go_wp2_with (first | ((with_reducible refine gate_builtin (b := .append) (xs := #[.tmp 10, .tmp 12]) rfl ?_); at_builtin; refine Kd.R_append (Kd.int .i64) (w0 := w) w.heap.size rfl (.tmp 10) (.tmp 12) 34 3 (.int .i64 0) 8 rfl Try.underlying34 info3 rfl (by decide) (by omega) u3 x3_1 x4_1 [.int .i64 x4_1] (fun _ => True) (fun _ => False) rfl rfl ?aP (fun _ hk => hk.elim) ?aF ?aO ?aB ?aS ?aL ?_; (case aP => exact rfl); (case aB => exact (bx0 HB.out)); (case aF => exact (fun _ _ => trivial)); (case aO => exact (rx_ HO_3.out)); (case aS => exact (below_size (bx0 HB.out))); (case aL => have := LMc3.out; omega); intro v775 w4 ho hb hg hat; rw [← Ny774.out] at ho; replace HB := am_ hb; have HO776 := am_ ho; clear HO_3; clear ho hb hg hat))
     go_roundg k1
     case measure => have := HK1.out; omega
     case rel => exact ⟨(y774), (wrap64 (x4_1 + 1)), vt_, H', hl_ HK1, rX_ HO776, bX0_ HB⟩
    ·rw [if_neg c3] at H; exact absurd H (by simp)
   ·rw [if_neg c2] at H; have c2b0 := decide_eq_false c2; clear c2; obtain rfl := Option.some.inj H; go_wp2; go_ret; exact ⟨_, by first | rfl | (simp [errW_none, errW_some] <;> rfl) | (simp [*, errW_none, errW_some] <;> rfl), rx_ HO_3.out, bx0 HB.out⟩
def impl_IsWiring_1.f (l0 : List Int) (a1 : Int) : Option (Unit) := some ()
set_option maxHeartbeats 8000000 in
set_option maxRecDepth 100000 in
theorem impl_IsWiring_1.calls (A0 : Option Addr) (c0 : Nat) (l0 : List Int) (a1 : Int) (w : World) (hr0 : Kd.C (Kd.int .i64) w A0 l0.length l0) (hc0 : l0.length ≤ c0) (h : impl_IsWiring_1.f l0 a1 = some ()) :
  Calls Try.prog 163 #[.slice A0 l0.length c0, .int .i64 a1] w fun e w' => e = .returned (.tuple #[]) ∧ Drawn0 w w' := by
 have HR0 := am_ hr0; have HC0 := am_ hc0; clear hr0 hc0; have H : (some ()) = some () := h; clear h; go_enter Try.func163, Try.ntmps163
 go_wp2; first | go_end0 | ((try simp only [Exit.inBlock, Exit.then]); refine bodyPost_ret (results_none rfl _ _ _) rfl ?_)
 exact ⟨by first | rfl | (simp; done) | (simp [*]; done), dr_⟩
end Go.Proofs.Ytoajlmlobaccdaa.P
