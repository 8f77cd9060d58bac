/- What the law FnExactMutationPath reaches, part 4: functions as plain Lean functions with the proofs that their calls come to them, and plain lemmas over these. Put together by a program (wip/pack.py). -/
import Derived.Test.YtoajlmlobaccdaaKFnExactMutationPathc
namespace Go.Proofs.Ytoajlmlobaccdaa.P
open Go.RowKit Go.Proofs.YtoajlmlobaccdaaW.PrintWords Go.Proofs.YtoajlmlobaccdaaW.PrintLast Go.Proofs.YtoajlmlobaccdaaW.PrintMore
theorem bx0 {p q : Prop} (h : q) (f : q → p := by intro H_; repeat (first | (with_reducible first | exact H_ | apply below_alloc | apply pw_below_drewN | apply below_drew1) | exact H_)) : p := f h
theorem bx1 {p q r0 : Prop} (h : q) (g0 : r0) (f : q → r0 → p := by intro H_ G0_; repeat (first | (with_reducible first | exact H_ | apply below_alloc | apply pw_below_drewN | apply below_drew1 | refine below_set ?_ G0_) | exact H_)) : p := f h g0
theorem bx2 {p q r0 r1 : Prop} (h : q) (g0 : r0) (g1 : r1) (f : q → r0 → r1 → p := by intro H_ G0_ G1_; repeat (first | (with_reducible first | exact H_ | apply below_alloc | apply pw_below_drewN | apply below_drew1 | refine below_set ?_ G0_ | refine below_set ?_ G1_) | exact H_)) : p := f h g0 g1
theorem bx3 {p q r0 r1 r2 : Prop} (h : q) (g0 : r0) (g1 : r1) (g2 : r2) (f : q → r0 → r1 → r2 → p := by intro H_ G0_ G1_ G2_; repeat (first | (with_reducible first | exact H_ | apply below_alloc | apply pw_below_drewN | apply below_drew1 | refine below_set ?_ G0_ | refine below_set ?_ G1_ | refine below_set ?_ G2_) | exact H_)) : p := f h g0 g1 g2
theorem kx_ {p q : Prop} (h : q) (f : q → p := by intro H_; (with_reducible repeat (first | refine blk_drewN ?_ _ | refine blk_drew ?_ | refine blk_alloc ?_ _)); exact H_) : p := f h
theorem rx_ {p q : Prop} (h : q) (f : q → p := by intro H_; (with_reducible repeat (first | apply Kd.R_alloc | apply Kd.R_drewN | apply Kd.R_drew)); exact H_) : p := f h
theorem am_ {p : Prop} (h : p) : Aside0 p := ⟨h⟩
theorem sA_ {α : Type _} {l : List α} {i : Nat} {a : α} : l.toArray.setIfInBounds i a = (l.set i a).toArray := by simp
theorem sZ_ {α : Type _} {x : α} {xs : List α} {a : α} : (x :: xs).set 0 a = a :: xs := rfl
theorem sS_ {α : Type _} {x : α} {xs : List α} {n : Nat} {a : α} : (x :: xs).set (n + 1) a = x :: xs.set n a := rfl
theorem pD_ {P : Program} {md : Region.Mode} {ops : Array Oper} {Q : Exit → Act → World → Prop} {S : World → Prop} {ds : List Nat} {T : Bool × List (List Nat × List Nat)} (i : Nat) (N : Option Tmp) {oi : Oper} {v : Value} {fuel : Nat} {l l' : Array Bool} {a a' : Act} {w : World} (HT_ : Aside0 (rtab md ops = T)) (hi : ops[i]? = some oi := by rfl) (hN : oi.dst = N := by rfl) (_hl : l.setIfInBounds i true = l' := by (simp only [List.setIfInBounds_toArray, List.set_cons_zero, List.set_cons_succ]; rfl)) (hc : anyT T l.toList l'.toList i = true := by kernel_rfl) (hQ : ∀ c a w, Q (.panic c) (a.put oi.dst v) w → Q (.panic c) a w := by exact fun _ _ _ h => h) (hy : Yields P ops oi v a := by (refine Or.inl ⟨by rfl, ?_⟩; intro w'; go_simp; with_reducible rfl)) (ha : a.put N v = a' := by (simp only [Act.put, List.setIfInBounds_toArray, List.set_cons_zero, List.set_cons_succ, i64_w, i32_w]; rfl)) (h : wpAnyLast P md ops Q S ds fuel l' a' w) : wpAnyLast P md ops Q S ds (fuel + 1) l a w := pure_ l' hi hN (any_of HT_.out hc) hQ hy ha h
theorem gL_ {P : Program} {ops : Array Oper} {Q : Exit → Act → World → Prop} {rest : List Oper} {oi : Oper} {a : Act} {w : World} (N : Option Tmp) {f : FuncId} {fn : Func} {as_ : Array Operand} {ts : Array TypeId} (hf : P.funcs[f]? = some fn) (args : Array Value) (h : Calls P f args w fun e w' => ∃ v, e = .returned v ∧ wpList P ops Q rest (a.put N v) w') (hd : oi.dst = N := by rfl) (hg : oi.guard = none := by rfl) (hname : (fn.name == "runtime.NumGoroutine") = false := by kernel_rfl) (hb : fn.body.isSome = true := by rfl) (hop : oi.op = .call { callee := .value (.func f), args := as_, argTypes := ts } := by rfl) (hargs : as_.map a.eval = args := by ((try simp only [List.map_toArray, List.map_cons, List.map_nil]); first | done | rfl | (simp only [List.length_drop, List.length_take]; rfl))) : wpList P ops Q (oi :: rest) a w := goesL_ N hd hg hf hname hb args hop hargs h
theorem tD2_ {P : Program} {md : Region.Mode} {ops : Array Oper} {Q : Exit → Act → World → Prop} {S : World → Prop} {ds : List Nat} {T : Bool × List (List Nat × List Nat)} (i : Nat) (N : Option Tmp) {oi : Oper} {v : Value} {fuel : Nat} {l l' : Array Bool} {a a' : Act} {w : World} (HT_ : Aside0 (rtab md ops = T)) {B : List Nat} (HW_ : Aside0 (waitsOk T.2 B = true)) (hHeld : S w) (hi : ops[i]? = some oi := by rfl) (hN : oi.dst = N := by rfl) (_hl : l.setIfInBounds i true = l' := by (simp only [List.setIfInBounds_toArray, List.set_cons_zero, List.set_cons_succ]; rfl)) (hc : takeW T B ds l.toList l'.toList i = true := by kernel_rfl) (hQ : ∀ c a w, Q (.panic c) (a.put oi.dst v) w → Q (.panic c) a w := by exact fun _ _ _ h => h) (hy : YieldsIf P ops S oi v a := by (refine Or.inl ⟨by rfl, ?_⟩; rintro w' ⟨s0, s1⟩; go_simp; with_reducible rfl)) (ha : a.put N v = a' := by (simp only [Act.put, List.setIfInBounds_toArray, List.set_cons_zero, List.set_cons_succ, i64_w, i32_w]; rfl)) (h : wpAnyLast P md ops Q S ds fuel l' a' w) : wpAnyLast P md ops Q S ds (fuel + 1) l a w := take_ l' hi hN (take_ofW HT_.out HW_.out hc) hQ hy hHeld ha h
theorem tD4_ {P : Program} {md : Region.Mode} {ops : Array Oper} {Q : Exit → Act → World → Prop} {S : World → Prop} {ds : List Nat} {T : Bool × List (List Nat × List Nat)} (i : Nat) (N : Option Tmp) {oi : Oper} {v : Value} {fuel : Nat} {l l' : Array Bool} {a a' : Act} {w : World} (HT_ : Aside0 (rtab md ops = T)) {B : List Nat} (HW_ : Aside0 (waitsOk T.2 B = true)) (hHeld : S w) (hi : ops[i]? = some oi := by rfl) (hN : oi.dst = N := by rfl) (_hl : l.setIfInBounds i true = l' := by (simp only [List.setIfInBounds_toArray, List.set_cons_zero, List.set_cons_succ]; rfl)) (hc : takeW T B ds l.toList l'.toList i = true := by kernel_rfl) (hQ : ∀ c a w, Q (.panic c) (a.put oi.dst v) w → Q (.panic c) a w := by exact fun _ _ _ h => h) (hy : YieldsIf P ops S oi v a := by (refine Or.inl ⟨by rfl, ?_⟩; rintro w' ⟨s0, s1, s2, s3⟩; go_simp; with_reducible rfl)) (ha : a.put N v = a' := by (simp only [Act.put, List.setIfInBounds_toArray, List.set_cons_zero, List.set_cons_succ, i64_w, i32_w]; rfl)) (h : wpAnyLast P md ops Q S ds fuel l' a' w) : wpAnyLast P md ops Q S ds (fuel + 1) l a w := take_ l' hi hN (take_ofW HT_.out HW_.out hc) hQ hy hHeld ha h
theorem tD5_ {P : Program} {md : Region.Mode} {ops : Array Oper} {Q : Exit → Act → World → Prop} {S : World → Prop} {ds : List Nat} {T : Bool × List (List Nat × List Nat)} (i : Nat) (N : Option Tmp) {oi : Oper} {v : Value} {fuel : Nat} {l l' : Array Bool} {a a' : Act} {w : World} (HT_ : Aside0 (rtab md ops = T)) {B : List Nat} (HW_ : Aside0 (waitsOk T.2 B = true)) (hHeld : S w) (hi : ops[i]? = some oi := by rfl) (hN : oi.dst = N := by rfl) (_hl : l.setIfInBounds i true = l' := by (simp only [List.setIfInBounds_toArray, List.set_cons_zero, List.set_cons_succ]; rfl)) (hc : takeW T B ds l.toList l'.toList i = true := by kernel_rfl) (hQ : ∀ c a w, Q (.panic c) (a.put oi.dst v) w → Q (.panic c) a w := by exact fun _ _ _ h => h) (hy : YieldsIf P ops S oi v a := by (refine Or.inl ⟨by rfl, ?_⟩; rintro w' ⟨s0, s1, s2, s3, s4⟩; go_simp; with_reducible rfl)) (ha : a.put N v = a' := by (simp only [Act.put, List.setIfInBounds_toArray, List.set_cons_zero, List.set_cons_succ, i64_w, i32_w]; rfl)) (h : wpAnyLast P md ops Q S ds fuel l' a' w) : wpAnyLast P md ops Q S ds (fuel + 1) l a w := take_ l' hi hN (take_ofW HT_.out HW_.out hc) hQ hy hHeld ha h
theorem tD6_ {P : Program} {md : Region.Mode} {ops : Array Oper} {Q : Exit → Act → World → Prop} {S : World → Prop} {ds : List Nat} {T : Bool × List (List Nat × List Nat)} (i : Nat) (N : Option Tmp) {oi : Oper} {v : Value} {fuel : Nat} {l l' : Array Bool} {a a' : Act} {w : World} (HT_ : Aside0 (rtab md ops = T)) {B : List Nat} (HW_ : Aside0 (waitsOk T.2 B = true)) (hHeld : S w) (hi : ops[i]? = some oi := by rfl) (hN : oi.dst = N := by rfl) (_hl : l.setIfInBounds i true = l' := by (simp only [List.setIfInBounds_toArray, List.set_cons_zero, List.set_cons_succ]; rfl)) (hc : takeW T B ds l.toList l'.toList i = true := by kernel_rfl) (hQ : ∀ c a w, Q (.panic c) (a.put oi.dst v) w → Q (.panic c) a w := by exact fun _ _ _ h => h) (hy : YieldsIf P ops S oi v a := by (refine Or.inl ⟨by rfl, ?_⟩; rintro w' ⟨s0, s1, s2, s3, s4, s5⟩; go_simp; with_reducible rfl)) (ha : a.put N v = a' := by (simp only [Act.put, List.setIfInBounds_toArray, List.set_cons_zero, List.set_cons_succ, i64_w, i32_w]; rfl)) (h : wpAnyLast P md ops Q S ds fuel l' a' w) : wpAnyLast P md ops Q S ds (fuel + 1) l a w := take_ l' hi hN (take_ofW HT_.out HW_.out hc) hQ hy hHeld ha h
theorem tD10_ {P : Program} {md : Region.Mode} {ops : Array Oper} {Q : Exit → Act → World → Prop} {S : World → Prop} {ds : List Nat} {T : Bool × List (List Nat × List Nat)} (i : Nat) (N : Option Tmp) {oi : Oper} {v : Value} {fuel : Nat} {l l' : Array Bool} {a a' : Act} {w : World} (HT_ : Aside0 (rtab md ops = T)) {B : List Nat} (HW_ : Aside0 (waitsOk T.2 B = true)) (hHeld : S w) (hi : ops[i]? = some oi := by rfl) (hN : oi.dst = N := by rfl) (_hl : l.setIfInBounds i true = l' := by (simp only [List.setIfInBounds_toArray, List.set_cons_zero, List.set_cons_succ]; rfl)) (hc : takeW T B ds l.toList l'.toList i = true := by kernel_rfl) (hQ : ∀ c a w, Q (.panic c) (a.put oi.dst v) w → Q (.panic c) a w := by exact fun _ _ _ h => h) (hy : YieldsIf P ops S oi v a := by (refine Or.inl ⟨by rfl, ?_⟩; rintro w' ⟨s0, s1, s2, s3, s4, s5, s6, s7, s8, s9⟩; go_simp; with_reducible rfl)) (ha : a.put N v = a' := by (simp only [Act.put, List.setIfInBounds_toArray, List.set_cons_zero, List.set_cons_succ, i64_w, i32_w]; rfl)) (h : wpAnyLast P md ops Q S ds fuel l' a' w) : wpAnyLast P md ops Q S ds (fuel + 1) l a w := take_ l' hi hN (take_ofW HT_.out HW_.out hc) hQ hy hHeld ha h
theorem ifT_ {α : Sort _} {d : Decidable (true = true)} {a b r : α} (h : @ite α (true = true) d a b = r) : a = r := by rw [if_pos rfl] at h; exact h
theorem ifF_ {α : Sort _} {d : Decidable (false = true)} {a b r : α} (h : @ite α (false = true) d a b = r) : b = r := by rw [if_neg (by simp)] at h; exact h
theorem bnd_ {α β : Type _} {x : Option α} {f : α → Option β} {r : β} (h : x.bind f = some r) : ∃ t, Aside0 (x = some t) ∧ f t = some r := by obtain ⟨t, h1, h2⟩ := Option.bind_eq_some_iff.mp h; exact ⟨t, ⟨h1⟩, h2⟩
theorem eqT_ {α : Type _} [BEq α] [LawfulBEq α] {x y : α} (h : x = y) : (x == y) = true ∧ (x != y) = false := ⟨beq_iff_eq.mpr h, bne_eq_false_iff_eq.mpr h⟩
theorem eqF_ {α : Type _} [BEq α] [LawfulBEq α] {x y : α} (h : ¬ x = y) : (x == y) = false ∧ (x != y) = true := ⟨beq_eq_false_iff_ne.mpr h, bne_iff_ne.mpr h⟩
theorem oda_ {p : Prop} {d : Decidable p} (h : decide p = true := by first | (with_reducible assumption) | assumption) : p := of_decide_eq_true h
theorem vt_ {p : Prop} (h : p := by first | rfl | (simp; done) | (simp [*]; done)) : p := h
theorem er_ {p : Prop} (h : p := by first | rfl | (simp [errW_none, errW_some] <;> rfl) | (simp [*, errW_none, errW_some] <;> rfl)) : p := h
theorem hl_ {p q : Prop} (h : Aside0 q) (f : q → p := by intro H_; omega) : Aside0 p := ⟨f h.out⟩
theorem kX_ {p q : Prop} (h : Aside0 q) (f : q → p := by intro H_; (with_reducible repeat (first | refine blk_drewN ?_ _ | refine blk_drew ?_ | refine blk_alloc ?_ _)); exact H_) : Aside0 p := ⟨f h.out⟩
theorem rX_ {p q : Prop} (h : Aside0 q) (f : q → p := by intro H_; (with_reducible repeat (first | apply Kd.R_alloc | apply Kd.R_drewN | apply Kd.R_drew)); exact H_) : Aside0 p := ⟨f h.out⟩
theorem bX0_ {p q : Prop} (h : Aside0 q) (f : q → p := by intro H_; repeat (first | (with_reducible first | exact H_ | apply below_alloc | apply pw_below_drewN | apply below_drew1) | exact H_)) : Aside0 p := ⟨f h.out⟩
theorem bs0_ {w W W1 w2 : World} (h : Aside0 (Below w.heap.size w W)) (k : Below W1.heap.size W1 w2) (f : Below w.heap.size w W → Below w.heap.size w W1 := by intro H_; repeat (first | (with_reducible first | exact H_ | apply below_alloc | apply pw_below_drewN | apply below_drew1) | exact H_)) : Aside0 (Below w.heap.size w w2) := ⟨below_step (f h.out) k⟩
theorem gw0_ {w W W1 : World} {g : Nat} (h : Aside0 (Below w.heap.size w W)) (e : g = W1.heap.size) (f : Below w.heap.size w W → Below w.heap.size w W1 := by intro H_; repeat (first | (with_reducible first | exact H_ | apply below_alloc | apply pw_below_drewN | apply below_drew1) | exact H_)) : Aside0 (w.heap.size ≤ g) := ⟨e ▸ below_size (f h.out)⟩
theorem bX1_ {p q r0 : Prop} (h : Aside0 q) (g0 : Aside0 r0) (f : q → r0 → p := by intro H_ G0_; repeat (first | (with_reducible first | exact H_ | apply below_alloc | apply pw_below_drewN | apply below_drew1 | refine below_set ?_ G0_) | exact H_)) : Aside0 p := ⟨f h.out g0.out⟩
theorem bs1_ {w W W1 w2 : World} {r0 : Prop} (h : Aside0 (Below w.heap.size w W)) (k : Below W1.heap.size W1 w2) (g0 : Aside0 r0) (f : Below w.heap.size w W → r0 → Below w.heap.size w W1 := by intro H_ G0_; repeat (first | (with_reducible first | exact H_ | apply below_alloc | apply pw_below_drewN | apply below_drew1 | refine below_set ?_ G0_) | exact H_)) : Aside0 (Below w.heap.size w w2) := ⟨below_step (f h.out g0.out) k⟩
theorem gw1_ {w W W1 : World} {g : Nat} {r0 : Prop} (h : Aside0 (Below w.heap.size w W)) (e : g = W1.heap.size) (g0 : Aside0 r0) (f : Below w.heap.size w W → r0 → Below w.heap.size w W1 := by intro H_ G0_; repeat (first | (with_reducible first | exact H_ | apply below_alloc | apply pw_below_drewN | apply below_drew1 | refine below_set ?_ G0_) | exact H_)) : Aside0 (w.heap.size ≤ g) := ⟨e ▸ below_size (f h.out g0.out)⟩
theorem bX2_ {p q r0 r1 : Prop} (h : Aside0 q) (g0 : Aside0 r0) (g1 : Aside0 r1) (f : q → r0 → r1 → p := by intro H_ G0_ G1_; repeat (first | (with_reducible first | exact H_ | apply below_alloc | apply pw_below_drewN | apply below_drew1 | refine below_set ?_ G0_ | refine below_set ?_ G1_) | exact H_)) : Aside0 p := ⟨f h.out g0.out g1.out⟩
theorem bs2_ {w W W1 w2 : World} {r0 r1 : Prop} (h : Aside0 (Below w.heap.size w W)) (k : Below W1.heap.size W1 w2) (g0 : Aside0 r0) (g1 : Aside0 r1) (f : Below w.heap.size w W → r0 → r1 → Below w.heap.size w W1 := by intro H_ G0_ G1_; repeat (first | (with_reducible first | exact H_ | apply below_alloc | apply pw_below_drewN | apply below_drew1 | refine below_set ?_ G0_ | refine below_set ?_ G1_) | exact H_)) : Aside0 (Below w.heap.size w w2) := ⟨below_step (f h.out g0.out g1.out) k⟩
theorem gw2_ {w W W1 : World} {g : Nat} {r0 r1 : Prop} (h : Aside0 (Below w.heap.size w W)) (e : g = W1.heap.size) (g0 : Aside0 r0) (g1 : Aside0 r1) (f : Below w.heap.size w W → r0 → r1 → Below w.heap.size w W1 := by intro H_ G0_ G1_; repeat (first | (with_reducible first | exact H_ | apply below_alloc | apply pw_below_drewN | apply below_drew1 | refine below_set ?_ G0_ | refine below_set ?_ G1_) | exact H_)) : Aside0 (w.heap.size ≤ g) := ⟨e ▸ below_size (f h.out g0.out g1.out)⟩
theorem bX3_ {p q r0 r1 r2 : Prop} (h : Aside0 q) (g0 : Aside0 r0) (g1 : Aside0 r1) (g2 : Aside0 r2) (f : q → r0 → r1 → r2 → p := by intro H_ G0_ G1_ G2_; repeat (first | (with_reducible first | exact H_ | apply below_alloc | apply pw_below_drewN | apply below_drew1 | refine below_set ?_ G0_ | refine below_set ?_ G1_ | refine below_set ?_ G2_) | exact H_)) : Aside0 p := ⟨f h.out g0.out g1.out g2.out⟩
theorem bs3_ {w W W1 w2 : World} {r0 r1 r2 : Prop} (h : Aside0 (Below w.heap.size w W)) (k : Below W1.heap.size W1 w2) (g0 : Aside0 r0) (g1 : Aside0 r1) (g2 : Aside0 r2) (f : Below w.heap.size w W → r0 → r1 → r2 → Below w.heap.size w W1 := by intro H_ G0_ G1_ G2_; repeat (first | (with_reducible first | exact H_ | apply below_alloc | apply pw_below_drewN | apply below_drew1 | refine below_set ?_ G0_ | refine below_set ?_ G1_ | refine below_set ?_ G2_) | exact H_)) : Aside0 (Below w.heap.size w w2) := ⟨below_step (f h.out g0.out g1.out g2.out) k⟩
theorem gw3_ {w W W1 : World} {g : Nat} {r0 r1 r2 : Prop} (h : Aside0 (Below w.heap.size w W)) (e : g = W1.heap.size) (g0 : Aside0 r0) (g1 : Aside0 r1) (g2 : Aside0 r2) (f : Below w.heap.size w W → r0 → r1 → r2 → Below w.heap.size w W1 := by intro H_ G0_ G1_ G2_; repeat (first | (with_reducible first | exact H_ | apply below_alloc | apply pw_below_drewN | apply below_drew1 | refine below_set ?_ G0_ | refine below_set ?_ G1_ | refine below_set ?_ G2_) | exact H_)) : Aside0 (w.heap.size ≤ g) := ⟨e ▸ below_size (f h.out g0.out g1.out g2.out)⟩
theorem bd_ {w W : World} {b : Nat} (h : Aside0 (Below b w W)) : Aside0 (Below b w W.drew) := ⟨below_drew1 h.out⟩
theorem bb_ {w W W1 : World} {g : Nat} {o : Obj} (h : Aside0 (w.heap[g]? = some o)) (hb : Below W.heap.size W W1) (f : w.heap[g]? = some o → W.heap[g]? = some o := by intro H_; (with_reducible repeat (first | refine blk_drewN ?_ _ | refine blk_drew ?_ | refine blk_alloc ?_ _)); exact H_) : Aside0 (W1.heap[g]? = some o) := ⟨blk_below (f h.out) hb⟩
theorem nl_ {w W : World} {g g2 : Nat} {o : Obj} (h : Aside0 (w.heap[g]? = some o)) (e : g2 = W.heap.size) (f : w.heap[g]? = some o → W.heap[g]? = some o := by intro H_; (with_reducible repeat (first | refine blk_drewN ?_ _ | refine blk_drew ?_ | refine blk_alloc ?_ _)); exact H_) : Aside0 (g ≠ g2) := ⟨e ▸ Nat.ne_of_lt (blk_lt (f h.out))⟩
theorem ng_ {w W : World} {g g2 : Nat} {o : Obj} (h : Aside0 (w.heap[g]? = some o)) (e : g2 = W.heap.size) (f : w.heap[g]? = some o → W.heap[g]? = some o := by intro H_; (with_reducible repeat (first | refine blk_drewN ?_ _ | refine blk_drew ?_ | refine blk_alloc ?_ _)); exact H_) : Aside0 (g2 ≠ g) := ⟨e ▸ Nat.ne_of_gt (blk_lt (f h.out))⟩
theorem bk2_ {w : World} {g : Nat} {t : TypeId} {x0 x1 : Value} {xs : List Value} (h : Aside0 (w.heap[g]? = some (.cells (List.toArray (x0 :: x1 :: xs)) t (0, 0)))) : w.cell? ⟨g, 0, none⟩ = some x0 ∧ w.frozen? ⟨g, 0, none⟩ = false ∧ w.cell? ⟨g, 1, none⟩ = some x1 ∧ w.frozen? ⟨g, 1, none⟩ = false := ⟨(blk_cell h.out 0).trans (by simp), blk_frozen h.out 0, (blk_cell h.out 1).trans (by simp), blk_frozen h.out 1⟩
theorem bk3_ {w : World} {g : Nat} {t : TypeId} {x0 x1 x2 : Value} {xs : List Value} (h : Aside0 (w.heap[g]? = some (.cells (List.toArray (x0 :: x1 :: x2 :: xs)) t (0, 0)))) : w.cell? ⟨g, 0, none⟩ = some x0 ∧ w.frozen? ⟨g, 0, none⟩ = false ∧ w.cell? ⟨g, 1, none⟩ = some x1 ∧ w.frozen? ⟨g, 1, none⟩ = false ∧ w.cell? ⟨g, 2, none⟩ = some x2 ∧ w.frozen? ⟨g, 2, none⟩ = false := ⟨(blk_cell h.out 0).trans (by simp), blk_frozen h.out 0, (blk_cell h.out 1).trans (by simp), blk_frozen h.out 1, (blk_cell h.out 2).trans (by simp), blk_frozen h.out 2⟩
theorem bk4_ {w : World} {g : Nat} {t : TypeId} {x0 x1 x2 x3 : Value} {xs : List Value} (h : Aside0 (w.heap[g]? = some (.cells (List.toArray (x0 :: x1 :: x2 :: x3 :: xs)) t (0, 0)))) : w.cell? ⟨g, 0, none⟩ = some x0 ∧ w.frozen? ⟨g, 0, none⟩ = false ∧ w.cell? ⟨g, 1, none⟩ = some x1 ∧ w.frozen? ⟨g, 1, none⟩ = false ∧ w.cell? ⟨g, 2, none⟩ = some x2 ∧ w.frozen? ⟨g, 2, none⟩ = false ∧ w.cell? ⟨g, 3, none⟩ = some x3 ∧ w.frozen? ⟨g, 3, none⟩ = false := ⟨(blk_cell h.out 0).trans (by simp), blk_frozen h.out 0, (blk_cell h.out 1).trans (by simp), blk_frozen h.out 1, (blk_cell h.out 2).trans (by simp), blk_frozen h.out 2, (blk_cell h.out 3).trans (by simp), blk_frozen h.out 3⟩
theorem nm_ {P : Program} {md : Region.Mode} {ops : Array Oper} {Q : Exit → Act → World → Prop} {S : World → Prop} {ds : List Nat} {fuel : Nat} {l : Array Bool} {a a' : Act} {w : World} (n : Nat) {v : Value} (h : wpAnyLast P md ops Q S ds fuel l a' w) (ha : Act.put a (some n) v = a' := by (simp only [Act.put, List.setIfInBounds_toArray, List.set_cons_zero, List.set_cons_succ, i64_w, i32_w]; rfl)) : wpAnyLast P md ops Q S ds fuel l (Act.put a (some n) v) w := norm_ ha h
theorem gO_ {P : Program} {ops : Array Oper} {Q_ : Exit → Act → World → Prop} {oi : Oper} {N : Option Tmp} {a : Act} {w : World} {K : Act → World → Prop} {f : FuncId} {fn : Func} {as_ : Array Operand} {ts : Array TypeId} (hf : P.funcs[f]? = some fn) (args : Array Value) (h : Calls P f args w fun e w' => ∃ v, e = .returned v ∧ K (a.put N v) w') (hname : (fn.name == "runtime.NumGoroutine") = false := by kernel_rfl) (hb : fn.body.isSome = true := by rfl) (hw : Region.wanted oi (yielded ops a.tmps) = true := by rfl) (hN : oi.dst = N := by rfl) (hop : oi.op = .call { callee := .value (.func f), args := as_, argTypes := ts } := by rfl) (hargs : as_.map a.eval = args := by ((try simp only [List.map_toArray, List.map_cons, List.map_nil]); first | done | rfl | (simp only [List.length_drop, List.length_take]; rfl))) : if Region.wanted oi (yielded ops a.tmps) = true then Oper.wp P oi a w K Q_ else K (a.put N undef) w := goes_ hf hname hb args hw hN hop hargs h
theorem gP_ {P : Program} {ops : Array Oper} {Q : Exit → Act → World → Prop} {rest : List Oper} {oi : Oper} {a : Act} {w : World} (N : Option Tmp) {f : FuncId} {fn : Func} {as_ : Array Operand} {ts : Array TypeId} (hf : P.funcs[f]? = some fn) (args : Array Value) {v : Value} (hc : Calls P f args w fun e w' => e = .returned v ∧ Drawn0 w w') (h : ∀ nd, wpList P ops Q rest (a.put N v) (w.drewN nd)) (hd : oi.dst = N := by rfl) (hg : oi.guard = none := by rfl) (hname : (fn.name == "runtime.NumGoroutine") = false := by kernel_rfl) (hb : fn.body.isSome = true := by rfl) (hop : oi.op = .call { callee := .value (.func f), args := as_, argTypes := ts } := by rfl) (hargs : as_.map a.eval = args := by ((try simp only [List.map_toArray, List.map_cons, List.map_nil]); first | done | rfl | (simp only [List.length_drop, List.length_take]; rfl))) : wpList P ops Q (oi :: rest) a w := goesL_ N hd hg hf hname hb args hop hargs (hc.mono (by rintro e w' ⟨rfl, ⟨nd, rfl⟩⟩; exact ⟨_, rfl, h nd⟩))
theorem gB_ {P : Program} {ops : Array Oper} {Q : Exit → Act → World → Prop} {rest : List Oper} {oi : Oper} {a : Act} {w : World} (N : Option Tmp) {f : FuncId} {fn : Func} {as_ : Array Operand} {ts : Array TypeId} (hf : P.funcs[f]? = some fn) (args : Array Value) {v : Value} (hc : Calls P f args w fun e w' => e = .returned v ∧ Below w.heap.size w w') (h : ∀ w', Below w.heap.size w w' → wpList P ops Q rest (a.put N v) w') (hd : oi.dst = N := by rfl) (hg : oi.guard = none := by rfl) (hname : (fn.name == "runtime.NumGoroutine") = false := by kernel_rfl) (hb : fn.body.isSome = true := by rfl) (hop : oi.op = .call { callee := .value (.func f), args := as_, argTypes := ts } := by rfl) (hargs : as_.map a.eval = args := by ((try simp only [List.map_toArray, List.map_cons, List.map_nil]); first | done | rfl | (simp only [List.length_drop, List.length_take]; rfl))) : wpList P ops Q (oi :: rest) a w := goesL_ N hd hg hf hname hb args hop hargs (hc.mono (by rintro e w' ⟨rfl, hb⟩; exact ⟨_, rfl, h _ hb⟩))
theorem gR_ {P : Program} {ops : Array Oper} {Q : Exit → Act → World → Prop} {rest : List Oper} {oi : Oper} {a : Act} {w : World} (N : Option Tmp) {f : FuncId} {fn : Func} {as_ : Array Operand} {ts : Array TypeId} (hf : P.funcs[f]? = some fn) (args : Array Value) {R : Value → World → Prop} {E : Value → Value} (hc : Calls P f args w fun e w' => ∃ v, e = .returned (E v) ∧ R v w' ∧ Below w.heap.size w w') (h : ∀ w' v, R v w' → Below w.heap.size w w' → wpList P ops Q rest (a.put N (E v)) w') (hd : oi.dst = N := by rfl) (hg : oi.guard = none := by rfl) (hname : (fn.name == "runtime.NumGoroutine") = false := by kernel_rfl) (hb : fn.body.isSome = true := by rfl) (hop : oi.op = .call { callee := .value (.func f), args := as_, argTypes := ts } := by rfl) (hargs : as_.map a.eval = args := by ((try simp only [List.map_toArray, List.map_cons, List.map_nil]); first | done | rfl | (simp only [List.length_drop, List.length_take]; rfl))) : wpList P ops Q (oi :: rest) a w := goesL_ N hd hg hf hname hb args hop hargs (hc.mono (by rintro e w' ⟨v, rfl, ho, hb⟩; exact ⟨_, rfl, h _ _ ho hb⟩))
theorem be_ {P : Program} {ops : Array Oper} {Q : Exit → Act → World → Prop} {rest : List Oper} {o : Oper} {a : Act} {W : World} (N : Tmp) (cs : Array Value) (t : TypeId) (h : ∀ g, g = W.heap.size → ∀ w1, w1.heap[g]? = some (.cells cs t (0, 0)) → Below W.heap.size W w1 → wpList P ops Q rest (a.put o.dst (.pointer (some ⟨g, 0, none⟩))) w1) (hgd : o.guard = none := by rfl) (hd : o.dst = some N := by rfl) (hrun : (execOp a.eval o).run P W = .ok (.value (.pointer (some ⟨W.heap.size, 0, none⟩))) (W.alloc (.cells cs t (0, 0))) := by first | (go_simp; done) | (go_simp; rfl)) : wpList P ops Q (o :: rest) a W := box_event hgd (N := N) hd (cs := cs) (t := t) hrun h
theorem cS_ {p q r : Prop} (h : Aside0 q) (hb : Aside0 r) (f : q → r → p := by intro H_ B_; (repeat (first | exact (Kd.C_below H_ B_) | (with_reducible refine Kd.C_alloc ?_ _) | (with_reducible refine Kd.C_drewN ?_ _) | (with_reducible refine Kd.C_drew ?_)))) : p := f h.out hb.out
theorem cR_ {α : Type} {p : Prop} {d : Kd α} {e base : Nat} {w : World} {ok : Nat → Prop} {v : Value} {xs : List α} (h : Aside0 (d.R e w base ok v xs)) (f : d.R e w base ok v xs → p := by intro H_; (repeat (first | exact (Kd.R_reads' H_).2.2 | (with_reducible refine Kd.C_alloc ?_ _) | (with_reducible refine Kd.C_drewN ?_ _) | (with_reducible refine Kd.C_drew ?_)))) : p := f h.out
theorem nx_ {p q : Prop} (h : q) (f : q → p := by intro H_; (with_reducible repeat (first | apply Kd.N_alloc | apply Kd.N_drewN | apply Kd.N_drew)); exact H_) : p := f h
theorem sx_ {p q : Prop} (h : q) (f : q → p := by intro H_; (with_reducible repeat (first | apply Kd.S_alloc | apply Kd.S_drewN | apply Kd.S_drew)); exact H_) : p := f h
theorem vx_ {p q : Prop} (h : q) (f : q → p := by intro H_; (with_reducible repeat (first | apply Kd.V_alloc | apply Kd.V_drewN | apply Kd.V_drew)); exact H_) : p := f h
theorem qx_ {p q : Prop} (h : q) (f : q → p := by intro H_; (with_reducible repeat (first | apply Kd.Q_alloc | apply Kd.Q_drewN | apply Kd.Q_drew)); exact H_) : p := f h
theorem bx4 {p q r0 r1 r2 r3 : Prop} (h : q) (g0 : r0) (g1 : r1) (g2 : r2) (g3 : r3) (f : q → r0 → r1 → r2 → r3 → p := by intro H_ G0_ G1_ G2_ G3_; repeat (first | (with_reducible first | exact H_ | apply below_alloc | apply pw_below_drewN | apply below_drew1 | refine below_set ?_ G0_ | refine below_set ?_ G1_ | refine below_set ?_ G2_ | refine below_set ?_ G3_) | exact H_)) : p := f h g0 g1 g2 g3
theorem hl2_ {p q r : Prop} (h : Aside0 q) (g : Aside0 r) (f : q → r → p := by intro H_ G_; omega) : Aside0 p := ⟨f h.out g.out⟩
theorem hl3_ {p q r s : Prop} (h : Aside0 q) (g : Aside0 r) (i : Aside0 s) (f : q → r → s → p := by intro H_ G_ I_; omega) : Aside0 p := ⟨f h.out g.out i.out⟩
theorem hl4_ {p q r s t : Prop} (h : Aside0 q) (g : Aside0 r) (i : Aside0 s) (j : Aside0 t) (f : q → r → s → t → p := by intro H_ G_ I_ J_; omega) : Aside0 p := ⟨f h.out g.out i.out j.out⟩
theorem le_ {p : Prop} (h : p := by first | omega | exact Nat.le_refl _) : Aside0 p := ⟨h⟩
theorem yH_ {α : Type _} {a b : α} {p q : Prop} (e : a = b) (h : q) (f : a = b → q → p := by intro e_ H; first | (rw [e_]; with_reducible exact H) | (have H2_ := (Option.bind_some _ _).symm.trans H; rw [e_]; with_reducible exact H2_) | (have H2_ := (Option.bind_some _ _).symm.trans H; with_reducible exact H2_) | with_reducible exact H | (rw [e_]; exact H) | exact H) : p := f e h
theorem c0_ {w : World} {g : Nat} {t : TypeId} {x0 : Value} {xs : List Value} (h : Aside0 (w.heap[g]? = some (.cells (List.toArray (x0 :: xs)) t (0, 0)))) : w.cell? ⟨g, 0, none⟩ = some x0 := (blk_cell h.out 0).trans (by simp)
theorem c1_ {w : World} {g : Nat} {t : TypeId} {x0 x1 : Value} {xs : List Value} (h : Aside0 (w.heap[g]? = some (.cells (List.toArray (x0 :: x1 :: xs)) t (0, 0)))) : w.cell? ⟨g, 1, none⟩ = some x1 := (blk_cell h.out 1).trans (by simp)
theorem c2_ {w : World} {g : Nat} {t : TypeId} {x0 x1 x2 : Value} {xs : List Value} (h : Aside0 (w.heap[g]? = some (.cells (List.toArray (x0 :: x1 :: x2 :: xs)) t (0, 0)))) : w.cell? ⟨g, 2, none⟩ = some x2 := (blk_cell h.out 2).trans (by simp)
theorem hc_ {w W W1 : World} {ad : Addr} {v : Value} (h : Aside0 (Below w.heap.size w W)) (e : w.cell? ad = some v) (g : W.cell? ad = some v → W1.cell? ad = some v := by exact id) : W1.cell? ad = some v := g ((h.out.cell (World.block_lt_of_cell? w _ e)).trans e)
theorem dr_ {p : Prop} (h : p := by repeat (first | exact Drawn0.refl _ | apply Drawn0.step)) : p := h
theorem rb_ {α : Type} {d : Kd α} {e base : Nat} {w W W1 : World} {ok : Nat → Prop} {v : Value} {xs : List α} (h : Aside0 (d.R e w base ok v xs)) (hb : Below W.heap.size W W1) (f : d.R e w base ok v xs → d.R e W base ok v xs := by intro H_; (with_reducible repeat (first | apply Kd.R_alloc | apply Kd.R_drewN | apply Kd.R_drew)); exact H_) : Aside0 (d.R e W1 base ok v xs) := ⟨Kd.R_below (f h.out) hb⟩
theorem re_ {α : Type} {d : Kd α} {e base : Nat} {w W W1 : World} {ok : Nat → Prop} {v : Value} {xs : List α} {β : Type} {d' : Kd β} {e' b : Nat} {w' : World} {ok' : Nat → Prop} {u : Value} {ys : List β} (h : Aside0 (d.R e w base ok v xs)) (ho : d'.R e' w' b ok' u ys) (hb : Below W.heap.size W W1) (f : d.R e w base ok v xs → d.R e W base ok v xs := by intro H_; (with_reducible repeat (first | apply Kd.R_alloc | apply Kd.R_drewN | apply Kd.R_drew)); exact H_) (g : b = W.heap.size := by rfl) : Aside0 (d.R e W1 base (fun k => ok k ∧ some k ≠ u.ownBlock) v xs) := ⟨Kd.R_elder' (f h.out) (g ▸ Kd.R_base ho) hb⟩
theorem rl0_ {α : Type} {d : Kd α} {e : Nat} {w w1 W W0 : World} {ok : Nat → Prop} {v : Value} {xs : List α} (ho : d.R e w1 W0.heap.size ok v xs) (h : Aside0 (Below w.heap.size w W)) (f : Below w.heap.size w W → Below w.heap.size w W0 := by intro H_; repeat (first | (with_reducible first | exact H_ | apply below_alloc | apply pw_below_drewN | apply below_drew1) | exact H_)) : Aside0 (d.R e w1 w.heap.size ok v xs) := ⟨Kd.R_lower ho (below_size (f h.out))⟩
theorem rl1_ {α : Type} {d : Kd α} {e : Nat} {w w1 W W0 : World} {ok : Nat → Prop} {v : Value} {xs : List α} {r0 : Prop} (ho : d.R e w1 W0.heap.size ok v xs) (h : Aside0 (Below w.heap.size w W)) (g0 : Aside0 r0) (f : Below w.heap.size w W → r0 → Below w.heap.size w W0 := by intro H_ G0_; repeat (first | (with_reducible first | exact H_ | apply below_alloc | apply pw_below_drewN | apply below_drew1 | refine below_set ?_ G0_) | exact H_)) : Aside0 (d.R e w1 w.heap.size ok v xs) := ⟨Kd.R_lower ho (below_size (f h.out g0.out))⟩
theorem rl2_ {α : Type} {d : Kd α} {e : Nat} {w w1 W W0 : World} {ok : Nat → Prop} {v : Value} {xs : List α} {r0 r1 : Prop} (ho : d.R e w1 W0.heap.size ok v xs) (h : Aside0 (Below w.heap.size w W)) (g0 : Aside0 r0) (g1 : Aside0 r1) (f : Below w.heap.size w W → r0 → r1 → Below w.heap.size w W0 := by intro H_ G0_ G1_; repeat (first | (with_reducible first | exact H_ | apply below_alloc | apply pw_below_drewN | apply below_drew1 | refine below_set ?_ G0_ | refine below_set ?_ G1_) | exact H_)) : Aside0 (d.R e w1 w.heap.size ok v xs) := ⟨Kd.R_lower ho (below_size (f h.out g0.out g1.out))⟩
theorem rl3_ {α : Type} {d : Kd α} {e : Nat} {w w1 W W0 : World} {ok : Nat → Prop} {v : Value} {xs : List α} {r0 r1 r2 : Prop} (ho : d.R e w1 W0.heap.size ok v xs) (h : Aside0 (Below w.heap.size w W)) (g0 : Aside0 r0) (g1 : Aside0 r1) (g2 : Aside0 r2) (f : Below w.heap.size w W → r0 → r1 → r2 → Below w.heap.size w W0 := by intro H_ G0_ G1_ G2_; repeat (first | (with_reducible first | exact H_ | apply below_alloc | apply pw_below_drewN | apply below_drew1 | refine below_set ?_ G0_ | refine below_set ?_ G1_ | refine below_set ?_ G2_) | exact H_)) : Aside0 (d.R e w1 w.heap.size ok v xs) := ⟨Kd.R_lower ho (below_size (f h.out g0.out g1.out g2.out))⟩
theorem gc_ {P : Program} {ops : Array Oper} {o : Oper} {rest : List Oper} {a : Act} {W : World} {Q : Exit → Act → World → Prop} (f : FuncId) {as_ : Array Operand} {ts : Array TypeId} (_ho : o.op = .call { callee := .value (.func f), args := as_, argTypes := ts }) (h : wpList P ops Q (o :: rest) a W) : wpList P ops Q (o :: rest) a W := h
theorem gd_ {P : Program} {ops : Array Oper} {o : Oper} {rest : List Oper} {a : Act} {W : World} {Q : Exit → Act → World → Prop} (N : Tmp) (_hN : o.dst = some N) (h : wpList P ops Q (o :: rest) a W) : wpList P ops Q (o :: rest) a W := h
theorem oN_ {P : Program} {md : Region.Mode} {ops : Array Oper} {Q : Exit → Act → World → Prop} {S : World → Prop} {ds : List Nat} {T : Bool × List (List Nat × List Nat)} (i : Nat) (N : Option Tmp) {oi : Oper} {fuel : Nat} {l l' : Array Bool} {a : Act} {w : World} (HT_ : Aside0 (rtab md ops = T)) (h : ∀ K : Act → World → Prop, Shut (∀ a' w', S w' → (S w' → wpAnyLast P md ops Q S ds fuel l' a' w') → K a' w') → if Region.wanted oi (yielded ops a.tmps) = true then Oper.wp P oi a w K Q else K (a.put N undef) w) (hi : ops[i]? = some oi := by rfl) (hN : oi.dst = N := by rfl) (_hl : l.setIfInBounds i true = l' := by (simp only [List.setIfInBounds_toArray, List.set_cons_zero, List.set_cons_succ]; rfl)) (hc : (readyT T.2 l.toList == [i] && l.toList.set i true == l'.toList) = true := by kernel_rfl) (hd : i ∉ ds := by decide) : wpAnyLast P md ops Q S ds (fuel + 1) l a w := one_ l' hi hN (one_of HT_.out hc) hd h
end Go.Proofs.Ytoajlmlobaccdaa.P
namespace Go.Proofs.Ytoajlmlobaccdaa.P
open Go.RowKit Go.Proofs.YtoajlmlobaccdaaW.PrintWords Go.Proofs.YtoajlmlobaccdaaW.PrintLast Go.Proofs.YtoajlmlobaccdaaW.PrintMore
attribute [local go_sem] ptrOf_slice
attribute [local go_sem] min2_str max2_int min2_int max_two min_two max_three min_three max_four min_four
set_option linter.unusedVariables false
set_option linter.unusedSimpArgs false
def laws_szSigns.f (a0_0 : Int) (a0_1 : ByteArray) (a1 : Int) : Option (Int) := if (wrap64 (a1 - (a0_1.size : Int))) < 0 then (some (-1)) else (some (wrap64 (a1 - (a0_1.size : Int))))
set_option maxHeartbeats 8000000 in
set_option maxRecDepth 100000 in
theorem laws_szSigns.calls (a0_0 : Int) (a0_1 : ByteArray) (a1 : Int) (r : Int) (w : World) (h : laws_szSigns.f a0_0 a0_1 a1 = some r) :
  Calls Try.prog 16 #[.agg #[.int .i64 a0_0, .string a0_1], .int .i64 a1] w fun e w' => e = .returned (.int .i64 r) ∧ Below w.heap.size w w' := by
 have hu28 := Try.underlying28; have HB := am_ (Below.refl w.heap.size w); have H : (if (wrap64 (a1 - (a0_1.size : Int))) < 0 then (some (-1)) else (some (wrap64 (a1 - (a0_1.size : Int))))) = some r := h; clear h; by_cases c3 : (wrap64 (a1 - (a0_1.size : Int))) < 0
 ·rw [if_pos c3] at H; have c3b0 := decide_eq_true c3; clear c3; obtain rfl := Option.some.inj H; go_enter Try.func16, Try.ntmps16
  go_wp2_with (first | ((with_reducible refine gd_ 2 rfl ?_); refine be_ 2 #[.int .i64 a0_0, .string a0_1] 28 ?_; intro gb662 hg w4 hbox hb; have BK662 := am_ hbox; have GW662 := gw0_ HB hg; have GE662 := GW662; replace HB := bs0_ HB hb; clear hb hbox hg; obtain ⟨hcz5_0, hfz5_0, hcz5_1, hfz5_1⟩ := bk2_ BK662))
  go_ret; exact ⟨er_, bx1 HB.out GE662.out⟩
 ·rw [if_neg c3] at H; have c3b0 := decide_eq_false c3; clear c3; obtain rfl := Option.some.inj H; go_enter Try.func16, Try.ntmps16
  go_wp2_with (first | ((with_reducible refine gd_ 2 rfl ?_); refine be_ 2 #[.int .i64 a0_0, .string a0_1] 28 ?_; intro gb662 hg w6 hbox hb; have BK662 := am_ hbox; have GW662 := gw0_ HB hg; have GE662 := GW662; replace HB := bs0_ HB hb; clear hb hbox hg; obtain ⟨hcz7_0, hfz7_0, hcz7_1, hfz7_1⟩ := bk2_ BK662))
  go_ret; exact ⟨er_, bx1 HB.out GE662.out⟩
def laws_toSigns.f (a0_0 : Int) (a0_1 : ByteArray) : Option (Int × ByteArray) := some (a0_0, a0_1)
set_option maxHeartbeats 8000000 in
set_option maxRecDepth 100000 in
theorem laws_toSigns.calls (a0_0 : Int) (a0_1 : ByteArray) (r1 : Int) (r2 : ByteArray) (w : World) (h : laws_toSigns.f a0_0 a0_1 = some (r1, r2)) :
  Calls Try.prog 18 #[.agg #[.int .i64 a0_0, .string a0_1]] w fun e w' => e = .returned (.agg #[.int .i64 r1, .string r2]) ∧ Below w.heap.size w w' := by
 have hu28 := Try.underlying28; have hu31 := Try.underlying31; have HB := am_ (Below.refl w.heap.size w); have H : (some (a0_0, a0_1)) = some (r1, r2) := h; clear h; simp only [Option.some.injEq, Prod.mk.injEq] at H
 obtain ⟨rfl, rfl⟩ := H; go_enter Try.func18, Try.ntmps18
 go_wp2_with (first | ((with_reducible refine gd_ 1 rfl ?_); refine be_ 1 #[.int .i64 a0_0, .string a0_1] 28 ?_; intro gb724 hg w2 hbox hb; have BK724 := am_ hbox; have GW724 := gw0_ HB hg; have GE724 := GW724; replace HB := bs0_ HB hb; clear hb hbox hg) | ((with_reducible refine gd_ 2 rfl ?_); refine be_ 2 #[.int .i64 0, .string (⟨#[]⟩ : ByteArray)] 31 ?_; intro gb725 hg w3 hbox hb; have BK725 := am_ hbox; have GW725 := gw1_ HB hg GE724; have GE725 := GW725; replace HB := bs1_ HB hb GE724; have NB724_725 := nl_ BK724 hg; have NB725_724 := ng_ BK724 hg; replace BK724 := bb_ BK724 hb; clear hb hbox hg) | ((with_reducible refine gd_ 3 rfl ?_); refine be_ 3 #[.int .i64 0, .string (⟨#[]⟩ : ByteArray)] 31 ?_; intro gb726 hg w4 hbox hb; have BK726 := am_ hbox; have GW726 := gw2_ HB hg GE724 GE725; have GE726 := GW726; replace HB := bs2_ HB hb GE724 GE725; have NB724_726 := nl_ BK724 hg; have NB726_724 := ng_ BK724 hg; replace BK724 := bb_ BK724 hb; have NB725_726 := nl_ BK725 hg; have NB726_725 := ng_ BK725 hg; replace BK725 := bb_ BK725 hb; clear hb hbox hg; have hnb5 := NB724_725.out; have hnc5 := NB725_724.out; have hnb6 := NB724_726.out; have hnc6 := NB726_724.out; obtain ⟨hcz7_0, hfz7_0, hcz7_1, hfz7_1⟩ := bk2_ BK724; have hnb8 := NB726_725.out; have hnc8 := NB725_726.out; obtain ⟨hcz9_0, hfz9_0, hcz9_1, hfz9_1⟩ := bk2_ BK726; obtain ⟨hcz10_0, hfz10_0, hcz10_1, hfz10_1⟩ := bk2_ BK725))
 refine bodyPost_ret (results_cell_row rfl _ _ gb725 31 #[.int .i64 a0_0, .string a0_1] (0, 0) _ rfl (by refine kx_ ?_; refine blk_put (cs := #[.int .i64 a0_0, .string (⟨#[]⟩ : ByteArray)]) ?_ 1 _ rfl; refine kx_ ?_; refine blk_put (cs := #[.int .i64 0, .string (⟨#[]⟩ : ByteArray)]) ?_ 0 _ rfl; refine kx_ ?_; refine blk_far ?_ NB725_726.out _; refine kx_ ?_; refine blk_far ?_ NB725_726.out _; refine kx_ ?_; exact BK725.out) Try.underlying31 rfl (by kernel_rfl)) rfl ?_; exact ⟨er_, bx3 HB.out GE724.out GE725.out GE726.out⟩
def laws_eqIntS.l0 : Nat → List Int → List Int → Int → Option (Bool)
 | 0, _, _, _ => none
 | k + 1, x0, x1, x5 => if x5 < (x0.length : Int) then (if 0 ≤ x5 then (if x5 < (x1.length : Int) then (if (rd x0 x5) = (rd x1 x5) then (laws_eqIntS.l0 k x0 x1 (wrap64 (x5 + 1))) else (some false)) else (none)) else (none)) else (some true)
def laws_eqIntS.f (k : Nat) (l0 : List Int) (l1 : List Int) : Option (Bool) := if (l0.length : Int) = (l1.length : Int) then (laws_eqIntS.l0 k l0 l1 0) else (some false)
set_option maxHeartbeats 8000000 in
set_option maxRecDepth 100000 in
theorem laws_eqIntS.calls (k : Nat) (A0 : Option Addr) (c0 : Nat) (l0 : List Int) (A1 : Option Addr) (c1 : Nat) (l1 : List Int) (r : Bool) (w : World) (hr0 : Kd.C (Kd.int .i64) w A0 l0.length l0) (hc0 : l0.length ≤ c0) (hr1 : Kd.C (Kd.int .i64) w A1 l1.length l1) (hc1 : l1.length ≤ c1) (h : laws_eqIntS.f k l0 l1 = some r) :
  Calls Try.prog 23 #[.slice A0 l0.length c0, .slice A1 l1.length c1] w fun e w' => e = .returned (.bool r) ∧ Drawn0 w w' := by
 have HR0 := am_ hr0; have HC0 := am_ hc0; clear hr0 hc0; have HR1 := am_ hr1; have HC1 := am_ hc1; clear hr1 hc1; have H : (if (l0.length : Int) = (l1.length : Int) then (laws_eqIntS.l0 k l0 l1 0) else (some false)) = some r := h; clear h; by_cases c3 : (l0.length : Int) = (l1.length : Int)
 ·rw [if_pos c3] at H; obtain ⟨c3b0, c3b1⟩ := eqT_ c3; have c3b2 : (l0.length == l1.length) = true := by first | simpa using c3 | (simp at c3 ⊢; omega)
  clear c3; have H' := am_ H; clear H; go_enter Try.func23, Try.ntmps23
  go_wp2; repeat (go_quiet (fail); try go_wp2)
  go_loopg [5] k (fun kq v5 w' => ∃ (x5_1 : Int), v5 = .int .i64 x5_1 ∧ Aside0 (laws_eqIntS.l0 kq l0 l1 x5_1 = some r) ∧ Aside0 (kq ≤ k) ∧ Drawn0 w w')
  case atStart => exact ⟨(0), vt_, H', ⟨Nat.le_refl _⟩, dr_⟩
  case round =>
   clear H'; try clear c3b0 c3b1 c3b2
   obtain ⟨x5_1, rfl, HA, HK1, ⟨m1, rfl⟩⟩ := hrel; cases gk with
   | zero => exact absurd HA.out (by simp [laws_eqIntS.l0])
   | succ k1 =>
    have H := HA.out; clear HA; simp only [laws_eqIntS.l0] at H
    by_cases c4 : x5_1 < (l0.length : Int)
    ·rw [if_pos c4] at H; have c4b0 := decide_eq_true c4; clear c4; by_cases c5 : 0 ≤ x5_1
     ·rw [if_pos c5] at H; have c5b0 := decide_eq_true c5; clear c5; by_cases c6 : x5_1 < (l1.length : Int)
      ·rw [if_pos c6] at H; have c6b0 := decide_eq_true c6; clear c6; by_cases c7 : (rd l0 x5_1) = (rd l1 x5_1)
       ·rw [if_pos c7] at H; obtain ⟨c7b0, c7b1⟩ := eqT_ c7; clear c7; have H' := am_ H; clear H; have p789 : 0 ≤ (x5_1 : Int) := oda_; have q789 : x5_1 < (l0.length : Int) := oda_; obtain ⟨ad789, e789, hx789_0⟩ := Kd.at_int HR0.out x5_1 p789 q789; cases e789; replace p789 := eq_true p789; replace q789 := eq_true q789; have p790 : 0 ≤ (x5_1 : Int) := oda_; have q790 : x5_1 < (l1.length : Int) := oda_; obtain ⟨ad790, e790, hx790_0⟩ := Kd.at_int HR1.out x5_1 p790 q790; cases e790; replace p790 := eq_true p790; replace q790 := eq_true q790; go_wp2; repeat (go_quiet (fail); try go_wp2)
        go_roundg k1
        case measure => have := HK1.out; omega
        case rel => exact ⟨(wrap64 (x5_1 + 1)), vt_, H', hl_ HK1, dr_⟩
       ·rw [if_neg c7] at H; obtain ⟨c7b0, c7b1⟩ := eqF_ c7; obtain rfl := Option.some.inj H; have p789 : 0 ≤ (x5_1 : Int) := oda_; have q789 : x5_1 < (l0.length : Int) := oda_; obtain ⟨ad789, e789, hx789_0⟩ := Kd.at_int HR0.out x5_1 p789 q789; cases e789; replace p789 := eq_true p789; replace q789 := eq_true q789; have p790 : 0 ≤ (x5_1 : Int) := oda_; have q790 : x5_1 < (l1.length : Int) := oda_; obtain ⟨ad790, e790, hx790_0⟩ := Kd.at_int HR1.out x5_1 p790 q790; cases e790; replace p790 := eq_true p790; replace q790 := eq_true q790; go_wp2; repeat (go_quiet (fail); try go_wp2)
        go_ret; exact ⟨by first | rfl | (simp; done) | (simp [*]; done), dr_⟩
      ·rw [if_neg c6] at H; exact absurd H (by simp)
     ·rw [if_neg c5] at H; exact absurd H (by simp)
    ·rw [if_neg c4] at H; have c4b0 := decide_eq_false c4; clear c4; obtain rfl := Option.some.inj H; go_wp2; repeat (go_quiet (fail); try go_wp2)
     go_ret; exact ⟨by first | rfl | (simp; done) | (simp [*]; done), dr_⟩
 ·rw [if_neg c3] at H; obtain ⟨c3b0, c3b1⟩ := eqF_ c3; have c3b2 : (l0.length == l1.length) = false := by first | simpa using c3 | (simp at c3 ⊢; omega)
  obtain rfl := Option.some.inj H; go_enter Try.func23, Try.ntmps23
  go_wp2; repeat (go_quiet (fail); try go_wp2)
  go_ret; exact ⟨by first | rfl | (simp; done) | (simp [*]; done), dr_⟩
def laws_eqIntSS.l0 : Nat → List (List Int) → List (List Int) → Int → Option (Bool)
 | 0, _, _, _ => none
 | k + 1, x0, x1, x5 => if x5 < (x0.length : Int) then (if 0 ≤ x5 then (if x5 < (x1.length : Int) then ((laws_eqIntS.f k (rd_L1 x0 x5) (rd_L1 x1 x5)).bind fun t1014 => (if t1014 = true then (laws_eqIntSS.l0 k x0 x1 (wrap64 (x5 + 1))) else (some false))) else (none)) else (none)) else (some true)
def laws_eqIntSS.f (k : Nat) (l0 : List (List Int)) (l1 : List (List Int)) : Option (Bool) := if (l0.length : Int) = (l1.length : Int) then (laws_eqIntSS.l0 k l0 l1 0) else (some false)
set_option maxHeartbeats 8000000 in
set_option maxRecDepth 100000 in
theorem laws_eqIntSS.calls (k : Nat) (A0 : Option Addr) (c0 : Nat) (l0 : List (List Int)) (A1 : Option Addr) (c1 : Nat) (l1 : List (List Int)) (r : Bool) (w : World) (hr0 : Kd.C (Kd.slice 3 (Kd.int .i64)) w A0 l0.length l0) (hc0 : l0.length ≤ c0) (hr1 : Kd.C (Kd.slice 3 (Kd.int .i64)) w A1 l1.length l1) (hc1 : l1.length ≤ c1) (h : laws_eqIntSS.f k l0 l1 = some r) :
  Calls Try.prog 26 #[.slice A0 l0.length c0, .slice A1 l1.length c1] w fun e w' => e = .returned (.bool r) ∧ Drawn0 w w' := by
 have HR0 := am_ hr0; have HC0 := am_ hc0; clear hr0 hc0; have HR1 := am_ hr1; have HC1 := am_ hc1; clear hr1 hc1; have H : (if (l0.length : Int) = (l1.length : Int) then (laws_eqIntSS.l0 k l0 l1 0) else (some false)) = some r := h; clear h; by_cases c3 : (l0.length : Int) = (l1.length : Int)
 ·rw [if_pos c3] at H; obtain ⟨c3b0, c3b1⟩ := eqT_ c3; have c3b2 : (l0.length == l1.length) = true := by first | simpa using c3 | (simp at c3 ⊢; omega)
  clear c3; have H' := am_ H; clear H; go_enter Try.func26, Try.ntmps26
  go_wp2; repeat (go_quiet (fail); try go_wp2)
  go_loopg [5] k (fun kq v5 w' => ∃ (x5_1 : Int), v5 = .int .i64 x5_1 ∧ Aside0 (laws_eqIntSS.l0 kq l0 l1 x5_1 = some r) ∧ Aside0 (kq ≤ k) ∧ Drawn0 w w')
  case atStart => exact ⟨(0), vt_, H', ⟨Nat.le_refl _⟩, dr_⟩
  case round =>
   clear H'; try clear c3b0 c3b1 c3b2
   obtain ⟨x5_1, rfl, HA, HK1, ⟨m1, rfl⟩⟩ := hrel; cases gk with
   | zero => exact absurd HA.out (by simp [laws_eqIntSS.l0])
   | succ k1 =>
    have H := HA.out; clear HA; simp only [laws_eqIntSS.l0] at H
    by_cases c4 : x5_1 < (l0.length : Int)
    ·rw [if_pos c4] at H; have c4b0 := decide_eq_true c4; clear c4; by_cases c5 : 0 ≤ x5_1
     ·rw [if_pos c5] at H; have c5b0 := decide_eq_true c5; clear c5; by_cases c6 : x5_1 < (l1.length : Int)
      ·rw [if_pos c6] at H; have c6b0 := decide_eq_true c6; clear c6; obtain ⟨t1014, A7, H⟩ := bnd_ H; by_cases c8 : t1014 = true
       ·subst c8; replace H := ifT_ H; have H' := am_ H; clear H; have p1012 : 0 ≤ (x5_1 : Int) := oda_; have q1012 : x5_1 < (l0.length : Int) := oda_; obtain ⟨ad1012, A1012_0, c1012_0, e1012, hx1012_0, hl1012_0, hi1012_0⟩ := at_L1 HR0.out x5_1 p1012 q1012; cases e1012; have HR1012_0 := am_ hi1012_0; have HC1012_0 := am_ hl1012_0; clear hi1012_0 hl1012_0; replace p1012 := eq_true p1012; replace q1012 := eq_true q1012; have p1013 : 0 ≤ (x5_1 : Int) := oda_; have q1013 : x5_1 < (l1.length : Int) := oda_; obtain ⟨ad1013, A1013_0, c1013_0, e1013, hx1013_0, hl1013_0, hi1013_0⟩ := at_L1 HR1.out x5_1 p1013 q1013; cases e1013; have HR1013_0 := am_ hi1013_0; have HC1013_0 := am_ hl1013_0; clear hi1013_0 hl1013_0; replace p1013 := eq_true p1013; replace q1013 := eq_true q1013; go_wp2_with (first | (go_at_call 23; (with_reducible refine (laws_eqIntS.calls k1 _ _ (rd_L1 l0 x5_1) _ _ (rd_L1 l1 x5_1) true _ ?side1 ?side2 ?side3 ?side4 A7.out).mono ?_); (case side1 => repeat (first | exact HR1012_0.out | (with_reducible refine Kd.C_alloc ?_ _) | (with_reducible refine Kd.C_drewN ?_ _) | (with_reducible refine Kd.C_drew ?_))); (case side2 => exact HC1012_0.out); (case side3 => repeat (first | exact HR1013_0.out | (with_reducible refine Kd.C_alloc ?_ _) | (with_reducible refine Kd.C_drewN ?_ _) | (with_reducible refine Kd.C_drew ?_))); (case side4 => exact HC1013_0.out); rintro e w' ⟨rfl, ⟨nd, rfl⟩⟩; (try first | exact ⟨rfl, _, World.drewN_drewN _ _ _⟩ | exact ⟨rfl, _, Eq.trans (World.drewN_drewN _ _ _) (congrArg (World.drewN _) (Nat.add_assoc _ _ _))⟩)))
        repeat (go_quiet (first | (go_at_call 23; (with_reducible refine (laws_eqIntS.calls k1 _ _ (rd_L1 l0 x5_1) _ _ (rd_L1 l1 x5_1) true _ ?side1 ?side2 ?side3 ?side4 A7.out).mono ?_); (case side1 => repeat (first | exact HR1012_0.out | (with_reducible refine Kd.C_alloc ?_ _) | (with_reducible refine Kd.C_drewN ?_ _) | (with_reducible refine Kd.C_drew ?_))); (case side2 => exact HC1012_0.out); (case side3 => repeat (first | exact HR1013_0.out | (with_reducible refine Kd.C_alloc ?_ _) | (with_reducible refine Kd.C_drewN ?_ _) | (with_reducible refine Kd.C_drew ?_))); (case side4 => exact HC1013_0.out); rintro e w' ⟨rfl, ⟨nd, rfl⟩⟩; (try first | exact ⟨rfl, _, World.drewN_drewN _ _ _⟩ | exact ⟨rfl, _, Eq.trans (World.drewN_drewN _ _ _) (congrArg (World.drewN _) (Nat.add_assoc _ _ _))⟩))); try go_wp2_with (first | (go_at_call 23; (with_reducible refine (laws_eqIntS.calls k1 _ _ (rd_L1 l0 x5_1) _ _ (rd_L1 l1 x5_1) true _ ?side1 ?side2 ?side3 ?side4 A7.out).mono ?_); (case side1 => repeat (first | exact HR1012_0.out | (with_reducible refine Kd.C_alloc ?_ _) | (with_reducible refine Kd.C_drewN ?_ _) | (with_reducible refine Kd.C_drew ?_))); (case side2 => exact HC1012_0.out); (case side3 => repeat (first | exact HR1013_0.out | (with_reducible refine Kd.C_alloc ?_ _) | (with_reducible refine Kd.C_drewN ?_ _) | (with_reducible refine Kd.C_drew ?_))); (case side4 => exact HC1013_0.out); rintro e w' ⟨rfl, ⟨nd, rfl⟩⟩; (try first | exact ⟨rfl, _, World.drewN_drewN _ _ _⟩ | exact ⟨rfl, _, Eq.trans (World.drewN_drewN _ _ _) (congrArg (World.drewN _) (Nat.add_assoc _ _ _))⟩))))
        go_roundg k1
        case measure => have := HK1.out; omega
        case rel => exact ⟨(wrap64 (x5_1 + 1)), vt_, H', hl_ HK1, dr_⟩
       ·replace c8 := Bool.eq_false_iff.mpr c8; subst c8; replace H := ifF_ H; obtain rfl := Option.some.inj H; have p1012 : 0 ≤ (x5_1 : Int) := oda_; have q1012 : x5_1 < (l0.length : Int) := oda_; obtain ⟨ad1012, A1012_0, c1012_0, e1012, hx1012_0, hl1012_0, hi1012_0⟩ := at_L1 HR0.out x5_1 p1012 q1012; cases e1012; have HR1012_0 := am_ hi1012_0; have HC1012_0 := am_ hl1012_0; clear hi1012_0 hl1012_0; replace p1012 := eq_true p1012; replace q1012 := eq_true q1012; have p1013 : 0 ≤ (x5_1 : Int) := oda_; have q1013 : x5_1 < (l1.length : Int) := oda_; obtain ⟨ad1013, A1013_0, c1013_0, e1013, hx1013_0, hl1013_0, hi1013_0⟩ := at_L1 HR1.out x5_1 p1013 q1013; cases e1013; have HR1013_0 := am_ hi1013_0; have HC1013_0 := am_ hl1013_0; clear hi1013_0 hl1013_0; replace p1013 := eq_true p1013; replace q1013 := eq_true q1013; go_wp2_with (first | (go_at_call 23; (with_reducible refine (laws_eqIntS.calls k1 _ _ (rd_L1 l0 x5_1) _ _ (rd_L1 l1 x5_1) false _ ?side1 ?side2 ?side3 ?side4 A7.out).mono ?_); (case side1 => repeat (first | exact HR1012_0.out | (with_reducible refine Kd.C_alloc ?_ _) | (with_reducible refine Kd.C_drewN ?_ _) | (with_reducible refine Kd.C_drew ?_))); (case side2 => exact HC1012_0.out); (case side3 => repeat (first | exact HR1013_0.out | (with_reducible refine Kd.C_alloc ?_ _) | (with_reducible refine Kd.C_drewN ?_ _) | (with_reducible refine Kd.C_drew ?_))); (case side4 => exact HC1013_0.out); rintro e w' ⟨rfl, ⟨nd, rfl⟩⟩; (try first | exact ⟨rfl, _, World.drewN_drewN _ _ _⟩ | exact ⟨rfl, _, Eq.trans (World.drewN_drewN _ _ _) (congrArg (World.drewN _) (Nat.add_assoc _ _ _))⟩)))
        repeat (go_quiet (first | (go_at_call 23; (with_reducible refine (laws_eqIntS.calls k1 _ _ (rd_L1 l0 x5_1) _ _ (rd_L1 l1 x5_1) false _ ?side1 ?side2 ?side3 ?side4 A7.out).mono ?_); (case side1 => repeat (first | exact HR1012_0.out | (with_reducible refine Kd.C_alloc ?_ _) | (with_reducible refine Kd.C_drewN ?_ _) | (with_reducible refine Kd.C_drew ?_))); (case side2 => exact HC1012_0.out); (case side3 => repeat (first | exact HR1013_0.out | (with_reducible refine Kd.C_alloc ?_ _) | (with_reducible refine Kd.C_drewN ?_ _) | (with_reducible refine Kd.C_drew ?_))); (case side4 => exact HC1013_0.out); rintro e w' ⟨rfl, ⟨nd, rfl⟩⟩; (try first | exact ⟨rfl, _, World.drewN_drewN _ _ _⟩ | exact ⟨rfl, _, Eq.trans (World.drewN_drewN _ _ _) (congrArg (World.drewN _) (Nat.add_assoc _ _ _))⟩))); try go_wp2_with (first | (go_at_call 23; (with_reducible refine (laws_eqIntS.calls k1 _ _ (rd_L1 l0 x5_1) _ _ (rd_L1 l1 x5_1) false _ ?side1 ?side2 ?side3 ?side4 A7.out).mono ?_); (case side1 => repeat (first | exact HR1012_0.out | (with_reducible refine Kd.C_alloc ?_ _) | (with_reducible refine Kd.C_drewN ?_ _) | (with_reducible refine Kd.C_drew ?_))); (case side2 => exact HC1012_0.out); (case side3 => repeat (first | exact HR1013_0.out | (with_reducible refine Kd.C_alloc ?_ _) | (with_reducible refine Kd.C_drewN ?_ _) | (with_reducible refine Kd.C_drew ?_))); (case side4 => exact HC1013_0.out); rintro e w' ⟨rfl, ⟨nd, rfl⟩⟩; (try first | exact ⟨rfl, _, World.drewN_drewN _ _ _⟩ | exact ⟨rfl, _, Eq.trans (World.drewN_drewN _ _ _) (congrArg (World.drewN _) (Nat.add_assoc _ _ _))⟩))))
        go_ret; exact ⟨by first | rfl | (simp; done) | (simp [*]; done), dr_⟩
      ·rw [if_neg c6] at H; exact absurd H (by simp)
     ·rw [if_neg c5] at H; exact absurd H (by simp)
    ·rw [if_neg c4] at H; have c4b0 := decide_eq_false c4; clear c4; obtain rfl := Option.some.inj H; go_wp2; repeat (go_quiet (fail); try go_wp2)
     go_ret; exact ⟨by first | rfl | (simp; done) | (simp [*]; done), dr_⟩
 ·rw [if_neg c3] at H; obtain ⟨c3b0, c3b1⟩ := eqF_ c3; have c3b2 : (l0.length == l1.length) = false := by first | simpa using c3 | (simp at c3 ⊢; omega)
  obtain rfl := Option.some.inj H; go_enter Try.func26, Try.ntmps26
  go_wp2; repeat (go_quiet (fail); try go_wp2)
  go_ret; exact ⟨by first | rfl | (simp; done) | (simp [*]; done), dr_⟩
def laws_markIntS.l0 : Nat → List Int → Int → Int → Option (Int × List Int)
 | 0, _, _, _ => none
 | k + 1, x0, x1, x5 => if x5 < (x0.length : Int) then (if 0 ≤ x5 then (laws_markIntS.l0 k (x0.set (x5 : Int).toNat x1) (wrap64 (x1 + 1)) (wrap64 (x5 + 1))) else (none)) else (some (x1, x0))
def laws_markIntS.f (k : Nat) (l0 : List Int) (a1 : Int) : Option (Int × List Int) := laws_markIntS.l0 k l0 a1 0
set_option maxHeartbeats 8000000 in
set_option maxRecDepth 100000 in
theorem laws_markIntS.calls (k : Nat) (P0_ : Nat → Prop) (u9000_ : Value) (l0 : List Int) (a1 : Int) (r1 : Int) (r2 : List Int) (w0 w : World) (hB : Below w0.heap.size w0 w) (ho0 : Kd.R (Kd.int .i64) 3 w w0.heap.size P0_ u9000_ l0) (h : laws_markIntS.f k l0 a1 = some (r1, r2)) :
  Calls Try.prog 27 #[u9000_, .int .i64 a1] w fun e w' => e = .returned (.int .i64 r1) ∧ Kd.R (Kd.int .i64) 3 w' w0.heap.size (fun k_ => (P0_ k_ ∨ w.heap.size ≤ k_)) u9000_ r2 ∧ Below w0.heap.size w0 w' ∧ Kept w w' (fun k_ => P0_ k_) := by
 have HO0 := am_ (show Kd.R (Kd.int .i64) 3 w w0.heap.size (fun k_ => (P0_ k_ ∨ w.heap.size ≤ k_)) u9000_ l0 from Kd.R_mono ho0 (fun k_ hk => (.inl hk))); have HK := am_ (Kept.refl w (fun k_ => P0_ k_)); have HW0 := am_ hB.size; have HB := am_ hB; clear hB; have H : (laws_markIntS.l0 k l0 a1 0) = some (r1, r2) := h; clear h; have H' := am_ H; clear H; go_enter Try.func27, Try.ntmps27
 go_wp2; go_loopg [1, 5] k (fun kq v1 v5 w' => ∃ (x0_1 : List Int) (x1_1 : Int) (x5_1 : Int), v1 = .int .i64 x1_1 ∧ v5 = .int .i64 x5_1 ∧ Aside0 (laws_markIntS.l0 kq x0_1 x1_1 x5_1 = some (r1, r2)) ∧ Aside0 (kq ≤ k) ∧ Aside0 (Kd.R (Kd.int .i64) 3 w' w0.heap.size (fun k_ => (P0_ k_ ∨ w.heap.size ≤ k_)) u9000_ x0_1) ∧ Aside0 (Kept w w' (fun k_ => P0_ k_)) ∧ Aside0 (Below w0.heap.size w0 w'))
 case atStart => exact ⟨(l0), (a1), (0), vt_, vt_, H', ⟨Nat.le_refl _⟩, rX_ HO0, ⟨by repeat (first | (with_reducible first | exact HK.out | apply Kept.alloc | apply Kept.drewN | apply Kept.drew) | exact HK.out)⟩, bX0_ HB⟩
 case round =>
  clear H'; obtain ⟨x0_1, x1_1, x5_1, rfl, rfl, HA, HK1, HO_0, HK, HB⟩ := hrel; cases gk with
  | zero => exact absurd HA.out (by simp [laws_markIntS.l0])
  | succ k1 =>
   have H := HA.out; clear HA; simp only [laws_markIntS.l0] at H
   by_cases c3 : x5_1 < (x0_1.length : Int)
   ·rw [if_pos c3] at H; have c3b0 := decide_eq_true c3; clear c3; by_cases c4 : 0 ≤ x5_1
    ·rw [if_pos c4] at H; have c4b0 := decide_eq_true c4; clear c4; obtain ⟨y1015, hy1015⟩ : ∃ y_ : List Int, y_ = (x0_1.set (x5_1 : Int).toNat x1_1) := ⟨_, rfl⟩; replace H : (laws_markIntS.l0 k1 y1015 (wrap64 (x1_1 + 1)) (wrap64 (x5_1 + 1))) = some (r1, r2) := yH_ hy1015 H; have Ny1015 := am_ hy1015; clear hy1015; have H' := am_ H; clear H; obtain ⟨Ao6, co6, eo6⟩ := Kd.R_slice HO_0.out; subst eo6; have p5 : 0 ≤ (x5_1 : Int) := oda_; have q5 : (x5_1 : Int) < ((x0_1.length : Int) : Int) := oda_; obtain ⟨go5, co5, eo5, gb5, gl5, cl5, HG5⟩ := Kd.R_form HO_0.out (by omega); (first | cases eo5 | (injection eo5 with ea_ en_ ec_; (first | subst ea_ | (injection ea_ with ea_; subst ea_)); subst ec_; clear en_))
     have GB5 := am_ gb5; have GG5 := am_ HG5; clear gb5 gl5 HG5; have HMgo5 := am_ (show (P0_ go5 ∨ w.heap.size ≤ go5) from (HO_0.out.1 _ rfl)); obtain ⟨hx5_0, hf5_0⟩ := Kd.R_celln 0 HO_0.out (x5_1 : Int) p5 q5; replace p5 := eq_true p5; replace q5 := eq_true q5; have HP7 := Kd.R_putg HO_0.out (x5_1 : Int) x1_1; go_wp2_with (first | ((with_reducible refine gate_store (t := 3) (p := 15) rfl ?_); refine store_event (t := 3) (p := 15) (v := ?vo_w8) (w1 := (wr.setCell ⟨go5, (x5_1 : Int).toNat, none⟩ (.int .i64 x1_1))) ?hg ?ho ?hn ?hr ?_; (case ho => rfl); (case hg => rfl); (case hn => rfl); (case hr => first | (go_simp; done) | (go_simp; rfl)); intro w8 hw; have hg : wr.grownBy w8 (some go5) := (by rw [hw]; exact HP7.2); have hp_ : Kd.R (Kd.int .i64) 3 w8 w0.heap.size (fun k_ => (P0_ k_ ∨ w.heap.size ≤ k_)) (.slice (some ⟨go5, 0, none⟩) x0_1.length co6) y1015 := (by rw [hw, Ny1015.out]; exact HP7.1); clear HP7; replace HB := am_ ((by rw [hw]; exact below_set (HB.out) GB5.out : Below w0.heap.size w0 w8)); replace HK := am_ (Kept.of_grown (S := (fun k_ => P0_ k_)) hg (by repeat (first | (with_reducible first | exact HK.out | apply Kept.alloc | apply Kept.drewN | apply Kept.drew) | exact HK.out)) (fun k_ e_ => (HO_0.out.1 k_ e_))); replace HO_0 := am_ hp_; clear hg hw hp_))
     go_roundg k1
     case measure => have := HK1.out; omega
     case rel => exact ⟨(y1015), (wrap64 (x1_1 + 1)), (wrap64 (x5_1 + 1)), vt_, vt_, H', hl_ HK1, rX_ HO_0, ⟨by repeat (first | (with_reducible first | exact HK.out | apply Kept.alloc | apply Kept.drewN | apply Kept.drew) | exact HK.out)⟩, bX0_ HB⟩
    ·rw [if_neg c4] at H; exact absurd H (by simp)
   ·rw [if_neg c3] at H; have c3b0 := decide_eq_false c3; clear c3; simp only [Option.some.injEq, Prod.mk.injEq] at H
    obtain ⟨rfl, rfl⟩ := H; obtain ⟨Ao9, co9, eo9⟩ := Kd.R_slice HO_0.out; subst eo9; go_wp2; go_ret; exact ⟨er_, rx_ HO_0.out, bx0 HB.out, by repeat (first | (with_reducible first | exact HK.out | apply Kept.alloc | apply Kept.drewN | apply Kept.drew) | exact HK.out)⟩
end Go.Proofs.Ytoajlmlobaccdaa.P
namespace Go.Proofs.Ytoajlmlobaccdaa.P
open Go.RowKit Go.Proofs.YtoajlmlobaccdaaW.PrintWords Go.Proofs.YtoajlmlobaccdaaW.PrintLast Go.Proofs.YtoajlmlobaccdaaW.PrintMore
set_option linter.unusedVariables false
set_option linter.unusedSimpArgs false
def laws_markIntSS.l0 : Nat → List (List Int) → Int → Int → Option (Int × List (List Int))
  | 0, _, _, _ => none
  | k + 1, x0, x1, x5 => if x5 < (x0.length : Int) then (if 0 ≤ x5 then ((laws_markIntS.f k (x0.getD x5.toNat []) x1).bind fun t => laws_markIntSS.l0 k (x0.set x5.toNat t.2) t.1 (wrap64 (x5 + 1))) else none) else some (x1, x0)
def laws_markIntSS.f (k : Nat) (l0 : List (List Int)) (a1 : Int) : Option (Int × List (List Int)) := laws_markIntSS.l0 k l0 a1 0
set_option maxHeartbeats 8000000 in
set_option maxRecDepth 100000 in
theorem laws_markIntSS.calls (k : Nat) (P0_ : Nat → Prop) (u : Value) (l0 : List (List Int)) (a1 : Int) (r1 : Int) (r2 : List (List Int)) (w0 w : World) (hB : Below w0.heap.size w0 w) (ho0 : Kd.S (Kd.slice 3 (Kd.int .i64)) 34 w w0.heap.size P0_ u l0) (h : laws_markIntSS.f k l0 a1 = some (r1, r2)) :
    Calls Try.prog 28 #[u, .int .i64 a1] w fun e w' => e = .returned (.int .i64 r1) ∧ Kd.S (Kd.slice 3 (Kd.int .i64)) 34 w' w0.heap.size P0_ u r2 ∧ Below w0.heap.size w0 w' ∧ Kept w w' P0_ := by
  obtain ⟨A, c, rfl⟩ := Kd.S_slice ho0
  have HO := Aside0.mk ho0
  have HK := Aside0.mk (Kept.refl w P0_)
  have HB := Aside0.mk hB
  clear hB ho0
  have H : laws_markIntSS.l0 k l0 a1 0 = some (r1, r2) := h
  clear h
  have H' := Aside0.mk H
  clear H
  go_enter Try.func28, Try.ntmps28
  go_wp2
  go_loopg [1, 5] k (fun kq v1 v5 w' => ∃ (x0 : List (List Int)) (x1 : Int) (x5 : Int), v1 = .int .i64 x1 ∧ v5 = .int .i64 x5 ∧ Aside0 (laws_markIntSS.l0 kq x0 x1 x5 = some (r1, r2)) ∧ Aside0 (kq ≤ k) ∧ Aside0 (Kd.S (Kd.slice 3 (Kd.int .i64)) 34 w' w0.heap.size P0_ (.slice A l0.length c) x0) ∧ Aside0 (Kept w w' P0_) ∧ Aside0 (Below w0.heap.size w0 w'))
  case atStart => exact ⟨l0, a1, 0, (by first | rfl | (simp; done)), (by first | rfl | (simp; done)), H', ⟨Nat.le_refl _⟩, ⟨by (with_reducible repeat (first | apply Kd.S_alloc | apply Kd.S_drewN | apply Kd.S_drew)); exact HO.out⟩, ⟨by repeat (first | (with_reducible first | exact HK.out | apply Kept.alloc | apply Kept.drewN | apply Kept.drew) | exact HK.out)⟩, ⟨by repeat (first | (with_reducible first | exact HB.out | apply below_alloc | apply pw_below_drewN | apply below_drew1) | exact HB.out)⟩⟩
  case round =>
    clear H'
    obtain ⟨x0, x1, x5, rfl, rfl, HA, HK1, HO_0, HK, HB⟩ := hrel
    have hlen := (Kd.S_reads' HO_0.out).1
    cases gk with
    | zero => exact absurd HA.out (by simp [laws_markIntSS.l0])
    | succ k1 =>
      have H := HA.out
      clear HA
      simp only [laws_markIntSS.l0] at H
      rw [← hlen] at H
      by_cases c3 : x5 < (l0.length : Int)
      · rw [if_pos c3] at H
        by_cases c4 : 0 ≤ x5
        · rw [if_pos c4] at H
          obtain ⟨g, cap, ev, hg0, hg1, _⟩ := Kd.S_form HO_0.out (by omega)
          injection ev with ea en ec
          subst ea
          clear en ec
          obtain ⟨oki, cs, hcl, hM, hcc, hoki, hH⟩ := Kd.S_lend HO_0.out ([] : List Int) x5 c4 c3
          obtain ⟨v, rfl, hR⟩ := hM
          obtain ⟨A1, c1, rfl⟩ := Kd.R_slice hR
          have hx := hcc 0 _ rfl
          rw [Nat.add_zero, show ((Kd.slice 3 (Kd.int .i64))).sz = 1 from rfl, Nat.mul_one] at hx
          clear hcc hcl
          replace H := Option.bind_eq_some_iff.mp H
          obtain ⟨t, A50, H⟩ := H
          have A5 := Aside0.mk A50
          clear A50
          have H' := Aside0.mk H
          clear H
          have HR := Aside0.mk hR
          have HH := Aside0.mk hH
          have HOK := Aside0.mk hoki
          clear hR hH hoki
          have c3b : decide (x5 < (l0.length : Int)) = true := decide_eq_true c3
          have c4b := eq_true c4
          have c3t := eq_true c3
          have HLEN := Aside0.mk hlen
          have HC4 := Aside0.mk c4
          have HC3 := Aside0.mk c3
          clear hlen c3 c4
          generalize hL : x0.getD x5.toNat [] = row at *
          have HL := Aside0.mk hL
          clear hL
          go_wp2_with (first | ((with_reducible refine gate_callee (f := 27) rfl ?_); refine goesL_ (some 17) rfl rfl Try.func27 (by kernel_rfl) rfl #[.slice A1 row.length c1, .int .i64 x1] rfl (by (try simp only [List.map_toArray, List.map_cons, List.map_nil]); first | done | rfl) ?_; (with_reducible refine (laws_markIntS.calls k1 oki (.slice A1 row.length c1) row x1 t.1 t.2 w0 _ HB.out HR.out A5.out).mono ?_); rintro e w2 ⟨rfl, hr2, hb2, hk2⟩; refine ⟨_, rfl, ?_⟩; have n0_ := Aside0.mk hr2; have n1_ := Aside0.mk hb2; have n2_ := Aside0.mk hk2; clear hr2 hb2 hk2))
          have hM2 : (Kd.slice 3 (Kd.int .i64)).M w2 w0.heap.size oki t.2 [.slice A1 row.length c1] := ⟨_, rfl, Kd.R_mono (Kd.R_tight rfl n0_.out) (fun k_ hk_ => HR.out.1 k_ hk_.symm)⟩
          have hH2 := Kd.H_step HH.out (w1 := w2) (fun k_ _ hn_ hlt_ => n2_.out.2 k_ hlt_ hn_)
          have hS2 := Aside0.mk (Kd.H_back hH2 hM2 (fun _ hk_ => hk_))
          have hK2 := Aside0.mk (Kept.then_ HK.out n2_.out (fun k_ hk_ => .inl (HOK.out k_ hk_).1))
          clear hM2 hH2
          go_roundg k1
          case measure => have := HK1.out; omega
          case rel => exact ⟨x0.set x5.toNat t.2, t.1, wrap64 (x5 + 1), (by first | rfl | (simp; done)), (by first | rfl | (simp; done)), H', ⟨by have := HK1.out; omega⟩, hS2, hK2, n1_⟩
        · rw [if_neg c4] at H
          exact absurd H (by simp)
      · rw [if_neg c3] at H
        have c3b : decide (x5 < (l0.length : Int)) = false := decide_eq_false c3
        have c3t := eq_false c3
        clear hlen
        simp only [Option.some.injEq, Prod.mk.injEq] at H
        obtain ⟨rfl, rfl⟩ := H
        go_wp2
        go_ret
        exact ⟨by first | rfl | (simp [*]), HO_0.out, HB.out, HK.out⟩
end Go.Proofs.Ytoajlmlobaccdaa.P
namespace Go.Proofs.Ytoajlmlobaccdaa.P
open Go.RowKit Go.Proofs.YtoajlmlobaccdaaW.PrintWords Go.Proofs.YtoajlmlobaccdaaW.PrintLast Go.Proofs.YtoajlmlobaccdaaW.PrintMore
attribute [local go_sem] ptrOf_slice
attribute [local go_sem] min2_str max2_int min2_int max_two min_two max_three min_three max_four min_four
set_option linter.unusedVariables false
set_option linter.unusedSimpArgs false
def laws_heldIntS.l0 : Nat → List Int → Int → Int → Option (Int)
 | 0, _, _, _ => none
 | k + 1, x0, x1, x5 => if x5 < (x0.length : Int) then (if 0 ≤ x5 then (if (rd x0 x5) = x1 then (laws_heldIntS.l0 k x0 (wrap64 (x1 + 1)) (wrap64 (x5 + 1))) else (some (-1))) else (none)) else (some x1)
def laws_heldIntS.f (k : Nat) (l0 : List Int) (a1 : Int) : Option (Int) := laws_heldIntS.l0 k l0 a1 0
set_option maxHeartbeats 8000000 in
set_option maxRecDepth 100000 in
theorem laws_heldIntS.calls (k : Nat) (A0 : Option Addr) (c0 : Nat) (l0 : List Int) (a1 : Int) (r : Int) (w : World) (hr0 : Kd.C (Kd.int .i64) w A0 l0.length l0) (hc0 : l0.length ≤ c0) (h : laws_heldIntS.f k l0 a1 = some r) :
  Calls Try.prog 103 #[.slice A0 l0.length c0, .int .i64 a1] w fun e w' => e = .returned (.int .i64 r) ∧ Drawn0 w w' := by
 have HR0 := am_ hr0; have HC0 := am_ hc0; clear hr0 hc0; have H : (laws_heldIntS.l0 k l0 a1 0) = some r := h; clear h; have H' := am_ H; clear H; go_enter Try.func103, Try.ntmps103
 go_wp2; go_loopg [1, 5] k (fun kq v1 v5 w' => ∃ (x1_1 : Int) (x5_1 : Int), v1 = .int .i64 x1_1 ∧ v5 = .int .i64 x5_1 ∧ Aside0 (laws_heldIntS.l0 kq l0 x1_1 x5_1 = some r) ∧ Aside0 (kq ≤ k) ∧ Drawn0 w w')
 case atStart => exact ⟨(a1), (0), vt_, vt_, H', ⟨Nat.le_refl _⟩, dr_⟩
 case round =>
  clear H'; obtain ⟨x1_1, x5_1, rfl, rfl, HA, HK1, ⟨m1, rfl⟩⟩ := hrel; cases gk with
  | zero => exact absurd HA.out (by simp [laws_heldIntS.l0])
  | succ k1 =>
   have H := HA.out; clear HA; simp only [laws_heldIntS.l0] at H
   by_cases c3 : x5_1 < (l0.length : Int)
   ·rw [if_pos c3] at H; have c3b0 := decide_eq_true c3; clear c3; by_cases c4 : 0 ≤ x5_1
    ·rw [if_pos c4] at H; have c4b0 := decide_eq_true c4; clear c4; by_cases c5 : (rd l0 x5_1) = x1_1
     ·rw [if_pos c5] at H; obtain ⟨c5b0, c5b1⟩ := eqT_ c5; clear c5; have H' := am_ H; clear H; have p1017 : 0 ≤ (x5_1 : Int) := oda_; have q1017 : x5_1 < (l0.length : Int) := oda_; obtain ⟨ad1017, e1017, hx1017_0⟩ := Kd.at_int HR0.out x5_1 p1017 q1017; cases e1017; replace p1017 := eq_true p1017; replace q1017 := eq_true q1017; go_wp2; go_roundg k1
      case measure => have := HK1.out; omega
      case rel => exact ⟨(wrap64 (x1_1 + 1)), (wrap64 (x5_1 + 1)), vt_, vt_, H', hl_ HK1, dr_⟩
     ·rw [if_neg c5] at H; obtain ⟨c5b0, c5b1⟩ := eqF_ c5; obtain rfl := Option.some.inj H; have p1017 : 0 ≤ (x5_1 : Int) := oda_; have q1017 : x5_1 < (l0.length : Int) := oda_; obtain ⟨ad1017, e1017, hx1017_0⟩ := Kd.at_int HR0.out x5_1 p1017 q1017; cases e1017; replace p1017 := eq_true p1017; replace q1017 := eq_true q1017; go_wp2; go_ret; exact ⟨by first | rfl | (simp; done) | (simp [*]; done), dr_⟩
    ·rw [if_neg c4] at H; exact absurd H (by simp)
   ·rw [if_neg c3] at H; have c3b0 := decide_eq_false c3; clear c3; obtain rfl := Option.some.inj H; go_wp2; go_ret; exact ⟨by first | rfl | (simp; done) | (simp [*]; done), dr_⟩
def laws_heldIntSS.l0 : Nat → List (List Int) → Int → Int → Option (Int)
 | 0, _, _, _ => none
 | k + 1, x0, x1, x5 => if x5 < (x0.length : Int) then (if 0 ≤ x5 then ((laws_heldIntS.f k (rd_L1 x0 x5) x1).bind fun t1019 => (if t1019 < 0 then (some (-1)) else (laws_heldIntSS.l0 k x0 t1019 (wrap64 (x5 + 1))))) else (none)) else (some x1)
def laws_heldIntSS.f (k : Nat) (l0 : List (List Int)) (a1 : Int) : Option (Int) := laws_heldIntSS.l0 k l0 a1 0
set_option maxHeartbeats 8000000 in
set_option maxRecDepth 100000 in
theorem laws_heldIntSS.calls (k : Nat) (A0 : Option Addr) (c0 : Nat) (l0 : List (List Int)) (a1 : Int) (r : Int) (w : World) (hr0 : Kd.C (Kd.slice 3 (Kd.int .i64)) w A0 l0.length l0) (hc0 : l0.length ≤ c0) (h : laws_heldIntSS.f k l0 a1 = some r) :
  Calls Try.prog 29 #[.slice A0 l0.length c0, .int .i64 a1] w fun e w' => e = .returned (.int .i64 r) ∧ Drawn0 w w' := by
 have HR0 := am_ hr0; have HC0 := am_ hc0; clear hr0 hc0; have H : (laws_heldIntSS.l0 k l0 a1 0) = some r := h; clear h; have H' := am_ H; clear H; go_enter Try.func29, Try.ntmps29
 go_wp2; go_loopg [1, 5] k (fun kq v1 v5 w' => ∃ (x1_1 : Int) (x5_1 : Int), v1 = .int .i64 x1_1 ∧ v5 = .int .i64 x5_1 ∧ Aside0 (laws_heldIntSS.l0 kq l0 x1_1 x5_1 = some r) ∧ Aside0 (kq ≤ k) ∧ Drawn0 w w')
 case atStart => exact ⟨(a1), (0), vt_, vt_, H', ⟨Nat.le_refl _⟩, dr_⟩
 case round =>
  clear H'; obtain ⟨x1_1, x5_1, rfl, rfl, HA, HK1, ⟨m1, rfl⟩⟩ := hrel; cases gk with
  | zero => exact absurd HA.out (by simp [laws_heldIntSS.l0])
  | succ k1 =>
   have H := HA.out; clear HA; simp only [laws_heldIntSS.l0] at H
   by_cases c3 : x5_1 < (l0.length : Int)
   ·rw [if_pos c3] at H; have c3b0 := decide_eq_true c3; clear c3; by_cases c4 : 0 ≤ x5_1
    ·rw [if_pos c4] at H; have c4b0 := decide_eq_true c4; clear c4; obtain ⟨t1019, A5, H⟩ := bnd_ H; by_cases c6 : t1019 < 0
     ·rw [if_pos c6] at H; have c6b0 := decide_eq_true c6; clear c6; obtain rfl := Option.some.inj H; have p1018 : 0 ≤ (x5_1 : Int) := oda_; have q1018 : x5_1 < (l0.length : Int) := oda_; obtain ⟨ad1018, A1018_0, c1018_0, e1018, hx1018_0, hl1018_0, hi1018_0⟩ := at_L1 HR0.out x5_1 p1018 q1018; cases e1018; have HR1018_0 := am_ hi1018_0; have HC1018_0 := am_ hl1018_0; clear hi1018_0 hl1018_0; replace p1018 := eq_true p1018; replace q1018 := eq_true q1018; go_wp2_with (first | ((with_reducible refine gc_ 103 rfl ?_); refine gL_ (some 17) Try.func103 #[.slice A1018_0 (rd_L1 l0 x5_1).length c1018_0, .int .i64 x1_1] ?_; (with_reducible refine (laws_heldIntS.calls k1 _ _ (rd_L1 l0 x5_1) x1_1 t1019 _ ?side1 ?side2 A5.out).mono ?_); (case side1 => repeat (first | exact HR1018_0.out | (with_reducible refine Kd.C_alloc ?_ _) | (with_reducible refine Kd.C_drewN ?_ _) | (with_reducible refine Kd.C_drew ?_))); (case side2 => exact HC1018_0.out); rintro e w' ⟨rfl, ⟨nd, rfl⟩⟩; refine ⟨_, rfl, ?_⟩))
      go_ret; exact ⟨by first | rfl | (simp; done) | (simp [*]; done), dr_⟩
     ·rw [if_neg c6] at H; have c6b0 := decide_eq_false c6; clear c6; have H' := am_ H; clear H; have p1018 : 0 ≤ (x5_1 : Int) := oda_; have q1018 : x5_1 < (l0.length : Int) := oda_; obtain ⟨ad1018, A1018_0, c1018_0, e1018, hx1018_0, hl1018_0, hi1018_0⟩ := at_L1 HR0.out x5_1 p1018 q1018; cases e1018; have HR1018_0 := am_ hi1018_0; have HC1018_0 := am_ hl1018_0; clear hi1018_0 hl1018_0; replace p1018 := eq_true p1018; replace q1018 := eq_true q1018; go_wp2_with (first | ((with_reducible refine gc_ 103 rfl ?_); refine gL_ (some 17) Try.func103 #[.slice A1018_0 (rd_L1 l0 x5_1).length c1018_0, .int .i64 x1_1] ?_; (with_reducible refine (laws_heldIntS.calls k1 _ _ (rd_L1 l0 x5_1) x1_1 t1019 _ ?side1 ?side2 A5.out).mono ?_); (case side1 => repeat (first | exact HR1018_0.out | (with_reducible refine Kd.C_alloc ?_ _) | (with_reducible refine Kd.C_drewN ?_ _) | (with_reducible refine Kd.C_drew ?_))); (case side2 => exact HC1018_0.out); rintro e w' ⟨rfl, ⟨nd, rfl⟩⟩; refine ⟨_, rfl, ?_⟩))
      go_roundg k1
      case measure => have := HK1.out; omega
      case rel => exact ⟨(t1019), (wrap64 (x5_1 + 1)), vt_, vt_, H', hl_ HK1, dr_⟩
    ·rw [if_neg c4] at H; exact absurd H (by simp)
   ·rw [if_neg c3] at H; have c3b0 := decide_eq_false c3; clear c3; obtain rfl := Option.some.inj H; go_wp2; go_ret; exact ⟨by first | rfl | (simp; done) | (simp [*]; done), dr_⟩
mutual
def spec_l3Index.l0 : Nat → Int → Int → Int → Int → Int → Int → Option (Int)
 | 0, _, _, _, _, _, _ => none
 | k + 1, x0, x1, x2, x3, x9, x10 => if x10 < x1 then (spec_l3Index.l0 k x0 x1 x2 x3 (wrap64 (x9 + (wrap64 (Int.tdiv (wrap64 ((wrap64 ((wrap64 (x0 - 1)) - x10)) * (wrap64 ((wrap64 (x0 - 2)) - x10)))) 2)))) (wrap64 (x10 + 1))) else (spec_l3Index.l1 k x0 x2 x3 x9 (wrap64 (x1 + 1)))
def spec_l3Index.l1 : Nat → Int → Int → Int → Int → Int → Option (Int)
 | 0, _, _, _, _, _ => none
 | k + 1, x0, x2, x3, x9, x11 => if x11 < x2 then (spec_l3Index.l1 k x0 x2 x3 (wrap64 ((wrap64 ((wrap64 (x9 + x0)) - 1)) - x11)) (wrap64 (x11 + 1))) else (some (wrap64 ((wrap64 ((wrap64 (x9 + x3)) - x2)) - 1)))
end
def spec_l3Index.f (k : Nat) (a0 : Int) (a1 : Int) (a2 : Int) (a3 : Int) : Option (Int) := spec_l3Index.l0 k a0 a1 a2 a3 0 0
theorem spec_l3Index.mono_l : ∀ k, (∀ y0 y1 y2 y3 y4 y5, LeO (spec_l3Index.l0 k y0 y1 y2 y3 y4 y5) (spec_l3Index.l0 (k + 1) y0 y1 y2 y3 y4 y5)) ∧ (∀ y0 y1 y2 y3 y4, LeO (spec_l3Index.l1 k y0 y1 y2 y3 y4) (spec_l3Index.l1 (k + 1) y0 y1 y2 y3 y4))
 | 0 => ⟨fun _ _ _ _ _ _ r h => by simp [spec_l3Index.l0] at h, fun _ _ _ _ _ r h => by simp [spec_l3Index.l1] at h⟩
 | k + 1 => by
  obtain ⟨ih0, ih1⟩ := spec_l3Index.mono_l k; refine ⟨?_, ?_⟩ <;> (intros; (first | unfold spec_l3Index.l0 | unfold spec_l3Index.l1); repeat' first | (with_reducible first | apply ih0 | apply ih1 | exact LeO.refl _ | exact LeO.none _ | refine LeO.ite ?_ ?_ | refine LeO.bind ?_ (fun _ => ?_)) | exact LeO.none _)
theorem spec_l3Index.mono : ∀ a0 a1 a2 a3 k, LeO (spec_l3Index.f k a0 a1 a2 a3) (spec_l3Index.f (k + 1) a0 a1 a2 a3) := by
 intro a0 a1 a2 a3 k; obtain ⟨ih0, ih1⟩ := spec_l3Index.mono_l k; unfold spec_l3Index.f
 repeat' first | (with_reducible first | apply ih0 | apply ih1 | exact LeO.refl _ | exact LeO.none _ | refine LeO.ite ?_ ?_ | refine LeO.bind ?_ (fun _ => ?_)) | exact LeO.none _
set_option maxHeartbeats 8000000 in
set_option maxRecDepth 100000 in
theorem spec_l3Index.calls (k : Nat) (a0 : Int) (a1 : Int) (a2 : Int) (a3 : Int) (r : Int) (w : World) (h : spec_l3Index.f k a0 a1 a2 a3 = some r) :
  Calls Try.prog 106 #[.int .i64 a0, .int .i64 a1, .int .i64 a2, .int .i64 a3] w fun e w' => e = .returned (.int .i64 r) ∧ Drawn0 w w' := by
 have H : (spec_l3Index.l0 k a0 a1 a2 a3 0 0) = some r := h; clear h; have H' := am_ H; clear H; go_enter Try.func106, Try.ntmps106
 go_wp2; go_loopg [9, 10] k (fun kq v9 v10 w' => ∃ (x9_1 : Int) (x10_1 : Int), v9 = .int .i64 x9_1 ∧ v10 = .int .i64 x10_1 ∧ Aside0 (spec_l3Index.l0 kq a0 a1 a2 a3 x9_1 x10_1 = some r) ∧ Aside0 (kq ≤ k) ∧ Drawn0 w w')
 case atStart => exact ⟨(0), (0), vt_, vt_, H', ⟨Nat.le_refl _⟩, dr_⟩
 case round =>
  clear H'; obtain ⟨x9_1, x10_1, rfl, rfl, HA, HK1, ⟨m1, rfl⟩⟩ := hrel; cases gk with
  | zero => exact absurd HA.out (by simp [spec_l3Index.l0])
  | succ k1 =>
   have H := HA.out; clear HA; simp only [spec_l3Index.l0] at H
   by_cases c5 : x10_1 < a1
   ·rw [if_pos c5] at H; have c5b0 := decide_eq_true c5; clear c5; have H' := am_ H; clear H; go_wp2; go_roundg k1
    case measure => have := HK1.out; omega
    case rel => exact ⟨(wrap64 (x9_1 + (wrap64 (Int.tdiv (wrap64 ((wrap64 ((wrap64 (a0 - 1)) - x10_1)) * (wrap64 ((wrap64 (a0 - 2)) - x10_1)))) 2)))), (wrap64 (x10_1 + 1)), vt_, vt_, H', hl_ HK1, dr_⟩
   ·rw [if_neg c5] at H; have c5b0 := decide_eq_false c5; clear c5; have H' := am_ H; clear H; go_wp2; go_loopg [9, 11] k1 (fun kq v9 v11 w' => ∃ (x9_2 : Int) (x11_2 : Int), v9 = .int .i64 x9_2 ∧ v11 = .int .i64 x11_2 ∧ Aside0 (spec_l3Index.l1 kq a0 a2 a3 x9_2 x11_2 = some r) ∧ Aside0 (kq ≤ k1) ∧ Drawn0 w w')
    case atStart => exact ⟨(x9_1), (wrap64 (a1 + 1)), vt_, vt_, H', ⟨Nat.le_refl _⟩, dr_⟩
    case round =>
     clear H'; try clear c5b0
     obtain ⟨x9_2, x11_2, rfl, rfl, HA, HK2, ⟨m2, rfl⟩⟩ := hrel; cases gk with
     | zero => exact absurd HA.out (by simp [spec_l3Index.l1])
     | succ k2 =>
      have H := HA.out; clear HA; simp only [spec_l3Index.l1] at H
      by_cases c6 : x11_2 < a2
      ·rw [if_pos c6] at H; have c6b0 := decide_eq_true c6; clear c6; have H' := am_ H; clear H; go_wp2; go_roundg k2
       case measure => have := HK1.out; have := HK2.out; omega
       case rel => exact ⟨(wrap64 ((wrap64 ((wrap64 (x9_2 + a0)) - 1)) - x11_2)), (wrap64 (x11_2 + 1)), vt_, vt_, H', hl2_ HK1 HK2, dr_⟩
      ·rw [if_neg c6] at H; have c6b0 := decide_eq_false c6; clear c6; obtain rfl := Option.some.inj H; go_wp2; go_ret; exact ⟨by first | rfl | (simp; done) | (simp [*]; done), dr_⟩
def spec_l18Copy.l0 : Nat → List (List Int) → List (List Int) → Int → Option ((List (List Int)))
 | 0, _, _, _ => none
 | k + 1, x0, x3, x4 => if x4 < (x0.length : Int) then ((some (([] : List Int) : List Int)).bind fun y1054 => (if 0 ≤ x4 then (if y1054.length + (rd_L1 x0 x4).length < 17592186044416 then (if x3.length < 5864062014805 then (spec_l18Copy.l0 k x0 (x3 ++ [(y1054 ++ (rd_L1 x0 x4))]) (wrap64 (x4 + 1))) else (none)) else (none)) else (none))) else (some x3)
def spec_l18Copy.f (k : Nat) (l0 : List (List Int)) : Option ((List (List Int))) := spec_l18Copy.l0 k l0 (([] : List (List Int))) 0
theorem spec_l18Copy.mono_l : ∀ k, (∀ y0 y1 y2, LeO (spec_l18Copy.l0 k y0 y1 y2) (spec_l18Copy.l0 (k + 1) y0 y1 y2))
 | 0 => fun _ _ _ r h => by simp [spec_l18Copy.l0] at h
 | k + 1 => by
  have ih0 := spec_l18Copy.mono_l k
  ·intro y0 y1 y2; unfold spec_l18Copy.l0
   repeat' first | (with_reducible first | apply ih0 | exact LeO.refl _ | exact LeO.none _ | refine LeO.ite ?_ ?_ | refine LeO.bind ?_ (fun _ => ?_)) | exact LeO.none _
theorem spec_l18Copy.mono : ∀ a0 k, LeO (spec_l18Copy.f k a0) (spec_l18Copy.f (k + 1) a0) := by
 intro a0 k; have ih0 := spec_l18Copy.mono_l k; unfold spec_l18Copy.f
 repeat' first | (with_reducible first | apply ih0 | exact LeO.refl _ | exact LeO.none _ | refine LeO.ite ?_ ?_ | refine LeO.bind ?_ (fun _ => ?_)) | exact LeO.none _
set_option maxHeartbeats 8000000 in
set_option maxRecDepth 100000 in
theorem spec_l18Copy.calls (k : Nat) (A0 : Option Addr) (c0 : Nat) (l0 : List (List Int)) (r : List (List Int)) (w : World) (hr0 : Kd.C (Kd.slice 3 (Kd.int .i64)) w A0 l0.length l0) (hc0 : l0.length ≤ c0) (h : spec_l18Copy.f k l0 = some r) :
  Calls Try.prog 107 #[.slice A0 l0.length c0] w fun e w' => ∃ v0_ : Value, e = .returned (v0_) ∧ Kd.S (Kd.slice 3 (Kd.int .i64)) 34 w' w.heap.size (fun _ => True) v0_ r ∧ Below w.heap.size w w' := by
 have HR0 := am_ hr0; have HC0 := am_ hc0; clear hr0 hc0; have HB := am_ (Below.refl w.heap.size w); have H : (spec_l18Copy.l0 k l0 (([] : List (List Int))) 0) = some r := h; clear h; obtain ⟨y1051, hy1051⟩ : ∃ y_ : List (List Int), y_ = (([] : List (List Int))) := ⟨_, rfl⟩; replace H : (spec_l18Copy.l0 k l0 y1051 0) = some r := yH_ hy1051 H; have Ny1051 := am_ hy1051; clear hy1051; have H' := am_ H; clear H; go_enter Try.func107, Try.ntmps107
 go_wp2_with (first | ((with_reducible refine gd_ 5 rfl ?_); refine Kd.S_lit (Kd.slice 3 (Kd.int .i64)) _ 34 ?hg (N := 5) ?hd (xs := ([] : List (List Int))) (inner := []) (ok := fun _ => True) (okp := fun _ => True) ?hr ?hp (fun _ hk => hk) trivial (Below.refl _ _) (Nat.le_refl _) (by simp) ?_; (case hd => rfl); (case hg => rfl); (case hr => first | (go_simp; done) | (go_simp; rfl)); (case hp => exact (Reps.none _ _)); intro v1052 w2 ho3 hb hg_ hnew_; clear hg_ hnew_; (first | rw [← Ny1051.out] at ho3 | (simp only [Int.reduceToNat] at ho3; rw [← Ny1051.out] at ho3)); have HO1053 := am_ (Kd.S_lower ho3 (below_size (bx0 HB.out))); replace HB := bs0_ HB hb; clear hb ho3))
 go_loopg [3, 4] k (fun kq v3 v4 w' => ∃ (x3_1 : List (List Int)) (x4_1 : Int), v4 = .int .i64 x4_1 ∧ Aside0 (spec_l18Copy.l0 kq l0 x3_1 x4_1 = some r) ∧ Aside0 (kq ≤ k) ∧ Aside0 (Kd.S (Kd.slice 3 (Kd.int .i64)) 34 w' w.heap.size (fun _ => True) v3 x3_1) ∧ Aside0 (Below w.heap.size w w'))
 case atStart => exact ⟨(y1051), (0), vt_, H', ⟨Nat.le_refl _⟩, ⟨sx_ HO1053.out⟩, bX0_ HB⟩
 case round =>
  clear H'; obtain ⟨x3_1, x4_1, rfl, HA, HK1, HO_3, HB⟩ := hrel; cases gk with
  | zero => exact absurd HA.out (by simp [spec_l18Copy.l0])
  | succ k1 =>
   have H := HA.out; clear HA; simp only [spec_l18Copy.l0] at H
   by_cases c4 : x4_1 < (l0.length : Int)
   ·rw [if_pos c4] at H; have c4b0 := decide_eq_true c4; clear c4; obtain ⟨y1054, hy1054⟩ : ∃ y_ : List Int, y_ = (([] : List Int)) := ⟨_, rfl⟩; replace H : (if 0 ≤ x4_1 then (if y1054.length + (rd_L1 l0 x4_1).length < 17592186044416 then (if x3_1.length < 5864062014805 then (spec_l18Copy.l0 k1 l0 (x3_1 ++ [(y1054 ++ (rd_L1 l0 x4_1))]) (wrap64 (x4_1 + 1))) else (none)) else (none)) else (none)) = some r := yH_ hy1054 H; have Ny1054 := am_ hy1054; clear hy1054; by_cases c5 : 0 ≤ x4_1
    ·rw [if_pos c5] at H; have c5b0 := decide_eq_true c5; clear c5; by_cases c6 : y1054.length + (rd_L1 l0 x4_1).length < 17592186044416
     ·rw [if_pos c6] at H; have LMc6 := am_ c6; clear c6; obtain ⟨y1058, hy1058⟩ : ∃ y_ : List Int, y_ = (y1054 ++ (rd_L1 l0 x4_1)) := ⟨_, rfl⟩; replace H : (if x3_1.length < 5864062014805 then (spec_l18Copy.l0 k1 l0 (x3_1 ++ [y1058]) (wrap64 (x4_1 + 1))) else (none)) = some r := yH_ hy1058 H; have Ny1058 := am_ hy1058; clear hy1058; by_cases c7 : x3_1.length < 5864062014805
      ·rw [if_pos c7] at H; have LMc7 := am_ c7; clear c7; obtain ⟨y1061, hy1061⟩ : ∃ y_ : List (List Int), y_ = (x3_1 ++ [y1058]) := ⟨_, rfl⟩; replace H : (spec_l18Copy.l0 k1 l0 y1061 (wrap64 (x4_1 + 1))) = some r := yH_ hy1061 H; have Ny1061 := am_ hy1061; clear hy1061; have H' := am_ H; clear H; go_wp2_with (first | ((with_reducible refine gd_ 13 rfl ?_); refine Kd.R_lit (Kd.int .i64) _ 3 ?hg (N := 13) ?hd (xs := ([] : List Int)) (inner := []) (ok := fun _ => True) (okp := fun _ => True) ?hr ?hp (fun _ hk => hk) trivial (Below.refl _ _) (Nat.le_refl _) (by simp) ?_; (case hd => rfl); (case hg => rfl); (case hr => first | (go_simp; done) | (go_simp; rfl)); (case hp => exact (Reps.none _ _)); intro v1055 w8 ho9 hb hg_ hnew_; clear hg_ hnew_; (first | rw [← Ny1054.out] at ho9 | (simp only [Int.reduceToNat] at ho9; rw [← Ny1054.out] at ho9)); replace HO_3 := am_ (Kd.S_elder' (sx_ HO_3.out) (Kd.R_base ho9) hb); have HO1056 := rl0_ ho9 HB; replace HB := bs0_ HB hb; clear hb ho9; have p1057 : 0 ≤ (x4_1 : Int) := oda_; have q1057 : x4_1 < (l0.length : Int) := oda_; obtain ⟨ad1057, A1057_0, c1057_0, e1057, hx1057_0, hl1057_0, hi1057_0⟩ := at_L1 HR0.out x4_1 p1057 q1057; cases e1057; replace hx1057_0 := hc_ HB hx1057_0; have HR1057_0 := am_ hi1057_0; have HC1057_0 := am_ hl1057_0; clear hi1057_0 hl1057_0; replace p1057 := eq_true p1057; replace q1057 := eq_true q1057) | ((with_reducible refine gate_builtin (b := .append) (xs := #[.tmp 13, .tmp 17]) rfl ?_); at_builtin; refine Kd.R_append_rows (Kd.int .i64) (w0 := w) w.heap.size rfl (.tmp 13) (.tmp 17) 34 3 (.int .i64 0) 8 rfl Try.underlying34 info3 rfl (by decide) (by omega) v1055 y1054 (rd_L1 l0 x4_1) _ _ _ (fun _ => True) (fun _ => False) rfl rfl ?aO ?aR (fun _ _ h => h) (fun _ h => h.elim) ?aF ?aB ?aS ?aL ?_; (case aR => exact cS_ HR1057_0 HB); (case aB => exact (bx0 HB.out)); (case aF => exact (fun _ _ => trivial)); (case aO => exact (rx_ HO1056.out)); (case aS => exact (below_size (bx0 HB.out))); (case aL => have := LMc6.out; omega); intro v1059 w10 ho hb hg hat; rw [← Ny1058.out] at ho; replace HO_3 := am_ (Kd.S_after (ok := (fun _ => True)) (by refine sx_ ?_; first | exact HO_3.out | exact Kd.R_len HO_3.out) hg hat); replace HB := am_ hb; have HO1060 := am_ ho; clear HO1056; clear ho hb hg hat; obtain ⟨Ao12, co12, eo12⟩ := Kd.R_slice HO1060.out; subst eo12) | ((with_reducible refine gate_builtin (b := .append) (xs := #[.tmp 12, .tmp 19]) rfl ?_); at_builtin; refine Kd.S_append (Kd.slice 3 (Kd.int .i64)) (w0 := w) w.heap.size rfl (.tmp 12) (.tmp 19) 39 34 (.slice none 0 0) 24 rfl Try.underlying39 info34 rfl (by decide) (by omega) u3 x3_1 y1058 [.slice Ao12 y1058.length co12] (fun _ => True) (fun k_ => some k_ = (.slice Ao12 y1058.length co12 : Value).ownBlock) rfl rfl ?aP (fun k_ hk_ => ((Kd.R_mono (ok' := fun k_ => ((fun _ => True)) k_ ∧ some k_ ≠ (u3 : Value).ownBlock) (Kd.R_apart' (HO1060.out) (Kd.S_typed HO_3.out) (by decide)) (fun k_ hk => ⟨trivial, hk.2⟩))).1 k_ hk_.symm) ?aF ?aO ?aB ?aS ?aL ?_; (case aP => exact Kd.M_row (Kd.R_mono (Kd.R_tight rfl (Kd.R_mono (ok' := fun k_ => ((fun _ => True)) k_ ∧ some k_ ≠ (u3 : Value).ownBlock) (Kd.R_apart' (HO1060.out) (Kd.S_typed HO_3.out) (by decide)) (fun k_ hk => ⟨trivial, hk.2⟩))) (fun _ h_ => h_))); (case aB => exact (bx0 HB.out)); (case aF => exact (fun _ _ => trivial)); (case aO => exact (by refine sx_ ?_; exact Kd.S_mono HO_3.out (fun k_ hk => ⟨trivial, fun e_ => hk.2 e_⟩))); (case aS => exact (below_size (bx0 HB.out))); (case aL => have := LMc7.out; omega); intro v1062 w11 ho hb hg hat; rw [← Ny1061.out] at ho; replace HB := am_ hb; have HO1063 := am_ ho; clear HO_3; clear HO1060; clear ho hb hg hat))
       go_roundg k1
       case measure => have := HK1.out; omega
       case rel => exact ⟨(y1061), (wrap64 (x4_1 + 1)), vt_, H', hl_ HK1, ⟨sx_ HO1063.out⟩, bX0_ HB⟩
      ·rw [if_neg c7] at H; exact absurd H (by simp)
     ·rw [if_neg c6] at H; exact absurd H (by simp)
    ·rw [if_neg c5] at H; exact absurd H (by simp)
   ·rw [if_neg c4] at H; have c4b0 := decide_eq_false c4; clear c4; obtain rfl := Option.some.inj H; go_wp2; go_ret; exact ⟨_, by first | rfl | (simp [errW_none, errW_some] <;> rfl) | (simp [*, errW_none, errW_some] <;> rfl), sx_ HO_3.out, bx0 HB.out⟩
def spec_l14Exchange.f (a0_0 : Int) (a0_1 : ByteArray) (a1 : Int) : Option (Int × ByteArray) := if 0 ≤ a1 then (if a1 < (a0_1.size : Int) then (if (bt a0_1 a1) = 43 then (if a1 ≤ (a0_1.size : Int) then (if (a0_1.extract 0 (a1 : Int).toNat).size + 1 ≤ 9223372036854775807 then (if 0 ≤ (wrap64 (a1 + 1)) then (if (wrap64 (a1 + 1)) ≤ (a0_1.size : Int) then (if ((a0_1.extract 0 (a1 : Int).toNat) ++ (⟨#[45]⟩ : ByteArray)).size + (a0_1.extract ((wrap64 (a1 + 1)) : Int).toNat a0_1.size).size ≤ 9223372036854775807 then (some (a0_0, ((a0_1.extract 0 (a1 : Int).toNat) ++ (⟨#[45]⟩ : ByteArray)) ++ (a0_1.extract ((wrap64 (a1 + 1)) : Int).toNat a0_1.size))) else (none)) else (none)) else (none)) else (none)) else (none)) else (if a1 ≤ (a0_1.size : Int) then (if (a0_1.extract 0 (a1 : Int).toNat).size + 1 ≤ 9223372036854775807 then (if 0 ≤ (wrap64 (a1 + 1)) then (if (wrap64 (a1 + 1)) ≤ (a0_1.size : Int) then (if ((a0_1.extract 0 (a1 : Int).toNat) ++ (⟨#[43]⟩ : ByteArray)).size + (a0_1.extract ((wrap64 (a1 + 1)) : Int).toNat a0_1.size).size ≤ 9223372036854775807 then (some (a0_0, ((a0_1.extract 0 (a1 : Int).toNat) ++ (⟨#[43]⟩ : ByteArray)) ++ (a0_1.extract ((wrap64 (a1 + 1)) : Int).toNat a0_1.size))) else (none)) else (none)) else (none)) else (none)) else (none))) else (none)) else (none)
def spec_l14Exchange.T4 : Bool × List (List Nat × List Nat) := (true, [([], []), ([0], [0]), ([], []), ([2], [2]), ([], []), ([3, 4], [3, 4]), ([], []), ([5, 6], [5, 6]), ([], []), ([8], [8]), ([], []), ([10], [10]), ([9, 11], [9, 11]), ([7, 12], [7, 12]), ([1, 13], [1, 13]), ([14, 0, 1, 2, 3, 4, 5, 6, 7, 8, 9, 10, 11, 12, 13, 14], [14])])
def spec_l14Exchange.B4 : List Nat := [0, 1, 0, 4, 0, 28, 0, 124, 0, 256, 0, 1024, 3840, 8188, 16383, 32767]
theorem spec_l14Exchange.tab4 : rtab .any (opsOf Try.f105 4) = spec_l14Exchange.T4 := by kernel_rfl
theorem spec_l14Exchange.bits4 : waitsOk spec_l14Exchange.T4.2 spec_l14Exchange.B4 = true := by kernel_rfl
set_option maxHeartbeats 8000000 in
set_option maxRecDepth 100000 in
theorem spec_l14Exchange.calls (a0_0 : Int) (a0_1 : ByteArray) (a1 : Int) (r1 : Int) (r2 : ByteArray) (w : World) (h : spec_l14Exchange.f a0_0 a0_1 a1 = some (r1, r2)) :
  Calls Try.prog 105 #[.agg #[.int .i64 a0_0, .string a0_1], .int .i64 a1] w fun e w' => e = .returned (.agg #[.int .i64 r1, .string r2]) ∧ Below w.heap.size w w' := by
 have hu31 := Try.underlying31; have HB := am_ (Below.refl w.heap.size w); have H : (if 0 ≤ a1 then (if a1 < (a0_1.size : Int) then (if (bt a0_1 a1) = 43 then (if a1 ≤ (a0_1.size : Int) then (if (a0_1.extract 0 (a1 : Int).toNat).size + 1 ≤ 9223372036854775807 then (if 0 ≤ (wrap64 (a1 + 1)) then (if (wrap64 (a1 + 1)) ≤ (a0_1.size : Int) then (if ((a0_1.extract 0 (a1 : Int).toNat) ++ (⟨#[45]⟩ : ByteArray)).size + (a0_1.extract ((wrap64 (a1 + 1)) : Int).toNat a0_1.size).size ≤ 9223372036854775807 then (some (a0_0, ((a0_1.extract 0 (a1 : Int).toNat) ++ (⟨#[45]⟩ : ByteArray)) ++ (a0_1.extract ((wrap64 (a1 + 1)) : Int).toNat a0_1.size))) else (none)) else (none)) else (none)) else (none)) else (none)) else (if a1 ≤ (a0_1.size : Int) then (if (a0_1.extract 0 (a1 : Int).toNat).size + 1 ≤ 9223372036854775807 then (if 0 ≤ (wrap64 (a1 + 1)) then (if (wrap64 (a1 + 1)) ≤ (a0_1.size : Int) then (if ((a0_1.extract 0 (a1 : Int).toNat) ++ (⟨#[43]⟩ : ByteArray)).size + (a0_1.extract ((wrap64 (a1 + 1)) : Int).toNat a0_1.size).size ≤ 9223372036854775807 then (some (a0_0, ((a0_1.extract 0 (a1 : Int).toNat) ++ (⟨#[43]⟩ : ByteArray)) ++ (a0_1.extract ((wrap64 (a1 + 1)) : Int).toNat a0_1.size))) else (none)) else (none)) else (none)) else (none)) else (none))) else (none)) else (none)) = some (r1, r2) := h; clear h; by_cases c3 : 0 ≤ a1
 ·rw [if_pos c3] at H; have c3b0 := decide_eq_true c3; clear c3; by_cases c4 : a1 < (a0_1.size : Int)
  ·rw [if_pos c4] at H; have c4b0 := decide_eq_true c4; clear c4; by_cases c6 : (bt a0_1 a1) = 43
   ·rw [if_pos c6] at H; obtain ⟨c6b0, c6b1⟩ := eqT_ c6; clear c6; have c7b0 := eq_true (oda_ : 0 ≤ a1); by_cases c8 : a1 ≤ (a0_1.size : Int)
    ·rw [if_pos c8] at H; have c8b0 := eq_true c8; have c8b1 := decide_eq_true c8; clear c8; by_cases c9 : (a0_1.extract 0 (a1 : Int).toNat).size + 1 ≤ 9223372036854775807
     ·rw [if_pos c9] at H; have c9b0 := eq_true c9; have c9b1 := decide_eq_true c9; try have c9b2 : (9223372036854775807 < (a0_1.extract 0 (a1 : Int).toNat).size + 1) = False := eq_false (Nat.not_lt.2 c9)
      (try have c9b3 : (9223372036854775807 < (a1 : Int).toNat + 1) = False := eq_false (by clear H; have h_ := c9; simp only [ByteArray.size_append, ByteArray.size_extract, eq_iff_iff, iff_true, decide_eq_true_eq] at *; (try simp at h_); omega))
      obtain ⟨ji10, hji10⟩ : ∃ j_ : Int, (wrap64 (a1 + 1)) = j_ := ⟨_, rfl⟩; first | rw [hji10] at H | simp only [hji10] at H
      have hji10w : (IntKind.i64.wrap (a1 + 1)) = ji10 := (i64_w _).trans hji10; by_cases c11 : 0 ≤ (ji10)
      ·rw [if_pos c11] at H; have c11b0 := eq_true c11; have c11b1 := decide_eq_true c11; clear c11; by_cases c12 : (ji10) ≤ (a0_1.size : Int)
       ·rw [if_pos c12] at H; have c12b0 := eq_true c12; have c12b1 := decide_eq_true c12; clear c12; by_cases c13 : ((a0_1.extract 0 (a1 : Int).toNat) ++ (⟨#[45]⟩ : ByteArray)).size + (a0_1.extract ((ji10) : Int).toNat a0_1.size).size ≤ 9223372036854775807
        ·rw [if_pos c13] at H; have c13b0 := eq_true c13; have c13b1 := decide_eq_true c13; try have c13b2 : (9223372036854775807 < ((a0_1.extract 0 (a1 : Int).toNat) ++ (⟨#[45]⟩ : ByteArray)).size + (a0_1.extract ((ji10) : Int).toNat a0_1.size).size) = False := eq_false (Nat.not_lt.2 c13)
         (try have c13b3 : (9223372036854775807 < (a1 : Int).toNat + 1 + (a0_1.size - ((ji10) : Int).toNat)) = False := eq_false (by clear H; have h_ := c13; simp only [ByteArray.size_append, ByteArray.size_extract, show (⟨#[45]⟩ : ByteArray).size = 1 from rfl, eq_iff_iff, iff_true, decide_eq_true_eq] at *; (try simp at h_); omega))
         simp only [Option.some.injEq, Prod.mk.injEq] at H
         obtain ⟨rfl, rfl⟩ := H; go_enter Try.func105, Try.ntmps105
         try go_wp2_with (first | ((with_reducible refine gd_ 2 rfl ?_); refine be_ 2 #[.int .i64 a0_0, .string a0_1] 31 ?_; intro gb224 hg w14 hbox hb; have BK224 := am_ hbox; have GW224 := gw0_ HB hg; have GE224 := GW224; replace HB := bs0_ HB hb; clear hb hbox hg) | ((with_reducible refine gd_ 4 rfl ?_); refine be_ 4 #[.int .i64 0, .string (⟨#[]⟩ : ByteArray)] 31 ?_; intro gb225 hg w15 hbox hb; have BK225 := am_ hbox; have GW225 := gw1_ HB hg GE224; have GE225 := GW225; replace HB := bs1_ HB hb GE224; have NB224_225 := nl_ BK224 hg; have NB225_224 := ng_ BK224 hg; replace BK224 := bb_ BK224 hb; clear hb hbox hg; have hnb16 := NB224_225.out; have hnc16 := NB225_224.out; obtain ⟨hcz17_0, hfz17_0, hcz17_1, hfz17_1⟩ := bk2_ BK224; have p5 : 0 ≤ (a1 : Int) := oda_; have q5 : a1 < (a0_1.size : Int) := oda_; have hx5 := bt_at a0_1 a1; replace p5 := eq_true p5; replace q5 := eq_true q5))
         replace BK224 := am_ (blk_drew BK224.out); replace BK225 := am_ (blk_drew BK225.out); replace HB := bd_ HB; refine start_ (n := 16) (S := fun w' => w'.cell? ⟨gb224, 0, none⟩ = some (.int .i64 a0_0) ∧ w'.cell? ⟨gb224, 1, none⟩ = some (.string a0_1)) (ds := []) #[false, false, false, false, false, false, false, false, false, false, false, false, false, false, false, false] (by kernel_rfl) rfl rfl ⟨c0_ BK224, c1_ BK224⟩ (fun hHeld => ?_); refine with_tabW spec_l14Exchange.tab4 spec_l14Exchange.bits4 (fun HT_ HW_ => ?_); generalize w15.drew = w18 at BK224 BK225 HB hHeld ⊢
         refine pD_ 0 (some 11) HT_ (h := ?_); refine pD_ 2 (some 13) HT_ (h := ?_); refine pD_ 4 (some 15) HT_ (h := ?_); refine pD_ 6 (some 17) HT_ (h := ?_); refine pD_ 8 (some 19) HT_ (h := ?_); refine pD_ 10 (some 21) HT_ (h := ?_); refine pD_ 11 (some 22) HT_ (h := ?_); refine tD2_ 1 (some 12) HT_ HW_ hHeld (h := ?_); refine tD2_ 3 (some 14) HT_ HW_ hHeld (h := ?_); refine pD_ 5 (some 16) HT_ (h := ?_); refine pD_ 7 (some 18) HT_ (h := ?_); refine tD2_ 9 (some 20) HT_ HW_ hHeld (h := ?_); refine pD_ 12 (some 23) HT_ (h := ?_); refine pD_ 13 (some 24) HT_ (h := ?_); refine pD_ 14 (some 25) HT_ (h := ?_); refine oN_ 15 (none) HT_ (fun K hK => ?_); have hs19 : w18.cell? ⟨gb225, 0, none⟩ = some (.int .i64 0) := (blk_cell BK225.out 0).trans rfl; have hfs19 := blk_frozen BK225.out 0; have hns19_0 := NB224_225.out; have hms19_0 := NB225_224.out; have hs20 : w18.cell? ⟨gb225, 1, none⟩ = some (.string (⟨#[]⟩ : ByteArray)) := (blk_cell BK225.out 1).trans rfl; have hfs20 := blk_frozen BK225.out 1; have hns20_0 := NB224_225.out; have hms20_0 := NB225_224.out; refine skip_ (w1 := ?_) (by rfl) rfl ?_ ?_; rotate_left
         ·go_simp
          rfl
         refine hK.out _ _ ⟨((cell_far (p := ⟨gb225, _, none⟩) NB224_225.out _).trans (((cell_far (p := ⟨gb225, _, none⟩) NB224_225.out _).trans (hHeld.1)))), ((cell_far (p := ⟨gb225, _, none⟩) NB224_225.out _).trans (((cell_far (p := ⟨gb225, _, none⟩) NB224_225.out _).trans (hHeld.2))))⟩ (fun hHeld => ?_); clear hK K; refine done_ (done_of HT_.out (by kernel_rfl)) ?_; try go_wp2
         refine bodyPost_ret (results_cell_row rfl _ _ gb225 31 #[.int .i64 a0_0, .string (((a0_1.extract 0 (a1 : Int).toNat) ++ (⟨#[45]⟩ : ByteArray)) ++ (a0_1.extract ((ji10) : Int).toNat a0_1.size))] (0, 0) _ rfl (by refine kx_ ?_; refine blk_put (cs := #[.int .i64 a0_0, .string (⟨#[]⟩ : ByteArray)]) ?_ 1 _ rfl; refine kx_ ?_; refine blk_put (cs := #[.int .i64 0, .string (⟨#[]⟩ : ByteArray)]) ?_ 0 _ rfl; refine kx_ ?_; exact BK225.out) Try.underlying31 rfl (by kernel_rfl)) rfl ?_; exact ⟨by first | rfl | (simp [errW_none, errW_some] <;> rfl) | (simp only [← hji10]; first | rfl | (simp [errW_none, errW_some] <;> rfl)) | (simp [*, errW_none, errW_some] <;> rfl), bx2 HB.out GE224.out GE225.out⟩
        ·rw [if_neg c13] at H; exact absurd H (by simp)
       ·rw [if_neg c12] at H; exact absurd H (by simp)
      ·rw [if_neg c11] at H; exact absurd H (by simp)
     ·rw [if_neg c9] at H; exact absurd H (by simp)
    ·rw [if_neg c8] at H; exact absurd H (by simp)
   ·rw [if_neg c6] at H; obtain ⟨c6b0, c6b1⟩ := eqF_ c6; have c21b0 := eq_true (oda_ : 0 ≤ a1); by_cases c22 : a1 ≤ (a0_1.size : Int)
    ·rw [if_pos c22] at H; have c22b0 := eq_true c22; have c22b1 := decide_eq_true c22; clear c22; by_cases c23 : (a0_1.extract 0 (a1 : Int).toNat).size + 1 ≤ 9223372036854775807
     ·rw [if_pos c23] at H; have c23b0 := eq_true c23; have c23b1 := decide_eq_true c23; try have c23b2 : (9223372036854775807 < (a0_1.extract 0 (a1 : Int).toNat).size + 1) = False := eq_false (Nat.not_lt.2 c23)
      (try have c23b3 : (9223372036854775807 < (a1 : Int).toNat + 1) = False := eq_false (by clear H; have h_ := c23; simp only [ByteArray.size_append, ByteArray.size_extract, eq_iff_iff, iff_true, decide_eq_true_eq] at *; (try simp at h_); omega))
      obtain ⟨ji24, hji24⟩ : ∃ j_ : Int, (wrap64 (a1 + 1)) = j_ := ⟨_, rfl⟩; first | rw [hji24] at H | simp only [hji24] at H
      have hji24w : (IntKind.i64.wrap (a1 + 1)) = ji24 := (i64_w _).trans hji24; by_cases c25 : 0 ≤ (ji24)
      ·rw [if_pos c25] at H; have c25b0 := eq_true c25; have c25b1 := decide_eq_true c25; clear c25; by_cases c26 : (ji24) ≤ (a0_1.size : Int)
       ·rw [if_pos c26] at H; have c26b0 := eq_true c26; have c26b1 := decide_eq_true c26; clear c26; by_cases c27 : ((a0_1.extract 0 (a1 : Int).toNat) ++ (⟨#[43]⟩ : ByteArray)).size + (a0_1.extract ((ji24) : Int).toNat a0_1.size).size ≤ 9223372036854775807
        ·rw [if_pos c27] at H; have c27b0 := eq_true c27; have c27b1 := decide_eq_true c27; try have c27b2 : (9223372036854775807 < ((a0_1.extract 0 (a1 : Int).toNat) ++ (⟨#[43]⟩ : ByteArray)).size + (a0_1.extract ((ji24) : Int).toNat a0_1.size).size) = False := eq_false (Nat.not_lt.2 c27)
         (try have c27b3 : (9223372036854775807 < (a1 : Int).toNat + 1 + (a0_1.size - ((ji24) : Int).toNat)) = False := eq_false (by clear H; have h_ := c27; simp only [ByteArray.size_append, ByteArray.size_extract, show (⟨#[43]⟩ : ByteArray).size = 1 from rfl, eq_iff_iff, iff_true, decide_eq_true_eq] at *; (try simp at h_); omega))
         simp only [Option.some.injEq, Prod.mk.injEq] at H
         obtain ⟨rfl, rfl⟩ := H; go_enter Try.func105, Try.ntmps105
         try go_wp2_with (first | ((with_reducible refine gd_ 2 rfl ?_); refine be_ 2 #[.int .i64 a0_0, .string a0_1] 31 ?_; intro gb224 hg w28 hbox hb; have BK224 := am_ hbox; have GW224 := gw0_ HB hg; have GE224 := GW224; replace HB := bs0_ HB hb; clear hb hbox hg) | ((with_reducible refine gd_ 4 rfl ?_); refine be_ 4 #[.int .i64 0, .string (⟨#[]⟩ : ByteArray)] 31 ?_; intro gb225 hg w29 hbox hb; have BK225 := am_ hbox; have GW225 := gw1_ HB hg GE224; have GE225 := GW225; replace HB := bs1_ HB hb GE224; have NB224_225 := nl_ BK224 hg; have NB225_224 := ng_ BK224 hg; replace BK224 := bb_ BK224 hb; clear hb hbox hg; have hnb30 := NB224_225.out; have hnc30 := NB225_224.out; obtain ⟨hcz31_0, hfz31_0, hcz31_1, hfz31_1⟩ := bk2_ BK224; have p5 : 0 ≤ (a1 : Int) := oda_; have q5 : a1 < (a0_1.size : Int) := oda_; have hx5 := bt_at a0_1 a1; replace p5 := eq_true p5; replace q5 := eq_true q5))
         replace BK224 := am_ (blk_drew BK224.out); replace BK225 := am_ (blk_drew BK225.out); replace HB := bd_ HB; refine start_ (n := 16) (S := fun w' => w'.cell? ⟨gb224, 0, none⟩ = some (.int .i64 a0_0) ∧ w'.cell? ⟨gb224, 1, none⟩ = some (.string a0_1)) (ds := []) #[false, false, false, false, false, false, false, false, false, false, false, false, false, false, false, false] (by kernel_rfl) rfl rfl ⟨c0_ BK224, c1_ BK224⟩ (fun hHeld => ?_); refine with_tabW spec_l14Exchange.tab4 spec_l14Exchange.bits4 (fun HT_ HW_ => ?_); generalize w29.drew = w32 at BK224 BK225 HB hHeld ⊢
         refine pD_ 0 (some 11) HT_ (h := ?_); refine pD_ 2 (some 13) HT_ (h := ?_); refine pD_ 4 (some 15) HT_ (h := ?_); refine pD_ 6 (some 17) HT_ (h := ?_); refine pD_ 8 (some 19) HT_ (h := ?_); refine pD_ 10 (some 21) HT_ (h := ?_); refine pD_ 11 (some 22) HT_ (h := ?_); refine tD2_ 1 (some 12) HT_ HW_ hHeld (h := ?_); refine tD2_ 3 (some 14) HT_ HW_ hHeld (h := ?_); refine pD_ 5 (some 16) HT_ (h := ?_); refine pD_ 7 (some 18) HT_ (h := ?_); refine tD2_ 9 (some 20) HT_ HW_ hHeld (h := ?_); refine pD_ 12 (some 23) HT_ (h := ?_); refine pD_ 13 (some 24) HT_ (h := ?_); refine pD_ 14 (some 25) HT_ (h := ?_); refine oN_ 15 (none) HT_ (fun K hK => ?_); have hs33 : w32.cell? ⟨gb225, 0, none⟩ = some (.int .i64 0) := (blk_cell BK225.out 0).trans rfl; have hfs33 := blk_frozen BK225.out 0; have hns33_0 := NB224_225.out; have hms33_0 := NB225_224.out; have hs34 : w32.cell? ⟨gb225, 1, none⟩ = some (.string (⟨#[]⟩ : ByteArray)) := (blk_cell BK225.out 1).trans rfl; have hfs34 := blk_frozen BK225.out 1; have hns34_0 := NB224_225.out; have hms34_0 := NB225_224.out; refine skip_ (w1 := ?_) (by rfl) rfl ?_ ?_; rotate_left
         ·go_simp
          rfl
         refine hK.out _ _ ⟨((cell_far (p := ⟨gb225, _, none⟩) NB224_225.out _).trans (((cell_far (p := ⟨gb225, _, none⟩) NB224_225.out _).trans (hHeld.1)))), ((cell_far (p := ⟨gb225, _, none⟩) NB224_225.out _).trans (((cell_far (p := ⟨gb225, _, none⟩) NB224_225.out _).trans (hHeld.2))))⟩ (fun hHeld => ?_); clear hK K; refine done_ (done_of HT_.out (by kernel_rfl)) ?_; try go_wp2
         refine bodyPost_ret (results_cell_row rfl _ _ gb225 31 #[.int .i64 a0_0, .string (((a0_1.extract 0 (a1 : Int).toNat) ++ (⟨#[43]⟩ : ByteArray)) ++ (a0_1.extract ((ji24) : Int).toNat a0_1.size))] (0, 0) _ rfl (by refine kx_ ?_; refine blk_put (cs := #[.int .i64 a0_0, .string (⟨#[]⟩ : ByteArray)]) ?_ 1 _ rfl; refine kx_ ?_; refine blk_put (cs := #[.int .i64 0, .string (⟨#[]⟩ : ByteArray)]) ?_ 0 _ rfl; refine kx_ ?_; exact BK225.out) Try.underlying31 rfl (by kernel_rfl)) rfl ?_; exact ⟨by first | rfl | (simp [errW_none, errW_some] <;> rfl) | (simp only [← hji24]; first | rfl | (simp [errW_none, errW_some] <;> rfl)) | (simp [*, errW_none, errW_some] <;> rfl), bx2 HB.out GE224.out GE225.out⟩
        ·rw [if_neg c27] at H; exact absurd H (by simp)
       ·rw [if_neg c26] at H; exact absurd H (by simp)
      ·rw [if_neg c25] at H; exact absurd H (by simp)
     ·rw [if_neg c23] at H; exact absurd H (by simp)
    ·rw [if_neg c22] at H; exact absurd H (by simp)
  ·rw [if_neg c4] at H; exact absurd H (by simp)
 ·rw [if_neg c3] at H; exact absurd H (by simp)
def spec_l1In.f (a0 : Int) (a1 : Int) (a2 : Int) : Option (Bool) := if a0 ≥ a1 then (some (decide (a0 ≤ a2))) else (some false)
set_option maxHeartbeats 8000000 in
set_option maxRecDepth 100000 in
theorem spec_l1In.calls (a0 : Int) (a1 : Int) (a2 : Int) (r : Bool) (w : World) (h : spec_l1In.f a0 a1 a2 = some r) :
  Calls Try.prog 79 #[.int .i64 a0, .int .i64 a1, .int .i64 a2] w fun e w' => e = .returned (.bool r) ∧ Drawn0 w w' := by
 have H : (if a0 ≥ a1 then (some (decide (a0 ≤ a2))) else (some false)) = some r := h; clear h; by_cases c4 : a0 ≥ a1
 ·rw [if_pos c4] at H; have c4b0 := decide_eq_true c4; clear c4; obtain rfl := Option.some.inj H; go_enter Try.func79, Try.ntmps79
  go_wp2; go_ret; exact ⟨by first | rfl | (simp; done) | (simp [*]; done), dr_⟩
 ·rw [if_neg c4] at H; have c4b0 := decide_eq_false c4; clear c4; obtain rfl := Option.some.inj H; go_enter Try.func79, Try.ntmps79
  go_wp2; go_ret; exact ⟨by first | rfl | (simp; done) | (simp [*]; done), dr_⟩
end Go.Proofs.Ytoajlmlobaccdaa.P
