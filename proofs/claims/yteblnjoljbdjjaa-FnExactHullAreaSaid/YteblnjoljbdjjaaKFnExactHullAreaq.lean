/- What the law FnExactHullArea reaches, part 17: functions as plain Lean functions with the proofs that their calls come to them, and plain lemmas over these. Put together by a program (wip/pack.py). -/
import Derived.Test.YteblnjoljbdjjaaKFnExactHullAreac
import Derived.Test.YteblnjoljbdjjaaKFnExactHullAreap
import Derived.Test.YteblnjoljbdjjaaKFnExactHullAreal
import Derived.Test.YteblnjoljbdjjaaKFnExactHullAreae
import Derived.Test.YteblnjoljbdjjaaKFnExactHullAread
import Derived.Test.YteblnjoljbdjjaaKFnExactHullArean
import Derived.Test.YteblnjoljbdjjaaKFnExactHullAreah
import Derived.Test.YteblnjoljbdjjaaKFnExactHullAreao
import Derived.Test.YteblnjoljbdjjaaKFnExactHullAreai
import Derived.Test.YteblnjoljbdjjaaKFnExactHullAream
namespace Go.Proofs.Yteblnjoljbdjjaa.Pl
set_option linter.unusedSimpArgs false
set_option linter.unusedVariables false
open Go.RowKit Go.Proofs.YteblnjoljbdjjaaW.PrintWords
theorem range_dropS (n i : Nat) (h : i < n) : (List.range n).drop i = i :: (List.range n).drop (i + 1) := by
  rw [List.drop_eq_getElem_cons (by simpa using h)]
  simp
def Srch {ρ : Type} (g : Nat → Nat → Option ρ) (m : Nat) (P : Nat → Bool) (v : ρ) (lo : Nat) : Prop :=
  ∀ r, (((List.range m).drop lo).any P = true → r = v) → (((List.range m).drop lo).any P = false → Ev (g m) r) → Ev (g lo) r
theorem Srch.of {ρ : Type} (g : Nat → Nat → Option ρ) (m : Nat) (P : Nat → Bool) (v : ρ) (lo : Nat) (hlo : lo ≤ m)
    (hstep : ∀ i, lo ≤ i → i < m → ∀ r, (P i = true → r = v) → (P i = false → Ev (g (i + 1)) r) → Ev (g i) r) : Srch g m P v lo := by
  have key : ∀ d i, lo ≤ i → i + d = m → Srch g m P v i := by
    intro d
    induction d with
    | zero =>
      intro i _ hi
      obtain rfl : i = m := by omega
      intro r _ h2
      exact h2 (by rw [List.drop_of_length_le (by simp)]; rfl)
    | succ d ih =>
      intro i hl hi r h1 h2
      rw [range_dropS m i (by omega), List.any_cons] at h1 h2
      refine hstep i hl (by omega) r (fun h => h1 (by rw [h, Bool.true_or])) (fun h => ih (i + 1) (by omega) (by omega) r (fun k => h1 (by rw [k, Bool.or_true])) (fun k => h2 (by rw [h, k]; rfl)))
  exact key (m - lo) lo (Nat.le_refl _) (by omega)
theorem Srch.ans {ρ : Type} {g : Nat → Nat → Option ρ} {m : Nat} {P : Nat → Bool} {v w : ρ} {lo : Nat} (h : Srch g m P v lo) (he : Ev (g m) w) : Ev (g lo) (if ((List.range m).drop lo).any P then v else w) := by
  refine h _ (fun k => by rw [k]; rfl) (fun k => by rw [k]; exact he)
theorem Ev.up {ρ : Type} {f : Int → Nat → Option ρ} {i : Nat} {r : ρ} (hi : i < 1000000) (h : Ev (f ((i + 1 : Nat) : Int)) r) : Ev (f (wrap64 ((i : Int) + 1))) r := by
  rw [wrap_nat i (by omega)]
  exact h
end Go.Proofs.Yteblnjoljbdjjaa.Pl
namespace Go.Proofs.Yteblnjoljbdjjaa.Pure
set_option linter.unusedSimpArgs false
set_option linter.unusedVariables false
open Go.RowKit Go.Proofs.YteblnjoljbdjjaaW.PrintWords Go.Proofs.Yteblnjoljbdjjaa.P Go.Proofs.Yteblnjoljbdjjaa.Pl
def inL (l : List Int) (x : Int) : Bool := (List.range l.length).any fun j : Nat => x == rd l (j : Int)
def nxt (n : Nat) (l : List Int) : List (List Int) := ((List.range n).filter fun i : Nat => !inL l (i : Int)).map fun i : Nat => l ++ [(i : Int)]
def lev (n : Nat) : Nat → List (List Int)
  | 0 => [[]]
  | k + 1 => (lev n k).flatMap (nxt n)
def AN (n : Nat) : List (List Int) := lev n n
def inv (p : List Int) : List Int := (List.range p.length).map fun j : Nat => (p.idxOf (j : Int) : Int)
def okP (n : Nat) (p : List Int) : Bool := (p.length == n && (inv p).length == n) && (List.range n).all fun a => decide (0 ≤ rd p (a : Int) ∧ rd p (a : Int) < n ∧ 0 ≤ rd (inv p) (a : Int) ∧ rd (inv p) (a : Int) < n) && (List.range n).all fun x => decide ((x : Int) = rd p (a : Int)) == decide (rd (inv p) (x : Int) = (a : Int))
def D4 (n a b c d : Nat) : Prop := (a < n ∧ b < n ∧ c < n ∧ d < n) ∧ (a ≠ b ∧ a ≠ c ∧ a ≠ d ∧ b ≠ c ∧ b ≠ d ∧ c ≠ d)
def ct (n : Nat) (s : ByteArray) (a b c d : Nat) : ByteArray := circT (sg n s b c d) (sg n s a c d) (sg n s a b d) (sg n s a b c)
theorem impl_circuit_d (n : Nat) (hn : n ≤ 7) (s : ByteArray) (a b c d : Nat) (h : D4 n a b c d) : Ev (fun k => impl_chi_circuit.f k (tab n s) a b c d) (ct n s a b c d) := by
  obtain ⟨⟨ha, hb, hc, hd⟩, h1, h2, h3, h4, h5, h6⟩ := h
  have hl := tab_length n s
  unfold impl_chi_circuit.f
  refine Ev.ite_pos (by omega) (Ev.ite_pos (by omega) (Ev.ite_pos (by omega) (Ev.ite_pos (by omega) (Ev.ite_pos (by omega) (Ev.ite_pos (by omega) (Ev.ite_pos (by omega) (Ev.ite_pos (by omega) (Ev.ite_pos (by omega) (Ev.bind0 rfl ?_)))))))))
  rw [tab_at n hn s b c d (by omega) (by omega) (by omega), tab_at n hn s a c d (by omega) (by omega) (by omega), tab_at n hn s a b d (by omega) (by omega) (by omega), tab_at n hn s a b c (by omega) (by omega) (by omega)]
  exact Ev.of (fun k => (impl_chi_circuit.mono_l k) _ _ _ _) (k := 12) (circ_eq _ _ _ _ (sg_pm n hn s b c d hb hc hd h4 h6 h5) (sg_pm n hn s a c d ha hc hd h2 h6 h3) (sg_pm n hn s a b d ha hb hd h1 h5 h3) (sg_pm n hn s a b c ha hb hc h1 h4 h2))
theorem spec_circuit_d (n : Nat) (hn : n ≤ 7) (s : ByteArray) (hs : s.size = (tri n).length) (a b c d : Nat) (h : D4 n a b c d) : Ev (fun k => spec_l4Circuit.f k n s a b c d) (ct n s a b c d) := by
  obtain ⟨⟨ha, hb, hc, hd⟩, h1, h2, h3, h4, h5, h6⟩ := h
  unfold spec_l4Circuit.f ct circT
  refine Ev.bind (l3At_ev n hn s hs b c d hb hc hd h4 h6 h5) (Ev.bind (l3At_ev n hn s hs a c d ha hc hd h2 h6 h3) (Ev.bind0 (l3Byte_eq _) (Ev.ite_pos (by rw [byteS_size]; omega) ?_)))
  refine Ev.bind (l3At_ev n hn s hs a b d ha hb hd h1 h5 h3) (Ev.bind0 (l3Byte_eq _) (Ev.ite_pos (by rw [ByteArray.size_append, byteS_size, byteS_size]; decide) ?_))
  exact Ev.bind (l3At_ev n hn s hs a b c ha hb hc h1 h4 h2) (Ev.bind0 (l3Byte_eq _) (Ev.ite_pos (by rw [ByteArray.size_append, ByteArray.size_append, byteS_size, byteS_size, byteS_size]; decide) (Ev.now _)))
def sb (x : Bool) : UInt8 := if x then 43 else 45
def txt (x y z : Bool) : ByteArray := ⟨#[43, sb x, sb y, sb z]⟩
theorem circ_txt (p q r t : Int) (hp : p = 1 ∨ p = -1) (hq : q = 1 ∨ q = -1) (hr : r = 1 ∨ r = -1) (ht : t = 1 ∨ t = -1) : circT p q r t = txt (p != q) (p == r) (p != t) := by
  rcases hp with rfl | rfl <;> rcases hq with rfl | rfl <;> rcases hr with rfl | rfl <;> rcases ht with rfl | rfl <;> kernel_rfl
def cx (n : Nat) (s : ByteArray) (a b c d : Nat) : Bool := sg n s b c d != sg n s a c d
def cy (n : Nat) (s : ByteArray) (a b c d : Nat) : Bool := sg n s b c d == sg n s a b d
def cz (n : Nat) (s : ByteArray) (a b c d : Nat) : Bool := sg n s b c d != sg n s a b c
theorem ct_txt (n : Nat) (hn : n ≤ 7) (s : ByteArray) (a b c d : Nat) (h : D4 n a b c d) : ct n s a b c d = txt (cx n s a b c d) (cy n s a b c d) (cz n s a b c d) := by
  obtain ⟨⟨ha, hb, hc, hd⟩, h1, h2, h3, h4, h5, h6⟩ := h
  exact circ_txt _ _ _ _ (sg_pm n hn s b c d hb hc hd h4 h6 h5) (sg_pm n hn s a c d ha hc hd h2 h6 h3) (sg_pm n hn s a b d ha hb hd h1 h5 h3) (sg_pm n hn s a b c ha hb hc h1 h4 h2)
def bools : List Bool := [true, false]
theorem mem_bools (x : Bool) : x ∈ bools := by cases x <;> decide
def spl (x y z : Bool) (a b c d : Nat) : Int × Int :=
  let e : Nat → Bool → Int := fun i p => if p then 2 ^ i else 0
  (2 ^ a + e b x + e c y + e d z, e b (!x) + e c (!y) + e d (!z))
def okSpl (a b c d : Nat) : Bool := a == b || a == c || a == d || b == c || b == d || c == d || bools.all fun x => bools.all fun y => bools.all fun z =>
  impl_chi_split.l0 6 (txt x y z) 0 0 [(a : Int), b, c, d] 4 0 == some (spl x y z a b c d) && spec_l5Split.l0 6 [(a : Int), b, c, d] (txt x y z) 0 0 0 == some (spl x y z a b c d)
theorem all_spl : (List.range 7).all (fun a => (List.range 7).all fun b => (List.range 7).all fun c => (List.range 7).all fun d => okSpl a b c d) = true := by decide +kernel
theorem spl_at (a b c d : Nat) (h : D4 7 a b c d) (x y z : Bool) : impl_chi_split.l0 6 (txt x y z) 0 0 [(a : Int), b, c, d] 4 0 = some (spl x y z a b c d) ∧ spec_l5Split.l0 6 [(a : Int), b, c, d] (txt x y z) 0 0 0 = some (spl x y z a b c d) := by
  obtain ⟨⟨ha, hb, hc, hd⟩, h1, h2, h3, h4, h5, h6⟩ := h
  have g := all_spl
  rw [List.all_eq_true] at g
  have g := g a (by simpa using ha)
  rw [List.all_eq_true] at g
  have g := g b (by simpa using hb)
  rw [List.all_eq_true] at g
  have g := g c (by simpa using hc)
  rw [List.all_eq_true] at g
  have g := g d (by simpa using hd)
  unfold okSpl at g
  rw [beq_eq_false_iff_ne.mpr h1, beq_eq_false_iff_ne.mpr h2, beq_eq_false_iff_ne.mpr h3, beq_eq_false_iff_ne.mpr h4, beq_eq_false_iff_ne.mpr h5, beq_eq_false_iff_ne.mpr h6] at g
  simp only [Bool.false_or] at g
  rw [List.all_eq_true] at g
  have g := g x (mem_bools x)
  rw [List.all_eq_true] at g
  have g := g y (mem_bools y)
  rw [List.all_eq_true] at g
  have g := g z (mem_bools z)
  rw [Bool.and_eq_true, beq_iff_eq, beq_iff_eq] at g
  exact g
theorem D4.up {n a b c d : Nat} (h : D4 n a b c d) (hn : n ≤ 7) : D4 7 a b c d := by
  obtain ⟨⟨ha, hb, hc, hd⟩, h1, h2, h3, h4, h5, h6⟩ := h
  exact ⟨⟨by omega, by omega, by omega, by omega⟩, h1, h2, h3, h4, h5, h6⟩
def sp (n : Nat) (s : ByteArray) (a b c d : Nat) : Int × Int := spl (cx n s a b c d) (cy n s a b c d) (cz n s a b c d) a b c d
theorem impl_split_ev (n : Nat) (hn : n ≤ 7) (s : ByteArray) (a b c d : Nat) (h : D4 n a b c d) : Ev (fun k => impl_chi_split.f k (tab n s) a b c d) (sp n s a b c d) := by
  unfold impl_chi_split.f
  refine Ev.bind (impl_circuit_d n hn s a b c d h) (Ev.bind0 rfl ?_)
  rw [ct_txt n hn s a b c d h]
  exact Ev.of (fun k => (impl_chi_split.mono_l k) _ _ _ _ _ _) (k := 6) (spl_at a b c d (h.up hn) _ _ _).1
theorem spec_split_ev (n : Nat) (hn : n ≤ 7) (s : ByteArray) (hs : s.size = (tri n).length) (a b c d : Nat) (h : D4 n a b c d) : Ev (fun k => spec_l5Split.f k n s [(a : Int), b, c, d]) (sp n s a b c d) := by
  unfold spec_l5Split.f
  refine Ev.ite_pos (by simp) (Ev.ite_pos (by simp) (Ev.ite_pos (by simp) (Ev.ite_pos (by simp) ?_)))
  refine Ev.bind (spec_circuit_d n hn s hs a b c d h) ?_
  rw [ct_txt n hn s a b c d h]
  exact Ev.of (fun k => (spec_l5Split.mono_l k) _ _ _ _ _) (k := 6) (spl_at a b c d (h.up hn) _ _ _).2
theorem all_pow : (List.range 63).all (fun i => shl .i64 1 (i : Int) == 2 ^ i && IntKind.u64.wrap (i : Int) == (i : Int)) = true := by decide +kernel
theorem shl_pow (i : Nat) (h : i < 63) : shl .i64 1 (i : Int) = 2 ^ i := by
  have g := all_pow
  rw [List.all_eq_true] at g
  have g := g i (by simpa using h)
  rw [Bool.and_eq_true, beq_iff_eq, beq_iff_eq] at g
  exact g.1
theorem u64_nat (i : Nat) (h : i < 63) : IntKind.u64.wrap (i : Int) = (i : Int) := by
  have g := all_pow
  rw [List.all_eq_true] at g
  have g := g i (by simpa using h)
  rw [Bool.and_eq_true, beq_iff_eq, beq_iff_eq] at g
  exact g.2
def pick1 (x : Int) : List Nat → Int
  | [] => -1
  | i :: is => if x = 2 ^ i then i else pick1 x is
def only (x : Int) : Int := pick1 x (List.range 7)
theorem single_ev (x : Int) : Ev (fun k => impl_single.f k x) (only x) := by
  unfold impl_single.f
  refine Ev.loop_to (fun i k => impl_single.l0 k x i) 7 (fun i => pick1 x ((List.range 7).drop i)) ?_ ?_ 0 (by omega)
  · exact Ev.step (fun k => impl_single.l0.eq_2 ..) (Ev.ite_neg (by decide) (Ev.const rfl))
  · intro i hi ih
    rw [range_drop' 7 i hi, pick1]
    refine Ev.step (fun k => impl_single.l0.eq_2 ..) (Ev.ite_pos (by omega) (Ev.ite_pos (by omega) ?_))
    rw [shl_pow i (by omega), wrap_nat i (by omega)]
    by_cases h : x = 2 ^ i
    · rw [if_pos h]
      exact Ev.ite_pos h (Ev.now _)
    · rw [if_neg h]
      exact Ev.ite_neg h ih
theorem l5Only_ev (x : Int) : Ev (fun k => spec_l5Only.f k x) (only x) := by
  unfold spec_l5Only.f
  refine Ev.loop_to (fun i k => spec_l5Only.l0 k x i) 7 (fun i => pick1 x ((List.range 7).drop i)) ?_ ?_ 0 (by omega)
  · exact Ev.step (fun k => spec_l5Only.l0.eq_2 ..) (Ev.ite_neg (by decide) (Ev.const rfl))
  · intro i hi ih
    rw [range_drop' 7 i hi, pick1]
    refine Ev.step (fun k => spec_l5Only.l0.eq_2 ..) (Ev.ite_pos (by omega) ?_)
    rw [u64_nat i (by omega)]
    refine Ev.ite_pos (by omega) ?_
    rw [shl_pow i (by omega), wrap_nat i (by omega)]
    by_cases h : x = 2 ^ i
    · rw [if_pos h]
      exact Ev.ite_pos h (Ev.now _)
    · rw [if_neg h]
      exact Ev.ite_neg h ih
def inn (n : Nat) (s : ByteArray) (a b c d : Nat) : Int := mx (only (sp n s a b c d).1) (only (sp n s a b c d).2)
theorem impl_inner_ev (n : Nat) (hn : n ≤ 7) (s : ByteArray) (a b c d : Nat) (h : D4 n a b c d) : Ev (fun k => impl_chi_inner.f k (tab n s) a b c d) (inn n s a b c d) := by
  unfold impl_chi_inner.f
  exact Ev.bind (impl_split_ev n hn s a b c d h) (Ev.bind (single_ev _) (Ev.bind (single_ev _) (Ev.now _)))
theorem l1Max_eq (a b : Int) : spec_l1Max.f a b = some (mx a b) := by
  unfold spec_l1Max.f mx
  by_cases h : a < b
  · rw [if_pos h, if_neg (by omega)]
  · by_cases e : a = b
    · subst e
      simp
    · rw [if_neg h, if_pos (by omega)]
theorem spec_inner_ev (n : Nat) (hn : n ≤ 7) (s : ByteArray) (hs : s.size = (tri n).length) (a b c d : Nat) (h : D4 n a b c d) : Ev (fun k => spec_l5Inner.f k n s [(a : Int), b, c, d]) (inn n s a b c d) := by
  unfold spec_l5Inner.f
  exact Ev.bind (spec_split_ev n hn s hs a b c d h) (Ev.bind (l5Only_ev _) (Ev.bind (l5Only_ev _) (Ev.bind0 (l1Max_eq _ _) (Ev.now _))))
def has (set : Int) (i : Nat) : Bool := (Go.bits .and .i64 (shr .i64 set (i : Int)) 1) == 1
theorem l6Has_eq (set : Int) (i : Nat) (h : i < 63) : spec_l6Has.f set i = some (has set i) := by
  unfold spec_l6Has.f has
  rw [u64_nat i h, if_pos (by omega)]
theorem any_rangeT (l : List T3) (P : T3 → Bool) : (List.range l.length).any (fun i => P (rd_T122 l (i : Int))) = l.any P := by
  rw [Bool.eq_iff_iff, List.any_eq_true, List.any_eq_true]
  constructor
  · rintro ⟨i, hi, hp⟩
    rw [List.mem_range] at hi
    rw [rdT_lt l i hi] at hp
    exact ⟨_, List.getElem_mem hi, hp⟩
  · rintro ⟨q, hq, hp⟩
    obtain ⟨i, hi, rfl⟩ := List.getElem_of_mem hq
    exact ⟨i, by simpa using hi, by rw [rdT_lt l i hi]; exact hp⟩
def listT (n : Nat) : List T3 :=
  ((List.range n).drop 0).flatMap fun a : Nat => ((List.range n).drop (a + 1)).flatMap fun b : Nat => ((List.range n).drop (b + 1)).map fun c : Nat => (⟨a, b, c⟩ : T3)
def tupT (q : T3) : Int × Int × Int := (q.f0, q.f1, q.f2)
def untupT (q : Int × Int × Int) : T3 := ⟨q.1, q.2.1, q.2.2⟩
theorem untupT_map (l : List T3) : (l.map tupT).map untupT = l := by
  rw [List.map_map]
  exact List.map_id' l
theorem all_t : (List.range 8).all (fun n => (listT n).map tupT == (tri n).map tupT) = true := by decide +kernel
theorem listT_eq (n : Nat) (hn : n ≤ 7) : listT n = tri n := by
  have h := all_t
  rw [List.all_eq_true] at h
  have h := congrArg (List.map untupT) (eq_of_beq (h n (by simp; omega)))
  rwa [untupT_map, untupT_map] at h
theorem any3 (n : Nat) (hn : n ≤ 7) (P : Nat → Nat → Nat → Bool) :
    ((List.range n).drop 0).any (fun a => ((List.range n).drop (a + 1)).any fun b => ((List.range n).drop (b + 1)).any fun c => P a b c) = (tri n).any fun t => P t.f0.toNat t.f1.toNat t.f2.toNat := by
  rw [← listT_eq n hn]
  unfold listT
  simp only [List.any_flatMap, List.any_map]
  rfl
def okMask (set a b c : Nat) : Bool := decide (Go.bits .and .i64 (set : Int) (Go.bits .or .i64 (Go.bits .or .i64 (shl .i64 1 (a : Int)) (shl .i64 1 (b : Int))) (shl .i64 1 (c : Int))) = Go.bits .or .i64 (Go.bits .or .i64 (shl .i64 1 (a : Int)) (shl .i64 1 (b : Int))) (shl .i64 1 (c : Int))) == (has set a && has set b && has set c)
theorem all_mask : (List.range 128).all (fun set => (tri 7).all fun t => okMask set t.f0.toNat t.f1.toNat t.f2.toNat) = true := by decide +kernel
theorem all_tri7 : (List.range 8).all (fun n => (tri n).all fun t => (tri 7).any fun u => tupT t == tupT u) = true := by decide +kernel
theorem tri7 (n : Nat) (hn : n ≤ 7) (t : T3) (h : t ∈ tri n) : t ∈ tri 7 := by
  have g := all_tri7
  rw [List.all_eq_true] at g
  have g := g n (by simp; omega)
  rw [List.all_eq_true] at g
  have g := g t h
  rw [List.any_eq_true] at g
  obtain ⟨u, hu, e⟩ := g
  have e : tupT t = tupT u := eq_of_beq e
  have : t = u := by
    obtain ⟨a, b, c⟩ := t
    obtain ⟨a', b', c'⟩ := u
    simp only [tupT, Prod.mk.injEq] at e
    obtain ⟨rfl, rfl, rfl⟩ := e
    rfl
  rw [this]
  exact hu
def hulT (n : Nat) (s : ByteArray) (set : Int) (p : Nat) (a b c : Nat) : Bool := has set a && has set b && has set c && (inn n s p a b c == p)
def hul (n : Nat) (s : ByteArray) (set : Int) (p : Nat) : Bool := (tri n).any fun t => hulT n s set p t.f0.toNat t.f1.toNat t.f2.toNat
theorem impl_inHull_ev (n : Nat) (hn : n ≤ 7) (s : ByteArray) (set : Nat) (hset : set < 128) (p : Nat) (hp : p < n) (hno : has set p = false) : Ev (fun k => impl_chi_inHull.f k (tab n s) set p) (hul n s set p) := by
  have hl := tab_length n s
  unfold impl_chi_inHull.f
  rw [tab_n]
  refine Ev.ite_pos (by omega) (Ev.bind (triplesOf_ev n hn) ?_)
  have key := Srch.of (fun i k => impl_chi_inHull.l0 k (tab n s) set p (tri n) (tri n).length i) (tri n).length (fun i => hulT n s set p (rd_T122 (tri n) (i : Int)).f0.toNat (rd_T122 (tri n) (i : Int)).f1.toNat (rd_T122 (tri n) (i : Int)).f2.toNat) true 0 (by omega) ?_
  · have h := key.ans (w := false) (Ev.step (fun k => impl_chi_inHull.l0.eq_2 ..) (Ev.ite_neg (by omega) (Ev.now _)))
    rw [List.drop_zero, any_rangeT (tri n) (fun t => hulT n s set p t.f0.toNat t.f1.toNat t.f2.toNat)] at h
    unfold hul
    cases hh : (tri n).any fun t => hulT n s set p t.f0.toNat t.f1.toNat t.f2.toNat <;> rw [hh] at h <;> exact h
  · intro i _ hi r h1 h2
    have h35 : (tri n).length ≤ 1000 := by
      have : (List.range 8).all (fun n => decide ((tri n).length ≤ 1000)) = true := by decide +kernel
      rw [List.all_eq_true] at this
      simpa using this n (by simp; omega)
    have ht := tri_at n hn i hi
    have hm := tri7 n hn _ (List.getElem_mem hi)
    have hk := tri_ok n hn
    rw [List.all_eq_true] at hk
    have hk := hk _ (List.getElem_mem hi)
    rw [rdT_lt _ i hi] at h1 h2
    refine Ev.step (fun k => impl_chi_inHull.l0.eq_2 ..) (Ev.ite_pos (by omega) (Ev.ite_pos (by omega) (Ev.ite_pos (by omega) ?_)))
    rw [rdT_lt _ i hi, wrap_nat i (by omega)]
    have hM := all_mask
    rw [List.all_eq_true] at hM
    have hM := hM set (by simpa using hset)
    rw [List.all_eq_true] at hM
    have hM := hM _ hm
    generalize (tri n)[i] = t at ht hk hM h1 h2 ⊢
    obtain ⟨a, b, c⟩ := t
    unfold okT at ht hk
    rw [decide_eq_true_eq] at ht hk
    dsimp only at ht hk hM h1 h2 ⊢
    obtain ⟨a, rfl⟩ := Int.eq_ofNat_of_zero_le ht.1
    obtain ⟨b, rfl⟩ := Int.eq_ofNat_of_zero_le (show 0 ≤ b by omega)
    obtain ⟨c, rfl⟩ := Int.eq_ofNat_of_zero_le (show 0 ≤ c by omega)
    simp only [Int.toNat_natCast] at hM h1 h2
    refine Ev.ite_pos (by omega) (Ev.ite_pos (by omega) (Ev.ite_pos (by omega) ?_))
    unfold okMask at hM
    have hM := eq_of_beq hM
    unfold hulT at h1 h2
    rw [← hM] at h1 h2
    by_cases hc : Go.bits .and .i64 (set : Int) (Go.bits .or .i64 (Go.bits .or .i64 (shl .i64 1 (a : Int)) (shl .i64 1 (b : Int))) (shl .i64 1 (c : Int))) = Go.bits .or .i64 (Go.bits .or .i64 (shl .i64 1 (a : Int)) (shl .i64 1 (b : Int))) (shl .i64 1 (c : Int))
    · rw [decide_eq_true hc] at hM h1 h2
      have hM := hM.symm
      rw [Bool.and_eq_true, Bool.and_eq_true] at hM
      obtain ⟨⟨m1, m2⟩, m3⟩ := hM
      have n1 : p ≠ a := fun e => by rw [e, m1] at hno; cases hno
      have n2 : p ≠ b := fun e => by rw [e, m2] at hno; cases hno
      have n3 : p ≠ c := fun e => by rw [e, m3] at hno; cases hno
      refine Ev.ite_pos hc (Ev.bind (a := inn n s p a b c == p) ?_ ?_)
      · unfold impl_chi_isInside.f
        exact Ev.bind (impl_inner_ev n hn s p a b c ⟨⟨by omega, by omega, by omega, by omega⟩, n1, n2, n3, by omega, by omega, by omega⟩) (Ev.now _)
      · rw [Bool.true_and] at h1 h2
        cases hI : inn n s p a b c == (p : Int) with
        | true =>
          rw [h1 hI]
          exact Ev.ite_pos rfl (Ev.now _)
        | false => exact Ev.ite_neg (by simp) (h2 hI)
    · rw [decide_eq_false hc] at h2
      exact Ev.ite_neg hc (h2 rfl)
def pm (v : Int) : Int := if v > 0 then 43 else 45
def codesT (l : List Int) (ts : List T3) : List Int := ts.map fun t => pm (chiA l t.f0 t.f1 t.f2)
theorem signs_ev (n : Nat) (hn : n ≤ 7) (l : List Int) (hl : l.length = 344) (hc : chiN l = n) : Ev (fun k => impl_chi_signs.f k l) ((n : Int), strOfNums (codesT l (tri n))) := by
  unfold impl_chi_signs.f
  rw [hc]
  refine Ev.ite_pos (by omega) (Ev.bind (triplesOf_ev n hn) ?_)
  have h35 : (tri n).length ≤ 1000 := by
    have : (List.range 8).all (fun n => decide ((tri n).length ≤ 1000)) = true := by decide +kernel
    rw [List.all_eq_true] at this
    simpa using this n (by simp; omega)
  have key := Ev.loop (fun i k => impl_chi_signs.l0 k l (codesT l ((tri n).take i)) (tri n) (tri n).length i) (tri n).length ((n : Int), strOfNums (codesT l (tri n))) ?_ ?_ 0 (by omega)
  · simpa [codesT] using key
  · refine Ev.step (fun k => impl_chi_signs.l0.eq_2 ..) (Ev.ite_neg (by omega) (Ev.ite_pos (by omega) (Ev.const ?_)))
    rw [List.take_length, hc]
  · intro i hi ih
    have ht := tri_at n hn i hi
    have hlen : (codesT l ((tri n).take i)).length < 140737488355328 := by unfold codesT; simp; omega
    refine Ev.step (fun k => impl_chi_signs.l0.eq_2 ..) (Ev.ite_pos (by omega) (Ev.ite_pos (by omega) (Ev.ite_pos (by omega) (Ev.ite_pos (by omega) ?_))))
    rw [wrap_nat i (by omega), rdT_lt _ i hi]
    have hcod : codesT l ((tri n).take (i + 1)) = codesT l ((tri n).take i) ++ [pm (chiA l (tri n)[i].f0 (tri n)[i].f1 (tri n)[i].f2)] := by
      unfold codesT
      rw [List.take_succ_eq_append_getElem hi, List.map_append]
      rfl
    rw [hcod] at ih
    generalize (tri n)[i] = t at ih ht ⊢
    unfold okT at ht
    rw [decide_eq_true_eq] at ht
    refine Ev.ite_pos (by omega) (Ev.ite_pos (by omega) (Ev.ite_pos (by omega) (Ev.ite_pos (by omega) (Ev.ite_pos (by omega) (Ev.ite_pos (by omega) ?_)))))
    unfold pm at ih
    by_cases h : chiA l t.f0 t.f1 t.f2 > 0
    · rw [if_pos h] at ih
      exact Ev.ite_pos h (Ev.ite_pos hlen ih)
    · rw [if_neg h] at ih
      exact Ev.ite_neg h (Ev.ite_pos hlen ih)
theorem all_tri : (List.range 8).all (fun n => (List.range (tri n).length).all fun m => (let t := (tri n).getD m ⟨0, 0, 0⟩; src (tri n) 0 t.f0 t.f1 t.f2 == some (m, true))) = true := by decide +kernel
theorem tri_src (n : Nat) (hn : n ≤ 7) (m : Nat) (hm : m < (tri n).length) : src (tri n) 0 (tri n)[m].f0 (tri n)[m].f1 (tri n)[m].f2 = some (m, true) := by
  have g := all_tri
  rw [List.all_eq_true] at g
  have g := g n (by simp; omega)
  rw [List.all_eq_true] at g
  have g := g m (by simpa using hm)
  rw [getD_lt _ _ _ hm] at g
  simpa using g
theorem tri_nat (n : Nat) (hn : n ≤ 7) (m : Nat) (hm : m < (tri n).length) : ∃ a b c : Nat, a < b ∧ b < c ∧ c < n ∧ (tri n)[m] = ⟨a, b, c⟩ := by
  have h := tri_ok n hn
  rw [List.all_eq_true] at h
  have h := h _ (List.getElem_mem hm)
  generalize (tri n)[m] = t at h ⊢
  obtain ⟨a, b, c⟩ := t
  unfold okT at h
  rw [decide_eq_true_eq] at h
  dsimp only at h
  obtain ⟨a, rfl⟩ := Int.eq_ofNat_of_zero_le h.1
  obtain ⟨b, rfl⟩ := Int.eq_ofNat_of_zero_le (show 0 ≤ b by omega)
  obtain ⟨c, rfl⟩ := Int.eq_ofNat_of_zero_le (show 0 ≤ c by omega)
  exact ⟨a, b, c, by omega, by omega, by omega, rfl⟩
theorem tab_tri (n : Nat) (hn : n ≤ 7) (s : ByteArray) (m : Nat) (hm : m < (tri n).length) : chiA (tab n s) (tri n)[m].f0 (tri n)[m].f1 (tri n)[m].f2 = sgAt s m := by
  obtain ⟨a, b, c, h1, h2, h3, e⟩ := tri_nat n hn m hm
  have hs := tri_src n hn m hm
  rw [e] at hs ⊢
  dsimp only at hs ⊢
  rw [tab_at n hn s a b c (by omega) (by omega) (by omega)]
  unfold sg
  rw [hs]
  rfl
def okD3 (t : T3) : Prop := ∃ a b c : Nat, t = ⟨a, b, c⟩ ∧ a < 7 ∧ b < 7 ∧ c < 7 ∧ a ≠ b ∧ b ≠ c ∧ a ≠ c
def permT (p : List Int) (t : T3) : T3 := ⟨rd p t.f0, rd p t.f1, rd p t.f2⟩
def isP (n : Nat) (p : List Int) : Prop := p.length = n ∧ (inv p).length = n ∧ ∀ a, a < n → (0 ≤ rd p (a : Int) ∧ rd p (a : Int) < n ∧ 0 ≤ rd (inv p) (a : Int) ∧ rd (inv p) (a : Int) < n) ∧ ∀ x, x < n → ((x : Int) = rd p (a : Int) ↔ rd (inv p) (x : Int) = (a : Int))
theorem tri_mem (n : Nat) (hn : n ≤ 7) (t : T3) (h : t ∈ tri n) : ∃ a b c : Nat, t = ⟨a, b, c⟩ ∧ a < b ∧ b < c ∧ c < n := by
  obtain ⟨m, hm, rfl⟩ := List.getElem_of_mem h
  obtain ⟨a, b, c, h1, h2, h3, e⟩ := tri_nat n hn m hm
  exact ⟨a, b, c, e, h1, h2, h3⟩
def pickC (n : Nat) (s : ByteArray) (q : List Int) : List Int := (tri n).map fun t => pm (sg n s (rd q t.f0) (rd q t.f1) (rd q t.f2))
def pickT (n : Nat) (s : ByteArray) (q : List Int) : ByteArray := strOfNums (pickC n s q)
def rem2 (n i j k : Nat) : List T3 := ((List.range n).drop k).map fun c : Nat => (⟨i, j, c⟩ : T3)
def rem1 (n i j : Nat) : List T3 := ((List.range n).drop j).flatMap fun b : Nat => rem2 n i b (b + 1)
def rem0 (n i : Nat) : List T3 := ((List.range n).drop i).flatMap fun a : Nat => rem1 n a (a + 1)
def strP (n : Nat) (s : ByteArray) (q : List Int) (ts : List T3) : ByteArray := strOfNums (ts.map fun t => pm (sg n s (rd q t.f0) (rd q t.f1) (rd q t.f2)))
theorem strOfNums_append (a b : List Int) : strOfNums (a ++ b) = strOfNums a ++ strOfNums b := by
  unfold strOfNums
  apply ByteArray.ext
  apply Array.ext'
  simp [ByteArray.data_append]
theorem strOfNums_size (a : List Int) : (strOfNums a).size = a.length := by
  unfold strOfNums
  show (Array.size _) = _
  simp
def texts (n : Nat) (s : ByteArray) : List ByteArray := (AN n).map fun p => pickT n s (inv p)
def oppT (s : ByteArray) : ByteArray := strOfNums (oppL s)
theorem bt_strOf (L : List Int) (j : Nat) (hj : j < L.length) (h : 0 ≤ L[j] ∧ L[j] < 256) : bt (strOfNums L) (j : Int) = L[j] := by
  unfold bt
  have hs : (strOfNums L).size = L.length := strOfNums_size L
  rw [dif_pos (by rw [Int.toNat_natCast, hs]; exact hj)]
  simp only [Int.toNat_natCast]
  have e : (strOfNums L)[j]'(by rw [hs]; exact hj) = UInt8.ofNat (L[j]).toNat := by
    show (strOfNums L).data[j]'_ = _
    simp [strOfNums]
  rw [e, UInt8.toNat_ofNat']
  omega
theorem mul_b (x y : Int) (h1 : -100 ≤ x) (h2 : x ≤ 100) (h3 : -100 ≤ y) (h4 : y ≤ 100) : -10000 ≤ x * y ∧ x * y ≤ 10000 := by
  have a := Int.mul_nonneg (show 0 ≤ 100 - x by omega) (show 0 ≤ 100 - y by omega)
  have b := Int.mul_nonneg (show 0 ≤ 100 + x by omega) (show 0 ≤ 100 + y by omega)
  have c := Int.mul_nonneg (show 0 ≤ 100 - x by omega) (show 0 ≤ 100 + y by omega)
  have d := Int.mul_nonneg (show 0 ≤ 100 + x by omega) (show 0 ≤ 100 - y by omega)
  have e1 : (100 - x) * (100 - y) = 10000 - 100 * x - 100 * y + x * y := by grind
  have e2 : (100 + x) * (100 + y) = 10000 + 100 * x + 100 * y + x * y := by grind
  have e3 : (100 - x) * (100 + y) = 10000 - 100 * x + 100 * y - x * y := by grind
  have e4 : (100 + x) * (100 - y) = 10000 + 100 * x - 100 * y - x * y := by grind
  rw [e1] at a
  rw [e2] at b
  rw [e3] at c
  rw [e4] at d
  omega
def cr (a b c : Pt) : Int := (b.f0 - a.f0) * (c.f1 - a.f1) - (b.f1 - a.f1) * (c.f0 - a.f0)
theorem cr_four (a b c d : Pt) : cr b c d = cr a b c + cr a c d + cr a d b := by
  unfold cr
  grind
theorem cr_cyc (a b c : Pt) : cr a b c = cr b c a := by
  unfold cr
  grind
theorem cr_alt (a b c : Pt) : cr a b c = - cr a c b := by
  unfold cr
  grind
theorem cr_five (w a b c v : Pt) : cr w a b * cr w c v + cr w b c * cr w a v + cr w c a * cr w b v = 0 := by
  unfold cr
  grind
theorem areaP_cr (a b c : Pt) (ha : nearB 50 a = true) (hb : nearB 50 b = true) (hc : nearB 50 c = true) : areaP a b c = cr a b c := by
  unfold nearB at ha hb hc
  simp only [Bool.and_eq_true, decide_eq_true_eq] at ha hb hc
  have m1 := mul_b (b.f0 - a.f0) (c.f1 - a.f1) (by omega) (by omega) (by omega) (by omega)
  have m2 := mul_b (b.f1 - a.f1) (c.f0 - a.f0) (by omega) (by omega) (by omega) (by omega)
  unfold areaP cr
  rw [wrap_in (n := b.f0 - a.f0) (by omega) (by omega), wrap_in (n := c.f1 - a.f1) (by omega) (by omega), wrap_in (n := b.f1 - a.f1) (by omega) (by omega), wrap_in (n := c.f0 - a.f0) (by omega) (by omega)]
  rw [wrap_in (n := (b.f0 - a.f0) * (c.f1 - a.f1)) (by omega) (by omega), wrap_in (n := (b.f1 - a.f1) * (c.f0 - a.f0)) (by omega) (by omega), wrap_in (by omega) (by omega)]
theorem near_at {l : List Pt} (h : areP l = true) (i : Nat) (hi : i < l.length) : nearB 50 (rdP l i) = true := by
  unfold areP at h
  rw [Bool.and_eq_true, Bool.and_eq_true] at h
  exact nearAll_at h.2.1 i hi
def X (l : List Pt) (a b c : Nat) : Int := cr (rdP l a) (rdP l b) (rdP l c)
theorem X_cyc (l : List Pt) (a b c : Nat) : X l a b c = X l b c a := cr_cyc ..
theorem X_alt (l : List Pt) (a b c : Nat) : X l a b c = - X l a c b := cr_alt ..
theorem X_area {l : List Pt} (h : areP l = true) (a b c : Nat) (ha : a < l.length) (hb : b < l.length) (hc : c < l.length) : areaP (rdP l a) (rdP l b) (rdP l c) = X l a b c :=
  areaP_cr _ _ _ (near_at h a ha) (near_at h b hb) (near_at h c hc)
theorem X_up {l : List Pt} (h : areP l = true) (a b c : Nat) (hab : a < b) (hbc : b < c) (hc : c < l.length) : X l a b c ≠ 0 := by
  obtain ⟨t, ht, e⟩ := tri_in l.length c b a (areP_len h).2 hc hbc hab
  have h' := h
  unfold areP at h'
  rw [Bool.and_eq_true, Bool.and_eq_true, List.all_eq_true] at h'
  have g := h'.2.2 t ht
  rw [e] at g
  unfold bentT at g
  have g : (areaP (rdP l a) (rdP l b) (rdP l c) != 0) = true := g
  rw [X_area h a b c (by omega) (by omega) hc] at g
  simpa using g
theorem X_ne {l : List Pt} (h : areP l = true) (a b c : Nat) (ha : a < l.length) (hb : b < l.length) (hc : c < l.length) (h1 : a ≠ b) (h2 : b ≠ c) (h3 : a ≠ c) : X l a b c ≠ 0 := by
  have c1 := X_cyc l a b c
  have c2 := X_cyc l b c a
  have a1 := X_alt l a b c
  have a2 := X_alt l b c a
  have a3 := X_alt l c a b
  rcases Nat.lt_or_ge a b with k1 | k1 <;> rcases Nat.lt_or_ge b c with k2 | k2 <;> rcases Nat.lt_or_ge a c with k3 | k3
  · exact X_up h a b c k1 k2 hc
  · omega
  · have := X_up h a c b k3 (by omega) hb
    omega
  · have := X_up h c a b (by omega) k1 hb
    omega
  · have := X_up h b a c (by omega) k3 hc
    omega
  · have := X_up h b c a k2 (by omega) ha
    omega
  · omega
  · have := X_up h c b a (by omega) (by omega) ha
    omega
def sx (l : List Pt) (a b c : Nat) : Int := sgn (X l a b c)
theorem sgn_neg (x : Int) : sgn (-x) = - sgn x := by
  unfold sgn
  split <;> split <;> (try split) <;> (try split) <;> omega
theorem sgn_pos (x : Int) : sgn x = 1 ↔ 0 < x := by
  unfold sgn
  split
  · omega
  · split <;> omega
theorem sgn_min (x : Int) : sgn x = -1 ↔ x < 0 := by
  unfold sgn
  split
  · omega
  · split <;> omega
theorem sx_cyc (l : List Pt) (a b c : Nat) : sx l a b c = sx l b c a := by unfold sx; rw [X_cyc]
theorem sx_alt (l : List Pt) (a b c : Nat) : sx l a b c = - sx l a c b := by unfold sx; rw [X_alt, sgn_neg]
theorem sx_pm {l : List Pt} (h : areP l = true) (a b c : Nat) (ha : a < l.length) (hb : b < l.length) (hc : c < l.length) (h1 : a ≠ b) (h2 : b ≠ c) (h3 : a ≠ c) : sx l a b c = 1 ∨ sx l a b c = -1 := by
  have := X_ne h a b c ha hb hc h1 h2 h3
  unfold sx sgn
  split
  · exact Or.inr rfl
  · split
    · exact Or.inl rfl
    · omega
theorem sx_four (l : List Pt) (a b c d : Nat) (h1 : sx l a b c = 1) (h2 : sx l a c d = 1) (h3 : sx l a d b = 1) : sx l b c d = 1 := by
  unfold sx at *
  rw [sgn_pos] at *
  have := cr_four (rdP l a) (rdP l b) (rdP l c) (rdP l d)
  unfold X at *
  omega
theorem sx_five (l : List Pt) (w a b c v : Nat) (h1 : sx l w a b = 1) (h2 : sx l w b c = 1) (h3 : sx l w c a = 1) (k1 : sx l w a v = 1) (k2 : sx l w b v = 1) (k3 : sx l w c v = 1) : False := by
  unfold sx at *
  rw [sgn_pos] at *
  have := cr_five (rdP l w) (rdP l a) (rdP l b) (rdP l c) (rdP l v)
  unfold X at *
  have m1 := Int.mul_pos h1 k3
  have m2 := Int.mul_pos h2 k1
  have m3 := Int.mul_pos h3 k2
  omega
def codeX (l : List Pt) (t : T3) : Int := pm (X l t.f0.toNat t.f1.toNat t.f2.toNat)
def sO (l : List Pt) : ByteArray := strOfNums ((tri l.length).map (codeX l))
theorem sO_size (l : List Pt) : (sO l).size = (tri l.length).length := by
  unfold sO
  rw [strOfNums_size, List.length_map]
theorem pm_two (v : Int) : pm v = 43 ∨ pm v = 45 := by
  unfold pm
  split
  · exact Or.inl rfl
  · exact Or.inr rfl
theorem sgAt_sO {l : List Pt} (hn : l.length ≤ 7) (h : areP l = true) (m : Nat) (hm : m < (tri l.length).length) (a b c : Nat) (e : (tri l.length)[m] = ⟨a, b, c⟩) (hab : a < b) (hbc : b < c) (hc : c < l.length) : sgAt (sO l) m = sx l a b c := by
  have hb : bt (sO l) (m : Int) = pm (X l a b c) := by
    unfold sO
    have g : ((tri l.length).map (codeX l))[m]'(by rw [List.length_map]; exact hm) = pm (X l a b c) := by
      rw [List.getElem_map, e]
      rfl
    rw [bt_strOf _ m (by rw [List.length_map]; exact hm) (by rw [g]; rcases pm_two (X l a b c) with k | k <;> omega), g]
  have hx := X_up h a b c hab hbc hc
  unfold sgAt sx
  rw [hb]
  unfold pm sgn
  by_cases k : X l a b c > 0
  · rw [if_pos k, if_neg (by omega), if_neg (by omega), if_pos k]
  · rw [if_neg k, if_pos rfl, if_pos (by omega)]
theorem src_in : ∀ (ts : List T3) (m : Nat) (x y z : Int) (q : Nat) (b : Bool), src ts m x y z = some (q, b) → ∃ i, ∃ h : i < ts.length, q = m + i ∧ par ts[i] x y z = some b
  | [], m, x, y, z, q, b, h => by simp [src] at h
  | t :: ts, m, x, y, z, q, b, h => by
    rw [src] at h
    cases hs : src ts (m + 1) x y z with
    | some p =>
      rw [hs] at h
      obtain ⟨q', b'⟩ := p
      simp only [Option.some_or, Option.some.injEq, Prod.mk.injEq] at h
      obtain ⟨rfl, rfl⟩ := h
      obtain ⟨i, hi, e, hp⟩ := src_in ts (m + 1) x y z _ _ hs
      exact ⟨i + 1, by rw [List.length_cons]; omega, by omega, by rw [List.getElem_cons_succ]; exact hp⟩
    | none =>
      rw [hs] at h
      cases hp : par t x y z with
      | none => rw [hp] at h; simp at h
      | some b' =>
        rw [hp] at h
        simp only [Option.map_some, Option.none_or, Option.some.injEq, Prod.mk.injEq] at h
        obtain ⟨rfl, rfl⟩ := h
        exact ⟨0, by rw [List.length_cons]; omega, rfl, hp⟩
theorem sg_sO {l : List Pt} (h : areP l = true) (x y z : Nat) (hx : x < l.length) (hy : y < l.length) (hz : z < l.length) (h1 : x ≠ y) (h2 : y ≠ z) (h3 : x ≠ z) : sg l.length (sO l) x y z = sx l x y z := by
  have hn := (areP_len h).2
  have hs := srt_ok l.length x y z hn hx hy hz h1 h2 h3
  unfold okSrt at hs
  unfold sg
  cases ha : srt l.length x y z with
  | none => rw [ha] at hs; simp at hs
  | some v =>
    cases hb : src (tri l.length) 0 x y z with
    | none => rw [ha, hb] at hs; simp at hs
    | some w =>
      obtain ⟨q, b⟩ := w
      obtain ⟨i, hi, e, hp⟩ := src_in _ _ _ _ _ _ _ hb
      obtain rfl : q = i := by omega
      obtain ⟨a, b', c, k1, k2, k3, ht⟩ := tri_nat l.length hn q hi
      have hA := sgAt_sO hn h q hi a b' c ht k1 k2 k3
      rw [ht] at hp
      unfold par at hp
      dsimp only at hp
      have c1 := sx_cyc l a b' c
      have c2 := sx_cyc l b' c a
      have a1 := sx_alt l a b' c
      have a2 := sx_alt l b' c a
      have a3 := sx_alt l c a b'
      have hpm := sx_pm h a b' c (by omega) (by omega) k3 (by omega) (by omega) (by omega)
      split at hp
      · rename_i g
        obtain rfl : true = b := Option.some.inj hp
        show sgAt (sO l) q = _
        rw [hA]
        rcases g with ⟨g1, g2, g3⟩ | ⟨g1, g2, g3⟩ | ⟨g1, g2, g3⟩
        · obtain rfl : x = a := by omega
          obtain rfl : y = b' := by omega
          obtain rfl : z = c := by omega
          rfl
        · obtain rfl : x = b' := by omega
          obtain rfl : y = c := by omega
          obtain rfl : z = a := by omega
          exact c1
        · obtain rfl : x = c := by omega
          obtain rfl : y = a := by omega
          obtain rfl : z = b' := by omega
          omega
      · split at hp
        · rename_i g
          obtain rfl : false = b := Option.some.inj hp
          show wrap64 (-(sgAt (sO l) q)) = _
          rw [hA, wrap_in (by omega) (by omega)]
          rcases g with ⟨g1, g2, g3⟩ | ⟨g1, g2, g3⟩ | ⟨g1, g2, g3⟩
          · obtain rfl : x = a := by omega
            obtain rfl : y = c := by omega
            obtain rfl : z = b' := by omega
            omega
          · obtain rfl : x = c := by omega
            obtain rfl : y = b' := by omega
            obtain rfl : z = a := by omega
            omega
          · obtain rfl : x = b' := by omega
            obtain rfl : y = a := by omega
            obtain rfl : z = c := by omega
            omega
        · exact absurd hp (by simp)
theorem loopR {β ρ : Type} (g : List β → Nat → Nat → Option ρ) (m : Nat) (item : Nat → List β) (tail R : List β) (r : ρ) (lo : Nat) (hlo : lo ≤ m) (hend : ∀ acc, acc ++ tail = R → Ev (g acc m) r)
    (hstep : ∀ c, lo ≤ c → c < m → ∀ acc X, acc ++ (item c ++ X) = R → (∀ acc', acc' ++ X = R → Ev (g acc' (c + 1)) r) → Ev (g acc c) r) : ∀ acc, acc ++ (((List.range m).drop lo).flatMap item ++ tail) = R → Ev (g acc lo) r := by
  have key : ∀ d c, lo ≤ c → c + d = m → ∀ acc, acc ++ (((List.range m).drop c).flatMap item ++ tail) = R → Ev (g acc c) r := by
    intro d
    induction d with
    | zero =>
      intro c _ hc acc h
      obtain rfl : c = m := by omega
      rw [List.drop_of_length_le (by simp)] at h
      exact hend acc (by simpa using h)
    | succ d ih =>
      intro c hl hc acc h
      rw [range_drop' m c (by omega), List.flatMap_cons, List.append_assoc] at h
      exact hstep c hl (by omega) acc _ h (fun acc' h' => ih (c + 1) (by omega) (by omega) acc' h')
  exact key (m - lo) lo (Nat.le_refl _) (by omega)
theorem acc_le {β : Type} {acc X R : List β} (h : acc ++ X = R) : acc.length ≤ R.length := by
  rw [← h, List.length_append]
  omega
theorem tri_smallG (n : Nat) (hn : n ≤ 7) : (tri n).length ≤ 35 := by
  have : n = 0 ∨ n = 1 ∨ n = 2 ∨ n = 3 ∨ n = 4 ∨ n = 5 ∨ n = 6 ∨ n = 7 := by omega
  rcases this with rfl | rfl | rfl | rfl | rfl | rfl | rfl | rfl <;> simp [tri]
theorem pm_sgn (v : Int) : pm (sgn v) = pm v := by
  unfold pm sgn
  by_cases h : v < 0
  · rw [if_pos h, if_neg (by omega), if_neg (by omega)]
  · rw [if_neg h]
    by_cases h2 : v > 0
    · rw [if_pos h2, if_pos (by omega), if_pos h2]
    · rw [if_neg h2, if_neg (by omega), if_neg h2]
theorem codesT_sO {l : List Pt} (h : areP l = true) : codesT (tab l.length (sO l)) (tri l.length) = (tri l.length).map (codeX l) := by
  have hn := (areP_len h).2
  unfold codesT
  apply List.ext_getElem
  · simp
  · intro m h1 h2
    have hm : m < (tri l.length).length := by simpa using h1
    obtain ⟨a, b, c, k1, k2, k3, e⟩ := tri_nat l.length hn m hm
    rw [List.getElem_map, List.getElem_map, tab_tri l.length hn (sO l) m hm, sgAt_sO hn h m hm a b c e k1 k2 k3, e]
    unfold sx
    rw [pm_sgn]
    rfl
theorem spec_SignsOf_ev (l : List Pt) (hl : l.length ≤ 1048576) : Ev (fun k => spec_SignsOf.f k l) (if areP l = true then ((l.length : Int), sO l, true) else (0, ⟨#[]⟩, false)) := by
  unfold spec_SignsOf.f
  refine Ev.bind (spec_ArePoints_ev l hl) ?_
  cases h : areP l with
  | false => exact Ev.ite_neg (by simp) (Ev.now _)
  | true =>
    rw [if_pos rfl]
    refine Ev.ite_pos rfl ?_
    have h7 := (areP_len h).2
    have h35 := tri_smallG _ h7
    have hR : (((List.range l.length).drop 0).flatMap fun a => ((List.range l.length).drop (a + 1)).flatMap fun b => ((List.range l.length).drop (b + 1)).flatMap fun c => [codeX l ⟨(a : Nat), (b : Nat), (c : Nat)⟩]) = (tri l.length).map (codeX l) := by
      rw [← listT_eq _ h7]
      unfold listT
      rw [List.map_flatMap]
      congr 1
      funext a
      rw [List.map_flatMap]
      congr 1
      funext b
      rw [List.map_map]
      induction (List.range l.length).drop (b + 1) with
      | nil => rfl
      | cons c cs ih => rw [List.flatMap_cons, ih]; rfl
    have hz : (⟨#[]⟩ : ByteArray) = strOfNums [] := rfl
    rw [hz]
    refine loopR (fun acc (a : Nat) k => spec_SignsOf.l0 k l a (l.length : Int) (strOfNums acc)) l.length (fun a => ((List.range l.length).drop (a + 1)).flatMap fun b => ((List.range l.length).drop (b + 1)).flatMap fun c => [codeX l ⟨(a : Nat), (b : Nat), (c : Nat)⟩]) [] ((tri l.length).map (codeX l)) ((l.length : Int), sO l, true) 0 (by omega) ?_ ?_ [] (by rw [List.append_nil, List.nil_append]; exact hR)
    · intro acc e
      rw [List.append_nil] at e
      refine Ev.step (fun k => spec_SignsOf.l0.eq_2 ..) (Ev.ite_neg (by omega) (Ev.const ?_))
      rw [e]
      rfl
    intro a _ ha acc Y e ih
    refine Ev.step (fun k => spec_SignsOf.l0.eq_2 ..) (Ev.ite_pos (by omega) ?_)
    rw [wrap_nat a (by omega)]
    refine loopR (fun acc (b : Nat) k => spec_SignsOf.l1 k l a b (l.length : Int) (strOfNums acc)) l.length (fun b => ((List.range l.length).drop (b + 1)).flatMap fun c => [codeX l ⟨(a : Nat), (b : Nat), (c : Nat)⟩]) Y ((tri l.length).map (codeX l)) ((l.length : Int), sO l, true) (a + 1) (by omega) ?_ ?_ acc e
    · intro acc e
      refine Ev.step (fun k => spec_SignsOf.l1.eq_2 ..) (Ev.ite_neg (by omega) ?_)
      rw [wrap_nat a (by omega)]
      exact ih acc e
    intro b hab hb acc Y' e ih'
    refine Ev.step (fun k => spec_SignsOf.l1.eq_2 ..) (Ev.ite_pos (by omega) ?_)
    rw [wrap_nat b (by omega)]
    refine loopR (fun acc (c : Nat) k => spec_SignsOf.l2 k l a b c (l.length : Int) (strOfNums acc)) l.length (fun c => [codeX l ⟨(a : Nat), (b : Nat), (c : Nat)⟩]) Y' ((tri l.length).map (codeX l)) ((l.length : Int), sO l, true) (b + 1) (by omega) ?_ ?_ acc e
    · intro acc e
      refine Ev.step (fun k => spec_SignsOf.l2.eq_2 ..) (Ev.ite_neg (by omega) ?_)
      rw [wrap_nat b (by omega)]
      exact ih' acc e
    intro c hbc hc acc Y'' e ih''
    have hacc := acc_le e
    rw [List.length_map] at hacc
    have hA : spec_l2Area.f (rdP l a).f0 (rdP l a).f1 (rdP l b).f0 (rdP l b).f1 (rdP l c).f0 (rdP l c).f1 = some (X l a b c) := by
      rw [← X_area h a b c (by omega) (by omega) hc]
      rfl
    refine Ev.step (fun k => spec_SignsOf.l2.eq_2 ..) (Ev.ite_pos (by omega) (Ev.ite_pos (by omega) (Ev.ite_pos (by omega) (Ev.ite_pos (by omega) (Ev.ite_pos (by omega) (Ev.ite_pos (by omega) (Ev.bind0 hA (Ev.bind0 (l3Byte_eq _) (Ev.ite_pos (by rw [byteS_size, strOfNums_size]; omega) ?_)))))))))
    rw [wrap_nat c (by omega)]
    have hb : strOfNums acc ++ byteS (X l a b c) = strOfNums (acc ++ [codeX l ⟨(a : Nat), (b : Nat), (c : Nat)⟩]) := by
      rw [strOfNums_append]
      congr 1
      show byteS (X l a b c) = strOfNums [pm (X l a b c)]
      unfold byteS pm
      split <;> rfl
    rw [hb]
    exact ih'' _ (by rw [List.append_assoc]; exact e)
theorem impl_SignsOf_ev (l : List Pt) (hl : l.length ≤ 1048576) : Ev (fun k => impl_SignsOf.f k l) (if areP l = true then ((l.length : Int), sO l, true) else (0, ⟨#[]⟩, false)) := by
  unfold impl_SignsOf.f
  refine Ev.bind (impl_ArePoints_ev l hl) ?_
  cases h : areP l with
  | false => exact Ev.ite_neg (by simp) (Ev.now _)
  | true =>
    rw [if_pos rfl]
    have h7 := (areP_len h).2
    have h35 := tri_smallG _ h7
    have hcn : chiN (chiNew (l.length : Int)) = l.length := rfl
    refine Ev.ite_pos rfl (Ev.bind0 rfl (Ev.ite_pos (by rw [chiNew_length]; omega) ?_))
    rw [hcn]
    refine Ev.bind (triplesOf_ev _ h7) ?_
    have key := Ev.loop (fun i k => impl_SignsOf.l0 k l (fill (sgAt (sO l)) ((tri l.length).take i) 0 (chiNew l.length)) (tri l.length) (tri l.length).length i) (tri l.length).length ((l.length : Int), sO l, true) ?_ ?_ 0 (by omega)
    · simpa [fill] using key
    · refine Ev.step (fun k => impl_SignsOf.l0.eq_2 ..) (Ev.ite_neg (by omega) ?_)
      rw [List.take_length]
      have hs := signs_ev l.length h7 (tab l.length (sO l)) (tab_length _ _) (tab_n _ _)
      rw [codesT_sO h] at hs
      exact Ev.bind hs (Ev.now _)
    · intro i hi ih
      obtain ⟨a, b, c, k1, k2, k3, e⟩ := tri_nat l.length h7 i hi
      have hT := TurnOf_ev (rdP l a) (rdP l b) (rdP l c) (near_at h a (by omega)) (near_at h b (by omega)) (near_at h c k3)
      rw [X_area h a b c (by omega) (by omega) k3] at hT
      have hv := sgAt_sO h7 h i hi a b c e k1 k2 k3
      refine Ev.step (fun k => impl_SignsOf.l0.eq_2 ..) (Ev.ite_pos (by omega) (Ev.ite_pos (by omega) (Ev.ite_pos (by omega) ?_)))
      rw [wrap_nat i (by omega), rdT_lt _ i hi]
      rw [List.take_succ_eq_append_getElem hi, fill_append, Nat.zero_add, List.length_take, Nat.min_eq_left (by omega)] at ih
      have hL : (fill (sgAt (sO l)) ((tri l.length).take i) 0 (chiNew l.length)).length = 344 := by rw [fill_length, chiNew_length]
      generalize fill (sgAt (sO l)) ((tri l.length).take i) 0 (chiNew l.length) = L at ih hL ⊢
      rw [fill, fill, hv] at ih
      rw [e] at ih ⊢
      dsimp only
      have hset : impl_chi_set.f L a b c (sgn (X l a b c)) = some (put3 L ⟨a, b, c⟩ (sx l a b c)) := by
        unfold impl_chi_set.f
        rw [if_pos ⟨hL, by omega, by omega, by omega⟩]
        rfl
      exact Ev.ite_pos (by omega) (Ev.ite_pos (by omega) (Ev.ite_pos (by omega) (Ev.ite_pos (by omega) (Ev.ite_pos (by omega) (Ev.ite_pos (by omega) (Ev.bind hT (Ev.bind0 hset ih)))))))
theorem X_ex (l : List Pt) (a b c d e : Nat) : X l a b c * X l a d e - X l a b d * X l a c e + X l a b e * X l a c d = 0 := by
  unfold X cr
  grind
theorem X_in (l : List Pt) (a b c d : Nat) : X l b c d - X l a c d + X l a b d - X l a b c = 0 := by
  unfold X cr
  grind
theorem sgn_mul (x y : Int) : sgn x * sgn y = sgn (x * y) := by
  rcases Int.lt_trichotomy x 0 with hx | hx | hx
  · rcases Int.lt_trichotomy y 0 with hy | hy | hy
    · have := Int.mul_pos_of_neg_of_neg hx hy
      rw [(sgn_min x).2 hx, (sgn_min y).2 hy, (sgn_pos _).2 this]
      rfl
    · subst hy
      simp [sgn]
    · have := Int.mul_neg_of_neg_of_pos hx hy
      rw [(sgn_min x).2 hx, (sgn_pos y).2 hy, (sgn_min _).2 this]
      rfl
  · subst hx
    simp [sgn]
  · rcases Int.lt_trichotomy y 0 with hy | hy | hy
    · have := Int.mul_neg_of_pos_of_neg hx hy
      rw [(sgn_pos x).2 hx, (sgn_min y).2 hy, (sgn_min _).2 this]
      rfl
    · subst hy
      simp [sgn]
    · have := Int.mul_pos hx hy
      rw [(sgn_pos x).2 hx, (sgn_pos y).2 hy, (sgn_pos _).2 this]
      rfl
theorem sgn_range (x : Int) : -1 ≤ sgn x ∧ sgn x ≤ 1 := by
  unfold sgn
  split
  · omega
  · split <;> omega
theorem brk_no {l : List Pt} (h : areP l = true) (a b c d e : Nat) (ha : a < l.length) (hbc : b < c) (hcd : c < d) (hde : d < e) (he : e < l.length) (h1 : a ≠ b) (h2 : a ≠ c) (h3 : a ≠ d) (h4 : a ≠ e) : brk l.length (sO l) a b c d e = false := by
  unfold brk
  rw [sg_sO h a b c ha (by omega) (by omega) h1 (by omega) h2, sg_sO h a d e ha (by omega) (by omega) h3 (by omega) h4, sg_sO h a b e ha (by omega) (by omega) h1 (by omega) h4, sg_sO h a c d ha (by omega) (by omega) h2 (by omega) h3, sg_sO h a b d ha (by omega) (by omega) h1 (by omega) h3, sg_sO h a c e ha (by omega) (by omega) h2 (by omega) h4]
  have k1 : sx l a b c * sx l a d e = sgn (X l a b c * X l a d e) := sgn_mul _ _
  have k2 : sx l a b e * sx l a c d = sgn (X l a b e * X l a c d) := sgn_mul _ _
  have k3 : wrap64 (-(sx l a b d)) * sx l a c e = sgn (-(X l a b d * X l a c e)) := by
    have := sgn_range (X l a b d)
    unfold sx
    rw [wrap_in (by omega) (by omega), ← sgn_neg, sgn_mul, Int.neg_mul]
  rw [k1, k2, k3]
  have hx := X_ex l a b c d e
  have n1 : X l a b c * X l a d e ≠ 0 := by
    intro g
    rcases Int.mul_eq_zero.1 g with g | g
    · exact X_ne h a b c ha (by omega) (by omega) h1 (by omega) h2 g
    · exact X_ne h a d e ha (by omega) (by omega) h3 (by omega) h4 g
  generalize X l a b c * X l a d e = u at hx n1 ⊢
  generalize X l a b e * X l a c d = v at hx ⊢
  generalize X l a b d * X l a c e = w at hx ⊢
  have r1 := sgn_range u
  have r2 := sgn_range v
  have r3 := sgn_range (-w)
  rw [wrap_in (by omega) (by omega), wrap_in (by omega) (by omega), wrap_in (by omega) (by omega)]
  rw [Bool.and_eq_false_iff, decide_eq_false_iff_not, beq_eq_false_iff_ne]
  by_cases g : sgn u = sgn v
  · right
    intro g2
    rcases Int.lt_trichotomy u 0 with hu | hu | hu
    · rw [(sgn_min u).2 hu] at g
      have hv := (sgn_min v).1 g.symm
      rw [← g] at g2
      have hw := (sgn_min (-w)).1 g2.symm
      omega
    · exact n1 hu
    · rw [(sgn_pos u).2 hu] at g
      have hv := (sgn_pos v).1 g.symm
      rw [← g] at g2
      have hw := (sgn_pos (-w)).1 g2.symm
      omega
  · left
    exact g
theorem quad_nat (n : Nat) (hn : n ≤ 7) (q : Q4) (hq : q ∈ quad n) : ∃ a b c d : Nat, q = ⟨a, b, c, d⟩ ∧ a < b ∧ b < c ∧ c < d ∧ d < n := by
  have h := (quad_ok n hn).1
  rw [List.all_eq_true] at h
  have h := h q hq
  obtain ⟨a, b, c, d⟩ := q
  unfold okQ at h
  rw [decide_eq_true_eq] at h
  dsimp only at h
  obtain ⟨a, rfl⟩ := Int.eq_ofNat_of_zero_le h.1
  obtain ⟨b, rfl⟩ := Int.eq_ofNat_of_zero_le (show 0 ≤ b by omega)
  obtain ⟨c, rfl⟩ := Int.eq_ofNat_of_zero_le (show 0 ≤ c by omega)
  obtain ⟨d, rfl⟩ := Int.eq_ofNat_of_zero_le (show 0 ≤ d by omega)
  exact ⟨a, b, c, d, rfl, by omega, by omega, by omega, by omega⟩
theorem isM_sO {l : List Pt} (h : areP l = true) : isM (l.length : Int) (sO l) = true := by
  obtain ⟨h3, h7⟩ := areP_len h
  unfold isM
  rw [Bool.and_eq_true, Int.toNat_natCast]
  constructor
  · unfold isS
    rw [Bool.and_eq_true, decide_eq_true_eq, sO_size]
    refine ⟨⟨by omega, by omega, tri_length _ h7⟩, ?_⟩
    rw [List.all_eq_true]
    intro m hm
    have hm : m < (tri l.length).length := by simpa using hm
    unfold isPM
    have hb : bt (sO l) (m : Int) = codeX l (tri l.length)[m] := by
      unfold sO
      have g : ((tri l.length).map (codeX l))[m]'(by rw [List.length_map]; exact hm) = codeX l (tri l.length)[m] := by rw [List.getElem_map]
      rw [bt_strOf _ m (by rw [List.length_map]; exact hm) (by rw [g]; unfold codeX; rcases pm_two (X l (tri l.length)[m].f0.toNat (tri l.length)[m].f1.toNat (tri l.length)[m].f2.toNat) with k | k <;> omega), g]
    rw [hb]
    unfold codeX
    rcases pm_two (X l (tri l.length)[m].f0.toNat (tri l.length)[m].f1.toNat (tri l.length)[m].f2.toNat) with k | k <;> rw [k] <;> rfl
  · rw [Bool.not_eq_true']
    unfold anyB
    rw [List.any_eq_false]
    intro a ha
    rw [List.mem_range] at ha
    unfold anyA
    rw [Bool.not_eq_true, List.any_eq_false]
    intro q hq
    obtain ⟨b, c, d, e, rfl, k1, k2, k3, k4⟩ := quad_nat _ h7 q hq
    rw [Bool.not_eq_true, Bool.and_eq_false_iff]
    cases hv : avoid (a : Int) ⟨b, c, d, e⟩ with
    | false => exact Or.inl rfl
    | true =>
      right
      unfold avoid at hv
      dsimp only at hv
      rw [Bool.not_eq_true'] at hv
      simp only [Bool.or_eq_false_iff, beq_eq_false_iff_ne] at hv
      exact brk_no h a b c d e ha k1 k2 k3 k4 (by omega) (by omega) (by omega) (by omega)
theorem all_txt : (bools.all fun x => bools.all fun y => bools.all fun z => (decide ((txt x y z).toList = ([43, 43, 43, 43] : List UInt8))) == (x && y && z)) = true := by decide +kernel
theorem txt_plus (x y z : Bool) (h : (txt x y z).toList = ([43, 43, 43, 43] : List UInt8)) : x = true ∧ y = true ∧ z = true := by
  have g := all_txt
  rw [List.all_eq_true] at g
  have g := g x (mem_bools x)
  rw [List.all_eq_true] at g
  have g := g y (mem_bools y)
  rw [List.all_eq_true] at g
  have g := eq_of_beq (g z (mem_bools z))
  rw [decide_eq_true h] at g
  have g := g.symm
  simpa [and_assoc] using g
theorem isA_sO {l : List Pt} (h : areP l = true) : isA (l.length : Int) (sO l) = true := by
  obtain ⟨h3, h7⟩ := areP_len h
  unfold isA
  rw [isM_sO h, Bool.true_and, Int.toNat_natCast]
  unfold acyT
  rw [List.all_eq_true]
  intro q hq
  obtain ⟨a, b, c, d, rfl, k1, k2, k3, k4⟩ := quad_nat _ h7 q hq
  unfold mixQ mixed
  dsimp only
  rw [Bool.not_eq_true', decide_eq_false_iff_not]
  have p1 := sx_pm h b c d (by omega) (by omega) (by omega) (by omega) (by omega) (by omega)
  have p2 := sx_pm h a c d (by omega) (by omega) (by omega) (by omega) (by omega) (by omega)
  have p3 := sx_pm h a b d (by omega) (by omega) (by omega) (by omega) (by omega) (by omega)
  have p4 := sx_pm h a b c (by omega) (by omega) (by omega) (by omega) (by omega) (by omega)
  rw [sg_sO h b c d (by omega) (by omega) (by omega) (by omega) (by omega) (by omega), sg_sO h a c d (by omega) (by omega) (by omega) (by omega) (by omega) (by omega), sg_sO h a b d (by omega) (by omega) (by omega) (by omega) (by omega) (by omega), sg_sO h a b c (by omega) (by omega) (by omega) (by omega) (by omega) (by omega)]
  rw [circ_txt _ _ _ _ p1 p2 p3 p4]
  intro g
  obtain ⟨g1, g2, g3⟩ := txt_plus _ _ _ g
  rw [bne_iff_ne] at g1 g3
  have g2 := eq_of_beq g2
  have hx := X_in l a b c d
  unfold sx at p1 p2 p3 p4 g1 g2 g3
  rcases p1 with p1 | p1
  · have q1 := (sgn_pos _).1 p1
    have q2 := (sgn_min (X l a c d)).1 (by omega)
    have q3 := (sgn_pos (X l a b d)).1 (by omega)
    have q4 := (sgn_min (X l a b c)).1 (by omega)
    omega
  · have q1 := (sgn_min _).1 p1
    have q2 := (sgn_pos (X l a c d)).1 (by omega)
    have q3 := (sgn_min (X l a b d)).1 (by omega)
    have q4 := (sgn_pos (X l a b c)).1 (by omega)
    omega
def Ext (l : List Pt) (p : Nat) : Prop := ∀ a b c, a < l.length → b < l.length → c < l.length → ¬ (sx l p a b = 1 ∧ sx l p b c = 1 ∧ sx l p c a = 1)
def Suc (l : List Pt) (p w : Nat) : Prop := w < l.length ∧ w ≠ p ∧ ∀ k, k < l.length → k ≠ p → k ≠ w → sx l p w k = 1
theorem X_same (l : List Pt) (p a : Nat) : X l p a a = 0 := by
  have := X_alt l p a a
  omega
theorem sx_same (l : List Pt) (p a : Nat) : sx l p a a = 0 ∧ sx l p p a = 0 ∧ sx l p a p = 0 := by
  have h1 := X_same l p a
  have h2 := X_same l a p
  have h3 := X_cyc l p p a
  have h4 := X_cyc l p a p
  have h5 := X_cyc l a p p
  unfold sx
  exact ⟨(sgn_zero _).2 h1, (sgn_zero _).2 (by omega), (sgn_zero _).2 (by omega)⟩
theorem suc_ex {l : List Pt} (h : areP l = true) (p : Nat) (hp : p < l.length) (hE : Ext l p) : ∃ w, Suc l p w := by
  have h3 := (areP_len h).1
  have key : ∀ m, m ≤ l.length → (∃ k, k < m ∧ k ≠ p) → ∃ w, w < m ∧ w ≠ p ∧ ∀ k, k < m → k ≠ p → k ≠ w → sx l p w k = 1 := by
    intro m
    induction m with
    | zero => rintro _ ⟨k, hk, _⟩; omega
    | succ m ih =>
      intro hm hex
      by_cases hpm : m = p
      · obtain ⟨k, hk, hkp⟩ := hex
        obtain ⟨w, h1, h2, h4⟩ := ih (by omega) ⟨k, by omega, hkp⟩
        exact ⟨w, by omega, h2, fun k hk hkp hkw => h4 k (by omega) hkp hkw⟩
      · by_cases hex' : ∃ k, k < m ∧ k ≠ p
        · obtain ⟨w, h1, h2, h4⟩ := ih (by omega) hex'
          rcases sx_pm h p w m hp (by omega) (by omega) (fun e => h2 e.symm) (by omega) (fun e => hpm e.symm) with g | g
          · refine ⟨w, by omega, h2, fun k hk hkp hkw => ?_⟩
            by_cases hkm : k = m
            · rw [hkm]
              exact g
            · exact h4 k (by omega) hkp hkw
          · refine ⟨m, by omega, hpm, fun k hk hkp hkm => ?_⟩
            have g' := sx_alt l p w m
            by_cases hkw : k = w
            · rw [hkw]
              omega
            have h5 := h4 k (by omega) hkp hkw
            rcases sx_pm h p m k hp (by omega) (by omega) (fun e => hpm e.symm) (fun e => hkm e.symm) (fun e => hkp e.symm) with g2 | g2
            · exact g2
            · exfalso
              have g3 := sx_alt l p m k
              exact hE m w k (by omega) (by omega) (by omega) ⟨by omega, h5, by omega⟩
        · exact ⟨m, by omega, hpm, fun k hk hkp hkm => absurd ⟨k, by omega, hkp⟩ hex'⟩
  obtain ⟨w, h1, h2, h4⟩ := key l.length (Nat.le_refl _) (by
    by_cases e : p = 0
    · exact ⟨1, by omega, by omega⟩
    · exact ⟨0, by omega, by omega⟩)
  exact ⟨w, h1, h2, h4⟩
theorem suc_uniq {l : List Pt} (h : areP l = true) (p w v : Nat) (h1 : Suc l p w) (h2 : Suc l p v) : w = v := by
  by_cases e : w = v
  · exact e
  · have a := h1.2.2 v h2.1 h2.2.1 (fun g => e g.symm)
    have b := h2.2.2 w h1.1 h1.2.1 e
    have := sx_alt l p w v
    omega
theorem suc_ext {l : List Pt} (p w : Nat) (hp : p < l.length) (h : Suc l p w) : Ext l w := by
  obtain ⟨h1, h2, h4⟩ := h
  have hneg : ∀ k, k < l.length → sx l w p k = 1 → False := by
    intro k hk g
    by_cases e1 : k = p
    · have := (sx_same l w p).1
      rw [e1] at g
      omega
    by_cases e2 : k = w
    · have := (sx_same l w p).2.2
      rw [e2] at g
      omega
    have a := h4 k hk e1 e2
    have b := sx_cyc l p w k
    have c := sx_cyc l w k p
    have d := sx_alt l w p k
    omega
  rintro a b c ha hb hc ⟨k1, k2, k3⟩
  by_cases e1 : a = p
  · subst e1
    exact hneg b hb k1
  by_cases e2 : b = p
  · subst e2
    exact hneg c hc k2
  by_cases e3 : c = p
  · subst e3
    exact hneg a ha k3
  have nw : ∀ u v, sx l w u v = 1 → u ≠ w := by
    intro u v g e
    have := (sx_same l w v).2.1
    rw [e] at g
    omega
  have f1 := h4 a ha e1 (nw _ _ k1)
  have f2 := h4 b hb e2 (nw _ _ k2)
  have f3 := h4 c hc e3 (nw _ _ k3)
  rw [sx_cyc] at f1 f2 f3
  exact sx_five l w a b c p k1 k2 k3 f1 f2 f3
theorem suc_inj {l : List Pt} (v v' w : Nat) (hv : v < l.length) (hv' : v' < l.length) (h1 : Suc l v w) (h2 : Suc l v' w) : v = v' := by
  by_cases e : v = v'
  · exact e
  · have a := h1.2.2 v' hv' (fun g => e g.symm) (fun g => h2.2.1 g.symm)
    have b := h2.2.2 v hv e (fun g => h1.2.1 g.symm)
    have c1 := sx_cyc l v' w v
    have c2 := sx_cyc l w v v'
    have c3 := sx_alt l v v' w
    omega
def Cyc (l : List Pt) (it : Nat → Nat) (m : Nat) : Prop := 1 ≤ m ∧ it m = it 0 ∧ ((List.range m).map it).Nodup ∧ ∀ i, it i < l.length ∧ Ext l (it i) ∧ Suc l (it i) (it (i + 1))
theorem nodup_le (L : List Nat) (n : Nat) (hd : L.Nodup) (h : ∀ x ∈ L, x < n) : L.length ≤ n := by
  have hp : L.Perm ((List.range n).filter fun x => decide (x ∈ L)) := by
    rw [List.perm_ext_iff_of_nodup hd (List.nodup_range.filter _)]
    intro a
    rw [List.mem_filter, List.mem_range, decide_eq_true_eq]
    exact ⟨fun g => ⟨h a g, g⟩, fun g => g.2⟩
  rw [hp.length_eq]
  have := List.length_filter_le (fun x => decide (x ∈ L)) (List.range n)
  rwa [List.length_range] at this
theorem cyc_cover {l : List Pt} (h : areP l = true) (it : Nat → Nat) (m : Nat) (hC : Cyc l it m) (p : Nat) (hp : p < l.length) (hE : Ext l p) : ∃ i, i < m ∧ it i = p := by
  obtain ⟨h1, h2, h3, h4⟩ := hC
  by_cases hex : ∃ i, i < m ∧ it i = p
  · exact hex
  exfalso
  have hne : ∀ i, i < m → it i ≠ p := fun i hi e => hex ⟨i, hi, e⟩
  have hne' : ∀ i, i ≤ m → it i ≠ p := by
    intro i hi
    by_cases e : i = m
    · rw [e, h2]
      exact hne 0 (by omega)
    · exact hne i (by omega)
  have hd : ∀ i, 0 < i → i < m → it i ≠ it 0 := by
    intro i h0 hi e
    have := List.pairwise_iff_getElem.1 h3 0 i (by simp; omega) (by simpa using hi) h0
    rw [List.getElem_map, List.getElem_map, List.getElem_range, List.getElem_range] at this
    exact this e.symm
  have hm : 2 ≤ m := by
    by_cases e : m = 1
    · have := (h4 0).2.2.2.1
      rw [e] at h2
      exact absurd h2 this
    · omega
  have key : ∀ t, 1 ≤ t → t < m → sx l (it 0) (it t) p = 1 := by
    intro t ht
    induction t with
    | zero => omega
    | succ t ih =>
      intro htm
      by_cases e : t = 0
      · subst e
        exact (h4 0).2.2.2.2 p hp (fun g => hne 0 (by omega) g.symm) (fun g => hne 1 (by omega) g.symm)
      have g1 := ih (by omega) (by omega)
      have g2 := (h4 t).2.2.2.2 p hp (fun g => hne t (by omega) g.symm) (fun g => hne (t + 1) (by omega) g.symm)
      rcases sx_pm h (it 0) (it (t + 1)) p (h4 0).1 (h4 (t + 1)).1 hp (fun g => hd (t + 1) (by omega) htm g.symm) (hne (t + 1) htm) (hne 0 (by omega)) with g3 | g3
      · exact g3
      · exfalso
        have c1 := sx_cyc l p (it 0) (it t)
        have c2 := sx_cyc l p (it t) (it (t + 1))
        have c3 := sx_cyc l p (it (t + 1)) (it 0)
        have c4 := sx_cyc l (it (t + 1)) (it 0) p
        have c5 := sx_alt l (it 0) (it (t + 1)) p
        exact hE (it 0) (it t) (it (t + 1)) (h4 0).1 (h4 t).1 (h4 (t + 1)).1 ⟨by omega, by omega, by omega⟩
  have g1 := key (m - 1) (by omega) (by omega)
  have g2 := (h4 (m - 1)).2.2.2.2 p hp (fun g => hne (m - 1) (by omega) g.symm) (fun g => hne' (m - 1 + 1) (by omega) g.symm)
  rw [show m - 1 + 1 = m by omega, h2] at g2
  have c1 := sx_cyc l (it (m - 1)) (it 0) p
  have c2 := sx_alt l (it 0) p (it (m - 1))
  omega
theorem cyc_ex {l : List Pt} (h : areP l = true) (v : Nat) (hv : v < l.length) (hE : Ext l v) : ∃ it m, Cyc l it m ∧ it 0 = v := by
  have hf : ∃ f : Nat → Nat, ∀ p, p < l.length → Ext l p → Suc l p (f p) := by
    classical
    exact ⟨fun p => if g : ∃ w, Suc l p w then g.choose else 0, fun p hp hEp => by
      have g := suc_ex h p hp hEp
      simp only [dif_pos g]
      exact g.choose_spec⟩
  obtain ⟨f, hf⟩ := hf
  let it : Nat → Nat := fun i => Nat.rec v (fun _ x => f x) i
  have hs : ∀ i, it (i + 1) = f (it i) := fun i => rfl
  have hi : ∀ i, it i < l.length ∧ Ext l (it i) := by
    intro i
    induction i with
    | zero => exact ⟨hv, hE⟩
    | succ i ih =>
      have g := hf (it i) ih.1 ih.2
      rw [hs]
      exact ⟨g.1, suc_ext _ _ ih.1 g⟩
  have hS : ∀ i, Suc l (it i) (it (i + 1)) := fun i => by rw [hs]; exact hf _ (hi i).1 (hi i).2
  have key : ∀ d m, 1 ≤ m → m + d = l.length + 1 → ((List.range m).map it).Nodup → ∃ m, 1 ≤ m ∧ it m = it 0 ∧ ((List.range m).map it).Nodup := by
    intro d
    induction d with
    | zero =>
      intro m _ hm hd
      have := nodup_le _ l.length hd (by
        intro x hx
        obtain ⟨i, _, rfl⟩ := List.mem_map.1 hx
        exact (hi i).1)
      rw [List.length_map, List.length_range] at this
      omega
    | succ d ih =>
      intro m h1 hm hd
      rcases Classical.em (it m ∈ (List.range m).map it) with g | g
      · obtain ⟨i, him, e⟩ := List.mem_map.1 g
        rw [List.mem_range] at him
        by_cases e0 : i = 0
        · subst e0
          exact ⟨m, h1, e.symm, hd⟩
        · exfalso
          have a := hS (i - 1)
          have b := hS (m - 1)
          rw [show i - 1 + 1 = i by omega] at a
          rw [show m - 1 + 1 = m by omega, ← e] at b
          have c := suc_inj _ _ _ (hi (i - 1)).1 (hi (m - 1)).1 a b
          have := List.pairwise_iff_getElem.1 hd (i - 1) (m - 1) (by simp; omega) (by simp; omega) (by omega)
          rw [List.getElem_map, List.getElem_map, List.getElem_range, List.getElem_range] at this
          exact this c
      · refine ih (m + 1) (by omega) (by omega) ?_
        rw [List.range_succ, List.map_append, List.map_singleton, List.nodup_append]
        refine ⟨hd, by simp, ?_⟩
        intro x hx y hy e
        rw [List.mem_singleton] at hy
        subst hy
        subst e
        exact g hx
  obtain ⟨m, h1, h2, h3⟩ := key l.length 1 (by omega) (by omega) (by simp)
  exact ⟨it, m, ⟨h1, h2, h3, fun i => ⟨(hi i).1, (hi i).2, hS i⟩⟩, rfl⟩
theorem ext_ex {l : List Pt} (h : areP l = true) : ∃ v, v < l.length ∧ Ext l v := by
  have h3 := (areP_len h).1
  have key : ∀ m, 1 ≤ m → ∃ v, v < m ∧ ∀ k, k < m → (rdP l v).f0 ≤ (rdP l k).f0 := by
    intro m hm
    induction m with
    | zero => omega
    | succ m ih =>
      by_cases e : m = 0
      · subst e
        exact ⟨0, by omega, fun k hk => by obtain rfl : k = 0 := by omega
                                           omega⟩
      · obtain ⟨v, h1, h2⟩ := ih (by omega)
        by_cases g : (rdP l v).f0 ≤ (rdP l m).f0
        · refine ⟨v, by omega, fun k hk => ?_⟩
          by_cases e : k = m
          · rw [e]
            exact g
          · exact h2 k (by omega)
        · refine ⟨m, by omega, fun k hk => ?_⟩
          by_cases e : k = m
          · rw [e]
            omega
          · have := h2 k (by omega)
            omega
  obtain ⟨v, h1, h2⟩ := key l.length (by omega)
  refine ⟨v, h1, ?_⟩
  rintro a b c ha hb hc ⟨k1, k2, k3⟩
  have m1 := h2 a ha
  have m2 := h2 b hb
  have m3 := h2 c hc
  unfold sx at k1 k2 k3
  rw [sgn_pos] at k1 k2 k3
  have hx : X l v b c * ((rdP l a).f0 - (rdP l v).f0) + X l v c a * ((rdP l b).f0 - (rdP l v).f0) + X l v a b * ((rdP l c).f0 - (rdP l v).f0) = 0 := by
    unfold X cr
    grind
  have n1 := Int.mul_nonneg (show 0 ≤ X l v b c by omega) (show 0 ≤ (rdP l a).f0 - (rdP l v).f0 by omega)
  have n2 := Int.mul_nonneg (show 0 ≤ X l v c a by omega) (show 0 ≤ (rdP l b).f0 - (rdP l v).f0 by omega)
  have n3 := Int.mul_nonneg (show 0 ≤ X l v a b by omega) (show 0 ≤ (rdP l c).f0 - (rdP l v).f0 by omega)
  have z1 : (rdP l a).f0 - (rdP l v).f0 = 0 := by
    rcases Int.mul_eq_zero.1 (show X l v b c * ((rdP l a).f0 - (rdP l v).f0) = 0 by omega) with g | g
    · omega
    · exact g
  have z2 : (rdP l b).f0 - (rdP l v).f0 = 0 := by
    rcases Int.mul_eq_zero.1 (show X l v c a * ((rdP l b).f0 - (rdP l v).f0) = 0 by omega) with g | g
    · omega
    · exact g
  have : X l v a b = 0 := by
    unfold X cr
    rw [z1, z2]
    simp
  omega
theorem all_fullX : (List.range 8).all (fun n => impl_fullSet.f (n : Int) == some ((2 ^ n - 1 : Nat) : Int) && wrap64 (shl .i64 1 (IntKind.u64.wrap (n : Int)) - 1) == ((2 ^ n - 1 : Nat) : Int) && decide (2 ^ n ≤ 128)) = true := by decide +kernel
theorem full_atX (n : Nat) (hn : n ≤ 7) : impl_fullSet.f (n : Int) = some ((2 ^ n - 1 : Nat) : Int) ∧ wrap64 (shl .i64 1 (IntKind.u64.wrap (n : Int)) - 1) = ((2 ^ n - 1 : Nat) : Int) ∧ 2 ^ n ≤ 128 := by
  have h := all_fullX
  rw [List.all_eq_true] at h
  have h := h n (by simp; omega)
  rw [Bool.and_eq_true, Bool.and_eq_true, beq_iff_eq, beq_iff_eq, decide_eq_true_eq] at h
  exact ⟨h.1.1, h.1.2, h.2⟩
def less (n p : Nat) : Nat := 2 ^ n - 1 - 2 ^ p
def okLess (n p : Nat) : Bool := Go.bits .andNot .i64 ((2 ^ n - 1 : Nat) : Int) (shl .i64 1 (p : Int)) == (less n p : Int) && decide (less n p < 128) && (List.range 7).all fun i => has (less n p) i == (decide (i < n) && decide (i ≠ p)) && has ((2 ^ n - 1 : Nat) : Int) i == decide (i < n)
theorem all_less : (List.range 8).all (fun n => (List.range n).all fun p => okLess n p) = true := by decide +kernel
theorem less_at (n p : Nat) (hn : n ≤ 7) (hp : p < n) : Go.bits .andNot .i64 ((2 ^ n - 1 : Nat) : Int) (shl .i64 1 (p : Int)) = (less n p : Int) ∧ less n p < 128 ∧ ∀ i, i < n → has (less n p) i = decide (i ≠ p) ∧ has ((2 ^ n - 1 : Nat) : Int) i = true := by
  have h := all_less
  rw [List.all_eq_true] at h
  have h := h n (by simp; omega)
  rw [List.all_eq_true] at h
  have h := h p (by simpa using hp)
  unfold okLess at h
  rw [Bool.and_eq_true, Bool.and_eq_true, beq_iff_eq, decide_eq_true_eq, List.all_eq_true] at h
  refine ⟨h.1.1, h.1.2, fun i hi => ?_⟩
  have g := h.2 i (by simp; omega)
  rw [Bool.and_eq_true, beq_iff_eq, beq_iff_eq, decide_eq_true hi, Bool.true_and] at g
  exact g
def okInn (a b c d : Nat) : Bool := a == b || a == c || a == d || b == c || b == d || c == d || bools.all fun x => bools.all fun y => bools.all fun z =>
  (mx (only (spl x y z a b c d).1) (only (spl x y z a b c d).2) == (a : Int)) == (!x && !y && !z)
theorem all_inn : (List.range 7).all (fun a => (List.range 7).all fun b => (List.range 7).all fun c => (List.range 7).all fun d => okInn a b c d) = true := by decide +kernel
theorem inn_at (n : Nat) (hn : n ≤ 7) (s : ByteArray) (a b c d : Nat) (h : D4 n a b c d) : (inn n s a b c d == (a : Int)) = (!cx n s a b c d && !cy n s a b c d && !cz n s a b c d) := by
  have g := all_inn
  rw [List.all_eq_true] at g
  have g := g a (by have := h.1; simp; omega)
  rw [List.all_eq_true] at g
  have g := g b (by have := h.1; simp; omega)
  rw [List.all_eq_true] at g
  have g := g c (by have := h.1; simp; omega)
  rw [List.all_eq_true] at g
  have g := g d (by have := h.1; simp; omega)
  obtain ⟨_, h1, h2, h3, h4, h5, h6⟩ := h
  unfold okInn at g
  rw [beq_eq_false_iff_ne.2 h1, beq_eq_false_iff_ne.2 h2, beq_eq_false_iff_ne.2 h3, beq_eq_false_iff_ne.2 h4, beq_eq_false_iff_ne.2 h5, beq_eq_false_iff_ne.2 h6] at g
  simp only [Bool.false_or] at g
  rw [List.all_eq_true] at g
  have g := g _ (mem_bools (cx n s a b c d))
  rw [List.all_eq_true] at g
  have g := g _ (mem_bools (cy n s a b c d))
  rw [List.all_eq_true] at g
  exact eq_of_beq (g _ (mem_bools (cz n s a b c d)))
def extB (l : List Pt) (p : Nat) : Bool := !hul l.length (sO l) (less l.length p) p
theorem in_hul {l : List Pt} (h : areP l = true) (p a b c : Nat) (hp : p < l.length) (hab : a < b) (hbc : b < c) (hc : c < l.length) (h1 : p ≠ a) (h2 : p ≠ b) (h3 : p ≠ c) (e1 : sx l p a b = sx l a b c) (e2 : sx l p b c = sx l a b c) (e3 : sx l p c a = sx l a b c) : hul l.length (sO l) (less l.length p) p = true := by
  have h7 := (areP_len h).2
  obtain ⟨t, ht, e⟩ := tri_in l.length c b a h7 hc hbc hab
  unfold hul
  rw [List.any_eq_true]
  refine ⟨t, ht, ?_⟩
  rw [e]
  unfold hulT
  show (has _ a && has _ b && has _ c && _) = true
  have hl := (less_at l.length p h7 hp).2.2
  rw [(hl a (by omega)).1, (hl b (by omega)).1, (hl c hc).1]
  rw [decide_eq_true (Ne.symm h1), decide_eq_true (Ne.symm h2), decide_eq_true (Ne.symm h3), Bool.true_and, Bool.true_and, Bool.true_and]
  show (inn l.length (sO l) p a b c == (p : Int)) = true
  rw [inn_at l.length h7 (sO l) p a b c ⟨⟨hp, by omega, by omega, hc⟩, h1, h2, h3, by omega, by omega, by omega⟩]
  unfold cx cy cz
  rw [sg_sO h a b c (by omega) (by omega) hc (by omega) (by omega) (by omega), sg_sO h p b c hp (by omega) hc h2 (by omega) h3, sg_sO h p a c hp (by omega) hc h1 (by omega) h3, sg_sO h p a b hp (by omega) (by omega) h1 (by omega) h2]
  have g := sx_alt l p a c
  have g2 := sx_pm h a b c (by omega) (by omega) hc (by omega) (by omega) (by omega)
  have c1 : (sx l a b c != sx l p b c) = false := by rw [e2]; simp
  have c2 : (sx l a b c == sx l p a c) = false := by
    rw [beq_eq_false_iff_ne]
    omega
  have c3 : (sx l a b c != sx l p a b) = false := by rw [e1]; simp
  rw [c1, c2, c3]
  rfl
theorem extB_iff {l : List Pt} (h : areP l = true) (p : Nat) (hp : p < l.length) : extB l p = true ↔ Ext l p := by
  have h7 := (areP_len h).2
  unfold extB
  rw [Bool.not_eq_true']
  constructor
  · rintro hh a b c ha hb hc ⟨k1, k2, k3⟩
    have ne : ∀ u v, sx l p u v = 1 → u ≠ v ∧ p ≠ u ∧ p ≠ v := by
      intro u v g
      refine ⟨?_, ?_, ?_⟩
      · rintro rfl
        have := (sx_same l p u).1
        omega
      · rintro rfl
        have := (sx_same l p v).2.1
        omega
      · rintro rfl
        have := (sx_same l p u).2.2
        omega
    obtain ⟨n1, n2, n3⟩ := ne a b k1
    obtain ⟨n4, _, n5⟩ := ne b c k2
    obtain ⟨n6, _, _⟩ := ne c a k3
    have four := sx_four l p a b c k1 (by have := sx_alt l p a c; have := sx_alt l p c a; omega) k3
    have f := sx_four l p a b c
    have r1 := sx_alt l p a b
    have r2 := sx_alt l p b c
    have r3 := sx_alt l p c a
    have up : ∀ x y z, x < y → y < z → z < l.length → p ≠ x → p ≠ y → p ≠ z → (sx l p x y = 1 ∧ sx l p y z = 1 ∧ sx l p z x = 1) → False := by
      rintro x y z hxy hyz hz e1 e2 e3 ⟨g1, g2, g3⟩
      have q := sx_four l p x y z g1 g2 g3
      have := in_hul h p x y z hp hxy hyz hz e1 e2 e3 (by omega) (by omega) (by omega)
      rw [hh] at this
      cases this
    have dn : ∀ x y z, x < y → y < z → z < l.length → p ≠ x → p ≠ y → p ≠ z → (sx l p y x = 1 ∧ sx l p x z = 1 ∧ sx l p z y = 1) → False := by
      rintro x y z hxy hyz hz e1 e2 e3 ⟨g1, g2, g3⟩
      have q := sx_four l p y x z g1 g2 g3
      have c1 := sx_cyc l y x z
      have c2 := sx_alt l x z y
      have c3 := sx_alt l p x y
      have c4 := sx_alt l p y z
      have c5 := sx_alt l p z x
      have c6 := sx_alt l x y z
      have := in_hul h p x y z hp hxy hyz hz e1 e2 e3 (by omega) (by omega) (by omega)
      rw [hh] at this
      cases this
    rcases Nat.lt_or_ge a b with q1 | q1 <;> rcases Nat.lt_or_ge b c with q2 | q2 <;> rcases Nat.lt_or_ge a c with q3 | q3
    · exact up a b c q1 q2 hc n2 n3 n5 ⟨k1, k2, k3⟩
    · omega
    · exact dn a c b q3 (by omega) hb n2 n5 n3 ⟨k3, k1, k2⟩
    · exact up c a b (by omega) q1 hb n5 n2 n3 ⟨k3, k1, k2⟩
    · exact dn b a c (by omega) q3 hc n3 n2 n5 ⟨k1, k2, k3⟩
    · exact up b c a q2 (by omega) ha n3 n5 n2 ⟨k2, k3, k1⟩
    · omega
    · exact dn c b a (by omega) (by omega) ha n5 n3 n2 ⟨k2, k3, k1⟩
  · intro hE
    cases hh : hul l.length (sO l) (less l.length p) p with
    | false => rfl
    | true =>
      exfalso
      unfold hul at hh
      rw [List.any_eq_true] at hh
      obtain ⟨t, ht, g⟩ := hh
      obtain ⟨a, b, c, rfl, k1, k2, k3⟩ := tri_mem l.length h7 t ht
      unfold hulT at g
      have g : (has (less l.length p) a && has (less l.length p) b && has (less l.length p) c && (inn l.length (sO l) p a b c == (p : Int))) = true := g
      have hl := (less_at l.length p h7 hp).2.2
      rw [(hl a (by omega)).1, (hl b (by omega)).1, (hl c (by omega)).1] at g
      rw [Bool.and_eq_true, Bool.and_eq_true, Bool.and_eq_true, decide_eq_true_eq, decide_eq_true_eq, decide_eq_true_eq] at g
      obtain ⟨⟨⟨n1, n2⟩, n3⟩, g⟩ := g
      rw [inn_at l.length h7 (sO l) p a b c ⟨⟨hp, by omega, by omega, by omega⟩, Ne.symm n1, Ne.symm n2, Ne.symm n3, by omega, by omega, by omega⟩] at g
      unfold cx cy cz at g
      rw [sg_sO h a b c (by omega) (by omega) (by omega) (by omega) (by omega) (by omega), sg_sO h p b c hp (by omega) (by omega) (Ne.symm n2) (by omega) (Ne.symm n3), sg_sO h p a c hp (by omega) (by omega) (Ne.symm n1) (by omega) (Ne.symm n3), sg_sO h p a b hp (by omega) (by omega) (Ne.symm n1) (by omega) (Ne.symm n2)] at g
      simp only [Bool.and_eq_true, Bool.not_eq_true', bne_eq_false_iff_eq, beq_eq_false_iff_ne] at g
      obtain ⟨⟨g1, g2⟩, g3⟩ := g
      have p1 := sx_pm h a b c (by omega) (by omega) (by omega) (by omega) (by omega) (by omega)
      have p2 := sx_pm h p a c hp (by omega) (by omega) (Ne.symm n1) (by omega) (Ne.symm n3)
      have r1 := sx_alt l p a b
      have r2 := sx_alt l p b c
      have r3 := sx_alt l p a c
      rcases p1 with p1 | p1
      · exact hE a b c (by omega) (by omega) (by omega) ⟨by omega, by omega, by omega⟩
      · exact hE a c b (by omega) (by omega) (by omega) ⟨by omega, by omega, by omega⟩
def exN (e : Nat → Bool) : Nat → Nat
  | 0 => 0
  | m + 1 => exN e m + if e m then 2 ^ m else 0
theorem exN_lt (e : Nat → Bool) (m : Nat) : exN e m < 2 ^ m := by
  induction m with
  | zero => simp [exN]
  | succ m ih =>
    rw [exN, Nat.pow_succ]
    split <;> omega
def okAdd (m x : Nat) : Bool := Go.bits .or .i64 (x : Int) (shl .i64 1 (m : Int)) == ((x + 2 ^ m : Nat) : Int) && wrap64 ((x : Int) + shl .i64 1 (IntKind.u64.wrap (m : Int))) == ((x + 2 ^ m : Nat) : Int) && decide (0 ≤ IntKind.u64.wrap (m : Int)) && (List.range 7).all fun i => has ((x + 2 ^ m : Nat) : Int) i == (has (x : Int) i || i == m)
theorem all_add : (List.range 7).all (fun m => (List.range (2 ^ m)).all fun x => okAdd m x) = true := by decide +kernel
theorem add_at (m x : Nat) (hm : m < 7) (hx : x < 2 ^ m) : Go.bits .or .i64 (x : Int) (shl .i64 1 (m : Int)) = ((x + 2 ^ m : Nat) : Int) ∧ wrap64 ((x : Int) + shl .i64 1 (IntKind.u64.wrap (m : Int))) = ((x + 2 ^ m : Nat) : Int) ∧ 0 ≤ IntKind.u64.wrap (m : Int) ∧ ∀ i, i < 7 → has ((x + 2 ^ m : Nat) : Int) i = (has (x : Int) i || i == m) := by
  have h := all_add
  rw [List.all_eq_true] at h
  have h := h m (by simpa using hm)
  rw [List.all_eq_true] at h
  have h := h x (by simpa using hx)
  unfold okAdd at h
  rw [Bool.and_eq_true, Bool.and_eq_true, Bool.and_eq_true, beq_iff_eq, beq_iff_eq, decide_eq_true_eq, List.all_eq_true] at h
  exact ⟨h.1.1.1, h.1.1.2, h.1.2, fun i hi => eq_of_beq (h.2 i (by simpa using hi))⟩
theorem all_zero : (List.range 7).all (fun i => has 0 i == false) = true := by decide +kernel
theorem has_exN (e : Nat → Bool) (m : Nat) (hm : m ≤ 7) (i : Nat) (hi : i < 7) : has (exN e m : Int) i = (decide (i < m) && e i) := by
  induction m with
  | zero =>
    have h := all_zero
    rw [List.all_eq_true] at h
    have h := eq_of_beq (h i (by simpa using hi))
    rw [decide_eq_false (by omega)]
    exact h
  | succ m ih =>
    have ih := ih (by omega)
    rw [exN]
    cases hm' : e m with
    | false =>
      rw [if_neg (by simp), Nat.add_zero, ih]
      by_cases g : i = m
      · subst g
        rw [hm', Bool.and_false, Bool.and_false]
      · by_cases g2 : i < m
        · rw [decide_eq_true g2, decide_eq_true (by omega)]
        · rw [decide_eq_false g2, decide_eq_false (by omega)]
    | true =>
      rw [if_pos rfl, (add_at m _ (by omega) (exN_lt e m)).2.2.2 i hi, ih]
      by_cases g : i = m
      · subst g
        rw [hm', decide_eq_false (by omega), decide_eq_true (by omega)]
        simp
      · rw [beq_eq_false_iff_ne.2 g, Bool.or_false]
        by_cases g2 : i < m
        · rw [decide_eq_true g2, decide_eq_true (by omega)]
        · rw [decide_eq_false g2, decide_eq_false (by omega)]
theorem impl_ext_ev {l : List Pt} (h : areP l = true) : Ev (fun k => impl_chi_extremeIn.f k (tab l.length (sO l)) ((2 ^ l.length - 1 : Nat) : Int)) (exN (extB l) l.length : Int) := by
  have h7 := (areP_len h).2
  have hl := tab_length l.length (sO l)
  have hn := tab_n l.length (sO l)
  unfold impl_chi_extremeIn.f
  refine Ev.loop (fun (i : Nat) k => impl_chi_extremeIn.l0 k (tab l.length (sO l)) ((2 ^ l.length - 1 : Nat) : Int) (exN (extB l) i : Int) (i : Int)) l.length (exN (extB l) l.length : Int) ?_ ?_ 0 (by omega)
  · refine Ev.step (fun k => impl_chi_extremeIn.l0.eq_2 ..) (Ev.ite_pos (by omega) ?_)
    rw [hn]
    exact Ev.ite_neg (by omega) (Ev.now _)
  · intro i hi ih
    obtain ⟨q1, q2, q3⟩ := less_at l.length i h7 hi
    have hh := (q3 i hi).2
    unfold has at hh
    have hb : Go.bits .and .i64 (shr .i64 ((2 ^ l.length - 1 : Nat) : Int) (i : Int)) 1 = 1 := eq_of_beq hh
    refine Ev.step (fun k => impl_chi_extremeIn.l0.eq_2 ..) (Ev.ite_pos (by omega) ?_)
    rw [hn]
    refine Ev.ite_pos (by omega) (Ev.ite_pos (by omega) (Ev.ite_pos hb ?_))
    rw [q1, wrap_nat i (by omega)]
    refine Ev.bind (impl_inHull_ev l.length h7 (sO l) (less l.length i) q2 i hi (by rw [(q3 i hi).1]; simp)) ?_
    rw [exN] at ih
    cases hu : hul l.length (sO l) (less l.length i) i with
    | true =>
      have hE : extB l i = false := by unfold extB; rw [hu]; rfl
      rw [hE, if_neg (by simp), Nat.add_zero] at ih
      exact Ev.ite_pos rfl ih
    | false =>
      have hE : extB l i = true := by unfold extB; rw [hu]; rfl
      rw [hE, if_pos rfl] at ih
      refine Ev.ite_neg (by simp) ?_
      rw [(add_at i _ (by omega) (exN_lt _ i)).1]
      exact ih
theorem spec_l6In_full (n : Nat) (hn : n ≤ 7) (s : ByteArray) (hs : s.size = (tri n).length) (p : Nat) (hp : p < n) : Ev (fun k => spec_l6In.f k n s ((2 ^ n - 1 : Nat) : Int) p) (hul n s (less n p) p) := by
  have hl := (less_at n p hn hp).2.2
  have hno : has (less n p) p = false := by rw [(hl p hp).1]; simp
  unfold spec_l6In.f
  have key := Srch.of (fun a k => spec_l6In.l0 k ((2 ^ n - 1 : Nat) : Int) p a n s) n (fun a => ((List.range n).drop (a + 1)).any fun b => ((List.range n).drop (b + 1)).any fun c => hulT n s (less n p) p a b c) true 0 (by omega) ?_
  · have h := key.ans (w := false) (Ev.step (fun k => spec_l6In.l0.eq_2 ..) (Ev.ite_neg (by omega) (Ev.now _)))
    rw [any3 n hn (hulT n s (less n p) p)] at h
    unfold hul
    cases hh : (tri n).any fun t => hulT n s (less n p) p t.f0.toNat t.f1.toNat t.f2.toNat <;> rw [hh] at h <;> exact h
  · intro a _ ha r h1 h2
    refine Ev.step (fun k => spec_l6In.l0.eq_2 ..) (Ev.ite_pos (by omega) ?_)
    rw [wrap_nat a (by omega)]
    refine Srch.of (fun b k => spec_l6In.l1 k ((2 ^ n - 1 : Nat) : Int) p a b n s) n (fun b => ((List.range n).drop (b + 1)).any fun c => hulT n s (less n p) p a b c) true (a + 1) (by omega) ?_ r h1 (fun h => Ev.step (fun k => spec_l6In.l1.eq_2 ..) (Ev.ite_neg (by omega) (by rw [wrap_nat a (by omega)]; exact h2 h)))
    intro b hb1 hb r h1 h2
    refine Ev.step (fun k => spec_l6In.l1.eq_2 ..) (Ev.ite_pos (by omega) ?_)
    rw [wrap_nat b (by omega)]
    refine Srch.of (fun c k => spec_l6In.l2 k ((2 ^ n - 1 : Nat) : Int) p a b c n s) n (fun c => hulT n s (less n p) p a b c) true (b + 1) (by omega) ?_ r h1 (fun h => Ev.step (fun k => spec_l6In.l2.eq_2 ..) (Ev.ite_neg (by omega) (by rw [wrap_nat b (by omega)]; exact h2 h)))
    intro c hc1 hc r h1 h2
    refine Ev.step (fun k => spec_l6In.l2.eq_2 ..) (Ev.ite_pos (by omega) ?_)
    rw [wrap_nat c (by omega)]
    unfold hulT at h1 h2
    by_cases e1 : p = a
    · exact Ev.ite_pos (by omega) (h2 (by rw [← e1, hno]; rfl))
    refine Ev.ite_neg (by omega) ?_
    by_cases e2 : p = b
    · exact Ev.ite_pos (by omega) (h2 (by rw [← e2, hno, Bool.and_false]; rfl))
    refine Ev.ite_neg (by omega) ?_
    by_cases e3 : p = c
    · exact Ev.ite_pos (by omega) (h2 (by rw [← e3, hno, Bool.and_false]; rfl))
    refine Ev.ite_neg (by omega) (Ev.bind0 (l6Has_eq _ a (by omega)) ?_)
    rw [(hl a ha).2]
    refine Ev.ite_pos rfl (Ev.bind0 (l6Has_eq _ b (by omega)) ?_)
    rw [(hl b hb).2]
    refine Ev.ite_pos rfl (Ev.bind0 (l6Has_eq _ c (by omega)) ?_)
    rw [(hl c hc).2]
    have m1 : has (less n p) a = true := by rw [(hl a ha).1]; simpa using Ne.symm e1
    have m2 : has (less n p) b = true := by rw [(hl b hb).1]; simpa using Ne.symm e2
    have m3 : has (less n p) c = true := by rw [(hl c hc).1]; simpa using Ne.symm e3
    refine Ev.ite_pos rfl (Ev.bind (spec_inner_ev n hn s hs p a b c ⟨⟨by omega, by omega, by omega, by omega⟩, e1, e2, e3, by omega, by omega, by omega⟩) ?_)
    by_cases hI : inn n s p a b c = p
    · rw [h1 (by rw [m1, m2, m3, hI]; simp)]
      exact Ev.ite_pos hI (Ev.now _)
    · exact Ev.ite_neg hI (h2 (by rw [m1, m2, m3]; simpa using hI))
theorem spec_ext_ev {l : List Pt} (h : areP l = true) : Ev (fun k => spec_l6Extreme.f k (l.length : Int) (sO l) ((2 ^ l.length - 1 : Nat) : Int)) (exN (extB l) l.length : Int) := by
  have h7 := (areP_len h).2
  unfold spec_l6Extreme.f
  refine Ev.loop (fun (i : Nat) k => spec_l6Extreme.l0 k ((2 ^ l.length - 1 : Nat) : Int) (exN (extB l) i : Int) (i : Int) (l.length : Int) (sO l)) l.length (exN (extB l) l.length : Int) ?_ ?_ 0 (by omega)
  · exact Ev.step (fun k => spec_l6Extreme.l0.eq_2 ..) (Ev.ite_neg (by omega) (Ev.now _))
  · intro i hi ih
    obtain ⟨q1, q2, q3⟩ := less_at l.length i h7 hi
    refine Ev.step (fun k => spec_l6Extreme.l0.eq_2 ..) (Ev.ite_pos (by omega) (Ev.bind0 (l6Has_eq _ i (by omega)) ?_))
    rw [(q3 i hi).2]
    refine Ev.ite_pos rfl (Ev.bind (spec_l6In_full l.length h7 (sO l) (sO_size l) i hi) ?_)
    rw [wrap_nat i (by omega)]
    rw [exN] at ih
    cases hu : hul l.length (sO l) (less l.length i) i with
    | true =>
      have hE : extB l i = false := by unfold extB; rw [hu]; rfl
      rw [hE, if_neg (by simp), Nat.add_zero] at ih
      exact Ev.ite_pos rfl ih
    | false =>
      have hE : extB l i = true := by unfold extB; rw [hu]; rfl
      rw [hE, if_pos rfl] at ih
      obtain ⟨_, a2, a3, _⟩ := add_at i _ (by omega) (exN_lt (extB l) i)
      refine Ev.ite_neg (by simp) (Ev.ite_pos a3 ?_)
      rw [a2]
      exact ih
end Go.Proofs.Yteblnjoljbdjjaa.Pure
