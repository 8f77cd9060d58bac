/- What the law FnExactPartingOf reaches, part 16: functions as plain Lean functions with the proofs that their calls come to them, and plain lemmas over these. Put together by a program (wip/pack.py). -/
import Derived.Test.YtbglgapndefcfaaKFnExactPartingOfl
import Derived.Test.YtbglgapndefcfaaKFnExactPartingOfg
import Derived.Test.YtbglgapndefcfaaKFnExactPartingOfo
import Derived.Test.YtbglgapndefcfaaKFnExactPartingOfm
import Derived.Test.YtbglgapndefcfaaKFnExactPartingOfc
import Derived.Test.YtbglgapndefcfaaKFnExactPartingOfn
import Derived.Test.YtbglgapndefcfaaKFnExactPartingOfh
namespace Go.Proofs.Ytbglgapndefcfaa.Pure
set_option linter.unusedSimpArgs false
set_option linter.unusedVariables false
open Go.RowKit Go.Proofs.YtbglgapndefcfaaW.PrintWords Go.Proofs.Ytbglgapndefcfaa.P Go.Proofs.Ytbglgapndefcfaa.Pl
def D4 (n a b c d : Nat) : Prop := (a < n ∧ b < n ∧ c < n ∧ d < n) ∧ (a ≠ b ∧ a ≠ c ∧ a ≠ d ∧ b ≠ c ∧ b ≠ d ∧ c ≠ d)
def ct (n : Nat) (s : ByteArray) (a b c d : Nat) : ByteArray := circT (sg n s b c d) (sg n s a c d) (sg n s a b d) (sg n s a b c)
theorem impl_circuit_d (n : Nat) (hn : n ≤ 7) (s : ByteArray) (a b c d : Nat) (h : D4 n a b c d) : Ev (fun k => impl_chi_circuit.f k (tab n s) a b c d) (ct n s a b c d) := by
  obtain ⟨⟨ha, hb, hc, hd⟩, h1, h2, h3, h4, h5, h6⟩ := h
  have hl := tab_length n s
  unfold impl_chi_circuit.f
  refine Ev.ite_pos (by omega) (Ev.ite_pos (by omega) (Ev.ite_pos (by omega) (Ev.ite_pos (by omega) (Ev.ite_pos (by omega) (Ev.ite_pos (by omega) (Ev.ite_pos (by omega) (Ev.ite_pos (by omega) (Ev.ite_pos (by omega) (Ev.bind0 rfl ?_)))))))))
  rw [tab_at n hn s b c d (by omega) (by omega) (by omega), tab_at n hn s a c d (by omega) (by omega) (by omega), tab_at n hn s a b d (by omega) (by omega) (by omega), tab_at n hn s a b c (by omega) (by omega) (by omega)]
  exact Ev.of (fun k => (impl_chi_circuit.mono_l k) _ _ _ _) (k := 12) (circ_eq _ _ _ _ (sg_pm n hn s b c d hb hc hd h4 h6 h5) (sg_pm n hn s a c d ha hc hd h2 h6 h3) (sg_pm n hn s a b d ha hb hd h1 h5 h3) (sg_pm n hn s a b c ha hb hc h1 h4 h2))
theorem spec_circuit_d (n : Nat) (hn : n ≤ 7) (s : ByteArray) (hs : s.size = (tri n).length) (a b c d : Nat) (h : D4 n a b c d) : Ev (fun k => spec_l4Circuit.f k n s a b c d) (ct n s a b c d) := by
  obtain ⟨⟨ha, hb, hc, hd⟩, h1, h2, h3, h4, h5, h6⟩ := h
  unfold spec_l4Circuit.f ct circT
  refine Ev.bind (l3At_ev n hn s hs b c d hb hc hd h4 h6 h5) (Ev.bind (l3At_ev n hn s hs a c d ha hc hd h2 h6 h3) (Ev.bind0 (l3Byte_eq _) (Ev.ite_pos (by rw [byteS_size]; omega) ?_)))
  refine Ev.bind (l3At_ev n hn s hs a b d ha hb hd h1 h5 h3) (Ev.bind0 (l3Byte_eq _) (Ev.ite_pos (by rw [ByteArray.size_append, byteS_size, byteS_size]; decide) ?_))
  exact Ev.bind (l3At_ev n hn s hs a b c ha hb hc h1 h4 h2) (Ev.bind0 (l3Byte_eq _) (Ev.ite_pos (by rw [ByteArray.size_append, ByteArray.size_append, byteS_size, byteS_size, byteS_size]; decide) (Ev.now _)))
def sb (x : Bool) : UInt8 := if x then 43 else 45
def txt (x y z : Bool) : ByteArray := ⟨#[43, sb x, sb y, sb z]⟩
theorem circ_txt (p q r t : Int) (hp : p = 1 ∨ p = -1) (hq : q = 1 ∨ q = -1) (hr : r = 1 ∨ r = -1) (ht : t = 1 ∨ t = -1) : circT p q r t = txt (p != q) (p == r) (p != t) := by
  rcases hp with rfl | rfl <;> rcases hq with rfl | rfl <;> rcases hr with rfl | rfl <;> rcases ht with rfl | rfl <;> kernel_rfl
def cx (n : Nat) (s : ByteArray) (a b c d : Nat) : Bool := sg n s b c d != sg n s a c d
def cy (n : Nat) (s : ByteArray) (a b c d : Nat) : Bool := sg n s b c d == sg n s a b d
def cz (n : Nat) (s : ByteArray) (a b c d : Nat) : Bool := sg n s b c d != sg n s a b c
theorem ct_txt (n : Nat) (hn : n ≤ 7) (s : ByteArray) (a b c d : Nat) (h : D4 n a b c d) : ct n s a b c d = txt (cx n s a b c d) (cy n s a b c d) (cz n s a b c d) := by
  obtain ⟨⟨ha, hb, hc, hd⟩, h1, h2, h3, h4, h5, h6⟩ := h
  exact circ_txt _ _ _ _ (sg_pm n hn s b c d hb hc hd h4 h6 h5) (sg_pm n hn s a c d ha hc hd h2 h6 h3) (sg_pm n hn s a b d ha hb hd h1 h5 h3) (sg_pm n hn s a b c ha hb hc h1 h4 h2)
def bools : List Bool := [true, false]
theorem mem_bools (x : Bool) : x ∈ bools := by cases x <;> decide
def spl (x y z : Bool) (a b c d : Nat) : Int × Int :=
  let e : Nat → Bool → Int := fun i p => if p then 2 ^ i else 0
  (2 ^ a + e b x + e c y + e d z, e b (!x) + e c (!y) + e d (!z))
def okSpl (a b c d : Nat) : Bool := a == b || a == c || a == d || b == c || b == d || c == d || bools.all fun x => bools.all fun y => bools.all fun z =>
  impl_chi_split.l0 6 (txt x y z) 0 0 [(a : Int), b, c, d] 4 0 == some (spl x y z a b c d) && spec_l5Split.l0 6 [(a : Int), b, c, d] (txt x y z) 0 0 0 == some (spl x y z a b c d)
theorem all_spl : (List.range 7).all (fun a => (List.range 7).all fun b => (List.range 7).all fun c => (List.range 7).all fun d => okSpl a b c d) = true := by decide +kernel
theorem spl_at (a b c d : Nat) (h : D4 7 a b c d) (x y z : Bool) : impl_chi_split.l0 6 (txt x y z) 0 0 [(a : Int), b, c, d] 4 0 = some (spl x y z a b c d) ∧ spec_l5Split.l0 6 [(a : Int), b, c, d] (txt x y z) 0 0 0 = some (spl x y z a b c d) := by
  obtain ⟨⟨ha, hb, hc, hd⟩, h1, h2, h3, h4, h5, h6⟩ := h
  have g := all_spl
  rw [List.all_eq_true] at g
  have g := g a (by simpa using ha)
  rw [List.all_eq_true] at g
  have g := g b (by simpa using hb)
  rw [List.all_eq_true] at g
  have g := g c (by simpa using hc)
  rw [List.all_eq_true] at g
  have g := g d (by simpa using hd)
  unfold okSpl at g
  rw [beq_eq_false_iff_ne.mpr h1, beq_eq_false_iff_ne.mpr h2, beq_eq_false_iff_ne.mpr h3, beq_eq_false_iff_ne.mpr h4, beq_eq_false_iff_ne.mpr h5, beq_eq_false_iff_ne.mpr h6] at g
  simp only [Bool.false_or] at g
  rw [List.all_eq_true] at g
  have g := g x (mem_bools x)
  rw [List.all_eq_true] at g
  have g := g y (mem_bools y)
  rw [List.all_eq_true] at g
  have g := g z (mem_bools z)
  rw [Bool.and_eq_true, beq_iff_eq, beq_iff_eq] at g
  exact g
theorem D4.up {n a b c d : Nat} (h : D4 n a b c d) (hn : n ≤ 7) : D4 7 a b c d := by
  obtain ⟨⟨ha, hb, hc, hd⟩, h1, h2, h3, h4, h5, h6⟩ := h
  exact ⟨⟨by omega, by omega, by omega, by omega⟩, h1, h2, h3, h4, h5, h6⟩
def sp (n : Nat) (s : ByteArray) (a b c d : Nat) : Int × Int := spl (cx n s a b c d) (cy n s a b c d) (cz n s a b c d) a b c d
theorem impl_split_ev (n : Nat) (hn : n ≤ 7) (s : ByteArray) (a b c d : Nat) (h : D4 n a b c d) : Ev (fun k => impl_chi_split.f k (tab n s) a b c d) (sp n s a b c d) := by
  unfold impl_chi_split.f
  refine Ev.bind (impl_circuit_d n hn s a b c d h) (Ev.bind0 rfl ?_)
  rw [ct_txt n hn s a b c d h]
  exact Ev.of (fun k => (impl_chi_split.mono_l k) _ _ _ _ _ _) (k := 6) (spl_at a b c d (h.up hn) _ _ _).1
theorem spec_split_ev (n : Nat) (hn : n ≤ 7) (s : ByteArray) (hs : s.size = (tri n).length) (a b c d : Nat) (h : D4 n a b c d) : Ev (fun k => spec_l5Split.f k n s [(a : Int), b, c, d]) (sp n s a b c d) := by
  unfold spec_l5Split.f
  refine Ev.ite_pos (by simp) (Ev.ite_pos (by simp) (Ev.ite_pos (by simp) (Ev.ite_pos (by simp) ?_)))
  refine Ev.bind (spec_circuit_d n hn s hs a b c d h) ?_
  rw [ct_txt n hn s a b c d h]
  exact Ev.of (fun k => (spec_l5Split.mono_l k) _ _ _ _ _) (k := 6) (spl_at a b c d (h.up hn) _ _ _).2
theorem all_pow : (List.range 63).all (fun i => shl .i64 1 (i : Int) == 2 ^ i && IntKind.u64.wrap (i : Int) == (i : Int)) = true := by decide +kernel
theorem shl_pow (i : Nat) (h : i < 63) : shl .i64 1 (i : Int) = 2 ^ i := by
  have g := all_pow
  rw [List.all_eq_true] at g
  have g := g i (by simpa using h)
  rw [Bool.and_eq_true, beq_iff_eq, beq_iff_eq] at g
  exact g.1
theorem u64_nat (i : Nat) (h : i < 63) : IntKind.u64.wrap (i : Int) = (i : Int) := by
  have g := all_pow
  rw [List.all_eq_true] at g
  have g := g i (by simpa using h)
  rw [Bool.and_eq_true, beq_iff_eq, beq_iff_eq] at g
  exact g.2
def pick1 (x : Int) : List Nat → Int
  | [] => -1
  | i :: is => if x = 2 ^ i then i else pick1 x is
def only (x : Int) : Int := pick1 x (List.range 7)
theorem single_ev (x : Int) : Ev (fun k => impl_single.f k x) (only x) := by
  unfold impl_single.f
  refine Ev.loop_to (fun i k => impl_single.l0 k x i) 7 (fun i => pick1 x ((List.range 7).drop i)) ?_ ?_ 0 (by omega)
  · exact Ev.step (fun k => impl_single.l0.eq_2 ..) (Ev.ite_neg (by decide) (Ev.const rfl))
  · intro i hi ih
    rw [range_drop' 7 i hi, pick1]
    refine Ev.step (fun k => impl_single.l0.eq_2 ..) (Ev.ite_pos (by omega) (Ev.ite_pos (by omega) ?_))
    rw [shl_pow i (by omega), wrap_nat i (by omega)]
    by_cases h : x = 2 ^ i
    · rw [if_pos h]
      exact Ev.ite_pos h (Ev.now _)
    · rw [if_neg h]
      exact Ev.ite_neg h ih
theorem l5Only_ev (x : Int) : Ev (fun k => spec_l5Only.f k x) (only x) := by
  unfold spec_l5Only.f
  refine Ev.loop_to (fun i k => spec_l5Only.l0 k x i) 7 (fun i => pick1 x ((List.range 7).drop i)) ?_ ?_ 0 (by omega)
  · exact Ev.step (fun k => spec_l5Only.l0.eq_2 ..) (Ev.ite_neg (by decide) (Ev.const rfl))
  · intro i hi ih
    rw [range_drop' 7 i hi, pick1]
    refine Ev.step (fun k => spec_l5Only.l0.eq_2 ..) (Ev.ite_pos (by omega) ?_)
    rw [u64_nat i (by omega)]
    refine Ev.ite_pos (by omega) ?_
    rw [shl_pow i (by omega), wrap_nat i (by omega)]
    by_cases h : x = 2 ^ i
    · rw [if_pos h]
      exact Ev.ite_pos h (Ev.now _)
    · rw [if_neg h]
      exact Ev.ite_neg h ih
def inn (n : Nat) (s : ByteArray) (a b c d : Nat) : Int := mx (only (sp n s a b c d).1) (only (sp n s a b c d).2)
theorem impl_inner_ev (n : Nat) (hn : n ≤ 7) (s : ByteArray) (a b c d : Nat) (h : D4 n a b c d) : Ev (fun k => impl_chi_inner.f k (tab n s) a b c d) (inn n s a b c d) := by
  unfold impl_chi_inner.f
  exact Ev.bind (impl_split_ev n hn s a b c d h) (Ev.bind (single_ev _) (Ev.bind (single_ev _) (Ev.now _)))
theorem l1Max_eq (a b : Int) : spec_l1Max.f a b = some (mx a b) := by
  unfold spec_l1Max.f mx
  by_cases h : a < b
  · rw [if_pos h, if_neg (by omega)]
  · by_cases e : a = b
    · subst e
      simp
    · rw [if_neg h, if_pos (by omega)]
theorem spec_inner_ev (n : Nat) (hn : n ≤ 7) (s : ByteArray) (hs : s.size = (tri n).length) (a b c d : Nat) (h : D4 n a b c d) : Ev (fun k => spec_l5Inner.f k n s [(a : Int), b, c, d]) (inn n s a b c d) := by
  unfold spec_l5Inner.f
  exact Ev.bind (spec_split_ev n hn s hs a b c d h) (Ev.bind (l5Only_ev _) (Ev.bind (l5Only_ev _) (Ev.bind0 (l1Max_eq _ _) (Ev.now _))))
def has (set : Int) (i : Nat) : Bool := (Go.bits .and .i64 (shr .i64 set (i : Int)) 1) == 1
theorem l6Has_eq (set : Int) (i : Nat) (h : i < 63) : spec_l6Has.f set i = some (has set i) := by
  unfold spec_l6Has.f has
  rw [u64_nat i h, if_pos (by omega)]
theorem any_rangeT (l : List T3) (P : T3 → Bool) : (List.range l.length).any (fun i => P (rd_T107 l (i : Int))) = l.any P := by
  rw [Bool.eq_iff_iff, List.any_eq_true, List.any_eq_true]
  constructor
  · rintro ⟨i, hi, hp⟩
    rw [List.mem_range] at hi
    rw [rdT_lt l i hi] at hp
    exact ⟨_, List.getElem_mem hi, hp⟩
  · rintro ⟨q, hq, hp⟩
    obtain ⟨i, hi, rfl⟩ := List.getElem_of_mem hq
    exact ⟨i, by simpa using hi, by rw [rdT_lt l i hi]; exact hp⟩
def listT (n : Nat) : List T3 :=
  ((List.range n).drop 0).flatMap fun a : Nat => ((List.range n).drop (a + 1)).flatMap fun b : Nat => ((List.range n).drop (b + 1)).map fun c : Nat => (⟨a, b, c⟩ : T3)
def tupT (q : T3) : Int × Int × Int := (q.f0, q.f1, q.f2)
def untupT (q : Int × Int × Int) : T3 := ⟨q.1, q.2.1, q.2.2⟩
theorem untupT_map (l : List T3) : (l.map tupT).map untupT = l := by
  rw [List.map_map]
  exact List.map_id' l
theorem all_t : (List.range 8).all (fun n => (listT n).map tupT == (tri n).map tupT) = true := by decide +kernel
theorem listT_eq (n : Nat) (hn : n ≤ 7) : listT n = tri n := by
  have h := all_t
  rw [List.all_eq_true] at h
  have h := congrArg (List.map untupT) (eq_of_beq (h n (by simp; omega)))
  rwa [untupT_map, untupT_map] at h
theorem any3 (n : Nat) (hn : n ≤ 7) (P : Nat → Nat → Nat → Bool) :
    ((List.range n).drop 0).any (fun a => ((List.range n).drop (a + 1)).any fun b => ((List.range n).drop (b + 1)).any fun c => P a b c) = (tri n).any fun t => P t.f0.toNat t.f1.toNat t.f2.toNat := by
  rw [← listT_eq n hn]
  unfold listT
  simp only [List.any_flatMap, List.any_map]
  rfl
def okMask (set a b c : Nat) : Bool := decide (Go.bits .and .i64 (set : Int) (Go.bits .or .i64 (Go.bits .or .i64 (shl .i64 1 (a : Int)) (shl .i64 1 (b : Int))) (shl .i64 1 (c : Int))) = Go.bits .or .i64 (Go.bits .or .i64 (shl .i64 1 (a : Int)) (shl .i64 1 (b : Int))) (shl .i64 1 (c : Int))) == (has set a && has set b && has set c)
theorem all_mask : (List.range 128).all (fun set => (tri 7).all fun t => okMask set t.f0.toNat t.f1.toNat t.f2.toNat) = true := by decide +kernel
theorem all_tri7 : (List.range 8).all (fun n => (tri n).all fun t => (tri 7).any fun u => tupT t == tupT u) = true := by decide +kernel
theorem tri7 (n : Nat) (hn : n ≤ 7) (t : T3) (h : t ∈ tri n) : t ∈ tri 7 := by
  have g := all_tri7
  rw [List.all_eq_true] at g
  have g := g n (by simp; omega)
  rw [List.all_eq_true] at g
  have g := g t h
  rw [List.any_eq_true] at g
  obtain ⟨u, hu, e⟩ := g
  have e : tupT t = tupT u := eq_of_beq e
  have : t = u := by
    obtain ⟨a, b, c⟩ := t
    obtain ⟨a', b', c'⟩ := u
    simp only [tupT, Prod.mk.injEq] at e
    obtain ⟨rfl, rfl, rfl⟩ := e
    rfl
  rw [this]
  exact hu
def hulT (n : Nat) (s : ByteArray) (set : Int) (p : Nat) (a b c : Nat) : Bool := has set a && has set b && has set c && (inn n s p a b c == p)
def hul (n : Nat) (s : ByteArray) (set : Int) (p : Nat) : Bool := (tri n).any fun t => hulT n s set p t.f0.toNat t.f1.toNat t.f2.toNat
theorem impl_inHull_ev (n : Nat) (hn : n ≤ 7) (s : ByteArray) (set : Nat) (hset : set < 128) (p : Nat) (hp : p < n) (hno : has set p = false) : Ev (fun k => impl_chi_inHull.f k (tab n s) set p) (hul n s set p) := by
  have hl := tab_length n s
  unfold impl_chi_inHull.f
  rw [tab_n]
  refine Ev.ite_pos (by omega) (Ev.bind (triplesOf_ev n hn) ?_)
  have key := Srch.of (fun i k => impl_chi_inHull.l0 k (tab n s) set p (tri n) (tri n).length i) (tri n).length (fun i => hulT n s set p (rd_T107 (tri n) (i : Int)).f0.toNat (rd_T107 (tri n) (i : Int)).f1.toNat (rd_T107 (tri n) (i : Int)).f2.toNat) true 0 (by omega) ?_
  · have h := key.ans (w := false) (Ev.step (fun k => impl_chi_inHull.l0.eq_2 ..) (Ev.ite_neg (by omega) (Ev.now _)))
    rw [List.drop_zero, any_rangeT (tri n) (fun t => hulT n s set p t.f0.toNat t.f1.toNat t.f2.toNat)] at h
    unfold hul
    cases hh : (tri n).any fun t => hulT n s set p t.f0.toNat t.f1.toNat t.f2.toNat <;> rw [hh] at h <;> exact h
  · intro i _ hi r h1 h2
    have h35 : (tri n).length ≤ 1000 := by
      have : (List.range 8).all (fun n => decide ((tri n).length ≤ 1000)) = true := by decide +kernel
      rw [List.all_eq_true] at this
      simpa using this n (by simp; omega)
    have ht := tri_at n hn i hi
    have hm := tri7 n hn _ (List.getElem_mem hi)
    have hk := tri_ok n hn
    rw [List.all_eq_true] at hk
    have hk := hk _ (List.getElem_mem hi)
    rw [rdT_lt _ i hi] at h1 h2
    refine Ev.step (fun k => impl_chi_inHull.l0.eq_2 ..) (Ev.ite_pos (by omega) (Ev.ite_pos (by omega) (Ev.ite_pos (by omega) ?_)))
    rw [rdT_lt _ i hi, wrap_nat i (by omega)]
    have hM := all_mask
    rw [List.all_eq_true] at hM
    have hM := hM set (by simpa using hset)
    rw [List.all_eq_true] at hM
    have hM := hM _ hm
    generalize (tri n)[i] = t at ht hk hM h1 h2 ⊢
    obtain ⟨a, b, c⟩ := t
    unfold okT at ht hk
    rw [decide_eq_true_eq] at ht hk
    dsimp only at ht hk hM h1 h2 ⊢
    obtain ⟨a, rfl⟩ := Int.eq_ofNat_of_zero_le ht.1
    obtain ⟨b, rfl⟩ := Int.eq_ofNat_of_zero_le (show 0 ≤ b by omega)
    obtain ⟨c, rfl⟩ := Int.eq_ofNat_of_zero_le (show 0 ≤ c by omega)
    simp only [Int.toNat_natCast] at hM h1 h2
    refine Ev.ite_pos (by omega) (Ev.ite_pos (by omega) (Ev.ite_pos (by omega) ?_))
    unfold okMask at hM
    have hM := eq_of_beq hM
    unfold hulT at h1 h2
    rw [← hM] at h1 h2
    by_cases hc : Go.bits .and .i64 (set : Int) (Go.bits .or .i64 (Go.bits .or .i64 (shl .i64 1 (a : Int)) (shl .i64 1 (b : Int))) (shl .i64 1 (c : Int))) = Go.bits .or .i64 (Go.bits .or .i64 (shl .i64 1 (a : Int)) (shl .i64 1 (b : Int))) (shl .i64 1 (c : Int))
    · rw [decide_eq_true hc] at hM h1 h2
      have hM := hM.symm
      rw [Bool.and_eq_true, Bool.and_eq_true] at hM
      obtain ⟨⟨m1, m2⟩, m3⟩ := hM
      have n1 : p ≠ a := fun e => by rw [e, m1] at hno; cases hno
      have n2 : p ≠ b := fun e => by rw [e, m2] at hno; cases hno
      have n3 : p ≠ c := fun e => by rw [e, m3] at hno; cases hno
      refine Ev.ite_pos hc (Ev.bind (a := inn n s p a b c == p) ?_ ?_)
      · unfold impl_chi_isInside.f
        exact Ev.bind (impl_inner_ev n hn s p a b c ⟨⟨by omega, by omega, by omega, by omega⟩, n1, n2, n3, by omega, by omega, by omega⟩) (Ev.now _)
      · rw [Bool.true_and] at h1 h2
        cases hI : inn n s p a b c == (p : Int) with
        | true =>
          rw [h1 hI]
          exact Ev.ite_pos rfl (Ev.now _)
        | false => exact Ev.ite_neg (by simp) (h2 hI)
    · rw [decide_eq_false hc] at h2
      exact Ev.ite_neg hc (h2 rfl)
theorem spec_l6In_ev (n : Nat) (hn : n ≤ 7) (s : ByteArray) (hs : s.size = (tri n).length) (set : Int) (p : Nat) (hp : p < n) (hno : has set p = false) : Ev (fun k => spec_l6In.f k n s set p) (hul n s set p) := by
  unfold spec_l6In.f
  have key := Srch.of (fun a k => spec_l6In.l0 k set p a n s) n (fun a => ((List.range n).drop (a + 1)).any fun b => ((List.range n).drop (b + 1)).any fun c => hulT n s set p a b c) true 0 (by omega) ?_
  · have h := key.ans (w := false) (Ev.step (fun k => spec_l6In.l0.eq_2 ..) (Ev.ite_neg (by omega) (Ev.now _)))
    rw [any3 n hn (hulT n s set p)] at h
    unfold hul
    cases hh : (tri n).any fun t => hulT n s set p t.f0.toNat t.f1.toNat t.f2.toNat <;> rw [hh] at h <;> exact h
  · intro a _ ha r h1 h2
    refine Ev.step (fun k => spec_l6In.l0.eq_2 ..) (Ev.ite_pos (by omega) ?_)
    rw [wrap_nat a (by omega)]
    refine Srch.of (fun b k => spec_l6In.l1 k set p a b n s) n (fun b => ((List.range n).drop (b + 1)).any fun c => hulT n s set p a b c) true (a + 1) (by omega) ?_ r h1 (fun h => Ev.step (fun k => spec_l6In.l1.eq_2 ..) (Ev.ite_neg (by omega) (by rw [wrap_nat a (by omega)]; exact h2 h)))
    intro b hb1 hb r h1 h2
    refine Ev.step (fun k => spec_l6In.l1.eq_2 ..) (Ev.ite_pos (by omega) ?_)
    rw [wrap_nat b (by omega)]
    refine Srch.of (fun c k => spec_l6In.l2 k set p a b c n s) n (fun c => hulT n s set p a b c) true (b + 1) (by omega) ?_ r h1 (fun h => Ev.step (fun k => spec_l6In.l2.eq_2 ..) (Ev.ite_neg (by omega) (by rw [wrap_nat b (by omega)]; exact h2 h)))
    intro c hc1 hc r h1 h2
    refine Ev.step (fun k => spec_l6In.l2.eq_2 ..) (Ev.ite_pos (by omega) ?_)
    rw [wrap_nat c (by omega)]
    unfold hulT at h1 h2
    by_cases e1 : p = a
    · exact Ev.ite_pos (by omega) (h2 (by rw [← e1, hno]; rfl))
    refine Ev.ite_neg (by omega) ?_
    by_cases e2 : p = b
    · exact Ev.ite_pos (by omega) (h2 (by rw [← e2, hno, Bool.and_false]; rfl))
    refine Ev.ite_neg (by omega) ?_
    by_cases e3 : p = c
    · exact Ev.ite_pos (by omega) (h2 (by rw [← e3, hno, Bool.and_false]; rfl))
    refine Ev.ite_neg (by omega) (Ev.bind0 (l6Has_eq set a (by omega)) ?_)
    cases m1 : has set a with
    | false => exact Ev.ite_neg (by simp) (h2 (by rw [m1]; rfl))
    | true =>
      refine Ev.ite_pos rfl (Ev.bind0 (l6Has_eq set b (by omega)) ?_)
      cases m2 : has set b with
      | false => exact Ev.ite_neg (by simp) (h2 (by rw [m2, Bool.and_false]; rfl))
      | true =>
        refine Ev.ite_pos rfl (Ev.bind0 (l6Has_eq set c (by omega)) ?_)
        cases m3 : has set c with
        | false => exact Ev.ite_neg (by simp) (h2 (by rw [m3, Bool.and_false]; rfl))
        | true =>
          refine Ev.ite_pos rfl (Ev.bind (spec_inner_ev n hn s hs p a b c ⟨⟨by omega, by omega, by omega, by omega⟩, e1, e2, e3, by omega, by omega, by omega⟩) ?_)
          by_cases hI : inn n s p a b c = p
          · rw [h1 (by rw [m1, m2, m3, hI]; simp)]
            exact Ev.ite_pos hI (Ev.now _)
          · exact Ev.ite_neg hI (h2 (by rw [m1, m2, m3]; simpa using hI))
def fl : Option (Nat × Bool) → Option (Nat × Bool)
  | some (m, b) => some (m, !b)
  | none => none
theorem all_perm : (List.range 8).all (fun n => (List.range n).all fun x => (List.range n).all fun y => (List.range n).all fun z => src (tri n) 0 y z x == src (tri n) 0 x y z && src (tri n) 0 y x z == fl (src (tri n) 0 x y z)) = true := by decide +kernel
theorem perm_at (n x y z : Nat) (hn : n ≤ 7) (hx : x < n) (hy : y < n) (hz : z < n) : src (tri n) 0 y z x = src (tri n) 0 x y z ∧ src (tri n) 0 y x z = fl (src (tri n) 0 x y z) := by
  have h := all_perm
  rw [List.all_eq_true] at h
  have h := h n (by simp; omega)
  rw [List.all_eq_true] at h
  have h := h x (by simpa using hx)
  rw [List.all_eq_true] at h
  have h := h y (by simpa using hy)
  rw [List.all_eq_true] at h
  have h := h z (by simpa using hz)
  rw [Bool.and_eq_true, beq_iff_eq, beq_iff_eq] at h
  exact h
section
variable (n : Nat) (hn : n ≤ 7) (s : ByteArray) (x y z : Nat) (hx : x < n) (hy : y < n) (hz : z < n)
include hn hx hy hz
theorem sg1 : sg n s y z x = sg n s x y z := by
  unfold sg
  rw [(perm_at n x y z hn hx hy hz).1]
theorem sg2 : sg n s z x y = sg n s x y z := (sg1 n hn s z x y hz hx hy).symm
theorem sg3 : sg n s y x z = -sg n s x y z := by
  unfold sg
  rw [(perm_at n x y z hn hx hy hz).2]
  cases src (tri n) 0 x y z with
  | none => rfl
  | some q =>
    obtain ⟨m, b⟩ := q
    unfold fl sval sgAt
    cases b <;> by_cases h : bt s (m : Int) = 45 <;> simp [h, wrap64]
theorem sg4 : sg n s x z y = -sg n s x y z := by
  rw [sg3 n hn s z x y hz hx hy, sg2 n hn s x y z hx hy hz]
end
def crB (n : Nat) (s : ByteArray) (a b c d : Nat) : Bool := cx n s a b c d && !cy n s a b c d && !cz n s a b c d
section
variable (n : Nat) (hn : n ≤ 7) (s : ByteArray) (w x y z : Nat) (h : D4 n w x y z)
include hn h
theorem signs4 : (sg n s x y z = 1 ∨ sg n s x y z = -1) ∧ (sg n s w y z = 1 ∨ sg n s w y z = -1) ∧ (sg n s w x z = 1 ∨ sg n s w x z = -1) ∧ (sg n s w x y = 1 ∨ sg n s w x y = -1) := by
  obtain ⟨⟨hw, hx, hy, hz⟩, h1, h2, h3, h4, h5, h6⟩ := h
  exact ⟨sg_pm n hn s x y z hx hy hz h4 h6 h5, sg_pm n hn s w y z hw hy hz h2 h6 h3, sg_pm n hn s w x z hw hx hz h1 h5 h3, sg_pm n hn s w x y hw hx hy h1 h4 h2⟩
theorem cr_yzwx : crB n s y z w x = (cx n s w x y z && !cy n s w x y z && !cz n s w x y z) := by
  obtain ⟨k1, k2, k3, k4⟩ := signs4 n hn s w x y z h
  obtain ⟨⟨hw, hx, hy, hz⟩, h1, h2, h3, h4, h5, h6⟩ := h
  unfold crB cx cy cz
  rw [sg2 n hn s w x z hw hx hz, sg2 n hn s w x y hw hx hy, sg1 n hn s x y z hx hy hz, sg1 n hn s w y z hw hy hz]
  rcases k1 with k1 | k1 <;> rcases k2 with k2 | k2 <;> rcases k3 with k3 | k3 <;> rcases k4 with k4 | k4 <;> rw [k1, k2, k3, k4] <;> decide
theorem cr_wyxz : crB n s w y x z = (!cx n s w x y z && cy n s w x y z && !cz n s w x y z) := by
  obtain ⟨k1, k2, k3, k4⟩ := signs4 n hn s w x y z h
  obtain ⟨⟨hw, hx, hy, hz⟩, h1, h2, h3, h4, h5, h6⟩ := h
  unfold crB cx cy cz
  rw [sg3 n hn s x y z hx hy hz, sg4 n hn s w x y hw hx hy]
  rcases k1 with k1 | k1 <;> rcases k2 with k2 | k2 <;> rcases k3 with k3 | k3 <;> rcases k4 with k4 | k4 <;> rw [k1, k2, k3, k4] <;> decide
theorem cr_xzwy : crB n s x z w y = (!cx n s w x y z && cy n s w x y z && !cz n s w x y z) := by
  obtain ⟨k1, k2, k3, k4⟩ := signs4 n hn s w x y z h
  obtain ⟨⟨hw, hx, hy, hz⟩, h1, h2, h3, h4, h5, h6⟩ := h
  unfold crB cx cy cz
  rw [sg2 n hn s w y z hw hy hz, sg3 n hn s w x y hw hx hy, sg4 n hn s x y z hx hy hz, sg1 n hn s w x z hw hx hz]
  rcases k1 with k1 | k1 <;> rcases k2 with k2 | k2 <;> rcases k3 with k3 | k3 <;> rcases k4 with k4 | k4 <;> rw [k1, k2, k3, k4] <;> decide
theorem cr_wzxy : crB n s w z x y = (!cx n s w x y z && !cy n s w x y z && cz n s w x y z) := by
  obtain ⟨k1, k2, k3, k4⟩ := signs4 n hn s w x y z h
  obtain ⟨⟨hw, hx, hy, hz⟩, h1, h2, h3, h4, h5, h6⟩ := h
  unfold crB cx cy cz
  rw [sg2 n hn s x y z hx hy hz, sg4 n hn s w y z hw hy hz, sg4 n hn s w x z hw hx hz]
  rcases k1 with k1 | k1 <;> rcases k2 with k2 | k2 <;> rcases k3 with k3 | k3 <;> rcases k4 with k4 | k4 <;> rw [k1, k2, k3, k4] <;> decide
theorem cr_xywz : crB n s x y w z = (!cx n s w x y z && !cy n s w x y z && cz n s w x y z) := by
  obtain ⟨k1, k2, k3, k4⟩ := signs4 n hn s w x y z h
  obtain ⟨⟨hw, hx, hy, hz⟩, h1, h2, h3, h4, h5, h6⟩ := h
  unfold crB cx cy cz
  rw [sg3 n hn s w y z hw hy hz, sg3 n hn s w x z hw hx hz, sg1 n hn s w x y hw hx hy]
  rcases k1 with k1 | k1 <;> rcases k2 with k2 | k2 <;> rcases k3 with k3 | k3 <;> rcases k4 with k4 | k4 <;> rw [k1, k2, k3, k4] <;> decide
end
theorem mem_dr (n i a : Nat) : a ∈ (List.range n).drop i ↔ i ≤ a ∧ a < n := by
  constructor
  · intro h
    obtain ⟨j, hj, rfl⟩ := List.getElem_of_mem h
    rw [List.length_drop, List.length_range] at hj
    rw [List.getElem_drop, List.getElem_range]
    omega
  · rintro ⟨h1, h2⟩
    have hl : a - i < ((List.range n).drop i).length := by rw [List.length_drop, List.length_range]; omega
    have e : ((List.range n).drop i)[a - i] = a := by
      rw [List.getElem_drop, List.getElem_range]
      omega
    exact e ▸ List.getElem_mem hl
theorem any4 (n : Nat) (hn : n ≤ 7) (P : Nat → Nat → Nat → Nat → Bool) :
    ((List.range n).drop 0).any (fun a => ((List.range n).drop (a + 1)).any fun b => ((List.range n).drop (b + 1)).any fun c => ((List.range n).drop (c + 1)).any fun d => P a b c d) = (quad n).any fun t => P t.f0.toNat t.f1.toNat t.f2.toNat t.f3.toNat := by
  rw [← listC_eq n hn]
  unfold listC
  simp only [List.any_flatMap, List.any_map]
  rfl
def qh (n : Nat) (s : ByteArray) (A B : Int) (w x y z : Nat) : Bool :=
  (cx n s w x y z && !cy n s w x y z && !cz n s w x y z && ((has A w && has A x && has B y && has B z) || (has A y && has A z && has B w && has B x))) ||
  (!cx n s w x y z && cy n s w x y z && !cz n s w x y z && ((has A w && has A y && has B x && has B z) || (has A x && has A z && has B w && has B y))) ||
  (!cx n s w x y z && !cy n s w x y z && cz n s w x y z && ((has A w && has A z && has B x && has B y) || (has A x && has A y && has B w && has B z)))
def pH (n : Nat) (s : ByteArray) (A B : Int) (a b c d : Nat) : Bool := has A a && has A b && has B c && has B d && crB n s a b c d
def anyP (n : Nat) (s : ByteArray) (A B : Int) : Bool := ((List.range n).drop 0).any fun a => ((List.range n).drop (a + 1)).any fun b => ((List.range n).drop 0).any fun c => ((List.range n).drop (c + 1)).any fun d => pH n s A B a b c d
def anyQ (n : Nat) (s : ByteArray) (A B : Int) : Bool := (quad n).any fun t => qh n s A B t.f0.toNat t.f1.toNat t.f2.toNat t.f3.toNat
theorem pairs_eq (n : Nat) (hn : n ≤ 7) (s : ByteArray) (A B : Int) (hd : ∀ i, i < n → has A i = true → has B i = true → False) : anyQ n s A B = anyP n s A B := by
  unfold anyQ anyP
  rw [← any4 n hn (qh n s A B), Bool.eq_iff_iff]
  simp only [List.any_eq_true, mem_dr]
  constructor
  · rintro ⟨w, ⟨_, hw⟩, x, ⟨hwx, hx⟩, y, ⟨hxy, hy⟩, z, ⟨hyz, hz⟩, h⟩
    have hD : D4 n w x y z := ⟨⟨by omega, by omega, by omega, by omega⟩, by omega, by omega, by omega, by omega, by omega, by omega⟩
    unfold qh at h
    rw [← cr_wyxz n hn s w x y z hD, ← cr_wzxy n hn s w x y z hD] at h
    rw [Bool.or_eq_true, Bool.or_eq_true] at h
    rcases h with (h | h) | h <;> rw [Bool.and_eq_true, Bool.or_eq_true] at h <;> obtain ⟨hc, h | h⟩ := h
    · refine ⟨w, ⟨by omega, by omega⟩, x, ⟨by omega, by omega⟩, y, ⟨by omega, by omega⟩, z, ⟨by omega, by omega⟩, ?_⟩
      unfold pH
      rw [h]
      exact hc
    · refine ⟨y, ⟨by omega, by omega⟩, z, ⟨by omega, by omega⟩, w, ⟨by omega, by omega⟩, x, ⟨by omega, by omega⟩, ?_⟩
      unfold pH
      rw [h, cr_yzwx n hn s w x y z hD]
      exact hc
    · refine ⟨w, ⟨by omega, by omega⟩, y, ⟨by omega, by omega⟩, x, ⟨by omega, by omega⟩, z, ⟨by omega, by omega⟩, ?_⟩
      unfold pH
      rw [h]
      exact hc
    · refine ⟨x, ⟨by omega, by omega⟩, z, ⟨by omega, by omega⟩, w, ⟨by omega, by omega⟩, y, ⟨by omega, by omega⟩, ?_⟩
      unfold pH
      rw [h, cr_xzwy n hn s w x y z hD, ← cr_wyxz n hn s w x y z hD]
      exact hc
    · refine ⟨w, ⟨by omega, by omega⟩, z, ⟨by omega, by omega⟩, x, ⟨by omega, by omega⟩, y, ⟨by omega, by omega⟩, ?_⟩
      unfold pH
      rw [h]
      exact hc
    · refine ⟨x, ⟨by omega, by omega⟩, y, ⟨by omega, by omega⟩, w, ⟨by omega, by omega⟩, z, ⟨by omega, by omega⟩, ?_⟩
      unfold pH
      rw [h, cr_xywz n hn s w x y z hD, ← cr_wzxy n hn s w x y z hD]
      exact hc
  · rintro ⟨a, ⟨_, ha⟩, b, ⟨hab, hb⟩, c, ⟨_, hc⟩, d, ⟨hcd, hd'⟩, h⟩
    unfold pH at h
    simp only [Bool.and_eq_true] at h
    obtain ⟨⟨⟨⟨pa, pb⟩, pc⟩, pd⟩, hr⟩ := h
    have n1 : a ≠ c := fun e => hd a ha pa (e ▸ pc)
    have n2 : a ≠ d := fun e => hd a ha pa (e ▸ pd)
    have n3 : b ≠ c := fun e => hd b hb pb (e ▸ pc)
    have n4 : b ≠ d := fun e => hd b hb pb (e ▸ pd)
    have key : (a < c ∧ b < c) ∨ (a < c ∧ c < b ∧ b < d) ∨ (a < c ∧ d < b) ∨ (d < a) ∨ (c < a ∧ b < d) ∨ (c < a ∧ a < d ∧ d < b) := by omega
    rcases key with k | k | k | k | k | k
    · refine ⟨a, ⟨by omega, by omega⟩, b, ⟨by omega, by omega⟩, c, ⟨by omega, by omega⟩, d, ⟨by omega, by omega⟩, ?_⟩
      unfold qh
      rw [show (cx n s a b c d && !cy n s a b c d && !cz n s a b c d) = true from hr, pa, pb, pc, pd]
      simp
    · have hD : D4 n a c b d := ⟨⟨by omega, by omega, by omega, by omega⟩, by omega, by omega, by omega, by omega, by omega, by omega⟩
      refine ⟨a, ⟨by omega, by omega⟩, c, ⟨by omega, by omega⟩, b, ⟨by omega, by omega⟩, d, ⟨by omega, by omega⟩, ?_⟩
      unfold qh
      rw [← cr_wyxz n hn s a c b d hD, hr, pa, pb, pc, pd]
      simp
    · have hD : D4 n a c d b := ⟨⟨by omega, by omega, by omega, by omega⟩, by omega, by omega, by omega, by omega, by omega, by omega⟩
      refine ⟨a, ⟨by omega, by omega⟩, c, ⟨by omega, by omega⟩, d, ⟨by omega, by omega⟩, b, ⟨by omega, by omega⟩, ?_⟩
      unfold qh
      rw [← cr_wzxy n hn s a c d b hD, hr, pa, pb, pc, pd]
      simp
    · have hD : D4 n c d a b := ⟨⟨by omega, by omega, by omega, by omega⟩, by omega, by omega, by omega, by omega, by omega, by omega⟩
      refine ⟨c, ⟨by omega, by omega⟩, d, ⟨by omega, by omega⟩, a, ⟨by omega, by omega⟩, b, ⟨by omega, by omega⟩, ?_⟩
      unfold qh
      rw [← cr_yzwx n hn s c d a b hD, hr, pa, pb, pc, pd]
      simp
    · have hD : D4 n c a b d := ⟨⟨by omega, by omega, by omega, by omega⟩, by omega, by omega, by omega, by omega, by omega, by omega⟩
      refine ⟨c, ⟨by omega, by omega⟩, a, ⟨by omega, by omega⟩, b, ⟨by omega, by omega⟩, d, ⟨by omega, by omega⟩, ?_⟩
      unfold qh
      rw [← cr_xywz n hn s c a b d hD, hr, pa, pb, pc, pd]
      simp
    · have hD : D4 n c a d b := ⟨⟨by omega, by omega, by omega, by omega⟩, by omega, by omega, by omega, by omega, by omega, by omega⟩
      refine ⟨c, ⟨by omega, by omega⟩, a, ⟨by omega, by omega⟩, d, ⟨by omega, by omega⟩, b, ⟨by omega, by omega⟩, ?_⟩
      unfold qh
      rw [← cr_xzwy n hn s c a d b hD, hr, pa, pb, pc, pd]
      simp
def okCr (a b c d : Nat) : Bool := a == b || a == c || a == d || b == c || b == d || c == d || bools.all fun x => bools.all fun y => bools.all fun z =>
  ((spl x y z a b c d).1 == wrap64 (shl .i64 1 (IntKind.u64.wrap a) + shl .i64 1 (IntKind.u64.wrap b))) == (x && !y && !z)
theorem all_cr : (List.range 7).all (fun a => (List.range 7).all fun b => (List.range 7).all fun c => (List.range 7).all fun d => okCr a b c d) = true := by decide +kernel
theorem cr_at (n : Nat) (hn : n ≤ 7) (s : ByteArray) (a b c d : Nat) (h : D4 n a b c d) : ((sp n s a b c d).1 == wrap64 (shl .i64 1 (IntKind.u64.wrap a) + shl .i64 1 (IntKind.u64.wrap b))) = crB n s a b c d := by
  obtain ⟨⟨ha, hb, hc, hd⟩, h1, h2, h3, h4, h5, h6⟩ := h.up hn
  have g := all_cr
  rw [List.all_eq_true] at g
  have g := g a (by simpa using ha)
  rw [List.all_eq_true] at g
  have g := g b (by simpa using hb)
  rw [List.all_eq_true] at g
  have g := g c (by simpa using hc)
  rw [List.all_eq_true] at g
  have g := g d (by simpa using hd)
  unfold okCr at g
  rw [beq_eq_false_iff_ne.mpr h1, beq_eq_false_iff_ne.mpr h2, beq_eq_false_iff_ne.mpr h3, beq_eq_false_iff_ne.mpr h4, beq_eq_false_iff_ne.mpr h5, beq_eq_false_iff_ne.mpr h6] at g
  simp only [Bool.false_or] at g
  rw [List.all_eq_true] at g
  have g := g (cx n s a b c d) (mem_bools _)
  rw [List.all_eq_true] at g
  have g := g (cy n s a b c d) (mem_bools _)
  rw [List.all_eq_true] at g
  exact eq_of_beq (g (cz n s a b c d) (mem_bools _))
def sub (m A : Int) : Bool := decide (Go.bits .and .i64 m A = m)
def okSub (A w x y z : Nat) : Bool :=
  sub (spl true false false w x y z).1 A == (has A w && has A x) && sub (spl true false false w x y z).2 A == (has A y && has A z) &&
  sub (spl false true false w x y z).1 A == (has A w && has A y) && sub (spl false true false w x y z).2 A == (has A x && has A z) &&
  sub (spl false false true w x y z).1 A == (has A w && has A z) && sub (spl false false true w x y z).2 A == (has A x && has A y)
theorem all_sub : (List.range 128).all (fun A => (quad 7).all fun q => okSub A q.f0.toNat q.f1.toNat q.f2.toNat q.f3.toNat) = true := by decide +kernel
def b2i (x : Bool) : Int := if x then 1 else 0
def okCnt (w x y z : Nat) : Bool := bools.all fun X => bools.all fun Y => bools.all fun Z => bits_OnesCount.f (IntKind.u64.wrap (spl X Y Z w x y z).1) == some (1 + b2i X + b2i Y + b2i Z)
theorem all_cnt : (quad 7).all (fun q => okCnt q.f0.toNat q.f1.toNat q.f2.toNat q.f3.toNat) = true := by decide +kernel
theorem all_quad7 : (List.range 8).all (fun n => (quad n).all fun t => (quad 7).any fun u => tup t == tup u) = true := by decide +kernel
theorem quad7 (n : Nat) (hn : n ≤ 7) (t : Q4) (h : t ∈ quad n) : t ∈ quad 7 := by
  have g := all_quad7
  rw [List.all_eq_true] at g
  have g := g n (by simp; omega)
  rw [List.all_eq_true] at g
  have g := g t h
  rw [List.any_eq_true] at g
  obtain ⟨u, hu, e⟩ := g
  have e : tup t = tup u := eq_of_beq e
  have : t = u := by
    obtain ⟨a, b, c, d⟩ := t
    obtain ⟨a', b', c', d'⟩ := u
    simp only [tup, Prod.mk.injEq] at e
    obtain ⟨rfl, rfl, rfl, rfl⟩ := e
    rfl
  rw [this]
  exact hu
theorem quad_at (n : Nat) (hn : n ≤ 7) (i : Nat) (hi : i < (quad n).length) : ∃ w x y z : Nat, (quad n)[i] = ⟨w, x, y, z⟩ ∧ w < x ∧ x < y ∧ y < z ∧ z < n ∧ okCnt w x y z = true ∧ ∀ A : Nat, A < 128 → okSub A w x y z = true := by
  obtain ⟨hq, _⟩ := quad_ok n hn
  rw [List.all_eq_true] at hq
  have ht := hq _ (List.getElem_mem hi)
  have hm := quad7 n hn _ (List.getElem_mem hi)
  have hC := all_cnt
  rw [List.all_eq_true] at hC
  have hC := hC _ hm
  have hS : ∀ A : Nat, A < 128 → okSub A (quad n)[i].f0.toNat (quad n)[i].f1.toNat (quad n)[i].f2.toNat (quad n)[i].f3.toNat = true := by
    intro A hA
    have g := all_sub
    rw [List.all_eq_true] at g
    have g := g A (by simpa using hA)
    rw [List.all_eq_true] at g
    exact g _ hm
  generalize (quad n)[i] = t at ht hC hS ⊢
  obtain ⟨a, b, c, d⟩ := t
  unfold okQ at ht
  rw [decide_eq_true_eq] at ht
  dsimp only at ht hC hS ⊢
  obtain ⟨a, rfl⟩ := Int.eq_ofNat_of_zero_le ht.1
  obtain ⟨b, rfl⟩ := Int.eq_ofNat_of_zero_le (show 0 ≤ b by omega)
  obtain ⟨c, rfl⟩ := Int.eq_ofNat_of_zero_le (show 0 ≤ c by omega)
  obtain ⟨d, rfl⟩ := Int.eq_ofNat_of_zero_le (show 0 ≤ d by omega)
  simp only [Int.toNat_natCast] at hC hS
  exact ⟨a, b, c, d, rfl, by omega, by omega, by omega, by omega, hC, hS⟩
theorem rdQ_lt (l : List Q4) (i : Nat) (h : i < l.length) : rd_T97 l (i : Int) = l[i] := by
  unfold rd_T97
  rw [Int.toNat_natCast, getD_lt _ _ _ h]
def hit (A B : Int) (p : Int × Int) : Bool := (sub p.1 A && sub p.2 B) || (sub p.2 A && sub p.1 B)
theorem qh_eq (n : Nat) (s : ByteArray) (A B : Nat) (hA : A < 128) (hB : B < 128) (w x y z : Nat) (hC : okCnt w x y z = true) (hS : ∀ A : Nat, A < 128 → okSub A w x y z = true) :
    ∃ c, bits_OnesCount.f (IntKind.u64.wrap (sp n s w x y z).1) = some c ∧ qh n s A B w x y z = (c == 2 && hit A B (sp n s w x y z)) := by
  have sA := hS A hA
  have sB := hS B hB
  unfold okSub at sA sB
  simp only [Bool.and_eq_true, beq_iff_eq] at sA sB
  obtain ⟨⟨⟨⟨⟨a1, a2⟩, a3⟩, a4⟩, a5⟩, a6⟩ := sA
  obtain ⟨⟨⟨⟨⟨b1, b2⟩, b3⟩, b4⟩, b5⟩, b6⟩ := sB
  unfold okCnt at hC
  rw [List.all_eq_true] at hC
  have hC := hC (cx n s w x y z) (mem_bools _)
  rw [List.all_eq_true] at hC
  have hC := hC (cy n s w x y z) (mem_bools _)
  rw [List.all_eq_true] at hC
  have hC := eq_of_beq (hC (cz n s w x y z) (mem_bools _))
  refine ⟨_, hC, ?_⟩
  unfold qh sp hit
  cases cx n s w x y z <;> cases cy n s w x y z <;> cases cz n s w x y z <;> simp only [b2i, Bool.false_and, Bool.true_and, Bool.and_false, Bool.and_true, Bool.not_true, Bool.not_false, Bool.false_or, Bool.or_false, a1, a2, a3, a4, a5, a6, b1, b2, b3, b4, b5, b6, Bool.and_assoc] <;> first | rfl | decide | simp
end Go.Proofs.Ytbglgapndefcfaa.Pure
namespace Go.Proofs.Ytbglgapndefcfaa.P
open Go.RowKit Go.Proofs.YtbglgapndefcfaaW.PrintWords Go.Proofs.YtbglgapndefcfaaW.PrintLast Go.Proofs.YtbglgapndefcfaaW.PrintMore
attribute [local go_sem] ptrOf_slice
attribute [local go_sem] max2_int min2_int max_two min_two max_three min_three max_four min_four
set_option linter.unusedVariables false
set_option linter.unusedSimpArgs false
def impl_isElement.f (a0 : Int) (a1 : Int) : Option (Bool) := if a1 ≥ 0 then (some (decide (a1 < a0))) else (some false)
set_option maxHeartbeats 8000000 in
set_option maxRecDepth 100000 in
theorem impl_isElement.calls (a0 : Int) (a1 : Int) (r : Bool) (w : World) (h : impl_isElement.f a0 a1 = some r) :
  Calls Try.prog 80 #[.int .i64 a0, .int .i64 a1] w fun e w' => e = .returned (.bool r) ∧ Drawn0 w w' := by
 have H : (if a1 ≥ 0 then (some (decide (a1 < a0))) else (some false)) = some r := h
 clear h
 by_cases c3 : a1 ≥ 0
 ·rw [if_pos c3] at H
  have c3b0 : decide (0 ≤ a1) = true := decide_eq_true c3
  clear c3
  obtain rfl := Option.some.inj H
  go_enter Try.func80, Try.ntmps80
  go_wp2
  go_ret
  exact ⟨by first | rfl | (simp; done) | (simp [*]; done), by repeat (first | exact Drawn0.refl _ | apply Drawn0.step)⟩
 ·rw [if_neg c3] at H
  have c3b0 : decide (0 ≤ a1) = false := decide_eq_false c3
  clear c3
  obtain rfl := Option.some.inj H
  go_enter Try.func80, Try.ntmps80
  go_wp2
  go_ret
  exact ⟨by first | rfl | (simp; done) | (simp [*]; done), by repeat (first | exact Drawn0.refl _ | apply Drawn0.step)⟩
end Go.Proofs.Ytbglgapndefcfaa.P
namespace Go.Proofs.Ytbglgapndefcfaa.Pure
set_option linter.unusedSimpArgs false
set_option linter.unusedVariables false
open Go.RowKit Go.Proofs.YtbglgapndefcfaaW.PrintWords Go.Proofs.Ytbglgapndefcfaa.P Go.Proofs.Ytbglgapndefcfaa.Pl
theorem szSigns_eqO (n : Int) (s : ByteArray) (a : Int) (h0 : 0 ≤ a) (h1 : a ≤ 1048576) (hl : s.size ≤ 9223372036854775807) : laws_szSigns.f n s a = some (if a < s.size then -1 else a - s.size) := by
  unfold laws_szSigns.f
  rw [wrap_in (by omega) (by omega)]
  by_cases h : a < (s.size : Int)
  · rw [if_pos h, if_pos (by omega)]
  · rw [if_neg h, if_neg (by omega)]
theorem isA_nat {n : Int} {s : ByteArray} (h : isA n s = true) : ∃ m : Nat, n = m ∧ 3 ≤ m ∧ m ≤ 7 ∧ s.size = (tri m).length := by
  have hM : isM n s = true := by unfold isA at h; rw [Bool.and_eq_true] at h; exact h.1
  obtain ⟨h3, h7, hs, _⟩ := isS_bounds (isM_S hM)
  obtain ⟨m, rfl⟩ := Int.eq_ofNat_of_zero_le (show 0 ≤ n by omega)
  rw [Int.toNat_natCast] at hs
  exact ⟨m, rfl, by omega, by omega, hs⟩
theorem orderOf_yes (n : Nat) (hn : n ≤ 7) (s : ByteArray) (hs : s.size = (tri n).length) (h : isA n s = true) : Ev (fun k => impl_orderOf.f k n s) (tab n s, true) := by
  have hI := impl_IsAcyclic_ev n s
  rw [h] at hI
  unfold impl_orderOf.f
  exact Ev.bind hI (Ev.ite_pos rfl (Ev.bind (tableOf_ev n hn s hs) (Ev.now _)))
theorem orderOf_no (n : Int) (s : ByteArray) (h : isA n s = false) : Ev (fun k => impl_orderOf.f k n s) ([], false) := by
  have hI := impl_IsAcyclic_ev n s
  rw [h] at hI
  unfold impl_orderOf.f
  exact Ev.bind hI (Ev.ite_neg (by simp) (Ev.now _))
theorem spec_A (n : Int) (s : ByteArray) (b : Bool) (h : isA n s = b) : Ev (fun k => spec_IsAcyclic.f k n s) b := h ▸ spec_IsAcyclic_ev n s
theorem all_full : (List.range 8).all (fun n => impl_fullSet.f (n : Int) == some ((2 : Int) ^ n - 1) && wrap64 (shl .i64 1 (IntKind.u64.wrap (n : Int)) - 1) == (2 : Int) ^ n - 1 && decide (2 ^ n ≤ 128)) = true := by decide +kernel
theorem full_at (n : Nat) (hn : n ≤ 7) : impl_fullSet.f (n : Int) = some ((2 : Int) ^ n - 1) ∧ wrap64 (shl .i64 1 (IntKind.u64.wrap (n : Int)) - 1) = (2 : Int) ^ n - 1 ∧ 2 ^ n ≤ 128 := by
  have h := all_full
  rw [List.all_eq_true] at h
  have h := h n (by simp; omega)
  rw [Bool.and_eq_true, Bool.and_eq_true, beq_iff_eq, beq_iff_eq, decide_eq_true_eq] at h
  exact ⟨h.1.1, h.1.2, h.2⟩
def okRest (n set : Nat) : Bool := Go.bits .andNot .i64 ((2 : Int) ^ n - 1) (set : Int) == ((2 ^ n - 1 - set : Nat) : Int) && (List.range 7).all fun i => has ((2 ^ n - 1 - set : Nat) : Int) i == (decide (i < n) && !has set i)
theorem all_rest : (List.range 8).all (fun n => (List.range (2 ^ n)).all fun set => okRest n set) = true := by decide +kernel
theorem rest_at (n : Nat) (hn : n ≤ 7) (set : Nat) (hs : set < 2 ^ n) : Go.bits .andNot .i64 ((2 : Int) ^ n - 1) (set : Int) = ((2 ^ n - 1 - set : Nat) : Int) ∧ ∀ i, i < n → has ((2 ^ n - 1 - set : Nat) : Int) i = !has set i := by
  have h := all_rest
  rw [List.all_eq_true] at h
  have h := h n (by simp; omega)
  rw [List.all_eq_true] at h
  have h := h set (by simpa using hs)
  unfold okRest at h
  rw [Bool.and_eq_true, beq_iff_eq, List.all_eq_true] at h
  refine ⟨h.1, fun i hi => ?_⟩
  have g := eq_of_beq (h.2 i (by simp; omega))
  rw [g, decide_eq_true hi, Bool.true_and]
def elts (A : Nat) : List Nat := (List.range 7).filter fun i => has A i
def eltsI (A : Nat) : List Int := (elts A).map fun i : Nat => (i : Int)
theorem all_elts : (List.range 128).all (fun A => impl_elementsOf.f 70 (A : Int) == some (eltsI A)) = true := by decide +kernel
theorem elementsOf_ev (A : Nat) (hA : A < 128) : Ev (fun k => impl_elementsOf.f k (A : Int)) (eltsI A) := by
  have h := all_elts
  rw [List.all_eq_true] at h
  exact Ev.of (impl_elementsOf.mono _) (k := 70) (eq_of_beq (h A (by simpa using hA)))
theorem all_elts2 : (List.range 8).all (fun n => (List.range (2 ^ n)).all fun A => elts A == (List.range n).filter fun i => has A i) = true := by decide +kernel
theorem elts_at (n : Nat) (hn : n ≤ 7) (A : Nat) (hA : A < 2 ^ n) : elts A = (List.range n).filter fun i => has A i := by
  have h := all_elts2
  rw [List.all_eq_true] at h
  have h := h n (by simp; omega)
  rw [List.all_eq_true] at h
  exact eq_of_beq (h A (by simpa using hA))
theorem rd_eltsI (A i : Nat) (hi : i < (elts A).length) : rd (eltsI A) (i : Int) = ((elts A)[i] : Int) := by
  unfold rd eltsI
  rw [Int.toNat_natCast, getD_lt _ _ _ (by simpa using hi)]
  simp
theorem elts_get (n : Nat) (hn : n ≤ 7) (A : Nat) (hA : A < 2 ^ n) (i : Nat) (hi : i < (elts A).length) : ∃ q : Nat, (elts A)[i] = q ∧ q < n ∧ has A q = true := by
  refine ⟨_, rfl, ?_⟩
  have hm := List.getElem_mem hi
  generalize (elts A)[i] = q at hm ⊢
  rw [elts_at n hn A hA, List.mem_filter, List.mem_range] at hm
  exact hm
theorem any_elts (A : Nat) (P : Nat → Bool) : ((List.range (elts A).length).any fun i => P ((elts A).getD i 0)) = (elts A).any P := by
  rw [Bool.eq_iff_iff, List.any_eq_true, List.any_eq_true]
  constructor
  · rintro ⟨i, hi, hp⟩
    rw [List.mem_range] at hi
    rw [getD_lt _ _ _ hi] at hp
    exact ⟨_, List.getElem_mem hi, hp⟩
  · rintro ⟨q, hq, hp⟩
    obtain ⟨i, hi, rfl⟩ := List.getElem_of_mem hq
    exact ⟨i, by simpa using hi, by rw [getD_lt _ _ _ hi]; exact hp⟩
def com (n : Nat) (s : ByteArray) (A B : Nat) : Bool := (elts A).any (hul n s B) || ((elts B).any (hul n s A) || anyQ n s A B)
theorem impl_common_ev (n : Nat) (hn : n ≤ 7) (s : ByteArray) (A B : Nat) (hA : A < 2 ^ n) (hB : B < 2 ^ n) (hd : ∀ i, i < n → has A i = true → has B i = true → False) : Ev (fun k => impl_chi_haveCommon.f k (tab n s) A B) (com n s A B) := by
  have hl := tab_length n s
  have h128 := (full_at n hn).2.2
  have hlA : (elts A).length ≤ 7 := by have := List.length_filter_le (fun i => has A i) (List.range 7); simpa [elts] using this
  have hlB : (elts B).length ≤ 7 := by have := List.length_filter_le (fun i => has B i) (List.range 7); simpa [elts] using this
  have lA : (eltsI A).length = (elts A).length := by simp [eltsI]
  have lB : (eltsI B).length = (elts B).length := by simp [eltsI]
  obtain ⟨_, hq1⟩ := quad_ok n hn
  unfold impl_chi_haveCommon.f com
  refine Ev.bind (elementsOf_ev A (by omega)) ?_
  rw [← any_elts A (hul n s B), ← any_elts B (hul n s A), lA]
  refine Srch.of (fun i k => impl_chi_haveCommon.l0 k (tab n s) A B (eltsI A) (elts A).length i) (elts A).length (fun i => hul n s B ((elts A).getD i 0)) true 0 (by omega) ?_ _ (fun h => by rw [List.drop_zero] at h; rw [h]; rfl) (fun h => ?_)
  · intro i _ hi r h1 h2
    obtain ⟨q, hq, hqn, hqh⟩ := elts_get n hn A hA i hi
    rw [getD_lt _ _ _ hi, hq] at h1 h2
    refine Ev.step (fun k => impl_chi_haveCommon.l0.eq_2 ..) (Ev.ite_pos (by omega) (Ev.ite_pos (by omega) (Ev.ite_pos (by omega) ?_)))
    rw [rd_eltsI A i hi, wrap_nat i (by omega), hq]
    refine Ev.bind (impl_inHull_ev n hn s B (by omega) q hqn (Bool.eq_false_iff.mpr (fun e => hd q hqn hqh e))) ?_
    cases hu : hul n s B q with
    | true => rw [h1 hu]; exact Ev.ite_pos rfl (Ev.now _)
    | false => exact Ev.ite_neg (by simp) (h2 hu)
  · rw [List.drop_zero] at h
    rw [h, Bool.false_or]
    refine Ev.step (fun k => impl_chi_haveCommon.l0.eq_2 ..) (Ev.ite_neg (by omega) (Ev.bind (elementsOf_ev B (by omega)) ?_))
    rw [lB]
    refine Srch.of (fun i k => impl_chi_haveCommon.l1 k (tab n s) A B (eltsI B) (elts B).length i) (elts B).length (fun i => hul n s A ((elts B).getD i 0)) true 0 (by omega) ?_ _ (fun h => by rw [List.drop_zero] at h; rw [h]; rfl) (fun h => ?_)
    · intro i _ hi r h1 h2
      obtain ⟨q, hq, hqn, hqh⟩ := elts_get n hn B hB i hi
      rw [getD_lt _ _ _ hi, hq] at h1 h2
      refine Ev.step (fun k => impl_chi_haveCommon.l1.eq_2 ..) (Ev.ite_pos (by omega) (Ev.ite_pos (by omega) (Ev.ite_pos (by omega) ?_)))
      rw [rd_eltsI B i hi, wrap_nat i (by omega), hq]
      refine Ev.bind (impl_inHull_ev n hn s A (by omega) q hqn (Bool.eq_false_iff.mpr (fun e => hd q hqn e hqh))) ?_
      cases hu : hul n s A q with
      | true => rw [h1 hu]; exact Ev.ite_pos rfl (Ev.now _)
      | false => exact Ev.ite_neg (by simp) (h2 hu)
    · rw [List.drop_zero] at h
      rw [h, Bool.false_or]
      refine Ev.step (fun k => impl_chi_haveCommon.l1.eq_2 ..) (Ev.ite_neg (by omega) (Ev.ite_pos (by omega) ?_))
      rw [tab_n]
      refine Ev.bind (quadsOf_ev n hn) ?_
      unfold anyQ
      rw [← any_range (quad n) (fun t => qh n s A B t.f0.toNat t.f1.toNat t.f2.toNat t.f3.toNat)]
      refine Srch.of (fun i k => impl_chi_haveCommon.l2 k (tab n s) A B (quad n) (quad n).length i) (quad n).length (fun i => (fun t => qh n s A B t.f0.toNat t.f1.toNat t.f2.toNat t.f3.toNat) (rd_T97 (quad n) (i : Int))) true 0 (by omega) ?_ _ (fun h => by rw [List.drop_zero] at h; rw [h]) (fun h => ?_)
      · intro i _ hi r h1 h2
        refine Ev.step (fun k => impl_chi_haveCommon.l2.eq_2 ..) (Ev.ite_pos (by omega) (Ev.ite_pos (by omega) (Ev.ite_pos (by omega) ?_)))
        rw [rdQ_lt _ i hi] at h1 h2 ⊢
        rw [wrap_nat i (by omega)]
        obtain ⟨w, x, y, z, hq, hwx, hxy, hyz, hz, hC, hS⟩ := quad_at n hn i hi
        rw [hq] at h1 h2 ⊢
        dsimp only at h1 h2 ⊢
        simp only [Int.toNat_natCast] at h1 h2
        refine Ev.bind (impl_split_ev n hn s w x y z ⟨⟨by omega, by omega, by omega, by omega⟩, by omega, by omega, by omega, by omega, by omega, by omega⟩) ?_
        obtain ⟨c, hc, he⟩ := qh_eq n s A B (by omega) (by omega) w x y z hC hS
        refine Ev.bind0 hc ?_
        rw [he] at h1 h2
        unfold hit sub at h1 h2
        by_cases e : c = 2
        · subst e
          refine Ev.ite_pos rfl ?_
          rw [Bool.and_comm (decide (Go.bits .and .i64 (sp n s w x y z).2 (A : Int) = (sp n s w x y z).2))] at h1 h2
          exact Ev.or2 h1 h2
        · rw [beq_eq_false_iff_ne.mpr e, Bool.false_and] at h2
          exact Ev.ite_neg e (h2 rfl)
      · rw [List.drop_zero] at h
        rw [h]
        exact Ev.step (fun k => impl_chi_haveCommon.l2.eq_2 ..) (Ev.ite_neg (by omega) (Ev.now _))
def hul2 (n : Nat) (s : ByteArray) (A B : Int) (i : Nat) : Bool := (has A i && hul n s B i) || (has B i && hul n s A i)
theorem com_eq (n : Nat) (hn : n ≤ 7) (s : ByteArray) (A B : Nat) (hA : A < 2 ^ n) (hB : B < 2 ^ n) : com n s A B = (((List.range n).drop 0).any (hul2 n s A B) || anyQ n s A B) := by
  unfold com
  rw [elts_at n hn A hA, elts_at n hn B hB, ← Bool.or_assoc, List.any_filter, List.any_filter, List.drop_zero]
  congr 1
  unfold hul2
  rw [Bool.eq_iff_iff]
  simp only [Bool.or_eq_true, List.any_eq_true]
  constructor
  · rintro (⟨i, hi, h⟩ | ⟨i, hi, h⟩)
    · exact ⟨i, hi, .inl h⟩
    · exact ⟨i, hi, .inr h⟩
  · rintro ⟨i, hi, h | h⟩
    · exact .inl ⟨i, hi, h⟩
    · exact .inr ⟨i, hi, h⟩
theorem spec_common_ev (n : Nat) (hn : n ≤ 7) (s : ByteArray) (hs : s.size = (tri n).length) (A B : Nat) (hA : A < 2 ^ n) (hB : B < 2 ^ n) (hd : ∀ i, i < n → has A i = true → has B i = true → False) : Ev (fun k => spec_l22Common.f k n s A B) (com n s A B) := by
  rw [com_eq n hn s A B hA hB, pairs_eq n hn s A B hd]
  unfold spec_l22Common.f
  refine Srch.of (fun i k => spec_l22Common.l0 k A B i n s) n (hul2 n s A B) true 0 (by omega) ?_ _ (fun h => by rw [h]; rfl) (fun h => ?_)
  · intro i _ hi r h1 h2
    refine Ev.step (fun k => spec_l22Common.l0.eq_2 ..) (Ev.ite_pos (by omega) (Ev.bind0 (l6Has_eq A i (by omega)) ?_))
    rw [wrap_nat i (by omega)]
    unfold hul2 at h1 h2
    have second : has A i = false → Ev (fun k => (spec_l6Has.f B i).bind fun t => if t = true then (spec_l6In.f k n s A i).bind fun t2 => if t2 = true then some true else spec_l22Common.l0 k A B ((i + 1 : Nat) : Int) n s else spec_l22Common.l0 k A B ((i + 1 : Nat) : Int) n s) r := by
      intro hA0
      refine Ev.bind0 (l6Has_eq B i (by omega)) ?_
      rw [hA0, Bool.false_and, Bool.false_or] at h1 h2
      cases hb : has B i with
      | false => exact Ev.ite_neg (by simp) (h2 (by rw [hb]; rfl))
      | true =>
        refine Ev.ite_pos rfl (Ev.bind (spec_l6In_ev n hn s hs A i hi hA0) ?_)
        cases hu : hul n s A i with
        | true => rw [h1 (by rw [hb, hu]; rfl)]; exact Ev.ite_pos rfl (Ev.now _)
        | false => exact Ev.ite_neg (by simp) (h2 (by rw [hb, hu]; rfl))
    cases ha : has A i with
    | false => exact Ev.ite_neg (by simp) (second ha)
    | true =>
      have hb : has B i = false := Bool.eq_false_iff.mpr fun e => hd i hi ha e
      refine Ev.ite_pos rfl (Ev.bind (spec_l6In_ev n hn s hs B i hi hb) ?_)
      cases hu : hul n s B i with
      | true => rw [h1 (by rw [ha, hu]; rfl)]; exact Ev.ite_pos rfl (Ev.now _)
      | false =>
        refine Ev.ite_neg (by simp) (Ev.bind0 (l6Has_eq B i (by omega)) ?_)
        rw [hb]
        exact Ev.ite_neg (by simp) (h2 (by rw [ha, hu, hb]; rfl))
  · rw [h, Bool.false_or]
    refine Ev.step (fun k => spec_l22Common.l0.eq_2 ..) (Ev.ite_neg (by omega) ?_)
    unfold anyP
    refine Srch.of (fun a k => spec_l22Common.l1 k A B a n s) n (fun a => ((List.range n).drop (a + 1)).any fun b => ((List.range n).drop 0).any fun c => ((List.range n).drop (c + 1)).any fun d => pH n s A B a b c d) true 0 (by omega) ?_ _ (fun h => by rw [h]) (fun h => ?_)
    · intro a _ ha r h1 h2
      refine Ev.step (fun k => spec_l22Common.l1.eq_2 ..) (Ev.ite_pos (by omega) ?_)
      rw [wrap_nat a (by omega)]
      refine Srch.of (fun b k => spec_l22Common.l2 k A B a b n s) n (fun b => ((List.range n).drop 0).any fun c => ((List.range n).drop (c + 1)).any fun d => pH n s A B a b c d) true (a + 1) (by omega) ?_ r h1 (fun h => Ev.step (fun k => spec_l22Common.l2.eq_2 ..) (Ev.ite_neg (by omega) (by rw [wrap_nat a (by omega)]; exact h2 h)))
      intro b hab hb r h1 h2
      refine Ev.step (fun k => spec_l22Common.l2.eq_2 ..) (Ev.ite_pos (by omega) ?_)
      refine Srch.of (fun c k => spec_l22Common.l3 k A B a b c n s) n (fun c => ((List.range n).drop (c + 1)).any fun d => pH n s A B a b c d) true 0 (by omega) ?_ r h1 (fun h => Ev.step (fun k => spec_l22Common.l3.eq_2 ..) (Ev.ite_neg (by omega) (by rw [wrap_nat b (by omega)]; exact h2 h)))
      intro c _ hc r h1 h2
      refine Ev.step (fun k => spec_l22Common.l3.eq_2 ..) (Ev.ite_pos (by omega) ?_)
      rw [wrap_nat c (by omega)]
      refine Srch.of (fun d k => spec_l22Common.l4 k A B a b c d n s) n (fun d => pH n s A B a b c d) true (c + 1) (by omega) ?_ r h1 (fun h => Ev.step (fun k => spec_l22Common.l4.eq_2 ..) (Ev.ite_neg (by omega) (by rw [wrap_nat c (by omega)]; exact h2 h)))
      intro d hcd hdd r h1 h2
      refine Ev.step (fun k => spec_l22Common.l4.eq_2 ..) (Ev.ite_pos (by omega) (Ev.bind0 (l6Has_eq A a (by omega)) ?_))
      rw [wrap_nat d (by omega)]
      unfold pH at h1 h2
      cases pa : has A a with
      | false => exact Ev.ite_neg (by simp) (h2 (by rw [pa]; rfl))
      | true =>
        refine Ev.ite_pos rfl (Ev.bind0 (l6Has_eq A b (by omega)) ?_)
        cases pb : has A b with
        | false => exact Ev.ite_neg (by simp) (h2 (by rw [pa, pb]; rfl))
        | true =>
          refine Ev.ite_pos rfl (Ev.bind0 (l6Has_eq B c (by omega)) ?_)
          cases pc : has B c with
          | false => exact Ev.ite_neg (by simp) (h2 (by rw [pa, pb, pc]; rfl))
          | true =>
            refine Ev.ite_pos rfl (Ev.bind0 (l6Has_eq B d (by omega)) ?_)
            cases pd : has B d with
            | false => exact Ev.ite_neg (by simp) (h2 (by rw [pa, pb, pc, pd]; rfl))
            | true =>
              rw [pa, pb, pc, pd] at h1 h2
              have n1 : a ≠ c := fun e => hd a ha pa (e ▸ pc)
              have n2 : a ≠ d := fun e => hd a ha pa (e ▸ pd)
              have n3 : b ≠ c := fun e => hd b hb pb (e ▸ pc)
              have n4 : b ≠ d := fun e => hd b hb pb (e ▸ pd)
              have hD : D4 n a b c d := ⟨⟨by omega, by omega, by omega, by omega⟩, by omega, n1, n2, n3, n4, by omega⟩
              refine Ev.ite_pos rfl (Ev.bind (a := crB n s a b c d) ?_ ?_)
              · unfold spec_l9Cross.f
                have hcr := cr_at n hn s a b c d hD
                refine Ev.ite_neg (by omega) (Ev.ite_neg (by omega) (Ev.ite_neg (by omega) (Ev.ite_neg (by omega) (Ev.bind (spec_split_ev n hn s hs a b c d hD) ?_))))
                rw [u64_nat a (by omega), u64_nat b (by omega)] at hcr ⊢
                exact Ev.ite_pos (by omega) (Ev.ite_pos (by omega) (Ev.const (congrArg some hcr)))
              · cases hc' : crB n s a b c d with
                | true => rw [h1 (by rw [hc']; rfl)]; exact Ev.ite_pos rfl (Ev.now _)
                | false => exact Ev.ite_neg (by simp) (h2 (by rw [hc']; rfl))
    · rw [h]
      exact Ev.step (fun k => spec_l22Common.l1.eq_2 ..) (Ev.ite_neg (by omega) (Ev.now _))
end Go.Proofs.Ytbglgapndefcfaa.Pure
namespace Go.Proofs.Ytbglgapndefcfaa.Pure
set_option linter.unusedSimpArgs false
set_option linter.unusedVariables false
open Go.RowKit Go.Proofs.YtbglgapndefcfaaW.PrintWords Go.Proofs.Ytbglgapndefcfaa.P Go.Proofs.Ytbglgapndefcfaa.Pl Go.Proofs.Ytbglgapndefcfaa.Rk
def prt (n : Nat) (s : ByteArray) : List Nat → Int × Int
  | [] => (0, 0)
  | A :: l => if com n s A (2 ^ n - 1 - A) then ((A : Int), ((2 ^ n - 1 - A : Nat) : Int)) else prt n s l
theorem prt_snoc (n : Nat) (s : ByteArray) (A : Nat) (h : com n s A (2 ^ n - 1 - A) = false) : ∀ l, prt n s (l ++ [A]) = prt n s l := by
  intro l
  induction l with
  | nil => simp [prt, h]
  | cons B l ih => rw [List.cons_append, prt, prt, ih]
theorem has_zero (i : Nat) : has 0 i = false := by
  unfold has shr
  rw [Int.zero_ediv]
  rfl
theorem com_zero (n : Nat) (hn : n ≤ 7) (s : ByteArray) (A : Nat) (hA : A < 2 ^ n) : com n s A 0 = false := by
  have h2 : 0 < 2 ^ n := Nat.pos_of_ne_zero (by simp)
  rw [com_eq n hn s A 0 hA h2, pairs_eq n hn s A ((0 : Nat) : Int) (fun i _ _ h => by rw [show ((0 : Nat) : Int) = 0 from rfl, has_zero] at h; cases h)]
  have h1 : ∀ i, hul2 n s A ((0 : Nat) : Int) i = false := by
    intro i
    unfold hul2 hul hulT
    rw [show ((0 : Nat) : Int) = 0 from rfl, has_zero]
    simp [has_zero]
  have h3 : ∀ a b c d, pH n s A ((0 : Nat) : Int) a b c d = false := by
    intro a b c d
    unfold pH
    rw [show ((0 : Nat) : Int) = 0 from rfl, has_zero]
    simp
  have e1 : ((List.range n).drop 0).any (hul2 n s A ((0 : Nat) : Int)) = false := List.any_eq_false.mpr fun i _ => by rw [h1 i]; simp
  rw [e1, Bool.false_or, Bool.eq_false_iff]
  intro h
  unfold anyP at h
  simp only [List.any_eq_true] at h
  obtain ⟨a, _, b, _, c, _, d, _, h⟩ := h
  rw [h3] at h
  cases h
theorem parts_both (n : Int) (s : ByteArray) : ∃ v, Ev (fun k => spec_PartingOf.f k n s) v ∧ Ev (fun k => impl_PartingOf.f k n s) v := by
  unfold spec_PartingOf.f impl_PartingOf.f
  cases hA : isA n s with
  | false => exact ⟨(0, 0), Ev.bind (spec_A n s _ hA) (Ev.ite_neg (by simp) (Ev.now _)), Ev.bind (orderOf_no n s hA) (Ev.ite_neg (by simp) (Ev.now _))⟩
  | true =>
    obtain ⟨m, rfl, h3, h7, hs⟩ := isA_nat hA
    have hu : (0 : Int) ≤ IntKind.u64.wrap (m : Int) := by rw [u64_nat m (by omega)]; omega
    obtain ⟨hfi, hf, h128⟩ := full_at m h7
    have e2 : ((2 ^ m : Nat) : Int) = (2 : Int) ^ m := by simp
    have h8 : 8 ≤ 2 ^ m := Nat.pow_le_pow_right (n := 2) (by omega) h3
    have hdis : ∀ A : Nat, A < 2 ^ m → ∀ i, i < m → has A i = true → has ((2 ^ m - 1 - A : Nat) : Int) i = true → False := by
      intro A hA2 i hi h1 h2
      rw [(rest_at m h7 A hA2).2 i hi, h1] at h2
      cases h2
    refine ⟨prt m s ((List.range (2 ^ m - 1)).drop 1), Ev.bind (spec_A m s _ hA) (Ev.ite_pos rfl (Ev.ite_pos hu ?_)), Ev.bind (orderOf_yes m h7 s hs hA) (Ev.ite_pos rfl ?_)⟩
    · rw [hf]
      have key := Ev.loop_to (fun i k => spec_PartingOf.l0 k ((2 : Int) ^ m - 1) i m s) (2 ^ m - 1) (fun i => prt m s ((List.range (2 ^ m - 1)).drop i)) ?_ ?_ 1 (by omega)
      · exact key
      · refine Ev.step (fun k => spec_PartingOf.l0.eq_2 ..) (Ev.ite_neg (by omega) (Ev.const ?_))
        rw [List.drop_of_length_le (by simp)]
        rfl
      · intro A hA2 ih
        rw [range_drop' _ A hA2, prt]
        refine Ev.step (fun k => spec_PartingOf.l0.eq_2 ..) (Ev.ite_pos (by omega) ?_)
        have eB : wrap64 ((2 : Int) ^ m - 1 - A) = ((2 ^ m - 1 - A : Nat) : Int) := by rw [wrap_in (by omega) (by omega)]; omega
        rw [eB, wrap_nat A (by omega)]
        refine Ev.bind (spec_common_ev m h7 s hs A (2 ^ m - 1 - A) (by omega) (by omega) (hdis A (by omega))) ?_
        cases hc : com m s A (2 ^ m - 1 - A) with
        | true => exact Ev.ite_pos rfl (Ev.now _)
        | false => exact Ev.ite_neg (by simp) ih
    · have hlast : com m s (2 ^ m - 1) (2 ^ m - 1 - (2 ^ m - 1)) = false := by
        rw [Nat.sub_self]
        exact com_zero m h7 s (2 ^ m - 1) (by omega)
      have e3 : (List.range (2 ^ m - 1)).drop 1 ++ [2 ^ m - 1] = (List.range (2 ^ m)).drop 1 := by
        rw [show (List.range (2 ^ m)) = List.range (2 ^ m - 1) ++ [2 ^ m - 1] by rw [← List.range_succ]; congr 1; omega, List.drop_append_of_le_length (by simp; omega)]
      rw [← prt_snoc m s (2 ^ m - 1) hlast, e3]
      have key := Ev.loop_to (fun i k => impl_PartingOf.l0 k (tab m s) i m s) (2 ^ m) (fun i => prt m s ((List.range (2 ^ m)).drop i)) ?_ ?_ 1 (by omega)
      · exact key
      · refine Ev.step (fun k => impl_PartingOf.l0.eq_2 ..) (Ev.bind0 hfi (Ev.ite_neg (by omega) (Ev.const ?_)))
        rw [List.drop_of_length_le (by simp)]
        rfl
      · intro A hA2 ih
        rw [range_drop' _ A hA2, prt]
        refine Ev.step (fun k => impl_PartingOf.l0.eq_2 ..) (Ev.bind0 hfi (Ev.ite_pos (by omega) (Ev.bind0 hfi ?_)))
        rw [(rest_at m h7 A hA2).1, wrap_nat A (by omega)]
        refine Ev.bind (impl_common_ev m h7 s A (2 ^ m - 1 - A) hA2 (by omega) (hdis A hA2)) ?_
        cases hc : com m s A (2 ^ m - 1 - A) with
        | true => exact Ev.ite_pos rfl (Ev.now _)
        | false => exact Ev.ite_neg (by simp) ih
theorem FnExactPartingOf (s0 : S23) (hq : Q23 s0) : ∃ k, laws_FnExactPartingOf.f k s0.f0 s0.f1 = some true := by
  refine Ev.rounds (g := fun k => laws_FnExactPartingOf.f k s0.f0 s0.f1) ?_
  unfold laws_FnExactPartingOf.f
  refine Ev.bind0 (szSigns_eqO _ _ 1048576 (by omega) (by omega) hq.2) ?_
  by_cases hs : 1048576 < (s0.f1.size : Int)
  · rw [if_pos hs]
    exact Ev.ite_pos (by omega) (Ev.now _)
  rw [if_neg hs]
  refine Ev.ite_neg (by omega) ?_
  obtain ⟨v, h1, h2⟩ := parts_both s0.f0 s0.f1
  exact Ev.bind0 rfl (Ev.bind h1 (Ev.bind0 rfl (Ev.bind h2 (Ev.ite_pos rfl (Ev.ite_pos rfl (Ev.now _))))))
end Go.Proofs.Ytbglgapndefcfaa.Pure
