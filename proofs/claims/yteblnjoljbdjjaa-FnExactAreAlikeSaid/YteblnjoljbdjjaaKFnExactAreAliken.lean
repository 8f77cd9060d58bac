/- What the law FnExactAreAlike reaches, part 14: functions as plain Lean functions with the proofs that their calls come to them, and plain lemmas over these. Put together by a program (wip/pack.py). -/
import Derived.Test.YteblnjoljbdjjaaKFnExactAreAlikej
import Derived.Test.YteblnjoljbdjjaaKFnExactAreAlikee
import Derived.Test.YteblnjoljbdjjaaKFnExactAreAlikem
import Derived.Test.YteblnjoljbdjjaaKFnExactAreAlikec
import Derived.Test.YteblnjoljbdjjaaKFnExactAreAlikek
import Derived.Test.YteblnjoljbdjjaaKFnExactAreAlikeh
import Derived.Test.YteblnjoljbdjjaaKFnExactAreAliked
import Derived.Test.YteblnjoljbdjjaaKFnExactAreAlikei
import Derived.Test.YteblnjoljbdjjaaKFnExactAreAlikef
import Derived.Sort.Grow
import Derived.Shelf.SortM.Plain
import Derived.Shelf.SortM.SortNone
import Derived.Shelf.SlicesG.CompactS
import Derived.Sort.Walk0
import Derived.Lib.Bytes
import Derived.Test.YteblnjoljbdjjaaKFnExactAreAlikeg
import Derived.Test.YteblnjoljbdjjaaKFnExactAreAlikel
namespace Go.Proofs.Yteblnjoljbdjjaa.Pure
set_option linter.unusedSimpArgs false
set_option linter.unusedVariables false
open Go.RowKit Go.Proofs.YteblnjoljbdjjaaW.PrintWords Go.Proofs.Yteblnjoljbdjjaa.P Go.Proofs.Yteblnjoljbdjjaa.Pl
def inL (l : List Int) (x : Int) : Bool := (List.range l.length).any fun j : Nat => x == rd l (j : Int)
def nxt (n : Nat) (l : List Int) : List (List Int) := ((List.range n).filter fun i : Nat => !inL l (i : Int)).map fun i : Nat => l ++ [(i : Int)]
def lev (n : Nat) : Nat → List (List Int)
  | 0 => [[]]
  | k + 1 => (lev n k).flatMap (nxt n)
def AN (n : Nat) : List (List Int) := lev n n
theorem nxt_len (n : Nat) (l : List Int) : (nxt n l).length ≤ n := by
  have := List.length_filter_le (fun i : Nat => !inL l (i : Int)) (List.range n)
  simpa [nxt] using this
theorem flat_len (n : Nat) : ∀ L : List (List Int), (L.flatMap (nxt n)).length ≤ L.length * n := by
  intro L
  induction L with
  | nil => simp
  | cons l L ih =>
    have := nxt_len n l
    rw [List.flatMap_cons, List.length_append, List.length_cons, Nat.succ_mul]
    omega
theorem lev_len (n : Nat) (hn : n ≤ 6) : ∀ k, k ≤ 6 → (lev n k).length ≤ 6 ^ k := by
  intro k
  induction k with
  | zero => intro _; simp [lev]
  | succ k ih =>
    intro hk
    have h1 := ih (by omega)
    have h2 := flat_len n (lev n k)
    rw [lev, Nat.pow_succ]
    exact Nat.le_trans h2 (Nat.mul_le_mul h1 hn)
theorem lev_len2 (n : Nat) (hn : n ≤ 6) (k : Nat) (hk : k ≤ 6) : (lev n k).length ≤ 46656 := Nat.le_trans (lev_len n hn k hk) (Nat.le_trans (Nat.pow_le_pow_right (by omega) hk) (by decide))
theorem lev_mem (n : Nat) : ∀ k l, l ∈ lev n k → l.length = k := by
  intro k
  induction k with
  | zero => intro l h; simp [lev] at h; rw [h]; rfl
  | succ k ih =>
    intro l h
    rw [lev, List.mem_flatMap] at h
    obtain ⟨p, hp, h⟩ := h
    unfold nxt at h
    rw [List.mem_map] at h
    obtain ⟨i, _, rfl⟩ := h
    rw [List.length_append, ih p hp]
    rfl
theorem containsAll_ev (l : List Int) (hl : l.length ≤ 1000000) (x : Int) : Ev (fun k => slices_Contains_Sint_int.f k l x) (inL l x) := by
  have h := containsI_ev l l.length (Nat.le_refl _) hl x
  rw [List.take_length] at h
  exact h
theorem rdL (L : List (List Int)) (j : Nat) (h : j < L.length) : rd_L1 L (j : Int) = L[j] := by
  unfold rd_L1
  rw [Int.toNat_natCast, getD_lt _ _ _ h]
theorem nxt_snoc (n i : Nat) (l : List Int) : (((List.range (i + 1)).filter fun i : Nat => !inL l (i : Int)).map fun i : Nat => l ++ [(i : Int)]) = (((List.range i).filter fun i : Nat => !inL l (i : Int)).map fun i : Nat => l ++ [(i : Int)]) ++ if inL l (i : Int) then [] else [l ++ [(i : Int)]] := by
  rw [List.range_succ, List.filter_append, List.map_append]
  congr 1
  cases h : inL l (i : Int) <;> simp [h]
theorem part_len (n i : Nat) (l : List Int) : (((List.range i).filter fun i : Nat => !inL l (i : Int)).map fun i : Nat => l ++ [(i : Int)]).length ≤ i := by
  have := List.length_filter_le (fun i : Nat => !inL l (i : Int)) (List.range i)
  simpa using this
theorem take_flat (n j : Nat) (L : List (List Int)) (h : j < L.length) : (L.take (j + 1)).flatMap (nxt n) = (L.take j).flatMap (nxt n) ++ nxt n L[j] := by
  rw [List.take_succ_eq_append_getElem h, List.flatMap_append]
  simp
theorem allNames_ev (n : Nat) (hn : n ≤ 6) : Ev (fun k => impl_allNames.f k n) (AN n) := by
  unfold impl_allNames.f
  have key := Ev.loop (fun m k => impl_allNames.l0 k n (lev n m) m) n (AN n) ?_ ?_ 0 (by omega)
  · exact key
  · exact Ev.step (fun k => impl_allNames.l0.eq_2 ..) (Ev.ite_neg (by omega) (Ev.now _))
  · intro m hm ih
    have hL := lev_len2 n hn m (by omega)
    have hmem := lev_mem n m
    refine Ev.step (fun k => impl_allNames.l0.eq_2 ..) (Ev.ite_pos (by omega) ?_)
    rw [lev] at ih
    generalize lev n m = L at ih hL hmem ⊢
    have key := Ev.loop (fun j k => impl_allNames.l1 k n m ((L.take j).flatMap (nxt n)) L L.length j) L.length (AN n) ?_ ?_ 0 (by omega)
    · simpa using key
    · refine Ev.step (fun k => impl_allNames.l1.eq_2 ..) (Ev.ite_neg (by omega) ?_)
      rw [List.take_length, wrap_nat m (by omega)]
      exact ih
    · intro j hj ihj
      have hl1 := hmem _ (List.getElem_mem hj)
      have hb := flat_len n (L.take j)
      have hb2 : (L.take j).length * n ≤ 46656 * 6 := Nat.mul_le_mul (by rw [List.length_take]; omega) hn
      refine Ev.step (fun k => impl_allNames.l1.eq_2 ..) (Ev.ite_pos (by omega) (Ev.ite_pos (by omega) (Ev.ite_pos (by omega) ?_)))
      rw [rdL L j hj]
      rw [take_flat n j L hj] at ihj
      generalize L[j] = l at ihj hl1 ⊢
      have key := Ev.loop (fun i k => impl_allNames.l2 k n m ((L.take j).flatMap (nxt n) ++ (((List.range i).filter fun i : Nat => !inL l (i : Int)).map fun i : Nat => l ++ [(i : Int)])) l i L L.length j) n (AN n) ?_ ?_ 0 (by omega)
      · simpa using key
      · refine Ev.step (fun k => impl_allNames.l2.eq_2 ..) (Ev.ite_neg (by omega) ?_)
        rw [wrap_nat j (by omega)]
        exact ihj
      · intro i hi ihi
        have hp := part_len n i l
        rw [nxt_snoc n i l] at ihi
        refine Ev.step (fun k => impl_allNames.l2.eq_2 ..) (Ev.ite_pos (by omega) (Ev.bind (containsAll_ev l (by omega) _) ?_))
        rw [wrap_nat i (by omega)]
        cases hc : inL l (i : Int) with
        | true =>
          rw [hc, if_pos rfl, List.append_nil] at ihi
          exact Ev.ite_pos rfl ihi
        | false =>
          rw [hc, if_neg (by simp), ← List.append_assoc] at ihi
          refine Ev.ite_neg (by simp) (Ev.bind0 (a := l) ?_ (Ev.ite_pos (by omega) (Ev.ite_pos (by rw [List.length_append]; omega) ihi)))
          unfold slices_Clone_Sint_int.f
          simp
          omega
theorem place_ev (l : List Int) (hl : l.length ≤ 1000000) (x : Int) : ∃ r, Ev (fun k => spec_l12Place.f k l x) r ∧ decide (r < 0) = !inL l x := by
  unfold spec_l12Place.f inL
  have key : ∀ d i, i + d = l.length → ∃ r, Ev (fun k => spec_l12Place.l0 k l x i) r ∧ decide (r < 0) = !((List.range l.length).drop i).any fun j : Nat => x == rd l (j : Int) := by
    intro d
    induction d with
    | zero =>
      intro i hi
      refine ⟨-1, Ev.step (fun k => spec_l12Place.l0.eq_2 ..) (Ev.ite_neg (by omega) (Ev.now _)), ?_⟩
      rw [List.drop_of_length_le (by simp; omega)]
      rfl
    | succ d ih =>
      intro i hi
      obtain ⟨r, hr, he⟩ := ih (i + 1) (by omega)
      rw [range_drop' _ i (by omega), List.any_cons]
      by_cases hb : rd l (i : Int) = x
      · refine ⟨i, Ev.step (fun k => spec_l12Place.l0.eq_2 ..) (Ev.ite_pos (by omega) (Ev.ite_pos (by omega) (Ev.ite_pos hb (Ev.now _)))), ?_⟩
        rw [show (x == rd l (i : Int)) = true by simpa using hb.symm]
        simp
      · refine ⟨r, Ev.step (fun k => spec_l12Place.l0.eq_2 ..) (Ev.ite_pos (by omega) (Ev.ite_pos (by omega) (Ev.ite_neg hb ?_))), ?_⟩
        · rw [wrap_nat i (by omega)]
          exact hr
        · rw [he, show (x == rd l (i : Int)) = false by simpa using fun e => hb e.symm, Bool.false_or]
  obtain ⟨r, h1, h2⟩ := key l.length 0 (by omega)
  exact ⟨r, h1, by simpa using h2⟩
theorem orders_ev (n : Nat) (hn : n ≤ 6) : Ev (fun k => spec_l19Orders.f k n) (AN n) := by
  unfold spec_l19Orders.f
  have key := Ev.loop (fun m k => spec_l19Orders.l0 k n (lev n m) m) n (AN n) ?_ ?_ 0 (by omega)
  · exact key
  · exact Ev.step (fun k => spec_l19Orders.l0.eq_2 ..) (Ev.ite_neg (by omega) (Ev.now _))
  · intro m hm ih
    have hL := lev_len2 n hn m (by omega)
    have hmem := lev_mem n m
    refine Ev.step (fun k => spec_l19Orders.l0.eq_2 ..) (Ev.ite_pos (by omega) ?_)
    rw [lev] at ih
    generalize lev n m = L at ih hL hmem ⊢
    have key := Ev.loop (fun j k => spec_l19Orders.l1 k n L m ((L.take j).flatMap (nxt n)) j) L.length (AN n) ?_ ?_ 0 (by omega)
    · simpa using key
    · refine Ev.step (fun k => spec_l19Orders.l1.eq_2 ..) (Ev.ite_neg (by omega) ?_)
      rw [List.take_length, wrap_nat m (by omega)]
      exact ih
    · intro j hj ihj
      have hl1 := hmem _ (List.getElem_mem hj)
      have hb := flat_len n (L.take j)
      have hb2 : (L.take j).length * n ≤ 46656 * 6 := Nat.mul_le_mul (by rw [List.length_take]; omega) hn
      refine Ev.step (fun k => spec_l19Orders.l1.eq_2 ..) (Ev.ite_pos (by omega) ?_)
      rw [take_flat n j L hj] at ihj
      have hrd := rdL L j hj
      generalize L[j] = l at ihj hl1 hrd
      have key := Ev.loop (fun i k => spec_l19Orders.l2 k n L m ((L.take j).flatMap (nxt n) ++ (((List.range i).filter fun i : Nat => !inL l (i : Int)).map fun i : Nat => l ++ [(i : Int)])) j i) n (AN n) ?_ ?_ 0 (by omega)
      · simpa using key
      · refine Ev.step (fun k => spec_l19Orders.l2.eq_2 ..) (Ev.ite_neg (by omega) ?_)
        rw [wrap_nat j (by omega)]
        exact ihj
      · intro i hi ihi
        have hp := part_len n i l
        rw [nxt_snoc n i l] at ihi
        obtain ⟨r, hr, hr2⟩ := place_ev l (by omega) (i : Int)
        refine Ev.step (fun k => spec_l19Orders.l2.eq_2 ..) (Ev.ite_pos (by omega) (Ev.ite_pos (by omega) (Ev.ite_pos (by omega) ?_)))
        rw [hrd, wrap_nat i (by omega)]
        refine Ev.bind hr ?_
        cases hc : inL l (i : Int) with
        | true =>
          rw [hc] at hr2
          rw [hc, if_pos rfl, List.append_nil] at ihi
          exact Ev.ite_neg (by simpa using hr2) ihi
        | false =>
          rw [hc] at hr2
          rw [hc, if_neg (by simp), ← List.append_assoc] at ihi
          refine Ev.ite_pos (by simpa using hr2) (Ev.bind0 rfl (Ev.ite_pos (by simp; omega) (Ev.bind0 rfl (Ev.ite_pos (by simp; omega) (Ev.ite_pos (by rw [List.length_append]; omega) ?_)))))
          rw [List.nil_append]
          exact ihi
def inv (p : List Int) : List Int := (List.range p.length).map fun j : Nat => (p.idxOf (j : Int) : Int)
def okP (n : Nat) (p : List Int) : Bool := (p.length == n && (inv p).length == n) && (List.range n).all fun a => decide (0 ≤ rd p (a : Int) ∧ rd p (a : Int) < n ∧ 0 ≤ rd (inv p) (a : Int) ∧ rd (inv p) (a : Int) < n) && (List.range n).all fun x => decide ((x : Int) = rd p (a : Int)) == decide (rd (inv p) (x : Int) = (a : Int))
theorem all_P : (List.range 7).all (fun n => (AN n).all (okP n)) = true := by decide +kernel
theorem P_at (n : Nat) (hn : n ≤ 6) (p : List Int) (h : p ∈ AN n) : p.length = n ∧ (inv p).length = n ∧ ∀ a, a < n → (0 ≤ rd p (a : Int) ∧ rd p (a : Int) < n ∧ 0 ≤ rd (inv p) (a : Int) ∧ rd (inv p) (a : Int) < n) ∧ ∀ x, x < n → ((x : Int) = rd p (a : Int) ↔ rd (inv p) (x : Int) = (a : Int)) := by
  have g := all_P
  rw [List.all_eq_true] at g
  have g := g n (by simp; omega)
  rw [List.all_eq_true] at g
  have g := g p h
  unfold okP at g
  rw [Bool.and_eq_true, Bool.and_eq_true, beq_iff_eq, beq_iff_eq, List.all_eq_true] at g
  refine ⟨g.1.1, g.1.2, fun a ha => ?_⟩
  have k := g.2 a (by simpa using ha)
  rw [Bool.and_eq_true, decide_eq_true_eq, List.all_eq_true] at k
  refine ⟨k.1, fun x hx => ?_⟩
  exact decide_eq_decide.mp (eq_of_beq (k.2 x (by simpa using hx)))
theorem inv_perm : (List.range 7).all (fun n => ((AN n).map inv).isPerm (AN n)) = true := by decide +kernel
theorem inv_all (n : Nat) (hn : n ≤ 6) : ((AN n).map inv).Perm (AN n) := by
  have g := inv_perm
  rw [List.all_eq_true] at g
  exact List.isPerm_iff.mp (g n (by simp; omega))
theorem inv_mem (n : Nat) (hn : n ≤ 6) (p : List Int) (h : p ∈ AN n) : inv p ∈ AN n := (inv_all n hn).mem_iff.mp (List.mem_map_of_mem h)
end Go.Proofs.Yteblnjoljbdjjaa.Pure
namespace Go.Proofs.Yteblnjoljbdjjaa.P
open Go.RowKit Go.Proofs.YteblnjoljbdjjaaW.PrintWords Go.Proofs.YteblnjoljbdjjaaW.PrintLast Go.Proofs.YteblnjoljbdjjaaW.PrintMore
attribute [local go_sem] ptrOf_slice
attribute [local go_sem] min2_str max2_int min2_int max_two min_two max_three min_three max_four min_four
set_option linter.unusedVariables false
set_option linter.unusedSimpArgs false
def impl_chi_circuit.l0 : Nat → List Int → List Int → Int → Int → Option (ByteArray)
 | 0, _, _, _, _ => none
 | k + 1, x11, x56, x57, x58 => if x58 < x57 then (if 0 ≤ x58 then (if x58 < (x56.length : Int) then (if (rd x56 x58) > 0 then (if x11.length < 140737488355328 then (impl_chi_circuit.l0 k (x11 ++ [43]) x56 x57 (wrap64 (x58 + 1))) else (none)) else (if x11.length < 140737488355328 then (impl_chi_circuit.l0 k (x11 ++ [45]) x56 x57 (wrap64 (x58 + 1))) else (none))) else (none)) else (none)) else (if 0 < (x11.length : Int) then (if (rd x11 0) = 45 then ((impl_opposite.f (strOfNums x11)).bind fun t784 => (some t784)) else (some (strOfNums x11))) else (none))
def impl_chi_circuit.f (k : Nat) (l0 : List Int) (a1 : Int) (a2 : Int) (a3 : Int) (a4 : Int) : Option (ByteArray) := if 344 ≤ (l0.length : Int) then (if 0 ≤ a2 then (if a2 < 7 then (if 0 ≤ a3 then (if a3 < 7 then (if 0 ≤ a4 then (if a4 < 7 then (if 0 ≤ a1 then (if a1 < 7 then ((some (([chiA l0 a2 a3 a4, wrap64 (-(chiA l0 a1 a3 a4)), chiA l0 a1 a2 a4, wrap64 (-(chiA l0 a1 a2 a3))] : List Int) : List Int)).bind fun y773 => (impl_chi_circuit.l0 k ([] : List Int) y773 (y773.length : Int) 0)) else (none)) else (none)) else (none)) else (none)) else (none)) else (none)) else (none)) else (none)) else (none)
def impl_chi_circuit.T2 : Bool × List (List Nat × List Nat) := (true, [([], []), ([], []), ([], []), ([], []), ([0], [0]), ([4], [4]), ([5, 1], [1, 5]), ([6, 2], [2, 6]), ([7, 3], [3, 7]), ([8], [8]), ([], []), ([], []), ([], []), ([], []), ([10], [10]), ([14], [14]), ([15, 11], [11, 15]), ([16, 12], [12, 16]), ([17, 13], [13, 17]), ([18], [18]), ([19], [19]), ([], []), ([], []), ([], []), ([], []), ([21], [21]), ([25], [25]), ([26, 22], [22, 26]), ([27, 23], [23, 27]), ([28, 24], [24, 28]), ([29], [29]), ([], []), ([], []), ([], []), ([], []), ([31], [31]), ([35], [35]), ([36, 32], [32, 36]), ([37, 33], [33, 37]), ([38, 34], [34, 38]), ([39], [39]), ([40], [40]), ([9, 20, 30, 41], [9, 20, 30, 41]), ([42], [42]), ([], [])])
def impl_chi_circuit.B2 : List Nat := [0, 0, 0, 0, 1, 17, 51, 119, 255, 511, 0, 0, 0, 0, 1024, 17408, 52224, 121856, 261120, 523264, 1047552, 0, 0, 0, 0, 2097152, 35651584, 106954752, 249561088, 534773760, 1071644672, 0, 0, 0, 0, 2147483648, 36507222016, 109521666048, 255550554112, 547608330240, 1097364144128, 2196875771904, 4398046511103, 8796093022207, 0]
def impl_chi_split.l0 : Nat → ByteArray → Int → Int → List Int → Int → Int → Option (Int × Int)
 | 0, _, _, _, _, _, _ => none
 | k + 1, x12, x13, x14, x27, x28, x29 => if x29 < x28 then (if 0 ≤ x29 then (if x29 < (x27.length : Int) then (if x29 < (x12.size : Int) then (if (bt x12 x29) = 43 then (if 0 ≤ (rd x27 x29) then (impl_chi_split.l0 k x12 (Go.bits .or .i64 x13 (shl .i64 1 (rd x27 x29))) x14 x27 x28 (wrap64 (x29 + 1))) else (none)) else (if 0 ≤ (rd x27 x29) then (impl_chi_split.l0 k x12 x13 (Go.bits .or .i64 x14 (shl .i64 1 (rd x27 x29))) x27 x28 (wrap64 (x29 + 1))) else (none))) else (none)) else (none)) else (none)) else (some (x13, x14))
def impl_chi_split.f (k : Nat) (l0 : List Int) (a1 : Int) (a2 : Int) (a3 : Int) (a4 : Int) : Option (Int × Int) := (impl_chi_circuit.f k l0 a1 a2 a3 a4).bind fun t1131 => ((some (([a1, a2, a3, a4] : List Int) : List Int)).bind fun y1132 => (impl_chi_split.l0 k t1131 0 0 y1132 (y1132.length : Int) 0))
def spec_l4Circuit.f (k : Nat) (a0_0 : Int) (a0_1 : ByteArray) (a1 : Int) (a2 : Int) (a3 : Int) (a4 : Int) : Option (ByteArray) := (spec_l3At.f k a0_0 a0_1 a2 a3 a4).bind fun t692 => ((spec_l3At.f k a0_0 a0_1 a1 a3 a4).bind fun t693 => ((spec_l3Byte.f (wrap64 ((wrap64 (-t692)) * t693))).bind fun t694 => (if 1 + t694.size ≤ 9223372036854775807 then ((spec_l3At.f k a0_0 a0_1 a1 a2 a4).bind fun t695 => ((spec_l3Byte.f (wrap64 (t692 * t695))).bind fun t696 => (if ((⟨#[43]⟩ : ByteArray) ++ t694).size + t696.size ≤ 9223372036854775807 then ((spec_l3At.f k a0_0 a0_1 a1 a2 a3).bind fun t697 => ((spec_l3Byte.f (wrap64 ((wrap64 (-t692)) * t697))).bind fun t698 => (if (((⟨#[43]⟩ : ByteArray) ++ t694) ++ t696).size + t698.size ≤ 9223372036854775807 then (some ((((⟨#[43]⟩ : ByteArray) ++ t694) ++ t696) ++ t698)) else (none)))) else (none)))) else (none))))
def spec_l4Circuit.T2 : Bool × List (List Nat × List Nat) := (true, [([], []), ([0], [0]), ([], []), ([], []), ([], []), ([], []), ([2, 3, 4, 5], [2, 3, 4, 5]), ([1, 6], [1, 6]), ([7, 6], [7]), ([8], [8]), ([], []), ([], []), ([], []), ([], []), ([], []), ([11, 12, 13, 14, 8], [11, 12, 13, 14]), ([10, 15], [10, 15]), ([16, 15], [16]), ([9, 17], [9, 17]), ([18, 17, 0, 1, 2, 3, 4, 5, 6, 7, 8, 9, 10, 11, 12, 13, 14, 15, 16, 17, 18], [18])])
def spec_l4Circuit.B2 : List Nat := [0, 1, 0, 0, 0, 0, 60, 127, 255, 511, 0, 0, 0, 0, 0, 31231, 65023, 130559, 262143, 524287]
def spec_l5Split.l0 : Nat → List Int → ByteArray → Int → Int → Int → Option (Int × Int)
 | 0, _, _, _, _, _ => none
 | k + 1, x1, x6, x7, x8, x9 => if x9 < 4 then (if 0 ≤ x9 then (if x9 < (x6.size : Int) then (if (bt x6 x9) = 43 then (if x9 < (x1.length : Int) then (if 0 ≤ (IntKind.u64.wrap (rd x1 x9)) then (spec_l5Split.l0 k x1 x6 (wrap64 (x7 + (shl .i64 1 (IntKind.u64.wrap (rd x1 x9))))) x8 (wrap64 (x9 + 1))) else (none)) else (none)) else (if x9 < (x1.length : Int) then (if 0 ≤ (IntKind.u64.wrap (rd x1 x9)) then (spec_l5Split.l0 k x1 x6 x7 (wrap64 (x8 + (shl .i64 1 (IntKind.u64.wrap (rd x1 x9))))) (wrap64 (x9 + 1))) else (none)) else (none))) else (none)) else (none)) else (some (x7, x8))
def spec_l5Split.f (k : Nat) (a0_0 : Int) (a0_1 : ByteArray) (l1 : List Int) : Option (Int × Int) := if 0 < (l1.length : Int) then (if 1 < (l1.length : Int) then (if 2 < (l1.length : Int) then (if 3 < (l1.length : Int) then ((spec_l4Circuit.f k a0_0 a0_1 (rd l1 0) (rd l1 1) (rd l1 2) (rd l1 3)).bind fun t1061 => (spec_l5Split.l0 k l1 t1061 0 0 0)) else (none)) else (none)) else (none)) else (none)
def spec_l5Split.T1 : Bool × List (List Nat × List Nat) := (true, [([], []), ([], []), ([1], [1]), ([2], [2]), ([], []), ([4], [4]), ([5], [5]), ([], []), ([7], [7]), ([8], [8]), ([], []), ([10], [10]), ([11], [11]), ([0, 3, 6, 9, 12], [0, 3, 6, 9, 12]), ([13, 13, 0, 1, 2, 3, 4, 5, 6, 7, 8, 9, 10, 11, 12, 13], [13])])
def spec_l5Split.B1 : List Nat := [0, 0, 2, 6, 0, 16, 48, 0, 128, 384, 0, 1024, 3072, 8191, 16383]
end Go.Proofs.Yteblnjoljbdjjaa.P
namespace Go.Proofs.Yteblnjoljbdjjaa.Pure
set_option linter.unusedSimpArgs false
set_option linter.unusedVariables false
open Go.RowKit Go.Proofs.YteblnjoljbdjjaaW.PrintWords Go.Proofs.Yteblnjoljbdjjaa.P Go.Proofs.Yteblnjoljbdjjaa.Pl
abbrev Q4 := S174
def quad : Nat → List Q4
  | 4 => [⟨0, 1, 2, 3⟩]
  | 5 => [⟨0, 1, 2, 3⟩, ⟨0, 1, 2, 4⟩, ⟨0, 1, 3, 4⟩, ⟨0, 2, 3, 4⟩, ⟨1, 2, 3, 4⟩]
  | 6 => [⟨0, 1, 2, 3⟩, ⟨0, 1, 2, 4⟩, ⟨0, 1, 2, 5⟩, ⟨0, 1, 3, 4⟩, ⟨0, 1, 3, 5⟩, ⟨0, 1, 4, 5⟩, ⟨0, 2, 3, 4⟩, ⟨0, 2, 3, 5⟩, ⟨0, 2, 4, 5⟩, ⟨0, 3, 4, 5⟩, ⟨1, 2, 3, 4⟩, ⟨1, 2, 3, 5⟩, ⟨1, 2, 4, 5⟩, ⟨1, 3, 4, 5⟩, ⟨2, 3, 4, 5⟩]
  | 7 => [⟨0, 1, 2, 3⟩, ⟨0, 1, 2, 4⟩, ⟨0, 1, 2, 5⟩, ⟨0, 1, 2, 6⟩, ⟨0, 1, 3, 4⟩, ⟨0, 1, 3, 5⟩, ⟨0, 1, 3, 6⟩, ⟨0, 1, 4, 5⟩, ⟨0, 1, 4, 6⟩, ⟨0, 1, 5, 6⟩, ⟨0, 2, 3, 4⟩, ⟨0, 2, 3, 5⟩, ⟨0, 2, 3, 6⟩, ⟨0, 2, 4, 5⟩, ⟨0, 2, 4, 6⟩, ⟨0, 2, 5, 6⟩, ⟨0, 3, 4, 5⟩, ⟨0, 3, 4, 6⟩, ⟨0, 3, 5, 6⟩, ⟨0, 4, 5, 6⟩, ⟨1, 2, 3, 4⟩, ⟨1, 2, 3, 5⟩, ⟨1, 2, 3, 6⟩, ⟨1, 2, 4, 5⟩, ⟨1, 2, 4, 6⟩, ⟨1, 2, 5, 6⟩, ⟨1, 3, 4, 5⟩, ⟨1, 3, 4, 6⟩, ⟨1, 3, 5, 6⟩, ⟨1, 4, 5, 6⟩, ⟨2, 3, 4, 5⟩, ⟨2, 3, 4, 6⟩, ⟨2, 3, 5, 6⟩, ⟨2, 4, 5, 6⟩, ⟨3, 4, 5, 6⟩]
  | _ => []
def okQ (n : Nat) (q : Q4) : Bool := decide (0 ≤ q.f0 ∧ q.f0 < q.f1 ∧ q.f1 < q.f2 ∧ q.f2 < q.f3 ∧ q.f3 < n)
def brk (n : Nat) (s : ByteArray) (a b c d e : Int) : Bool :=
  decide (wrap64 (sg n s a b c * sg n s a d e) = wrap64 (sg n s a b e * sg n s a c d)) && (wrap64 (sg n s a b e * sg n s a c d) == wrap64 ((wrap64 (-(sg n s a b d))) * sg n s a c e))
def avoid (a : Int) (q : Q4) : Bool := !(q.f0 == a || q.f1 == a || q.f2 == a || q.f3 == a)
def brkQ (n : Nat) (s : ByteArray) (a : Int) (q : Q4) : Bool := brk n s a q.f0 q.f1 q.f2 q.f3
def anyA (n : Nat) (s : ByteArray) (a : Nat) : Bool := (quad n).any fun q => avoid a q && brkQ n s a q
def anyB (n : Nat) (s : ByteArray) : Bool := (List.range n).any (anyA n s)
def oth (n a : Nat) : List Int := ((List.range n).filter fun x => x != a).map fun x : Nat => (x : Int)
def listQ (n a : Nat) : List Q4 :=
  ((List.range (oth n a).length).drop 0).flatMap fun b : Nat => ((List.range (oth n a).length).drop (b + 1)).flatMap fun c : Nat => ((List.range (oth n a).length).drop (c + 1)).flatMap fun d : Nat => ((List.range (oth n a).length).drop (d + 1)).map fun e : Nat =>
    (⟨rd (oth n a) (b : Int), rd (oth n a) (c : Int), rd (oth n a) (d : Int), rd (oth n a) (e : Int)⟩ : Q4)
def tup (q : Q4) : Int × Int × Int × Int := (q.f0, q.f1, q.f2, q.f3)
def untup (q : Int × Int × Int × Int) : Q4 := ⟨q.1, q.2.1, q.2.2.1, q.2.2.2⟩
section
variable (n : Nat) (s : ByteArray) (a : Nat)
def b4 (b c d e : Nat) : Bool := brk n s a (rd (oth n a) (b : Int)) (rd (oth n a) (c : Int)) (rd (oth n a) (d : Int)) (rd (oth n a) (e : Int))
def b3 (b c d : Nat) : Bool := ((List.range (oth n a).length).drop (d + 1)).any (b4 n s a b c d)
def b2 (b c : Nat) : Bool := ((List.range (oth n a).length).drop (c + 1)).any (b3 n s a b c)
def b1 (b : Nat) : Bool := ((List.range (oth n a).length).drop (b + 1)).any (b2 n s a b)
end
def isM (n : Int) (s : ByteArray) : Bool := isS n s && !anyB n.toNat s
def byteS (v : Int) : ByteArray := if v > 0 then ⟨#[43]⟩ else ⟨#[45]⟩
def circT (p q r t : Int) : ByteArray := (((⟨#[43]⟩ : ByteArray) ++ byteS (wrap64 ((wrap64 (-p)) * q))) ++ byteS (wrap64 (p * r))) ++ byteS (wrap64 ((wrap64 (-p)) * t))
theorem l3Byte_eq (v : Int) : spec_l3Byte.f v = some (byteS v) := by
  unfold spec_l3Byte.f byteS
  by_cases h : v > 0
  · rw [if_pos h, if_pos h]
  · rw [if_neg h, if_neg h]
theorem byteS_size (v : Int) : (byteS v).size = 1 := by
  unfold byteS
  by_cases h : v > 0
  · rw [if_pos h]; rfl
  · rw [if_neg h]; rfl
def pm1 : List Int := [1, -1]
def listC (n : Nat) : List Q4 :=
  ((List.range n).drop 0).flatMap fun a : Nat => ((List.range n).drop (a + 1)).flatMap fun b : Nat => ((List.range n).drop (b + 1)).flatMap fun c : Nat => ((List.range n).drop (c + 1)).map fun d : Nat => (⟨a, b, c, d⟩ : Q4)
def mixed (n : Nat) (s : ByteArray) (a b c d : Int) : Bool := !decide ((circT (sg n s b c d) (sg n s a c d) (sg n s a b d) (sg n s a b c)).toList = ([43, 43, 43, 43] : List UInt8))
def mixQ (n : Nat) (s : ByteArray) (q : Q4) : Bool := mixed n s q.f0 q.f1 q.f2 q.f3
def acyT (n : Nat) (s : ByteArray) : Bool := (quad n).all (mixQ n s)
section
variable (n : Nat) (s : ByteArray)
def m4 (a b c d : Nat) : Bool := mixed n s a b c d
def m3 (a b c : Nat) : Bool := ((List.range n).drop (c + 1)).all (m4 n s a b c)
def m2 (a b : Nat) : Bool := ((List.range n).drop (b + 1)).all (m3 n s a b)
def m1 (a : Nat) : Bool := ((List.range n).drop (a + 1)).all (m2 n s a)
end
def isA (n : Int) (s : ByteArray) : Bool := isM n s && acyT n.toNat s
def D4 (n a b c d : Nat) : Prop := (a < n ∧ b < n ∧ c < n ∧ d < n) ∧ (a ≠ b ∧ a ≠ c ∧ a ≠ d ∧ b ≠ c ∧ b ≠ d ∧ c ≠ d)
def ct (n : Nat) (s : ByteArray) (a b c d : Nat) : ByteArray := circT (sg n s b c d) (sg n s a c d) (sg n s a b d) (sg n s a b c)
def sb (x : Bool) : UInt8 := if x then 43 else 45
def txt (x y z : Bool) : ByteArray := ⟨#[43, sb x, sb y, sb z]⟩
def cx (n : Nat) (s : ByteArray) (a b c d : Nat) : Bool := sg n s b c d != sg n s a c d
def cy (n : Nat) (s : ByteArray) (a b c d : Nat) : Bool := sg n s b c d == sg n s a b d
def cz (n : Nat) (s : ByteArray) (a b c d : Nat) : Bool := sg n s b c d != sg n s a b c
def bools : List Bool := [true, false]
def spl (x y z : Bool) (a b c d : Nat) : Int × Int :=
  let e : Nat → Bool → Int := fun i p => if p then 2 ^ i else 0
  (2 ^ a + e b x + e c y + e d z, e b (!x) + e c (!y) + e d (!z))
def okSpl (a b c d : Nat) : Bool := a == b || a == c || a == d || b == c || b == d || c == d || bools.all fun x => bools.all fun y => bools.all fun z =>
  impl_chi_split.l0 6 (txt x y z) 0 0 [(a : Int), b, c, d] 4 0 == some (spl x y z a b c d) && spec_l5Split.l0 6 [(a : Int), b, c, d] (txt x y z) 0 0 0 == some (spl x y z a b c d)
theorem D4.up {n a b c d : Nat} (h : D4 n a b c d) (hn : n ≤ 7) : D4 7 a b c d := by
  obtain ⟨⟨ha, hb, hc, hd⟩, h1, h2, h3, h4, h5, h6⟩ := h
  exact ⟨⟨by omega, by omega, by omega, by omega⟩, h1, h2, h3, h4, h5, h6⟩
def sp (n : Nat) (s : ByteArray) (a b c d : Nat) : Int × Int := spl (cx n s a b c d) (cy n s a b c d) (cz n s a b c d) a b c d
def pick1 (x : Int) : List Nat → Int
  | [] => -1
  | i :: is => if x = 2 ^ i then i else pick1 x is
def only (x : Int) : Int := pick1 x (List.range 7)
def inn (n : Nat) (s : ByteArray) (a b c d : Nat) : Int := mx (only (sp n s a b c d).1) (only (sp n s a b c d).2)
def has (set : Int) (i : Nat) : Bool := (Go.bits .and .i64 (shr .i64 set (i : Int)) 1) == 1
def listT (n : Nat) : List T3 :=
  ((List.range n).drop 0).flatMap fun a : Nat => ((List.range n).drop (a + 1)).flatMap fun b : Nat => ((List.range n).drop (b + 1)).map fun c : Nat => (⟨a, b, c⟩ : T3)
def tupT (q : T3) : Int × Int × Int := (q.f0, q.f1, q.f2)
def untupT (q : Int × Int × Int) : T3 := ⟨q.1, q.2.1, q.2.2⟩
theorem untupT_map (l : List T3) : (l.map tupT).map untupT = l := by
  rw [List.map_map]
  exact List.map_id' l
theorem all_t : (List.range 8).all (fun n => (listT n).map tupT == (tri n).map tupT) = true := by decide +kernel
theorem listT_eq (n : Nat) (hn : n ≤ 7) : listT n = tri n := by
  have h := all_t
  rw [List.all_eq_true] at h
  have h := congrArg (List.map untupT) (eq_of_beq (h n (by simp; omega)))
  rwa [untupT_map, untupT_map] at h
def okMask (set a b c : Nat) : Bool := decide (Go.bits .and .i64 (set : Int) (Go.bits .or .i64 (Go.bits .or .i64 (shl .i64 1 (a : Int)) (shl .i64 1 (b : Int))) (shl .i64 1 (c : Int))) = Go.bits .or .i64 (Go.bits .or .i64 (shl .i64 1 (a : Int)) (shl .i64 1 (b : Int))) (shl .i64 1 (c : Int))) == (has set a && has set b && has set c)
def hulT (n : Nat) (s : ByteArray) (set : Int) (p : Nat) (a b c : Nat) : Bool := has set a && has set b && has set c && (inn n s p a b c == p)
def hul (n : Nat) (s : ByteArray) (set : Int) (p : Nat) : Bool := (tri n).any fun t => hulT n s set p t.f0.toNat t.f1.toNat t.f2.toNat
def pm (v : Int) : Int := if v > 0 then 43 else 45
def codesT (l : List Int) (ts : List T3) : List Int := ts.map fun t => pm (chiA l t.f0 t.f1 t.f2)
theorem signs_ev (n : Nat) (hn : n ≤ 7) (l : List Int) (hl : l.length = 344) (hc : chiN l = n) : Ev (fun k => impl_chi_signs.f k l) ((n : Int), strOfNums (codesT l (tri n))) := by
  unfold impl_chi_signs.f
  rw [hc]
  refine Ev.ite_pos (by omega) (Ev.bind (triplesOf_ev n hn) ?_)
  have h35 : (tri n).length ≤ 1000 := by
    have : (List.range 8).all (fun n => decide ((tri n).length ≤ 1000)) = true := by decide +kernel
    rw [List.all_eq_true] at this
    simpa using this n (by simp; omega)
  have key := Ev.loop (fun i k => impl_chi_signs.l0 k l (codesT l ((tri n).take i)) (tri n) (tri n).length i) (tri n).length ((n : Int), strOfNums (codesT l (tri n))) ?_ ?_ 0 (by omega)
  · simpa [codesT] using key
  · refine Ev.step (fun k => impl_chi_signs.l0.eq_2 ..) (Ev.ite_neg (by omega) (Ev.ite_pos (by omega) (Ev.const ?_)))
    rw [List.take_length, hc]
  · intro i hi ih
    have ht := tri_at n hn i hi
    have hlen : (codesT l ((tri n).take i)).length < 140737488355328 := by unfold codesT; simp; omega
    refine Ev.step (fun k => impl_chi_signs.l0.eq_2 ..) (Ev.ite_pos (by omega) (Ev.ite_pos (by omega) (Ev.ite_pos (by omega) (Ev.ite_pos (by omega) ?_))))
    rw [wrap_nat i (by omega), rdT_lt _ i hi]
    have hcod : codesT l ((tri n).take (i + 1)) = codesT l ((tri n).take i) ++ [pm (chiA l (tri n)[i].f0 (tri n)[i].f1 (tri n)[i].f2)] := by
      unfold codesT
      rw [List.take_succ_eq_append_getElem hi, List.map_append]
      rfl
    rw [hcod] at ih
    generalize (tri n)[i] = t at ih ht ⊢
    unfold okT at ht
    rw [decide_eq_true_eq] at ht
    refine Ev.ite_pos (by omega) (Ev.ite_pos (by omega) (Ev.ite_pos (by omega) (Ev.ite_pos (by omega) (Ev.ite_pos (by omega) (Ev.ite_pos (by omega) ?_)))))
    unfold pm at ih
    by_cases h : chiA l t.f0 t.f1 t.f2 > 0
    · rw [if_pos h] at ih
      exact Ev.ite_pos h (Ev.ite_pos hlen ih)
    · rw [if_neg h] at ih
      exact Ev.ite_neg h (Ev.ite_pos hlen ih)
theorem all_tri : (List.range 8).all (fun n => (List.range (tri n).length).all fun m => (let t := (tri n).getD m ⟨0, 0, 0⟩; src (tri n) 0 t.f0 t.f1 t.f2 == some (m, true))) = true := by decide +kernel
theorem tri_src (n : Nat) (hn : n ≤ 7) (m : Nat) (hm : m < (tri n).length) : src (tri n) 0 (tri n)[m].f0 (tri n)[m].f1 (tri n)[m].f2 = some (m, true) := by
  have g := all_tri
  rw [List.all_eq_true] at g
  have g := g n (by simp; omega)
  rw [List.all_eq_true] at g
  have g := g m (by simpa using hm)
  rw [getD_lt _ _ _ hm] at g
  simpa using g
theorem tri_nat (n : Nat) (hn : n ≤ 7) (m : Nat) (hm : m < (tri n).length) : ∃ a b c : Nat, a < b ∧ b < c ∧ c < n ∧ (tri n)[m] = ⟨a, b, c⟩ := by
  have h := tri_ok n hn
  rw [List.all_eq_true] at h
  have h := h _ (List.getElem_mem hm)
  generalize (tri n)[m] = t at h ⊢
  obtain ⟨a, b, c⟩ := t
  unfold okT at h
  rw [decide_eq_true_eq] at h
  dsimp only at h
  obtain ⟨a, rfl⟩ := Int.eq_ofNat_of_zero_le h.1
  obtain ⟨b, rfl⟩ := Int.eq_ofNat_of_zero_le (show 0 ≤ b by omega)
  obtain ⟨c, rfl⟩ := Int.eq_ofNat_of_zero_le (show 0 ≤ c by omega)
  exact ⟨a, b, c, by omega, by omega, by omega, rfl⟩
theorem tab_tri (n : Nat) (hn : n ≤ 7) (s : ByteArray) (m : Nat) (hm : m < (tri n).length) : chiA (tab n s) (tri n)[m].f0 (tri n)[m].f1 (tri n)[m].f2 = sgAt s m := by
  obtain ⟨a, b, c, h1, h2, h3, e⟩ := tri_nat n hn m hm
  have hs := tri_src n hn m hm
  rw [e] at hs ⊢
  dsimp only at hs ⊢
  rw [tab_at n hn s a b c (by omega) (by omega) (by omega)]
  unfold sg
  rw [hs]
  rfl
def okD3 (t : T3) : Prop := ∃ a b c : Nat, t = ⟨a, b, c⟩ ∧ a < 7 ∧ b < 7 ∧ c < 7 ∧ a ≠ b ∧ b ≠ c ∧ a ≠ c
theorem chiA_put3d (l : List Int) (hl : l.length = 344) (t : T3) (ht : okD3 t) (v : Int) (x y z : Nat) (hx : x < 7) (hy : y < 7) (hz : z < 7) :
    chiA (put3 l t v) x y z = match par t x y z with | some true => v | some false => wrap64 (-v) | none => chiA l x y z := by
  obtain ⟨a, b, c, rfl, ha, hb, hc, h1, h2, h3⟩ := ht
  exact chiA_set l hl a b c ha hb hc h1 h2 h3 v x y z hx hy hz
theorem chiA_filld (v : Nat → Int) (x y z : Nat) (hx : x < 7) (hy : y < 7) (hz : z < 7) : ∀ (ts : List T3), (∀ t ∈ ts, okD3 t) → ∀ m l, l.length = 344 → chiA (fill v ts m l) x y z = sval v (chiA l x y z) (src ts m x y z) := by
  intro ts
  induction ts with
  | nil => intro _ m l _; rfl
  | cons t ts ih =>
    intro h m l hl
    rw [fill, ih (fun u hu => h u (List.mem_cons_of_mem _ hu)) (m + 1) _ (by unfold put3; rw [chiSet_length]; exact hl), chiA_put3d l hl t (h t List.mem_cons_self) (v m) x y z hx hy hz, src]
    cases hs : src ts (m + 1) x y z with
    | some p => obtain ⟨q, b⟩ := p; cases b <;> rfl
    | none =>
      cases hp : par t x y z with
      | none => rfl
      | some b => cases b <;> rfl
def permT (p : List Int) (t : T3) : T3 := ⟨rd p t.f0, rd p t.f1, rd p t.f2⟩
def isP (n : Nat) (p : List Int) : Prop := p.length = n ∧ (inv p).length = n ∧ ∀ a, a < n → (0 ≤ rd p (a : Int) ∧ rd p (a : Int) < n ∧ 0 ≤ rd (inv p) (a : Int) ∧ rd (inv p) (a : Int) < n) ∧ ∀ x, x < n → ((x : Int) = rd p (a : Int) ↔ rd (inv p) (x : Int) = (a : Int))
theorem par_perm (n : Nat) (p : List Int) (hp : isP n p) (a b c x y z : Nat) (ha : a < n) (hb : b < n) (hc : c < n) (hx : x < n) (hy : y < n) (hz : z < n) :
    par (permT p ⟨a, b, c⟩) x y z = par ⟨a, b, c⟩ (rd (inv p) (x : Int)) (rd (inv p) (y : Int)) (rd (inv p) (z : Int)) := by
  have h : ∀ u v : Nat, u < n → v < n → ((u : Int) = rd p (v : Int) ↔ rd (inv p) (u : Int) = (v : Int)) := fun u v hu hv => (hp.2.2 v hv).2 u hu
  unfold par permT
  simp only [h x a hx ha, h x b hx hb, h x c hx hc, h y a hy ha, h y b hy hb, h y c hy hc, h z a hz ha, h z b hz hb, h z c hz hc]
theorem src_perm (n : Nat) (p : List Int) (hp : isP n p) (x y z : Nat) (hx : x < n) (hy : y < n) (hz : z < n) : ∀ (ts : List T3), (∀ t ∈ ts, ∃ a b c : Nat, t = ⟨a, b, c⟩ ∧ a < n ∧ b < n ∧ c < n) → ∀ m,
    src (ts.map (permT p)) m x y z = src ts m (rd (inv p) (x : Int)) (rd (inv p) (y : Int)) (rd (inv p) (z : Int)) := by
  intro ts
  induction ts with
  | nil => intro _ m; rfl
  | cons t ts ih =>
    intro h m
    obtain ⟨a, b, c, rfl, ha, hb, hc⟩ := h t List.mem_cons_self
    rw [List.map_cons, src, src, ih (fun u hu => h u (List.mem_cons_of_mem _ hu)), par_perm n p hp a b c x y z ha hb hc hx hy hz]
theorem tri_mem (n : Nat) (hn : n ≤ 7) (t : T3) (h : t ∈ tri n) : ∃ a b c : Nat, t = ⟨a, b, c⟩ ∧ a < b ∧ b < c ∧ c < n := by
  obtain ⟨m, hm, rfl⟩ := List.getElem_of_mem h
  obtain ⟨a, b, c, h1, h2, h3, e⟩ := tri_nat n hn m hm
  exact ⟨a, b, c, e, h1, h2, h3⟩
theorem perm_ne (n : Nat) (p : List Int) (hp : isP n p) (a b : Nat) (ha : a < n) (hb : b < n) (h : a ≠ b) : rd p (a : Int) ≠ rd p (b : Int) := by
  intro e
  have h1 := hp.2.2 a ha
  have h2 := hp.2.2 b hb
  obtain ⟨u, hu⟩ := Int.eq_ofNat_of_zero_le h1.1.1
  have hun : u < n := by omega
  have k1 := (h1.2 u hun).mp hu.symm
  have k2 := (h2.2 u hun).mp (by rw [← e]; exact hu.symm)
  omega
theorem permT_ok (n : Nat) (hn : n ≤ 7) (p : List Int) (hp : isP n p) (t : T3) (h : t ∈ tri n) : okD3 (permT p t) := by
  obtain ⟨a, b, c, rfl, h1, h2, h3⟩ := tri_mem n hn t h
  have ka := (hp.2.2 a (by omega)).1
  have kb := (hp.2.2 b (by omega)).1
  have kc := (hp.2.2 c (by omega)).1
  have n1 := perm_ne n p hp a b (by omega) (by omega) (by omega)
  have n2 := perm_ne n p hp b c (by omega) (by omega) (by omega)
  have n3 := perm_ne n p hp a c (by omega) (by omega) (by omega)
  exact ⟨(rd p (a : Int)).toNat, (rd p (b : Int)).toNat, (rd p (c : Int)).toNat, by unfold permT; congr 1 <;> dsimp only <;> omega, by omega, by omega, by omega, by omega, by omega, by omega⟩
def pickC (n : Nat) (s : ByteArray) (q : List Int) : List Int := (tri n).map fun t => pm (sg n s (rd q t.f0) (rd q t.f1) (rd q t.f2))
def pickT (n : Nat) (s : ByteArray) (q : List Int) : ByteArray := strOfNums (pickC n s q)
theorem rename_ev (n : Nat) (hn : n ≤ 7) (s : ByteArray) (p : List Int) (hp : isP n p) : Ev (fun k => impl_chi_rename.f k (tab n s) p) ((n : Int), pickT n s (inv p)) := by
  have hl := tab_length n s
  have h35 : (tri n).length ≤ 1000 := by
    have : (List.range 8).all (fun n => decide ((tri n).length ≤ 1000)) = true := by decide +kernel
    rw [List.all_eq_true] at this
    simpa using this n (by simp; omega)
  unfold impl_chi_rename.f
  rw [tab_n]
  refine Ev.ite_pos (by omega) (Ev.bind (triplesOf_ev n hn) ?_)
  have key := Ev.loop (fun i k => impl_chi_rename.l0 k (tab n s) p (fill (sgAt s) (((tri n).take i).map (permT p)) 0 (chiNew n)) (tri n) (tri n).length i) (tri n).length ((n : Int), pickT n s (inv p)) ?_ ?_ 0 (by omega)
  · simpa [fill] using key
  · have hY : (fill (sgAt s) ((tri n).map (permT p)) 0 (chiNew n)).length = 344 := by rw [fill_length, chiNew_length]
    have hN : chiN (fill (sgAt s) ((tri n).map (permT p)) 0 (chiNew n)) = n := by rw [chiN_fill _ _ _ _ (chiNew_length _)]; rfl
    rw [List.take_length]
    refine Ev.step (fun k => impl_chi_rename.l0.eq_2 ..) (Ev.ite_neg (by omega) (Ev.bind (signs_ev n hn _ hY hN) (Ev.const ?_)))
    have e : codesT (fill (sgAt s) ((tri n).map (permT p)) 0 (chiNew n)) (tri n) = pickC n s (inv p) := by
      unfold codesT pickC
      apply List.map_congr_left
      intro t ht
      obtain ⟨a, b, c, rfl, h1, h2, h3⟩ := tri_mem n hn t ht
      dsimp only
      rw [chiA_filld (sgAt s) a b c (by omega) (by omega) (by omega) _ (fun u hu => by obtain ⟨w, hw, rfl⟩ := List.mem_map.mp hu; exact permT_ok n hn p hp w hw) 0 _ (chiNew_length _), chiA_new _ a b c (by omega) (by omega) (by omega)]
      rw [src_perm n p hp a b c (by omega) (by omega) (by omega) (tri n) (fun u hu => by obtain ⟨x, y, z, e, g1, g2, g3⟩ := tri_mem n hn u hu; exact ⟨x, y, z, e, by omega, by omega, by omega⟩) 0]
      rfl
    rw [e]
    rfl
  · intro i hi ih
    have hm := List.getElem_mem hi
    obtain ⟨a, b, c, hab, hbc, hcn, e⟩ := tri_nat n hn i hi
    have hok := permT_ok n hn p hp _ hm
    have htab := tab_tri n hn s i hi
    refine Ev.step (fun k => impl_chi_rename.l0.eq_2 ..) (Ev.ite_pos (by omega) (Ev.ite_pos (by omega) (Ev.ite_pos (by omega) ?_)))
    rw [rdT_lt _ i hi, wrap_nat i (by omega)]
    rw [List.take_succ_eq_append_getElem hi, List.map_append, fill_append, Nat.zero_add, List.length_map, List.length_take, Nat.min_eq_left (by omega)] at ih
    have hlY : (fill (sgAt s) (((tri n).take i).map (permT p)) 0 (chiNew n)).length = 344 := by rw [fill_length, chiNew_length]
    rw [e] at hok htab ih ⊢
    generalize fill (sgAt s) (((tri n).take i).map (permT p)) 0 (chiNew n) = Y at ih hlY ⊢
    dsimp only at htab ⊢
    have hpl := hp.1
    refine Ev.ite_pos (by omega) (Ev.ite_pos (by omega) (Ev.ite_pos (by omega) (Ev.ite_pos (by omega) (Ev.ite_pos (by omega) (Ev.ite_pos (by omega) (Ev.ite_pos (by omega) (Ev.ite_pos (by omega) (Ev.ite_pos (by omega) (Ev.ite_pos (by omega) ?_)))))))))
    rw [htab]
    refine Ev.bind0 (a := put3 Y (permT p ⟨a, b, c⟩) (sgAt s i)) ?_ ih
    obtain ⟨u, v, w, eu, hu, hv, hw, n1, n2, n3⟩ := hok
    have e1 : rd p (a : Int) = u := congrArg S122.f0 eu
    have e2 : rd p (b : Int) = v := congrArg S122.f1 eu
    have e3 : rd p (c : Int) = w := congrArg S122.f2 eu
    rw [eu, e1, e2, e3]
    unfold impl_chi_set.f
    rw [if_pos ⟨hlY, by omega, by omega, by omega⟩]
    rfl
theorem Ev.loopS {σ ρ : Type} (g : σ → Nat → Nat → Option ρ) (m : Nat) (I : σ → Nat → Prop) (R : σ → Nat → ρ) (hend : ∀ S, I S m → Ev (g S m) (R S m))
    (hstep : ∀ S i, i < m → I S i → (∀ S', I S' (i + 1) → Ev (g S' (i + 1)) (R S' (i + 1))) → Ev (g S i) (R S i)) : ∀ i, i ≤ m → ∀ S, I S i → Ev (g S i) (R S i) := by
  have key : ∀ d i, i + d = m → ∀ S, I S i → Ev (g S i) (R S i) := by
    intro d
    induction d with
    | zero => intro i hi S hS; obtain rfl : i = m := by omega
              exact hend S hS
    | succ d ih => intro i hi S hS; exact hstep S i (by omega) hS (fun S' hS' => ih (i + 1) (by omega) S' hS')
  intro i hi
  exact key (m - i) i (by omega)
def rem2 (n i j k : Nat) : List T3 := ((List.range n).drop k).map fun c : Nat => (⟨i, j, c⟩ : T3)
def rem1 (n i j : Nat) : List T3 := ((List.range n).drop j).flatMap fun b : Nat => rem2 n i b (b + 1)
def rem0 (n i : Nat) : List T3 := ((List.range n).drop i).flatMap fun a : Nat => rem1 n a (a + 1)
theorem rem0_all (n : Nat) (hn : n ≤ 7) : rem0 n 0 = tri n := listT_eq n hn
def strP (n : Nat) (s : ByteArray) (q : List Int) (ts : List T3) : ByteArray := strOfNums (ts.map fun t => pm (sg n s (rd q t.f0) (rd q t.f1) (rd q t.f2)))
theorem strOfNums_append (a b : List Int) : strOfNums (a ++ b) = strOfNums a ++ strOfNums b := by
  unfold strOfNums
  apply ByteArray.ext
  apply Array.ext'
  simp [ByteArray.data_append]
theorem strOfNums_size (a : List Int) : (strOfNums a).size = a.length := by
  unfold strOfNums
  show (Array.size _) = _
  simp
theorem strP_cons (n : Nat) (s : ByteArray) (q : List Int) (t : T3) (ts : List T3) : strP n s q (t :: ts) = byteS (sg n s (rd q t.f0) (rd q t.f1) (rd q t.f2)) ++ strP n s q ts := by
  unfold strP
  rw [List.map_cons, show ∀ (x : Int) (l : List Int), x :: l = [x] ++ l from fun _ _ => rfl, strOfNums_append]
  congr 1
  unfold pm byteS
  by_cases h : sg n s (rd q t.f0) (rd q t.f1) (rd q t.f2) > 0
  · rw [if_pos h, if_pos h]
    rfl
  · rw [if_neg h, if_neg h]
    rfl
theorem strP_append (n : Nat) (s : ByteArray) (q : List Int) (a b : List T3) : strP n s q (a ++ b) = strP n s q a ++ strP n s q b := by
  unfold strP
  rw [List.map_append, strOfNums_append]
theorem pick_ev (n : Nat) (hn : n ≤ 7) (s : ByteArray) (hs : s.size = (tri n).length) (q : List Int) (hq : isP n q) : Ev (fun k => spec_l3Pick.f k n s q) ((n : Int), pickT n s q) := by
  have hql := hq.1
  unfold spec_l3Pick.f
  have hnil : (⟨#[]⟩ : ByteArray).size = 0 := rfl
  have key := Ev.loopS (fun (S : ByteArray) i k => spec_l3Pick.l0 k q i n s (q.length : Int) S) n (fun S i => S.size ≤ 1000 * i) (fun S i => ((n : Int), S ++ strP n s q (rem0 n i))) ?_ ?_ 0 (by omega) (⟨#[]⟩ : ByteArray) (by omega)
  · rw [rem0_all n hn] at key
    rw [show pickT n s q = (⟨#[]⟩ : ByteArray) ++ strP n s q (tri n) by unfold pickT strP pickC; exact (ByteArray.empty_append).symm]
    exact key
  · intro S hS
    refine Ev.step (fun k => spec_l3Pick.l0.eq_2 ..) (Ev.ite_neg (by omega) (Ev.const ?_))
    unfold rem0
    rw [List.drop_of_length_le (by simp), hql]
    show some ((n : Int), S) = some ((n : Int), S ++ (⟨#[]⟩ : ByteArray))
    rw [show S ++ (⟨#[]⟩ : ByteArray) = S from ByteArray.append_empty]
  · intro S i hi hS ih
    refine Ev.step (fun k => spec_l3Pick.l0.eq_2 ..) (Ev.ite_pos (by omega) ?_)
    rw [wrap_nat i (by omega)]
    rw [show rem0 n i = rem1 n i (i + 1) ++ rem0 n (i + 1) by unfold rem0; rw [range_drop' n i hi, List.flatMap_cons], strP_append, ← ByteArray.append_assoc]
    refine Ev.loopS (fun (S : ByteArray) j k => spec_l3Pick.l1 k q i j n s (q.length : Int) S) n (fun S j => i < j ∧ S.size ≤ 1000 * i + 100 * j) (fun S j => ((n : Int), (S ++ strP n s q (rem1 n i j)) ++ strP n s q (rem0 n (i + 1)))) ?_ ?_ (i + 1) (by omega) S ⟨by omega, by omega⟩
    · intro S hS
      refine Ev.step (fun k => spec_l3Pick.l1.eq_2 ..) (Ev.ite_neg (by omega) ?_)
      rw [wrap_nat i (by omega)]
      have h := ih S (by omega)
      rw [show S ++ strP n s q (rem1 n i n) = S by unfold rem1; rw [List.drop_of_length_le (by simp)]; exact ByteArray.append_empty]
      exact h
    · intro S j hj hS ihj
      refine Ev.step (fun k => spec_l3Pick.l1.eq_2 ..) (Ev.ite_pos (by omega) ?_)
      rw [wrap_nat j (by omega)]
      rw [show rem1 n i j = rem2 n i j (j + 1) ++ rem1 n i (j + 1) by unfold rem1; rw [range_drop' n j hj, List.flatMap_cons], strP_append, ← ByteArray.append_assoc]
      have hij := hS.1
      · refine Ev.loopS (fun (S : ByteArray) m k => spec_l3Pick.l2 k q i j m n s (q.length : Int) S) n (fun S m => j < m ∧ S.size ≤ 1000 * i + 100 * j + m) (fun S m => ((n : Int), ((S ++ strP n s q (rem2 n i j m)) ++ strP n s q (rem1 n i (j + 1))) ++ strP n s q (rem0 n (i + 1)))) ?_ ?_ (j + 1) (by omega) S (by omega)
        · intro S hS
          refine Ev.step (fun k => spec_l3Pick.l2.eq_2 ..) (Ev.ite_neg (by omega) ?_)
          rw [wrap_nat j (by omega)]
          have h := ihj S ⟨by omega, by omega⟩
          rw [show S ++ strP n s q (rem2 n i j n) = S by unfold rem2; rw [List.drop_of_length_le (by simp)]; exact ByteArray.append_empty]
          exact h
        · intro S m hm hS ihm
          have ki := (hq.2.2 i hi).1
          have kj := (hq.2.2 j hj).1
          have km := (hq.2.2 m hm).1
          have n1 := perm_ne n q hq i j hi hj (by omega)
          have n2 := perm_ne n q hq j m hj hm (by omega)
          have n3 := perm_ne n q hq i m hi hm (by omega)
          refine Ev.step (fun k => spec_l3Pick.l2.eq_2 ..) (Ev.ite_pos (by omega) (Ev.ite_pos (by omega) (Ev.ite_pos (by omega) (Ev.ite_pos (by omega) (Ev.ite_pos (by omega) (Ev.ite_pos (by omega) ?_))))))
          rw [wrap_nat m (by omega)]
          have hb := byteS_size (sg n s (rd q (i : Int)) (rd q (j : Int)) (rd q (m : Int)))
          have h := ihm (S ++ byteS (sg n s (rd q (i : Int)) (rd q (j : Int)) (rd q (m : Int)))) (by rw [ByteArray.size_append, hb]; omega)
          rw [show rem2 n i j m = (⟨i, j, m⟩ : T3) :: rem2 n i j (m + 1) by unfold rem2; rw [range_drop' n m hm, List.map_cons], strP_cons, ← ByteArray.append_assoc]
          have hAt : Ev (fun k => spec_l3At.f k n s (rd q (i : Int)) (rd q (j : Int)) (rd q (m : Int))) (sg n s (rd q (i : Int)) (rd q (j : Int)) (rd q (m : Int))) := by
            obtain ⟨a, ha⟩ := Int.eq_ofNat_of_zero_le ki.1
            obtain ⟨b, hb⟩ := Int.eq_ofNat_of_zero_le kj.1
            obtain ⟨c, hc⟩ := Int.eq_ofNat_of_zero_le km.1
            rw [ha] at n1 n3 ki ⊢
            rw [hb] at n1 n2 kj ⊢
            rw [hc] at n2 n3 km ⊢
            exact l3At_ev n hn s hs a b c (by omega) (by omega) (by omega) (by omega) (by omega) (by omega)
          exact Ev.bind hAt (Ev.bind0 (l3Byte_eq _) (Ev.ite_pos (by rw [hb]; omega) h))
theorem szSigns_eqO (n : Int) (s : ByteArray) (a : Int) (h0 : 0 ≤ a) (h1 : a ≤ 1048576) (hl : s.size ≤ 9223372036854775807) : laws_szSigns.f n s a = some (if a < s.size then -1 else a - s.size) := by
  unfold laws_szSigns.f
  rw [wrap_in (by omega) (by omega)]
  by_cases h : a < (s.size : Int)
  · rw [if_pos h, if_pos (by omega)]
  · rw [if_neg h, if_neg (by omega)]
theorem AN_len (n : Nat) (hn : n ≤ 6) : (AN n).length ≤ 46656 := lev_len2 n hn n hn
theorem AN_P (n : Nat) (hn : n ≤ 6) (p : List Int) (h : p ∈ AN n) : isP n p := P_at n hn p h
theorem isS_nat {n : Int} {s : ByteArray} (h : isS n s = true) : ∃ m : Nat, n = m ∧ 3 ≤ m ∧ m ≤ 7 ∧ s.size = (tri m).length ∧ s.size ≤ 35 ∧ (List.range s.size).all (isPM s) = true := by
  obtain ⟨h3, h7, hs, h35⟩ := isS_bounds h
  obtain ⟨m, rfl⟩ := Int.eq_ofNat_of_zero_le (show 0 ≤ n by omega)
  rw [Int.toNat_natCast] at hs
  unfold isS at h
  rw [Bool.and_eq_true] at h
  exact ⟨m, rfl, by omega, by omega, hs, h35, h.2⟩
def texts (n : Nat) (s : ByteArray) : List ByteArray := (AN n).map fun p => pickT n s (inv p)
theorem renamed_yes (n : Nat) (hn : n ≤ 6) (s : ByteArray) (hs : s.size = (tri n).length) (hA : isS n s = true) : Ev (fun k => impl_renamed.f k n s) (texts n s, true) := by
  have hS := impl_AreSigns_ev n s
  rw [hA] at hS
  have hlen := AN_len n hn
  unfold impl_renamed.f
  refine Ev.bind hS (Ev.ite_pos rfl (Ev.step (fun k => impl_renamed.j0.eq_2 ..) (Ev.ite_neg (by simp; omega) (Ev.bind (tableOf_ev n (by omega) s hs) (Ev.bind (allNames_ev n hn) ?_)))))
  have key := Ev.loop (fun i k => impl_renamed.l0 k (tab n s) (((AN n).take i).map fun p => pickT n s (inv p)) (AN n) (AN n).length i) (AN n).length (texts n s, true) ?_ ?_ 0 (by omega)
  · simpa using key
  · refine Ev.step (fun k => impl_renamed.l0.eq_2 ..) (Ev.ite_neg (by omega) (Ev.const ?_))
    rw [List.take_length]
    rfl
  · intro i hi ih
    refine Ev.step (fun k => impl_renamed.l0.eq_2 ..) (Ev.ite_pos (by omega) (Ev.ite_pos (by omega) (Ev.ite_pos (by omega) ?_)))
    rw [rdL _ i hi, wrap_nat i (by omega)]
    rw [List.take_succ_eq_append_getElem hi, List.map_append] at ih
    exact Ev.bind (rename_ev n (by omega) s _ (AN_P n hn _ (List.getElem_mem hi))) (Ev.ite_pos (by simp; omega) ih)
theorem renamed_no (n : Int) (s : ByteArray) (h : isS n s = false ∨ n > 6) : Ev (fun k => impl_renamed.f k n s) ([], false) := by
  have hS := impl_AreSigns_ev n s
  unfold impl_renamed.f
  refine Ev.bind hS ?_
  cases hA : isS n s with
  | false => exact Ev.ite_neg (by simp) (Ev.step (fun k => impl_renamed.j0.eq_2 ..) (Ev.ite_pos rfl (Ev.now _)))
  | true =>
    have h6 : n > 6 := by
      rcases h with h | h
      · rw [hA] at h
        cases h
      · exact h
    exact Ev.ite_pos rfl (Ev.step (fun k => impl_renamed.j0.eq_2 ..) (Ev.ite_pos (by simpa using h6) (Ev.now _)))
theorem fits_ev (n : Int) (s : ByteArray) : Ev (fun k => spec_l19Fits.f k n s) (isS n s && decide (n ≤ 6)) := by
  have hS := spec_AreSigns_ev n s
  unfold spec_l19Fits.f
  refine Ev.bind hS ?_
  cases isS n s with
  | false => exact Ev.ite_neg (by simp) (Ev.now _)
  | true => exact Ev.ite_pos rfl (Ev.now _)
def oppT (s : ByteArray) : ByteArray := strOfNums (oppL s)
theorem opp_impl (s : ByteArray) (h : s.size ≤ 9223372036854775807) : impl_opposite.f s = some (oppT s) := by
  unfold impl_opposite.f oppT
  rw [if_pos h]
theorem oppL_take (s : ByteArray) (i : Nat) : (List.range (i + 1)).map (fun j : Nat => oppI (bt s (j : Int))) = (List.range i).map (fun j : Nat => oppI (bt s (j : Int))) ++ [oppI (bt s (i : Int))] := by
  rw [List.range_succ, List.map_append]
  rfl
theorem opp_spec (n : Nat) (s : ByteArray) (hA : isS n s = true) : Ev (fun k => spec_OppositeSigns.f k n s) ((n : Int), oppT s, true) := by
  have hS := spec_AreSigns_ev n s
  rw [hA] at hS
  obtain ⟨m, hm, h3, h7, hs, h35, hpm⟩ := isS_nat hA
  unfold spec_OppositeSigns.f
  refine Ev.bind hS (Ev.ite_pos rfl ?_)
  have key := Ev.loop (fun i k => spec_OppositeSigns.l0 k i n s n (strOfNums ((List.range i).map fun j : Nat => oppI (bt s (j : Int))))) s.size ((n : Int), oppT s, true) ?_ ?_ 0 (by omega)
  · exact key
  · exact Ev.step (fun k => spec_OppositeSigns.l0.eq_2 ..) (Ev.ite_neg (by omega) (Ev.now _))
  · intro i hi ih
    rw [oppL_take, strOfNums_append] at ih
    rw [List.all_eq_true] at hpm
    have hp := hpm i (by simpa using hi)
    unfold isPM at hp
    rw [Bool.or_eq_true, beq_iff_eq, beq_iff_eq] at hp
    have hsz : (strOfNums ((List.range i).map fun j : Nat => oppI (bt s (j : Int)))).size = i := by rw [strOfNums_size]; simp
    refine Ev.step (fun k => spec_OppositeSigns.l0.eq_2 ..) (Ev.ite_pos (by omega) (Ev.ite_pos (by omega) ?_))
    rw [wrap_nat i (by omega)]
    rcases hp with hp | hp
    · rw [hp] at ih ⊢
      exact Ev.bind0 (a := 0) rfl (Ev.bind0 (l3Byte_eq _) (Ev.ite_pos (by rw [hsz, byteS_size]; omega) ih))
    · rw [hp] at ih ⊢
      exact Ev.bind0 (a := 1) rfl (Ev.bind0 (l3Byte_eq _) (Ev.ite_pos (by rw [hsz, byteS_size]; omega) ih))
theorem bt_strOf (L : List Int) (j : Nat) (hj : j < L.length) (h : 0 ≤ L[j] ∧ L[j] < 256) : bt (strOfNums L) (j : Int) = L[j] := by
  unfold bt
  have hs : (strOfNums L).size = L.length := strOfNums_size L
  rw [dif_pos (by rw [Int.toNat_natCast, hs]; exact hj)]
  simp only [Int.toNat_natCast]
  have e : (strOfNums L)[j]'(by rw [hs]; exact hj) = UInt8.ofNat (L[j]).toNat := by
    show (strOfNums L).data[j]'_ = _
    simp [strOfNums]
  rw [e, UInt8.toNat_ofNat']
  omega
theorem src_lt : ∀ (ts : List T3) (m : Nat) (x y z : Int) (q : Nat) (b : Bool), src ts m x y z = some (q, b) → q < m + ts.length
  | [], m, x, y, z, q, b, h => by simp [src] at h
  | t :: ts, m, x, y, z, q, b, h => by
    rw [src] at h
    rw [List.length_cons]
    cases hs : src ts (m + 1) x y z with
    | some p =>
      rw [hs] at h
      obtain ⟨q', b'⟩ := p
      have := src_lt ts (m + 1) x y z q' b' hs
      simp at h
      omega
    | none =>
      rw [hs] at h
      cases hp : par t x y z with
      | none => rw [hp] at h; simp at h
      | some c =>
        rw [hp] at h
        simp at h
        omega
theorem sgAt_opp (s : ByteArray) (h : (List.range s.size).all (isPM s) = true) (m : Nat) (hm : m < s.size) : sgAt (oppT s) m = -sgAt s m := by
  have hl : (oppL s).length = s.size := by simp [oppL]
  have e0 : (oppL s)[m]'(by omega) = oppI (bt s (m : Int)) := by simp [oppL]
  rw [List.all_eq_true] at h
  have hp := h m (by simpa using hm)
  unfold isPM at hp
  rw [Bool.or_eq_true, beq_iff_eq, beq_iff_eq] at hp
  have e : bt (oppT s) (m : Int) = oppI (bt s (m : Int)) := by
    unfold oppT
    rw [bt_strOf _ _ (by omega) (by rw [e0]; rcases hp with hp | hp <;> rw [hp] <;> decide), e0]
  unfold sgAt
  rw [e]
  rcases hp with hp | hp <;> rw [hp] <;> decide
theorem sgAt_pm (s : ByteArray) (m : Nat) : sgAt s m = 1 ∨ sgAt s m = -1 := by
  unfold sgAt
  split
  · exact .inr rfl
  · exact .inl rfl
theorem sg_opp (n : Nat) (s : ByteArray) (hs : s.size = (tri n).length) (h : (List.range s.size).all (isPM s) = true) (x y z : Int) : sg n (oppT s) x y z = -sg n s x y z := by
  unfold sg
  cases hr : src (tri n) 0 x y z with
  | none => rfl
  | some p =>
    obtain ⟨q, b⟩ := p
    have hq := src_lt _ _ _ _ _ _ _ hr
    have e := sgAt_opp s h q (by omega)
    cases b with
    | true => exact e
    | false =>
      show wrap64 (-sgAt (oppT s) q) = -wrap64 (-sgAt s q)
      rw [e]
      rcases sgAt_pm s q with h | h <;> rw [h] <;> decide +kernel
theorem oppL_str (L : List Int) (h : ∀ x ∈ L, 0 ≤ x ∧ x < 256) : oppL (strOfNums L) = L.map oppI := by
  unfold oppL
  rw [strOfNums_size]
  apply List.ext_getElem
  · simp
  · intro i h1 h2
    have hi : i < L.length := by simpa using h2
    simp only [List.getElem_map, List.getElem_range]
    rw [bt_strOf L i hi (h _ (List.getElem_mem hi))]
theorem pick_opp (n : Nat) (hn : n ≤ 7) (s : ByteArray) (hs : s.size = (tri n).length) (h : (List.range s.size).all (isPM s) = true) (q : List Int) (hq : isP n q) : pickT n (oppT s) q = oppT (pickT n s q) := by
  unfold oppT
  rw [show pickT n s q = strOfNums (pickC n s q) from rfl, oppL_str _ (fun x hx => by
    unfold pickC at hx
    obtain ⟨t, _, rfl⟩ := List.mem_map.1 hx
    unfold pm
    split <;> decide)]
  show strOfNums (pickC n (oppT s) q) = _
  congr 1
  unfold pickC
  rw [List.map_map]
  apply List.map_congr_left
  intro t ht
  obtain ⟨a, b, c, rfl, hab, hbc, hcn⟩ := tri_mem n hn t ht
  show pm (sg n (oppT s) _ _ _) = oppI (pm (sg n s _ _ _))
  rw [sg_opp n s hs h]
  obtain ⟨_, _, hp⟩ := hq
  obtain ⟨⟨a0, a1, _, _⟩, _⟩ := hp a (by omega)
  obtain ⟨⟨b0, b1, _, _⟩, _⟩ := hp b (by omega)
  obtain ⟨⟨c0, c1, _, _⟩, _⟩ := hp c (by omega)
  have n1 := perm_ne n q ⟨‹_›, ‹_›, hp⟩ a b (by omega) (by omega) (by omega)
  have n2 := perm_ne n q ⟨‹_›, ‹_›, hp⟩ b c (by omega) (by omega) (by omega)
  have n3 := perm_ne n q ⟨‹_›, ‹_›, hp⟩ a c (by omega) (by omega) (by omega)
  dsimp only
  obtain ⟨a', ea⟩ := Int.eq_ofNat_of_zero_le a0
  obtain ⟨b', eb⟩ := Int.eq_ofNat_of_zero_le b0
  obtain ⟨c', ec⟩ := Int.eq_ofNat_of_zero_le c0
  rw [ea, eb] at n1
  rw [eb, ec] at n2
  rw [ea, ec] at n3
  rw [ea, eb, ec]
  rcases sg_pm n hn s a' b' c' (by omega) (by omega) (by omega) (by omega) (by omega) (by omega) with h | h <;> rw [h] <;> decide
end Go.Proofs.Yteblnjoljbdjjaa.Pure
namespace Go.Proofs.Yteblnjoljbdjjaa.P
open Go.RowKit Go.Proofs.YteblnjoljbdjjaaW.PrintWords Go.Proofs.YteblnjoljbdjjaaW.PrintLast Go.Proofs.YteblnjoljbdjjaaW.PrintMore
set_option linter.unusedVariables false
set_option linter.unusedSimpArgs false
section
variable {α : Type} [Inhabited α] {enc : α → Value} {h1 : ∀ x, (enc x).oneCell' = true} {e base : Nat} {ok : Nat → Prop} {w : World} {v : Value} {xs : List α}
theorem row_blk (h : (Kd.scalar enc h1).R e w base ok v xs) (hne : 0 < xs.length) :
    ∃ g cap cur, v = .slice (some ⟨g, 0, none⟩) xs.length cap ∧ base ≤ g ∧ ok g ∧ w.heap[g]? = some (.cells cur e (0, 0)) ∧ xs.length ≤ cap ∧ cap ≤ maxLen ∧ cur.size = cap ∧ ∀ j, j < xs.length → cur[j]? = some (enc xs[j]!) := by
  obtain ⟨h0, inner, ⟨hl, ho⟩, hr⟩ := h
  rcases ho with ⟨rfl, h2⟩ | ⟨g, cap, cur, rfl, hg, hh, hc, hm, hs, ht⟩
  · omega
  · refine ⟨g, cap, cur, rfl, hg, h0 g rfl, hh, hc, hm, ?_, ?_⟩
    · rw [hs]; exact Nat.mul_one _
    · intro j hj
      have h3 := hr.2 j xs[j]! (by rw [List.getElem?_eq_getElem hj, getElem!_pos xs j hj])
      have h3' : (inner.drop (j * 1)).take 1 = [enc xs[j]!] := h3
      rw [Nat.mul_one] at h3'
      have h4 : inner[j]? = some (enc xs[j]!) := by
        have h5 : ((inner.drop j).take 1)[0]? = some (enc xs[j]!) := by rw [h3']; rfl
        rw [List.getElem?_take_of_lt (by omega), List.getElem?_drop, Nat.add_zero] at h5
        exact h5
      rw [← ht] at h4
      have hjl : j < xs.length * (Kd.scalar enc h1).sz := by show j < xs.length * 1; omega
      rw [List.getElem?_take_of_lt hjl, Array.getElem?_toList] at h4
      exact h4
theorem blk_row {g cap : Nat} {cur : Array Value} (hg : base ≤ g) (hok : ok g) (hh : w.heap[g]? = some (.cells cur e (0, 0))) (hc : xs.length ≤ cap) (hm : cap ≤ maxLen) (hs : cur.size = cap) (hj : ∀ j, j < xs.length → cur[j]? = some (enc xs[j]!)) :
    (Kd.scalar enc h1).R e w base ok (.slice (some ⟨g, 0, none⟩) xs.length cap) xs := by
  refine ⟨fun k hk => ?_, cur.toList.take xs.length, ⟨?_, .inr ⟨g, cap, cur, rfl, hg, hh, hc, hm, ?_, ?_⟩⟩, ?_, ?_⟩
  · have : g = k := by simpa [Value.ownBlock] using hk
    subst this; exact hok
  · show (cur.toList.take xs.length).length = xs.length * 1
    have hcl : cur.toList.length = cur.size := Array.length_toList
    rw [List.length_take, hcl]; omega
  · show cur.size = cap * 1
    omega
  · show cur.toList.take (xs.length * 1) = _
    rw [Nat.mul_one]
  · show (cur.toList.take xs.length).length = xs.length * 1
    have hcl : cur.toList.length = cur.size := Array.length_toList
    rw [List.length_take, hcl]; omega
  · intro j p hp
    have hjl := (List.getElem?_eq_some_iff.1 hp).1
    have hpx : p = xs[j]! := by rw [getElem!_pos xs j hjl]; exact (List.getElem?_eq_some_iff.1 hp).2.symm
    subst hpx
    show ((cur.toList.take xs.length).drop (j * 1)).take 1 = [enc xs[j]!]
    rw [Nat.mul_one]
    have h4 : (cur.toList.take xs.length)[j]? = some (enc xs[j]!) := by
      rw [List.getElem?_take_of_lt hjl, Array.getElem?_toList]; exact hj j hjl
    apply List.ext_getElem?
    intro i
    cases i with
    | zero => rw [List.getElem?_take_of_lt (by omega), List.getElem?_drop, Nat.add_zero, h4]; rfl
    | succ i =>
      rw [List.getElem?_eq_none (by rw [List.length_take]; omega)]
      rfl
theorem put_cur (enc : α → Value) (w : World) (n g off : Nat) (D : Array α) (os : Array Obj) {cur : Array Value} (hb : w.heap[g]? = some (.cells cur e (0, 0))) :
    (Sort.grow (Sort.putRow enc (Sort.ahead w n) g off D) os).heap[g]? = some (.cells (Sort.putCells enc off D cur) e (0, 0)) := by
  have hlt : g < w.heap.size := (Array.getElem?_eq_some_iff.1 hb).1
  show ((w.heap.modify g (Sort.onCells (Sort.putCells enc off D))) ++ os)[g]? = _
  rw [Array.getElem?_append_left (by rw [Array.size_modify]; exact hlt), Array.getElem?_modify, if_pos rfl, hb]
  rfl
theorem put_far (enc : α → Value) (w : World) (n g off : Nat) (D : Array α) (os : Array Obj) (k : Nat) (hk : k < w.heap.size) (hne : k ≠ g) :
    (Sort.grow (Sort.putRow enc (Sort.ahead w n) g off D) os).heap[k]? = w.heap[k]? := by
  show ((w.heap.modify g (Sort.onCells (Sort.putCells enc off D))) ++ os)[k]? = _
  rw [Array.getElem?_append_left (by rw [Array.size_modify]; exact hk), Array.getElem?_modify, if_neg (Ne.symm hne)]
theorem put_size (enc : α → Value) (w : World) (n g off : Nat) (D : Array α) (os : Array Obj) : w.heap.size ≤ (Sort.grow (Sort.putRow enc (Sort.ahead w n) g off D) os).heap.size := by
  show _ ≤ ((w.heap.modify g (Sort.onCells (Sort.putCells enc off D))) ++ os).size
  rw [Array.size_append, Array.size_modify]; omega
theorem put_below (enc : α → Value) (w : World) (n g off : Nat) (D : Array α) (os : Array Obj) (hg : base ≤ g) (hlt : g < w.heap.size) : Below base w (Sort.grow (Sort.putRow enc (Sort.ahead w n) g off D) os) :=
  ⟨rfl, rfl, rfl, put_size enc w n g off D os, fun k hk => put_far enc w n g off D os k (by omega) (by omega)⟩
theorem put_kept (enc : α → Value) (w : World) (n g off : Nat) (D : Array α) (os : Array Obj) (hok : ok g) : Kept w (Sort.grow (Sort.putRow enc (Sort.ahead w n) g off D) os) ok :=
  ⟨put_size enc w n g off D os, fun k hk hn => put_far enc w n g off D os k hk (fun e => hn (e ▸ hok))⟩
theorem putCells_size (enc : α → Value) (off : Nat) (D : Array α) (c : Array Value) : (Sort.putCells enc off D c).size = c.size := by simp [Sort.putCells]
theorem putCells_in (enc : α → Value) (off : Nat) (D : Array α) (c : Array Value) (j : Nat) (hj : j < D.size) (hc : off + D.size ≤ c.size) : (Sort.putCells enc off D c)[off + j]? = some (enc D[j]!) := by
  unfold Sort.putCells
  rw [Array.getElem?_mapIdx, Array.getElem?_eq_getElem (by omega)]
  simp only [Option.map_some]
  rw [if_pos ⟨by omega, by omega⟩, Nat.add_sub_cancel_left]
theorem putCells_at (enc : α → Value) (D : Array α) (c : Array Value) (j : Nat) (hj : j < D.size) (hc : D.size ≤ c.size) : (Sort.putCells enc 0 D c)[j]? = some (enc D[j]!) := by
  have h := putCells_in enc 0 D c j hj (by omega)
  rwa [Nat.zero_add] at h
theorem row_holds (h : (Kd.scalar enc h1).R e w base ok v xs) {g cap : Nat} {cur : Array Value} (hh : w.heap[g]? = some (.cells cur e (0, 0))) (hj : ∀ j, j < xs.length → cur[j]? = some (enc xs[j]!)) : Sort.Holds enc w g 0 xs.toArray := by
  intro j hlt
  have hl : j < xs.length := by simpa using hlt
  have e1 : xs.toArray[j]! = xs[j]! := by simp
  refine ⟨?_, ?_⟩
  · rw [e1]
    have := hj j hl
    simp [World.cell?, hh, this]
  · simp [World.frozen?, hh]
end
end Go.Proofs.Yteblnjoljbdjjaa.P
namespace Go.Proofs.Yteblnjoljbdjjaa.P
open Go.RowKit Go.Proofs.YteblnjoljbdjjaaW.PrintWords Go.Proofs.YteblnjoljbdjjaaW.PrintLast Go.Proofs.YteblnjoljbdjjaaW.PrintMore
set_option linter.unusedVariables false
set_option linter.unusedSimpArgs false
open Go.Shelf in
def sortM6_ren : Go.Shelf.Ren := ⟨fun | 6 => 62 | 8 => 110 | 9 => 109 | 19 => 155 | 20 => 156 | 21 => 146 | 22 => 147 | 23 => 148 | 24 => 149 | 25 => 150 | 26 => 151 | 27 => 152 | 28 => 153 | 29 => 154 | 36 => 181 | 31 => 182 | 32 => 183 | 37 => 184 | 38 => 185 | 39 => 186 | 41 => 207 | n => n, fun | 27 => 63 | 29 => 9 | 3 => 3 | 32 => 116 | 26 => 63 | 0 => 0 | 44 => 149 | 46 => 151 | 4 => 4 | 36 => 141 | 35 => 140 | 41 => 146 | 5 => 5 | 9 => 9 | 53 => 163 | 57 => 167 | 63 => 184 | 64 => 185 | n => n, fun | n => n⟩
theorem sortM6 : Go.Proofs.SlLaysM.n6 Try.prog sortM6_ren :=
  { mixed := by kernel_rfl,
    f6 := ⟨Try.f62.name, by decide, Try.func62.trans (congrArg some (by kernel_rfl))⟩,
    f8 := Try.func110.trans (congrArg some (by kernel_rfl)),
    f9 := ⟨Try.f109.name, by decide, Try.func109.trans (congrArg some (by kernel_rfl))⟩,
    f19 := Try.func155.trans (congrArg some (by kernel_rfl)),
    f20 := Try.func156.trans (congrArg some (by kernel_rfl)),
    f21 := ⟨Try.f146.name, by decide, Try.func146.trans (congrArg some (by kernel_rfl))⟩,
    f22 := ⟨Try.f147.name, by decide, Try.func147.trans (congrArg some (by kernel_rfl))⟩,
    f23 := ⟨Try.f148.name, by decide, Try.func148.trans (congrArg some (by kernel_rfl))⟩,
    f24 := ⟨Try.f149.name, by decide, Try.func149.trans (congrArg some (by kernel_rfl))⟩,
    f25 := ⟨Try.f150.name, by decide, Try.func150.trans (congrArg some (by kernel_rfl))⟩,
    f26 := ⟨Try.f151.name, by decide, Try.func151.trans (congrArg some (by kernel_rfl))⟩,
    f27 := ⟨Try.f152.name, by decide, Try.func152.trans (congrArg some (by kernel_rfl))⟩,
    f28 := ⟨Try.f153.name, by decide, Try.func153.trans (congrArg some (by kernel_rfl))⟩,
    f29 := ⟨Try.f154.name, by decide, Try.func154.trans (congrArg some (by kernel_rfl))⟩,
    f31 := Try.func182.trans (congrArg some (by kernel_rfl)),
    f32 := Try.func183.trans (congrArg some (by kernel_rfl)),
    f36 := ⟨Try.f181.name, by decide, Try.func181.trans (congrArg some (by kernel_rfl))⟩,
    f37 := ⟨Try.f184.name, by decide, Try.func184.trans (congrArg some (by kernel_rfl))⟩,
    f38 := ⟨Try.f185.name, by decide, Try.func185.trans (congrArg some (by kernel_rfl))⟩,
    f39 := ⟨Try.f186.name, by decide, Try.func186.trans (congrArg some (by kernel_rfl))⟩,
    f41 := ⟨Try.f207.name, by decide, Try.func207.trans (congrArg some (by kernel_rfl))⟩,
    t0 := Try.underlying0,
    a0 := Try.isAgg0,
    z0 := Try.sizeOf0,
    v0 := Try.zeroValue0,
    t3 := Try.underlying3,
    a3 := Try.isAgg3,
    z3 := Try.sizeOf3,
    v3 := Try.zeroValue3,
    t4 := Try.underlying4,
    a4 := Try.isAgg4,
    z4 := Try.sizeOf4,
    v4 := Try.zeroValue4,
    t5 := Try.underlying5,
    a5 := Try.isAgg5,
    z5 := Try.sizeOf5,
    v5 := Try.zeroValue5,
    t9 := Try.underlying9,
    a9 := Try.isAgg9,
    z9 := Try.sizeOf9,
    v9 := Try.zeroValue9,
    t26 := Try.underlying63,
    a26 := Try.isAgg63,
    z26 := Try.sizeOf63,
    v26 := Try.zeroValue63,
    t27 := Try.underlying63,
    a27 := Try.isAgg63,
    z27 := Try.sizeOf63,
    v27 := Try.zeroValue63,
    t29 := Try.underlying9,
    a29 := Try.isAgg9,
    z29 := Try.sizeOf9,
    v29 := Try.zeroValue9,
    t32 := Try.underlying116,
    a32 := Try.isAgg116,
    z32 := Try.sizeOf116,
    v32 := Try.zeroValue116,
    t35 := Try.underlying140,
    a35 := Try.isAgg140,
    z35 := Try.sizeOf140,
    v35 := Try.zeroValue140,
    t36 := Try.underlying141,
    a36 := Try.isAgg141,
    z36 := Try.sizeOf141,
    v36 := Try.zeroValue141,
    t41 := Try.underlying146,
    a41 := Try.isAgg146,
    z41 := Try.sizeOf146,
    v41 := Try.zeroValue146,
    t44 := Try.underlying149,
    a44 := Try.isAgg149,
    z44 := Try.sizeOf149,
    v44 := Try.zeroValue149,
    t46 := Try.underlying151,
    a46 := Try.isAgg151,
    z46 := Try.sizeOf151,
    v46 := Try.zeroValue151,
    t53 := Try.underlying163,
    a53 := Try.isAgg163,
    z53 := Try.sizeOf163,
    v53 := Try.zeroValue163,
    t57 := Try.underlying167,
    a57 := Try.isAgg167,
    z57 := Try.sizeOf167,
    v57 := Try.zeroValue167,
    t63 := Try.underlying184,
    a63 := Try.isAgg184,
    z63 := Try.sizeOf184,
    v63 := Try.zeroValue184,
    t64 := Try.underlying185,
    a64 := Try.isAgg185,
    z64 := Try.sizeOf185,
    v64 := Try.zeroValue185 }
def toS (s : ByteArray) : List UInt8 := s.data.toList
def ofS (s : List UInt8) : ByteArray := ⟨s.toArray⟩
theorem ofS_toS (s : ByteArray) : ofS (toS s) = s := rfl
def sortS (l : List ByteArray) : List ByteArray := ((l.map toS).mergeSort fun x y => decide (x ≤ y)).map ofS
theorem sortS_length (l : List ByteArray) : (sortS l).length = l.length := by
  unfold sortS
  rw [List.length_map, List.length_mergeSort, List.length_map]
def slices_Sort_Sstring_string.f (l : List ByteArray) : Option (List ByteArray) := if l.length < 4611686018427387904 then some (sortS l) else none
theorem slices_Sort_Sstring_string.calls (P0_ : Nat → Prop) (u9000_ : Value) (l : List ByteArray) (r : List ByteArray) (w0 w : World) (hB : Below w0.heap.size w0 w) (ho0 : Kd.R Kd.string 9 w w0.heap.size P0_ u9000_ l) (h : slices_Sort_Sstring_string.f l = some r) :
    Calls Try.prog 62 #[u9000_] w fun e w' => e = .returned (.tuple #[]) ∧ Kd.R Kd.string 9 w' w0.heap.size (fun k_ => (P0_ k_ ∨ w.heap.size ≤ k_)) u9000_ r ∧ Below w0.heap.size w0 w' ∧ Kept w w' (fun k_ => P0_ k_) := by
  unfold slices_Sort_Sstring_string.f at h
  by_cases hl : l.length < 4611686018427387904
  case neg => rw [if_neg hl] at h; cases h
  rw [if_pos hl] at h
  obtain rfl := Option.some.inj h
  by_cases hne : 0 < l.length
  · obtain ⟨g, cap, cur, rfl, hg, hok, hcur, hlc, hcm, hcs, hj⟩ := row_blk ho0 hne
    have hlt : g < w.heap.size := (Array.getElem?_eq_some_iff.1 hcur).1
    have hH : Sort.Holds encStr w g 0 (l.map toS).toArray := by
      intro j hjl
      have hl : j < l.length := by simpa using hjl
      have h1 := row_holds (cap := cap) ho0 hcur hj j (by simpa using hl)
      refine ⟨?_, h1.2⟩
      rw [h1.1]
      have e1 : l.toArray[j]! = l[j] := by rw [getElem!_pos _ _ (by simpa using hl)]; simp
      have e2 : (l.map toS).toArray[j]! = toS l[j] := by rw [getElem!_pos _ _ (by simpa using hl)]; simp
      rw [e1, e2]
      rfl
    have hcon := AnyM.slices_Sort_string sortM6 g 0 cap (l.map toS) w hH hlt (by rw [List.length_map]; exact hl)
    rw [List.length_map] at hcon
    refine hcon.mono ?_
    rintro e w' ⟨rfl, n, os, rfl⟩
    refine ⟨rfl, ?_, hB.trans (put_below encStr w n g 0 _ os hg hlt), put_kept encStr w n g 0 _ os hok⟩
    have hlen := sortS_length l
    have hlen2 : ((l.map toS).mergeSort fun x y => decide (x ≤ y)).length = l.length := by rw [List.length_mergeSort, List.length_map]
    have hR := blk_row (enc := Value.string) (h1 := fun _ => rfl) (ok := P0_) (xs := sortS l) (cap := cap) hg hok (put_cur encStr w n g 0 ((l.map toS).mergeSort fun x y => decide (x ≤ y)).toArray os hcur) (by omega) hcm (by rw [putCells_size]; exact hcs) (fun j hj => by
      rw [putCells_at _ _ _ j (by simp; omega) (by simp; omega)]
      congr 1
      rw [getElem!_pos _ _ (by simp; omega), getElem!_pos (sortS l) j hj]
      simp only [sortS, List.getElem_map]
      simp [encStr, ofS])
    rw [hlen] at hR
    exact Kd.R_mono hR (fun k_ hk => .inl hk)
  · have hnil : l = [] := List.eq_nil_of_length_eq_zero (by omega)
    subst hnil
    obtain ⟨A, c, rfl⟩ := Kd.R_slice ho0
    have hS := AnyM.slices_Sort_string_none sortM6 A c w
    refine hS.mono ?_
    rintro e w' ⟨rfl, rfl⟩
    exact ⟨rfl, Kd.R_mono (by rw [show sortS [] = [] by simp [sortS]]; exact ho0) (fun k_ hk => .inl hk), hB, Kept.refl _ _⟩
def compN44_ren : Go.Shelf.Ren := ⟨fun | 44 => 63 | n => n, fun | 25 => 63 | 26 => 9 | 3 => 3 | 4 => 4 | 0 => 0 | n => n, fun | n => n⟩
theorem compN44 : Go.Proofs.SlLaysN.n44 Try.prog compN44_ren :=
  { mixed := by kernel_rfl,
    f44 := ⟨Try.f63.name, by decide, Try.func63.trans (congrArg some (by kernel_rfl))⟩,
    t0 := Try.underlying0,
    a0 := Try.isAgg0,
    z0 := Try.sizeOf0,
    v0 := Try.zeroValue0,
    t3 := Try.underlying3,
    a3 := Try.isAgg3,
    z3 := Try.sizeOf3,
    v3 := Try.zeroValue3,
    t4 := Try.underlying4,
    a4 := Try.isAgg4,
    z4 := Try.sizeOf4,
    v4 := Try.zeroValue4,
    t25 := Try.underlying63,
    a25 := Try.isAgg63,
    z25 := Try.sizeOf63,
    v25 := Try.zeroValue63,
    t26 := Try.underlying9,
    a26 := Try.isAgg9,
    z26 := Try.sizeOf9,
    v26 := Try.zeroValue9,
    i26 := by kernel_rfl }
def compS (l : List ByteArray) : List ByteArray := (Lib.compact (l.map toS)).map ofS
theorem compS_le (l : List ByteArray) : (compS l).length ≤ l.length := by
  unfold compS Lib.compact Lib.compactUpTo
  rw [List.length_map, List.length_map]
  refine Nat.le_trans (List.length_filter_le _ _) ?_
  simp
def slices_Compact_Sstring_string.f (l : List ByteArray) : Option (List ByteArray) := some (compS l)
theorem slices_Compact_Sstring_string.calls (P0_ : Nat → Prop) (u9000_ : Value) (l : List ByteArray) (r : List ByteArray) (w0 w : World) (hB : Below w0.heap.size w0 w) (ho0 : Kd.R Kd.string 9 w w0.heap.size P0_ u9000_ l) (h : slices_Compact_Sstring_string.f l = some r) :
    Calls Try.prog 63 #[u9000_] w fun e w' => ∃ v0_ : Value, e = .returned (v0_) ∧ Kd.R Kd.string 9 w' w0.heap.size (fun k_ => (P0_ k_ ∨ w.heap.size ≤ k_)) v0_ r ∧ Below w0.heap.size w0 w' ∧ Kept w w' (fun k_ => P0_ k_) := by
  obtain rfl := Option.some.inj h
  by_cases hne : 0 < l.length
  · obtain ⟨g, cap, cur, rfl, hg, hok, hcur, hlc, hcm, hcs, hj⟩ := row_blk ho0 hne
    have hlt : g < w.heap.size := (Array.getElem?_eq_some_iff.1 hcur).1
    have hH : Sort.Holds encStr w g 0 (l.map toS).toArray := by
      intro j hjl
      have hl : j < l.length := by simpa using hjl
      have h1 := row_holds (cap := cap) ho0 hcur hj j (by simpa using hl)
      refine ⟨?_, h1.2⟩
      rw [h1.1]
      have e1 : l.toArray[j]! = l[j] := by rw [getElem!_pos _ _ (by simpa using hl)]; simp
      have e2 : (l.map toS).toArray[j]! = toS l[j] := by rw [getElem!_pos _ _ (by simpa using hl)]; simp
      rw [e1, e2]
      rfl
    have hlen := compS_le l
    have hl2 : (Lib.compact (l.map toS)).length = (compS l).length := by unfold compS; rw [List.length_map]
    have hcon := AnyG.slices_Compact_string compN44 g 0 cap (l.map toS) w hH (by rw [List.length_map]; unfold maxLen at hcm; omega) (by rw [List.length_map]; exact hlc)
    rw [List.length_map, hl2] at hcon
    refine hcon.mono ?_
    rintro e w' ⟨rfl, q, rfl⟩
    rw [← Sort.grow_empty (Sort.putRow encStr (Sort.ahead w q) g 0 _)]
    refine ⟨_, rfl, ?_, hB.trans (put_below encStr w q g 0 _ #[] hg hlt), put_kept encStr w q g 0 _ #[] hok⟩
    have hR := blk_row (enc := Value.string) (h1 := fun _ => rfl) (ok := P0_) (xs := compS l) (cap := cap) hg hok (put_cur encStr w q g 0 (Lib.compact (l.map toS) ++ List.replicate (l.length - (compS l).length) []).toArray #[] hcur) (by omega) hcm (by rw [putCells_size]; exact hcs) (fun j hj => by
      rw [putCells_at _ _ _ j (by simp; omega) (by simp; omega)]
      congr 1
      rw [getElem!_pos _ _ (by simp; omega), getElem!_pos (compS l) j hj]
      simp only [compS, List.getElem_map, List.getElem_toArray]
      rw [List.getElem_append_left (by omega)]
      simp [encStr, ofS])
    exact Kd.R_mono hR (fun k_ hk => .inl hk)
  · have hnil : l = [] := List.eq_nil_of_length_eq_zero (by omega)
    subst hnil
    obtain ⟨A, c, rfl⟩ := Kd.R_slice ho0
    refine (AnyG.slices_Compact_string_empty compN44 A c w).mono ?_
    rintro e w' ⟨rfl, rfl⟩
    exact ⟨_, rfl, Kd.R_mono (by rw [show compS [] = [] by simp [compS, Lib.compact, Lib.compactUpTo]]; exact ho0) (fun k_ hk => .inl hk), hB, Kept.refl _ _⟩
end Go.Proofs.Yteblnjoljbdjjaa.P
namespace Go.Proofs.Yteblnjoljbdjjaa.Pure
set_option linter.unusedSimpArgs false
set_option linter.unusedVariables false
open Go.RowKit Go.Proofs.YteblnjoljbdjjaaW.PrintWords Go.Proofs.Yteblnjoljbdjjaa.P Go.Proofs.Yteblnjoljbdjjaa.Pl
theorem toS_list (s : ByteArray) : s.toList = toS s := Lib.toList_data s
theorem toS_inj {a b : ByteArray} (h : toS a = toS b) : a = b := by
  have := congrArg ofS h
  rwa [ofS_toS, ofS_toS] at this
theorem less_toS (a b : ByteArray) : Op.bytesLess a.toList b.toList = decide (toS a < toS b) := by
  rw [bytesLess_eq, toS_list, toS_list]
def putB : List ByteArray → ByteArray → List ByteArray
  | [], x => [x]
  | y :: r, x => if toS y < toS x then y :: putB r x else if toS y = toS x then y :: r else x :: y :: r
def ascB (S : List ByteArray) : Prop := S.Pairwise fun a b => toS a < toS b
theorem rdB (S : List ByteArray) (i : Nat) (h : i < S.length) : rdOf ByteArray.empty S (i : Int) = S[i] := by
  unfold rdOf
  rw [Int.toNat_natCast, getD_lt _ _ _ h]
theorem mnT_eq (x y : ByteArray) : mnT x y = if toS y < toS x then y else x := by
  unfold mnT
  rw [less_toS, toS_list, toS_list]
  by_cases h : toS y < toS x
  · rw [if_pos h, if_neg]
    rw [Bool.or_eq_true, decide_eq_true_eq, beq_iff_eq]
    rintro (h2 | h2)
    · exact List.lt_asymm h h2
    · rw [h2] at h
      exact List.lt_irrefl _ h
  · rw [if_neg h, if_pos]
    rw [Bool.or_eq_true, decide_eq_true_eq, beq_iff_eq]
    rcases Decidable.em (toS x < toS y) with h2 | h2
    · exact .inl h2
    · exact .inr (List.le_antisymm (List.not_lt.1 h) (List.not_lt.1 h2))
def minL : ByteArray → List ByteArray → ByteArray
  | b, [] => b
  | b, x :: r => minL (mnT b x) r
theorem mnT_or (x y : ByteArray) : mnT x y = x ∨ mnT x y = y := by
  rw [mnT_eq]
  split
  · exact .inr rfl
  · exact .inl rfl
theorem mnT_le (x y : ByteArray) : toS (mnT x y) ≤ toS x ∧ toS (mnT x y) ≤ toS y := by
  rw [mnT_eq]
  by_cases h : toS y < toS x
  · rw [if_pos h]
    exact ⟨List.le_of_lt h, List.le_refl _⟩
  · rw [if_neg h]
    exact ⟨List.le_refl _, List.not_lt.1 h⟩
theorem minL_spec : ∀ (l : List ByteArray) (b : ByteArray), minL b l ∈ b :: l ∧ ∀ z ∈ b :: l, toS (minL b l) ≤ toS z
  | [], b => ⟨List.mem_cons_self, fun z hz => by simp at hz; subst hz; exact List.le_refl _⟩
  | x :: r, b => by
    obtain ⟨h1, h2⟩ := minL_spec r (mnT b x)
    obtain ⟨l1, l2⟩ := mnT_le b x
    have h3 := h2 _ List.mem_cons_self
    refine ⟨?_, fun z hz => ?_⟩
    · rw [minL]
      rcases List.mem_cons.1 h1 with h | h
      · rw [h]
        rcases mnT_or b x with e | e <;> rw [e] <;> simp
      · exact List.mem_cons_of_mem _ (List.mem_cons_of_mem _ h)
    · rw [minL]
      rcases List.mem_cons.1 hz with rfl | hz
      · exact List.le_trans h3 l1
      · rcases List.mem_cons.1 hz with rfl | hz
        · exact List.le_trans h3 l2
        · exact h2 z (List.mem_cons_of_mem _ hz)
theorem minL_unique (b c : ByteArray) (l m : List ByteArray) (h : ∀ z, z ∈ b :: l ↔ z ∈ c :: m) : minL b l = minL c m := by
  obtain ⟨h1, h2⟩ := minL_spec l b
  obtain ⟨k1, k2⟩ := minL_spec m c
  exact toS_inj (List.le_antisymm (h2 _ ((h _).2 k1)) (k2 _ ((h _).1 h1)))
def idL (n : Nat) : List Int := (List.range n).map fun i : Nat => (i : Int)
theorem id_all : (List.range 7).all (fun n => (AN n).contains (idL n)) = true := by decide +kernel
theorem id_mem (n : Nat) (hn : n ≤ 6) : idL n ∈ AN n := by
  have h := id_all
  rw [List.all_eq_true] at h
  have h := h n (by simp; omega)
  simpa using h
theorem rd_idL (n a : Nat) (ha : a < n) : rd (idL n) (a : Int) = a := by
  unfold rd idL
  rw [Int.toNat_natCast, getD_lt _ _ _ (by simpa using ha)]
  simp
theorem bt_get (s : ByteArray) (m : Nat) (hm : m < s.size) : bt s (m : Int) = ((s.data.toList[m]'hm).toNat : Int) := by
  unfold bt
  rw [dif_pos (by simpa using hm)]
  rfl
theorem pick_id (n : Nat) (hn : n ≤ 6) (s : ByteArray) (hs : s.size = (tri n).length) (h : (List.range s.size).all (isPM s) = true) : pickT n s (idL n) = s := by
  have hL : pickC n s (idL n) = (List.range s.size).map fun m : Nat => bt s (m : Int) := by
    apply List.ext_getElem
    · simp [pickC, hs]
    · intro m h1 h2
      have hm : m < (tri n).length := by simpa [pickC] using h1
      simp only [pickC, List.getElem_map, List.getElem_range]
      obtain ⟨a, b, c, e, hab, hbc, hcn⟩ := tri_mem n (by omega) _ (List.getElem_mem hm)
      have ht := tab_tri n (by omega) s m hm
      rw [e] at ht ⊢
      dsimp only at ht ⊢
      rw [rd_idL n a (by omega), rd_idL n b (by omega), rd_idL n c (by omega), ← tab_at n (by omega) s a b c (by omega) (by omega) (by omega), ht]
      rw [List.all_eq_true] at h
      have hp := h m (by simpa using (by omega : m < s.size))
      unfold isPM at hp
      rw [Bool.or_eq_true, beq_iff_eq, beq_iff_eq] at hp
      unfold sgAt
      rcases hp with hp | hp <;> rw [hp] <;> decide
  unfold pickT
  rw [hL]
  apply toS_inj
  unfold toS strOfNums
  rw [List.map_map]
  show List.map _ _ = _
  apply List.ext_getElem
  · rw [List.length_map, List.length_range]
    rfl
  · intro m h1 h2
    have hm : m < s.size := by simpa using h1
    simp only [List.getElem_map, List.getElem_range, Function.comp]
    rw [bt_get s m hm, Int.toNat_natCast]
    exact UInt8.ofNat_toNat
theorem spec_least (n : Nat) (hn : n ≤ 6) (s t : ByteArray) (hs : s.size = (tri n).length) (ht : t.size = (tri n).length) : ∀ d i, i + d = (AN n).length → ∀ b : ByteArray,
    Ev (fun k => spec_LeastSigns.l0 k (AN n) (i : Nat) n s n t n b) ((n : Int), minL b (((AN n).drop i).flatMap fun q => [pickT n s q, pickT n t q]), true)
  | 0, i, hi, b => by
    rw [List.drop_of_length_le (by omega)]
    exact Ev.step (fun k => spec_LeastSigns.l0.eq_2 ..) (Ev.ite_neg (by omega) (Ev.now _))
  | d + 1, i, hi, b => by
    have hl := AN_len n hn
    have hil : i < (AN n).length := by omega
    have hp := AN_P n hn _ (List.getElem_mem hil)
    have ih := spec_least n hn s t hs ht d (i + 1) (by omega) (mnT (mnT b (pickT n s (AN n)[i])) (pickT n t (AN n)[i]))
    have hj : ∀ c : ByteArray, mnT b (pickT n s (AN n)[i]) = c → Ev (fun k => spec_LeastSigns.j1 k (AN n) (i : Nat) n s n t n c n (pickT n t (AN n)[i])) ((n : Int), minL b (((AN n).drop i).flatMap fun q => [pickT n s q, pickT n t q]), true) := fun c hc => by
      rw [hc] at ih
      rw [List.drop_eq_getElem_cons hil, List.flatMap_cons]
      show Ev _ ((n : Int), minL (mnT (mnT b (pickT n s (AN n)[i])) (pickT n t (AN n)[i])) _, true)
      rw [hc]
      refine Ev.step (fun k => spec_LeastSigns.j1.eq_2 ..) ?_
      rw [wrap_nat i (by omega), less_toS]
      by_cases h : toS (pickT n t (AN n)[i]) < toS c
      · have e : mnT c (pickT n t (AN n)[i]) = pickT n t (AN n)[i] := by rw [mnT_eq, if_pos h]
        rw [e] at ih ⊢
        exact Ev.ite_pos (decide_eq_true h) ih
      · have e : mnT c (pickT n t (AN n)[i]) = c := by rw [mnT_eq, if_neg h]
        rw [e] at ih ⊢
        exact Ev.ite_neg (by simpa using h) ih
    refine Ev.step (fun k => spec_LeastSigns.l0.eq_2 ..) (Ev.ite_pos (by omega) (Ev.ite_pos (by omega) ?_))
    rw [rdL _ i hil]
    refine Ev.bind (pick_ev n (by omega) s hs _ hp) (Ev.bind (pick_ev n (by omega) t ht _ hp) ?_)
    dsimp only
    rw [less_toS]
    by_cases h : toS (pickT n s (AN n)[i]) < toS b
    · exact Ev.ite_pos (decide_eq_true h) (hj _ (by rw [mnT_eq, if_pos h]))
    · exact Ev.ite_neg (by simpa using h) (hj _ (by rw [mnT_eq, if_neg h]))
theorem impl_least (L : List ByteArray) (hL : L.length ≤ 100000) (hz : ∀ x ∈ L, x.size ≤ 9223372036854775807) (n : Int) (s : ByteArray) : ∀ d i, i + d = L.length → ∀ b : ByteArray,
    Ev (fun k => impl_LeastSigns.l0 k b L (L.length : Int) (i : Nat) n s) (n, minL b ((L.drop i).flatMap fun x => [x, oppT x]), true)
  | 0, i, hi, b => by
    rw [List.drop_of_length_le (by omega)]
    exact Ev.step (fun k => impl_LeastSigns.l0.eq_2 ..) (Ev.ite_neg (by omega) (Ev.now _))
  | d + 1, i, hi, b => by
    have hil : i < L.length := by omega
    rw [List.drop_eq_getElem_cons hil, List.flatMap_cons]
    refine Ev.step (fun k => impl_LeastSigns.l0.eq_2 ..) (Ev.ite_pos (by omega) (Ev.ite_pos (by omega) (Ev.ite_pos (by omega) ?_)))
    rw [rdB L i hil, wrap_nat i (by omega)]
    exact Ev.bind0 (opp_impl _ (hz _ (List.getElem_mem hil))) (impl_least L hL hz n s d (i + 1) (by omega) _)
theorem oppT_sizeL (s : ByteArray) : (oppT s).size = s.size := by
  unfold oppT
  rw [strOfNums_size]
  simp [oppL]
theorem least_both (n : Int) (s : ByteArray) (hz : s.size ≤ 9223372036854775807) : ∃ v : Int × ByteArray × Bool, Ev (fun k => spec_LeastSigns.f k n s) v ∧ Ev (fun k => impl_LeastSigns.f k n s) v := by
  unfold spec_LeastSigns.f impl_LeastSigns.f
  have hF := fits_ev n s
  by_cases hA : isS n s = true ∧ n ≤ 6
  · obtain ⟨m, rfl, h3, h7, hs, h35, hpm⟩ := isS_nat hA.1
    have hn : m ≤ 6 := by omega
    rw [hA.1, decide_eq_true hA.2] at hF
    have hl := AN_len m hn
    have hlt : (texts m s).length = (AN m).length := by unfold texts; rw [List.length_map]
    have hpos : 0 < (AN m).length := List.length_pos_of_mem (id_mem m hn)
    have h1 := spec_least m hn s (oppT s) hs (by rw [oppT_sizeL]; exact hs) (AN m).length 0 (by omega) s
    have hsz : ∀ x ∈ texts m s, x.size ≤ 9223372036854775807 := fun x hx => by
      obtain ⟨p, _, rfl⟩ := List.mem_map.1 hx
      show (strOfNums (pickC m s (inv p))).size ≤ _
      rw [strOfNums_size, pickC, List.length_map]
      omega
    have h2 := impl_least (texts m s) (by omega) hsz m s (texts m s).length 0 (by omega) (rdOf ByteArray.empty (texts m s) 0)
    have e0 : rdOf ByteArray.empty (texts m s) 0 ∈ texts m s := by
      have := rdB (texts m s) 0 (by omega)
      rw [show ((0 : Nat) : Int) = 0 from rfl] at this
      rw [this]
      exact List.getElem_mem _
    have e : minL s ((AN m).flatMap fun q => [pickT m s q, pickT m (oppT s) q]) = minL (rdOf ByteArray.empty (texts m s) 0) ((texts m s).flatMap fun x => [x, oppT x]) := by
      refine minL_unique _ _ _ _ (fun z => ?_)
      have hL : z ∈ s :: ((AN m).flatMap fun q => [pickT m s q, pickT m (oppT s) q]) ↔ ∃ q ∈ AN m, z = pickT m s q ∨ z = pickT m (oppT s) q := by
        rw [List.mem_cons, List.mem_flatMap]
        constructor
        · rintro (h | ⟨q, hq, h⟩)
          · exact ⟨idL m, id_mem m hn, .inl (by rw [pick_id m hn s hs hpm]; exact h)⟩
          · exact ⟨q, hq, by simpa using h⟩
        · rintro ⟨q, hq, h⟩
          exact .inr ⟨q, hq, by simpa using h⟩
      have hR : z ∈ rdOf ByteArray.empty (texts m s) 0 :: ((texts m s).flatMap fun x => [x, oppT x]) ↔ ∃ x ∈ texts m s, z = x ∨ z = oppT x := by
        rw [List.mem_cons, List.mem_flatMap]
        constructor
        · rintro (h | ⟨q, hq, h⟩)
          · exact ⟨_, e0, .inl h⟩
          · exact ⟨q, hq, by simpa using h⟩
        · rintro ⟨q, hq, h⟩
          exact .inr ⟨q, hq, by simpa using h⟩
      rw [hL, hR]
      constructor
      · rintro ⟨q, hq, h⟩
        obtain ⟨p, hp, e⟩ := List.mem_map.1 ((inv_all m hn).mem_iff.2 hq)
        refine ⟨pickT m s q, List.mem_map.2 ⟨p, hp, by rw [e]⟩, ?_⟩
        rw [pick_opp m (by omega) s hs hpm q (AN_P m hn q hq)] at h
        exact h
      · rintro ⟨x, hx, h⟩
        obtain ⟨p, hp, rfl⟩ := List.mem_map.1 hx
        refine ⟨inv p, inv_mem m hn p hp, ?_⟩
        rw [pick_opp m (by omega) s hs hpm _ (AN_P m hn _ (inv_mem m hn p hp))]
        exact h
    rw [List.drop_zero, e] at h1
    rw [List.drop_zero] at h2
    exact ⟨_, Ev.bind hF (Ev.ite_pos rfl (Ev.bind (opp_spec m s hA.1) (Ev.bind (orders_ev m hn) h1))), Ev.bind (renamed_yes m hn s hs hA.1) (Ev.ite_pos rfl (Ev.ite_pos (by dsimp only; omega) h2))⟩
  · have hb : (isS n s && decide (n ≤ 6)) = false := by
      cases h1 : isS n s with
      | false => rfl
      | true => rw [Bool.true_and, decide_eq_false_iff_not]; exact fun h => hA ⟨h1, h⟩
    rw [hb] at hF
    exact ⟨(0, (⟨#[]⟩ : ByteArray), false), Ev.bind hF (Ev.ite_neg (by simp) (Ev.now _)), Ev.bind (renamed_no n s (by cases h1 : isS n s with | false => exact .inl rfl | true => exact .inr (Int.not_le.mp fun h => hA ⟨h1, h⟩))) (Ev.ite_neg (by simp) (Ev.now _))⟩
end Go.Proofs.Yteblnjoljbdjjaa.Pure
namespace Go.Proofs.Yteblnjoljbdjjaa.Pure
set_option linter.unusedSimpArgs false
set_option linter.unusedVariables false
open Go.RowKit Go.Proofs.YteblnjoljbdjjaaW.PrintWords Go.Proofs.Yteblnjoljbdjjaa.P Go.Proofs.Yteblnjoljbdjjaa.Pl Go.Proofs.Yteblnjoljbdjjaa.Rk
theorem alike_both (n m : Int) (s t : ByteArray) (hs : s.size ≤ 9223372036854775807) (ht : t.size ≤ 9223372036854775807) : ∃ v, Ev (fun k => spec_AreAlike.f k n s m t) v ∧ Ev (fun k => impl_AreAlike.f k n s m t) v := by
  obtain ⟨a, a1, a2⟩ := least_both n s hs
  obtain ⟨b, b1, b2⟩ := least_both m t ht
  unfold spec_AreAlike.f impl_AreAlike.f
  by_cases ha : a.2.2 = true
  · by_cases hb : b.2.2 = true
    · exact ⟨_, Ev.bind a1 (Ev.bind b1 (Ev.ite_pos ha (Ev.ite_pos hb (Ev.now _)))), Ev.bind a2 (Ev.bind b2 (Ev.ite_pos ha (Ev.ite_pos hb (Ev.now _))))⟩
    · exact ⟨false, Ev.bind a1 (Ev.bind b1 (Ev.ite_pos ha (Ev.ite_neg hb (Ev.now _)))), Ev.bind a2 (Ev.bind b2 (Ev.ite_pos ha (Ev.ite_neg hb (Ev.now _))))⟩
  · exact ⟨false, Ev.bind a1 (Ev.bind b1 (Ev.ite_neg ha (Ev.now _))), Ev.bind a2 (Ev.bind b2 (Ev.ite_neg ha (Ev.now _)))⟩
theorem FnExactAreAlike (s0 : S23) (s1 : S23) (hq : Q23 s0) (hq1 : Q23 s1) : ∃ k, laws_FnExactAreAlike.f k s0.f0 s0.f1 s1.f0 s1.f1 = some true := by
  refine Ev.rounds (g := fun k => laws_FnExactAreAlike.f k s0.f0 s0.f1 s1.f0 s1.f1) ?_
  unfold laws_FnExactAreAlike.f
  refine Ev.bind0 (szSigns_eqO _ _ 1048576 (by omega) (by omega) hq.2) ?_
  by_cases hs : 1048576 < (s0.f1.size : Int)
  · rw [if_pos hs]
    exact Ev.ite_pos (by omega) (Ev.now _)
  rw [if_neg hs]
  refine Ev.ite_neg (by omega) ?_
  refine Ev.bind0 (szSigns_eqO _ _ _ (by omega) (by omega) hq1.2) ?_
  by_cases hs1 : 1048576 - (s0.f1.size : Int) < (s1.f1.size : Int)
  · rw [if_pos hs1]
    exact Ev.ite_pos (by omega) (Ev.now _)
  rw [if_neg hs1]
  refine Ev.ite_neg (by omega) ?_
  obtain ⟨v, h1, h2⟩ := alike_both s0.f0 s1.f0 s0.f1 s1.f1 (by omega) (by omega)
  exact Ev.bind0 rfl (Ev.bind0 rfl (Ev.bind h1 (Ev.bind0 rfl (Ev.bind0 rfl (Ev.bind h2 (Ev.ite_neg (by simp) (Ev.now _)))))))
end Go.Proofs.Yteblnjoljbdjjaa.Pure
