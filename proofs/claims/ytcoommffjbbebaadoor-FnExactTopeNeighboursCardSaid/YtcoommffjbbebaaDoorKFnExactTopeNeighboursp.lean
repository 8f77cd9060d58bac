/- What the law FnExactTopeNeighbours reaches, part 16: functions as plain Lean functions with the proofs that their calls come to them, and plain lemmas over these. Put together by a program (wip/pack.py). -/
import Derived.Test.YtcoommffjbbebaaDoorKFnExactTopeNeighboursl
import Derived.Test.YtcoommffjbbebaaDoorKFnExactTopeNeighboursg
import Derived.Test.YtcoommffjbbebaaDoorKFnExactTopeNeighbourso
import Derived.Test.YtcoommffjbbebaaDoorKFnExactTopeNeighboursh
import Derived.Test.YtcoommffjbbebaaDoorKFnExactTopeNeighboursn
namespace Go.Proofs.YtcoommffjbbebaaDoor.Pure
set_option linter.unusedSimpArgs false
set_option linter.unusedVariables false
open Go.RowKit Go.Proofs.YtcoommffjbbebaaDoorW.PrintWords Go.Proofs.YtcoommffjbbebaaDoor.P Go.Proofs.YtcoommffjbbebaaDoor.Pl
theorem bt_strT (L : List Int) (j : Nat) (hj : j < L.length) (h : 0 ≤ L[j] ∧ L[j] < 256) : bt (strOfNums L) (j : Int) = L[j] := by
  unfold bt
  have hs : (strOfNums L).size = L.length := strOfNums_size L
  rw [dif_pos (by rw [Int.toNat_natCast, hs]; exact hj)]
  simp only [Int.toNat_natCast]
  have e : (strOfNums L)[j]'(by rw [hs]; exact hj) = UInt8.ofNat (L[j]).toNat := by
    show (strOfNums L).data[j]'_ = _
    simp [strOfNums]
  rw [e, UInt8.toNat_ofNat']
  omega
def Tx (n : Nat) (t : ByteArray) : Prop := allC t = true ∧ t.size = n
theorem Tx_of_codes (n : Nat) (L : List Int) (hl : L.length = n) (h : ∀ c ∈ L, c = 43 ∨ c = 45 ∨ c = 48) : Tx n (strOfNums L) := by
  have hs : (strOfNums L).size = L.length := strOfNums_size L
  refine ⟨?_, by rw [hs, hl]⟩
  unfold allC
  rw [List.all_eq_true]
  intro j hj
  have hj : j < L.length := by rw [hs] at hj; simpa using hj
  have hc := h L[j] (List.getElem_mem hj)
  rw [bt_strT L j hj (by omega)]
  unfold inC
  rcases hc with e | e | e <;> rw [e] <;> rfl
theorem Tx_cov {n : Nat} (hn : n ≤ 7) {t : ByteArray} (h : Tx n t) : cov t = true := by
  unfold cov
  rw [h.1, h.2, decide_eq_true hn]
  rfl
def PT (n : Nat) (s : ByteArray) (x y : Nat) : ByteArray := strOfNums (codesP n s x y n)
theorem PT_tx (n : Nat) (s : ByteArray) (x y : Nat) : Tx n (PT n s x y) := by
  refine Tx_of_codes n _ (codesP_length ..) (fun c hc => ?_)
  obtain ⟨k, _, rfl⟩ := List.mem_map.1 hc
  show codeP (sg n s x y k) = 43 ∨ codeP (sg n s x y k) = 45 ∨ codeP (sg n s x y k) = 48
  unfold codeP
  split
  · exact .inl rfl
  · split
    · exact .inr (.inl rfl)
    · exact .inr (.inr rfl)
def jn (a b : ByteArray) : ByteArray := strOfNums (jnL a b)
theorem jn_tx {n : Nat} {a b : ByteArray} (ha : Tx n a) (hb : Tx n b) : Tx n (jn a b) := by
  have hl : (jnL a b).length = n := by
    unfold jnL
    rw [List.length_map, List.length_range, ha.2]
  refine Tx_of_codes n _ hl (fun c hc => ?_)
  unfold jnL at hc
  obtain ⟨k, hk, rfl⟩ := List.mem_map.1 hc
  have hk : k < a.size := by simpa using hk
  unfold jnI
  split
  · exact allC_at hb.1 k (by rw [hb.2, ← ha.2]; exact hk)
  · exact allC_at ha.1 k hk
def puts (S xs : List ByteArray) : List ByteArray := xs.foldl putB S
theorem puts_app (S xs ys : List ByteArray) : puts S (xs ++ ys) = puts (puts S xs) ys := List.foldl_append
theorem puts_one (S : List ByteArray) (x : ByteArray) : puts S [x] = putB S x := rfl
theorem puts_mem : ∀ (xs S : List ByteArray) (z : ByteArray), z ∈ puts S xs ↔ z ∈ S ∨ z ∈ xs
  | [], S, z => by simp [puts]
  | x :: r, S, z => by
    have h := puts_mem r (putB S x) z
    show z ∈ puts (putB S x) r ↔ _
    rw [h, putB_mem, List.mem_cons]
    constructor
    · rintro ((h | h) | h)
      · exact .inr (.inl h)
      · exact .inl h
      · exact .inr (.inr h)
    · rintro (h | h | h)
      · exact .inl (.inr h)
      · exact .inl (.inl h)
      · exact .inr h
theorem puts_asc : ∀ (xs S : List ByteArray), ascB S → ascB (puts S xs)
  | [], S, h => h
  | x :: r, S, h => puts_asc r (putB S x) (putB_asc S x h)
theorem puts_len : ∀ (xs S : List ByteArray), (puts S xs).length ≤ S.length + xs.length
  | [], S => Nat.le_refl _
  | x :: r, S => by
    have h := puts_len r (putB S x)
    have h2 := putB_len S x
    show (puts (putB S x) r).length ≤ _
    rw [List.length_cons]
    omega
theorem asc_nil : ascB [] := List.Pairwise.nil
theorem flat_len {α : Type} (f : α → List ByteArray) (m : Nat) (h : ∀ a, (f a).length ≤ m) : ∀ l : List α, (l.flatMap f).length ≤ l.length * m
  | [] => by simp
  | a :: r => by
    have h1 := flat_len f m h r
    have h2 := h a
    rw [List.flatMap_cons, List.length_append, List.length_cons, Nat.succ_mul]
    omega
theorem rangeS (n : Nat) : List.range (n + 1) = List.range n ++ [n] := List.range_succ
def rowP (n : Nat) (s : ByteArray) (x : Nat) (j : Nat) : List ByteArray := (List.range j).flatMap fun y => if x = y then [] else [PT n s x y]
def allPT (n : Nat) (s : ByteArray) (i : Nat) : List ByteArray := (List.range i).flatMap fun x => rowP n s x n
theorem rowP_succ (n : Nat) (s : ByteArray) (x j : Nat) : rowP n s x (j + 1) = rowP n s x j ++ (if x = j then [] else [PT n s x j]) := by
  unfold rowP
  rw [rangeS, List.flatMap_append]
  simp
theorem allPT_succ (n : Nat) (s : ByteArray) (i : Nat) : allPT n s (i + 1) = allPT n s i ++ rowP n s i n := by
  unfold allPT
  rw [rangeS, List.flatMap_append]
  simp
theorem rowP_len (n : Nat) (s : ByteArray) (x j : Nat) : (rowP n s x j).length ≤ j := by
  unfold rowP
  have h := flat_len (fun y => if x = y then [] else [PT n s x y]) 1 (fun y => by split <;> simp) (List.range j)
  rw [List.length_range, Nat.mul_one] at h
  exact h
theorem allPT_len (n : Nat) (s : ByteArray) (i : Nat) : (allPT n s i).length ≤ i * n := by
  unfold allPT
  have h := flat_len (fun x => rowP n s x n) n (fun x => rowP_len n s x n) (List.range i)
  rw [List.length_range] at h
  exact h
def PS (n : Nat) (s : ByteArray) : List ByteArray := puts [] (allPT n s n)
theorem mem_allPT (n : Nat) (s z : ByteArray) : z ∈ allPT n s n ↔ ∃ x y, x < n ∧ y < n ∧ x ≠ y ∧ PT n s x y = z := by
  unfold allPT rowP
  simp only [List.mem_flatMap, List.mem_range]
  constructor
  · rintro ⟨x, hx, y, hy, h⟩
    split at h
    · cases h
    · next hne => exact ⟨x, y, hx, hy, hne, (List.mem_singleton.1 h).symm⟩
  · rintro ⟨x, y, hx, hy, hne, h⟩
    exact ⟨x, hx, y, hy, by rw [if_neg hne, h]; exact List.mem_singleton.2 rfl⟩
theorem sq7 (n i : Nat) (hn : n ≤ 7) (hi : i ≤ n) : i * n ≤ 49 := Nat.mul_le_mul (Nat.le_trans hi hn) hn
theorem PS_len (n : Nat) (s : ByteArray) (hn : n ≤ 7) : (PS n s).length ≤ 49 := by
  have h1 := puts_len (allPT n s n) []
  have h2 := allPT_len n s n
  have h3 := sq7 n n hn (Nat.le_refl _)
  unfold PS
  simp only [List.length_nil] at h1
  omega
theorem spec_pairs (n : Nat) (hn : n ≤ 7) (s : ByteArray) (hs : s.size = (tri n).length) (r : List ByteArray) (hend : Ev (fun k => spec_TopesOf.l2 k [] (PS n s) [] 0) r) : Ev (fun k => spec_TopesOf.l0 k [] [] 0 n s) r := by
  refine Ev.loop (fun i k => spec_TopesOf.l0 k [] (puts [] (allPT n s i)) (i : Nat) n s) n r ?_ ?_ 0 (by omega)
  · exact Ev.step (fun k => spec_TopesOf.l0.eq_2 ..) (Ev.ite_neg (by omega) hend)
  · intro i hi ih
    refine Ev.step (fun k => spec_TopesOf.l0.eq_2 ..) (Ev.ite_pos (by omega) ?_)
    have key := Ev.loop (fun j k => spec_TopesOf.l1 k [] (puts [] (allPT n s i ++ rowP n s i j)) (i : Nat) (j : Nat) n s) n r ?_ ?_ 0 (by omega)
    · simpa [rowP] using key
    · refine Ev.step (fun k => spec_TopesOf.l1.eq_2 ..) (Ev.ite_neg (by omega) ?_)
      rw [wrap_nat i (by omega), ← allPT_succ]
      exact ih
    · intro j hj ih2
      refine Ev.step (fun k => spec_TopesOf.l1.eq_2 ..) (Ev.ite_pos (by omega) ?_)
      rw [rowP_succ] at ih2
      by_cases e : i = j
      · rw [if_pos e, List.append_nil] at ih2
        rw [wrap_nat j (by omega)]
        exact Ev.ite_pos (by omega) ih2
      · rw [if_neg e, ← List.append_assoc, puts_app, puts_one] at ih2
        have hl : (puts [] (allPT n s i ++ rowP n s i j)).length ≤ 1000000 := by
          have h1 := puts_len (allPT n s i ++ rowP n s i j) []
          rw [List.length_append] at h1
          have h2 := allPT_len n s i
          have h3 := rowP_len n s i j
          have h4 := sq7 n i hn (Nat.le_of_lt hi)
          simp only [List.length_nil] at h1
          omega
        rw [wrap_nat j (by omega)]
        exact Ev.ite_neg (by omega) (Ev.bind (spec_pair_ev n hn s hs i j hi hj e) (Ev.bind (l19Put_ev _ _ hl) ih2))
def rowJ (a : ByteArray) (P : List ByteArray) : List ByteArray := P.map (jn a)
def allJ (P Q : List ByteArray) : List ByteArray := P.flatMap fun a => rowJ a Q
theorem allJ_mem (P Q : List ByteArray) (z : ByteArray) : z ∈ allJ P Q ↔ ∃ a ∈ P, ∃ b ∈ Q, jn a b = z := by
  unfold allJ rowJ
  simp only [List.mem_flatMap, List.mem_map]
theorem allJ_len (P Q : List ByteArray) : (allJ P Q).length ≤ P.length * Q.length := flat_len _ _ (fun a => by unfold rowJ; rw [List.length_map]; exact Nat.le_refl _) P
theorem allJ_snoc (P Q : List ByteArray) (a : ByteArray) : allJ (P ++ [a]) Q = allJ P Q ++ rowJ a Q := by
  unfold allJ
  rw [List.flatMap_append]
  simp
theorem rowJ_snoc (a : ByteArray) (Q : List ByteArray) (b : ByteArray) : rowJ a (Q ++ [b]) = rowJ a Q ++ [jn a b] := by
  unfold rowJ
  rw [List.map_append]
  rfl
theorem take_snoc (P : List ByteArray) (i : Nat) (h : i < P.length) : P.take (i + 1) = P.take i ++ [P[i]] := List.take_succ_eq_append_getElem h
theorem loopZ (g : Nat → Nat → Option Bool) (m : Nat) (P : Nat → Bool) (hend : Ev (g m) true) (hstep : ∀ i, i < m → Ev (g (i + 1)) (((List.range m).drop (i + 1)).all P) → Ev (g i) (P i && ((List.range m).drop (i + 1)).all P)) : Ev (g 0) ((List.range m).all P) := by
  have key : ∀ d i, i + d = m → Ev (g i) (((List.range m).drop i).all P) := by
    intro d
    induction d with
    | zero =>
      intro i hi
      obtain rfl : i = m := by omega
      rw [List.drop_of_length_le (by simp)]
      exact hend
    | succ d ih =>
      intro i hi
      rw [rangeD m i (by omega), List.all_cons]
      exact hstep i (by omega) (ih (i + 1) (by omega))
  exact key m 0 (by omega)
def noZ (t : ByteArray) : Bool := (List.range t.size).all fun j => !(bt t (j : Int) == 48)
theorem noZ_ev (t : ByteArray) (h : t.size ≤ 1048576) : Ev (fun k => spec_l20Whole.f k t) (noZ t) := by
  unfold spec_l20Whole.f noZ
  refine loopZ (fun i k => spec_l20Whole.l0 k t (i : Nat)) t.size (fun j => !(bt t (j : Int) == 48)) ?_ ?_
  · exact Ev.step (fun k => spec_l20Whole.l0.eq_2 ..) (Ev.ite_neg (by omega) (Ev.now _))
  · intro i hi ih
    refine Ev.step (fun k => spec_l20Whole.l0.eq_2 ..) (Ev.ite_pos (by omega) (Ev.ite_pos (by omega) ?_))
    rw [wrap_nat i (by omega)]
    by_cases c : bt t (i : Int) = 48
    · rw [c]
      exact Ev.ite_pos rfl (Ev.now _)
    · rw [beq_eq_false_iff_ne.mpr c]
      exact Ev.ite_neg c ih
theorem tx_size {n : Nat} (hn : n ≤ 7) {t : ByteArray} (h : Tx n t) : t.size ≤ 1048576 := by rw [h.2]; omega
theorem puts_bound (xs : List ByteArray) (m : Nat) (h : xs.length ≤ m) (hm : m ≤ 1000000) : (puts [] xs).length ≤ 1000000 := by
  have h1 := puts_len xs []
  simp only [List.length_nil] at h1
  omega
theorem take_le (P : List ByteArray) (i : Nat) : (P.take i).length ≤ P.length := by rw [List.length_take]; omega
theorem spec_twos (n : Nat) (hn : n ≤ 7) (P : List ByteArray) (hP : ∀ a ∈ P, Tx n a) (hl : P.length ≤ 49) (r : List ByteArray) (hend : Ev (fun k => spec_TopesOf.l4 k [] P (puts [] (allJ P P)) 0) r) : Ev (fun k => spec_TopesOf.l2 k [] P [] 0) r := by
  refine Ev.loop (fun i k => spec_TopesOf.l2 k [] P (puts [] (allJ (P.take i) P)) (i : Nat)) P.length r ?_ ?_ 0 (by omega)
  · rw [List.take_length]
    exact Ev.step (fun k => spec_TopesOf.l2.eq_2 ..) (Ev.ite_neg (by omega) hend)
  · intro i hi ih
    refine Ev.step (fun k => spec_TopesOf.l2.eq_2 ..) (Ev.ite_pos (by omega) ?_)
    have key := Ev.loop (fun j k => spec_TopesOf.l3 k [] P (puts [] (allJ (P.take i) P ++ rowJ P[i] (P.take j))) (i : Nat) (j : Nat)) P.length r ?_ ?_ 0 (by omega)
    · simpa [rowJ] using key
    · refine Ev.step (fun k => spec_TopesOf.l3.eq_2 ..) (Ev.ite_neg (by omega) ?_)
      rw [wrap_nat i (by omega), List.take_length, ← allJ_snoc, ← take_snoc P i hi]
      exact ih
    · intro j hj ih2
      refine Ev.step (fun k => spec_TopesOf.l3.eq_2 ..) (Ev.ite_pos (by omega) (Ev.ite_pos (by omega) (Ev.ite_pos (by omega) (Ev.ite_pos (by omega) ?_))))
      rw [take_snoc P j hj, rowJ_snoc, ← List.append_assoc, puts_app, puts_one] at ih2
      have hb : (puts [] (allJ (P.take i) P ++ rowJ P[i] (P.take j))).length ≤ 1000000 := by
        refine puts_bound _ 3000 ?_ (by omega)
        have h1 := allJ_len (P.take i) P
        have h2 : (P.take i).length * P.length ≤ 49 * 49 := Nat.mul_le_mul (Nat.le_trans (take_le P i) hl) hl
        have h3 : (rowJ P[i] (P.take j)).length ≤ 49 := by unfold rowJ; rw [List.length_map]; exact Nat.le_trans (take_le P j) hl
        rw [List.length_append]
        omega
      rw [rdB P i hi, rdB P j hj, wrap_nat j (by omega)]
      have ti := hP _ (List.getElem_mem hi)
      have tj := hP _ (List.getElem_mem hj)
      exact Ev.bind (l20Join_ev P[i] P[j] (tx_size hn ti) (by rw [ti.2, tj.2])) (Ev.bind (l19Put_ev _ _ hb) ih2)
theorem spec_outs (n : Nat) (hn : n ≤ 7) (P T : List ByteArray) (hP : ∀ a ∈ P, Tx n a) (hT : ∀ a ∈ T, Tx n a) (hl : P.length ≤ 49) (hlT : T.length ≤ 2500) : Ev (fun k => spec_TopesOf.l4 k [] P T 0) (puts [] ((allJ P T).filter noZ)) := by
  refine Ev.loop (fun i k => spec_TopesOf.l4 k (puts [] ((allJ (P.take i) T).filter noZ)) P T (i : Nat)) P.length _ ?_ ?_ 0 (by omega)
  · rw [List.take_length]
    exact Ev.step (fun k => spec_TopesOf.l4.eq_2 ..) (Ev.ite_neg (by omega) (Ev.now _))
  · intro i hi ih
    refine Ev.step (fun k => spec_TopesOf.l4.eq_2 ..) (Ev.ite_pos (by omega) ?_)
    have key := Ev.loop (fun j k => spec_TopesOf.l5 k (puts [] ((allJ (P.take i) T ++ rowJ P[i] (T.take j)).filter noZ)) P T (i : Nat) (j : Nat)) T.length (puts [] ((allJ P T).filter noZ)) ?_ ?_ 0 (by omega)
    · simpa [rowJ] using key
    · refine Ev.step (fun k => spec_TopesOf.l5.eq_2 ..) (Ev.ite_neg (by omega) ?_)
      rw [wrap_nat i (by omega), List.take_length, ← allJ_snoc, ← take_snoc P i hi]
      exact ih
    · intro j hj ih2
      refine Ev.step (fun k => spec_TopesOf.l5.eq_2 ..) (Ev.ite_pos (by omega) (Ev.ite_pos (by omega) (Ev.ite_pos (by omega) (Ev.ite_pos (by omega) ?_))))
      rw [take_snoc T j hj, rowJ_snoc, ← List.append_assoc, List.filter_append] at ih2
      have hb : (puts [] ((allJ (P.take i) T ++ rowJ P[i] (T.take j)).filter noZ)).length ≤ 1000000 := by
        refine puts_bound _ 200000 (Nat.le_trans (List.length_filter_le _ _) ?_) (by omega)
        have h1 := allJ_len (P.take i) T
        have h2 : (P.take i).length * T.length ≤ 49 * 2500 := Nat.mul_le_mul (Nat.le_trans (take_le P i) hl) hlT
        have h3 : (rowJ P[i] (T.take j)).length ≤ 2500 := by unfold rowJ; rw [List.length_map]; exact Nat.le_trans (take_le T j) hlT
        rw [List.length_append]
        omega
      rw [rdB P i hi, rdB T j hj, wrap_nat j (by omega)]
      have ti := hP _ (List.getElem_mem hi)
      have tj := hT _ (List.getElem_mem hj)
      have tx := jn_tx ti tj
      refine Ev.bind (l20Join_ev P[i] T[j] (tx_size hn ti) (by rw [ti.2, tj.2])) (Ev.bind (noZ_ev (jn P[i] T[j]) (tx_size hn tx)) ?_)
      cases hz : noZ (jn P[i] T[j]) with
      | true =>
        rw [show [jn P[i] T[j]].filter noZ = [jn P[i] T[j]] from by simp [hz], puts_app, puts_one] at ih2
        exact Ev.ite_pos rfl (Ev.bind (l19Put_ev _ _ hb) ih2)
      | false =>
        rw [show [jn P[i] T[j]].filter noZ = [] from by simp [hz], List.append_nil] at ih2
        exact Ev.ite_neg (by simp) ih2
def TS (n : Nat) (s : ByteArray) : List ByteArray := puts [] ((allJ (PS n s) (puts [] (allJ (PS n s) (PS n s)))).filter noZ)
theorem PS_tx (n : Nat) (s : ByteArray) : ∀ a ∈ PS n s, Tx n a := fun a ha => by
  rcases (puts_mem _ _ _).1 ha with h | h
  · cases h
  · obtain ⟨x, y, _, _, _, rfl⟩ := (mem_allPT n s a).1 h
    exact PT_tx n s x y
theorem allJ_tx {n : Nat} {P Q : List ByteArray} (hP : ∀ a ∈ P, Tx n a) (hQ : ∀ a ∈ Q, Tx n a) : ∀ a ∈ allJ P Q, Tx n a := fun a ha => by
  obtain ⟨x, hx, y, hy, rfl⟩ := (allJ_mem P Q a).1 ha
  exact jn_tx (hP x hx) (hQ y hy)
theorem puts_tx {n : Nat} {P : List ByteArray} (hP : ∀ a ∈ P, Tx n a) : ∀ a ∈ puts [] P, Tx n a := fun a ha => by
  rcases (puts_mem _ _ _).1 ha with h | h
  · cases h
  · exact hP a h
theorem spec_topes_ev (n : Nat) (hn : n ≤ 7) (s : ByteArray) (hs : s.size = (tri n).length) : Ev (fun k => spec_TopesOf.l0 k [] [] 0 n s) (TS n s) := by
  have hl := PS_len n s hn
  have hT : (puts [] (allJ (PS n s) (PS n s))).length ≤ 2500 := by
    have h1 := puts_len (allJ (PS n s) (PS n s)) []
    have h2 := allJ_len (PS n s) (PS n s)
    have h3 : (PS n s).length * (PS n s).length ≤ 49 * 49 := Nat.mul_le_mul hl hl
    simp only [List.length_nil] at h1
    omega
  exact spec_pairs n hn s hs _ (spec_twos n hn (PS n s) (PS_tx n s) hl _ (spec_outs n hn (PS n s) _ (PS_tx n s) (puts_tx (allJ_tx (PS_tx n s) (PS_tx n s))) hl hT))
theorem TS_mem (n : Nat) (s z : ByteArray) : z ∈ TS n s ↔ (∃ a ∈ allPT n s n, ∃ t ∈ allJ (allPT n s n) (allPT n s n), jn a t = z) ∧ noZ z = true := by
  have hp : ∀ a, a ∈ PS n s ↔ a ∈ allPT n s n := fun a => by unfold PS; rw [puts_mem]; exact ⟨fun h => h.elim (fun h => by cases h) id, .inr⟩
  have ht : ∀ a, a ∈ puts [] (allJ (PS n s) (PS n s)) ↔ a ∈ allJ (allPT n s n) (allPT n s n) := fun a => by
    rw [puts_mem, allJ_mem, allJ_mem]
    constructor
    · rintro (h | ⟨x, hx, y, hy, e⟩)
      · cases h
      · exact ⟨x, (hp x).1 hx, y, (hp y).1 hy, e⟩
    · rintro ⟨x, hx, y, hy, e⟩
      exact .inr ⟨x, (hp x).2 hx, y, (hp y).2 hy, e⟩
  unfold TS
  rw [puts_mem, List.mem_filter, allJ_mem]
  constructor
  · rintro (h | ⟨⟨x, hx, y, hy, e⟩, hz⟩)
    · cases h
    · exact ⟨⟨x, (hp x).1 hx, y, (ht y).1 hy, e⟩, hz⟩
  · rintro ⟨⟨x, hx, y, hy, e⟩, hz⟩
    exact .inr ⟨⟨x, (hp x).2 hx, y, (ht y).2 hy, e⟩, hz⟩
def edgT (n : Nat) : List GEdge := (impl_edgesOf.f 100 (n : Int)).getD []
def okET (n : Nat) (e : GEdge) : Bool := decide (0 ≤ e.f0 ∧ e.f0 < n ∧ 0 ≤ e.f1 ∧ e.f1 < n ∧ e.f0 ≠ e.f1)
theorem all_edgT : (List.range 8).all (fun n => (impl_edgesOf.f 100 (n : Int)).isSome && (decide ((edgT n).length ≤ 21) && ((edgT n).all (okET n) && (List.range n).all fun x => (List.range n).all fun y => x == y || (edgT n).any fun e => decide ((e.f0 = (x : Int) ∧ e.f1 = (y : Int)) ∨ (e.f0 = (y : Int) ∧ e.f1 = (x : Int)))))) = true := by decide +kernel
theorem edgT_at (n : Nat) (hn : n ≤ 7) : Ev (fun k => impl_edgesOf.f k n) (edgT n) ∧ (edgT n).length ≤ 21 ∧ (∀ e ∈ edgT n, ∃ x y : Nat, e.f0 = x ∧ e.f1 = y ∧ x < n ∧ y < n ∧ x ≠ y) ∧ ∀ x y : Nat, x < n → y < n → x ≠ y → ∃ e ∈ edgT n, (e.f0 = (x : Int) ∧ e.f1 = (y : Int)) ∨ (e.f0 = (y : Int) ∧ e.f1 = (x : Int)) := by
  have h := all_edgT
  rw [List.all_eq_true] at h
  have h := h n (by simp; omega)
  rw [Bool.and_eq_true, Bool.and_eq_true, Bool.and_eq_true] at h
  obtain ⟨h1, h2, h3, h4⟩ := h
  refine ⟨?_, of_decide_eq_true h2, fun e he => ?_, fun x y hx hy hne => ?_⟩
  · obtain ⟨l, hl⟩ := Option.isSome_iff_exists.mp h1
    unfold edgT
    rw [hl]
    exact Ev.of (impl_edgesOf.mono _) hl
  · have := List.all_eq_true.1 h3 e he
    have := of_decide_eq_true this
    exact ⟨e.f0.toNat, e.f1.toNat, by omega, by omega, by omega, by omega, by omega⟩
  · have h5 := List.all_eq_true.1 (List.all_eq_true.1 h4 x (by simpa using hx)) y (by simpa using hy)
    rw [Bool.or_eq_true] at h5
    rcases h5 with h5 | h5
    · exact absurd (by simpa using h5) hne
    · obtain ⟨e, he, h6⟩ := List.any_eq_true.1 h5
      exact ⟨e, he, of_decide_eq_true h6⟩
def prL (n : Nat) (s : ByteArray) (es : List GEdge) : List ByteArray := es.flatMap fun e => [PT n s e.f0.toNat e.f1.toNat, PT n s e.f1.toNat e.f0.toNat]
theorem pairsF_ev (n : Nat) (hn : n ≤ 7) (s : ByteArray) : ∀ es : List GEdge, (∀ e ∈ es, ∃ x y : Nat, e.f0 = x ∧ e.f1 = y ∧ x < n ∧ y < n ∧ x ≠ y) → Ev (fun k => pairsF k (tab n s) es) (prL n s es)
  | [], _ => Ev.const rfl
  | e :: r, h => by
    obtain ⟨x, y, h0, h1, hx, hy, hne⟩ := h e List.mem_cons_self
    have ih := pairsF_ev n hn s r (fun e he => h e (List.mem_cons_of_mem _ he))
    have e0 : prL n s (e :: r) = PT n s x y :: PT n s y x :: prL n s r := by
      unfold prL
      rw [List.flatMap_cons, h0, h1, Int.toNat_natCast, Int.toNat_natCast]
      rfl
    rw [e0]
    show Ev (fun k => (impl_chi_pairText.f k (tab n s) e.f0 e.f1).bind fun a => (impl_chi_pairText.f k (tab n s) e.f1 e.f0).bind fun b => (pairsF k (tab n s) r).bind fun l => some (a :: b :: l)) _
    rw [h0, h1]
    exact Ev.bind (impl_pair_ev n hn s x y hx hy hne) (Ev.bind (impl_pair_ev n hn s y x hy hx (Ne.symm hne)) (Ev.bind ih (Ev.now _)))
theorem joinRow_ev (n : Nat) (hn : n ≤ 7) (a : ByteArray) (ha : Tx n a) : ∀ bs : List ByteArray, (∀ b ∈ bs, Tx n b) → Ev (fun k => joinRow k a bs) (rowJ a bs)
  | [], _ => Ev.const rfl
  | b :: r, h => by
    have hb := h b List.mem_cons_self
    have ih := joinRow_ev n hn a ha r (fun e he => h e (List.mem_cons_of_mem _ he))
    have hj := join_impl a b (tx_size hn ha) (tx_size hn hb)
    unfold joinS at hj
    rw [if_pos ⟨Tx_cov hn ha, Tx_cov hn hb, by rw [ha.2, hb.2]⟩] at hj
    have hz : (jn a b).size ≤ 1000 := by rw [(jn_tx ha hb).2]; omega
    exact Ev.bind hj (Ev.ite_pos hz (Ev.bind ih (Ev.now _)))
theorem joinAll_ev (n : Nat) (hn : n ≤ 7) (bs : List ByteArray) (hb : ∀ b ∈ bs, Tx n b) : ∀ cs : List ByteArray, (∀ b ∈ cs, Tx n b) → Ev (fun k => joinAll k bs cs) (allJ cs bs)
  | [], _ => Ev.const rfl
  | a :: r, h => by
    have ih := joinAll_ev n hn bs hb r (fun e he => h e (List.mem_cons_of_mem _ he))
    exact Ev.bind (joinRow_ev n hn a (h a List.mem_cons_self) bs hb) (Ev.bind ih (Ev.now _))
theorem uniq_len : ∀ l : List ByteArray, (uniqS l).length ≤ l.length
  | [] => Nat.le_refl _
  | x :: r => by
    have := uniq_len r
    unfold uniqS
    split
    · rw [List.length_cons]; omega
    · rw [List.length_cons, List.length_cons]; omega
theorem index_iff (c : UInt8) : ∀ l : List UInt8, 0 ≤ Lib.indexByte l c ↔ c ∈ l
  | [] => by simp [Lib.indexByte]
  | b :: l => by
    have ih := index_iff c l
    have hg := Lib.indexByte_ge l c
    unfold Lib.indexByte
    by_cases e : b = c
    · subst e
      simp
    · have e1 : (b == c) = false := beq_eq_false_iff_ne.mpr e
      rw [e1, if_neg (by simp), List.mem_cons]
      by_cases h1 : Lib.indexByte l c = -1
      · rw [h1, if_pos (by decide)]
        rw [h1] at ih
        constructor
        · intro h; omega
        · rintro (h | h)
          · exact absurd h.symm e
          · have := ih.2 h; omega
      · rw [if_neg (by simpa using h1)]
        constructor
        · intro h; exact .inr (ih.1 (by omega))
        · rintro (h | h)
          · exact absurd h.symm e
          · have := ih.2 h; omega
theorem hasZ_eq (t : ByteArray) : (!hasZ t) = noZ t := by
  rw [Bool.eq_iff_iff, Bool.not_eq_true']
  unfold hasZ noZ
  rw [decide_eq_false_iff_not, index_iff, List.all_eq_true]
  constructor
  · intro h j hj
    have hj : j < t.size := by simpa using hj
    rw [bt_nat t j hj]
    have hne : t.data[j]'hj ≠ 48 := fun e => h (by rw [← e]; exact Array.getElem_mem_toList hj)
    have h2 : (t.data[j]'hj).toNat ≠ 48 := fun e => hne (UInt8.toNat_inj.1 e)
    simp
    omega
  · intro h hm
    obtain ⟨j, hj, e⟩ := List.mem_iff_getElem.1 hm
    have hj2 : j < t.size := hj
    have h1 := h j (by simpa using hj2)
    rw [bt_nat t j hj2] at h1
    have e2 : t.data[j]'hj2 = 48 := by rw [← e]; simp
    rw [e2] at h1
    simp at h1
theorem sort_asc (l : List ByteArray) (h : l.Nodup) : ascB (sortS l) := by
  have h1 := sorted_le (l.map toS)
  have h2 : (l.map toS).Nodup := List.pairwise_map.2 (h.imp (fun hne e => hne (toS_inj e)))
  have h3 : ((l.map toS).mergeSort fun x y => decide (x ≤ y)).Nodup := (List.mergeSort_perm _ _).nodup_iff.2 h2
  rw [← sortS_toS] at h1 h3
  refine List.pairwise_map.1 ((h1.and h3).imp (fun {a b} hab => ?_))
  rcases Decidable.em (a < b) with h | h
  · exact h
  · exact absurd (List.le_antisymm hab.1 (List.not_lt.1 h)) hab.2
theorem sort_mem (l : List ByteArray) (z : ByteArray) : z ∈ sortS l ↔ z ∈ l := by
  have hz : ∀ L : List ByteArray, z ∈ L ↔ toS z ∈ L.map toS := fun L => by
    rw [List.mem_map]
    exact ⟨fun h => ⟨z, h, rfl⟩, fun ⟨y, hy, e⟩ => toS_inj e ▸ hy⟩
  rw [hz, sortS_toS, List.mem_mergeSort, ← hz]
theorem impl_topes_ev (n : Nat) (hn : n ≤ 7) (s : ByteArray) (hM : isM (n : Int) s = true) (hs : s.size = (tri n).length) : Ev (fun k => impl_TopesOf.f k n s) (TS n s) := by
  obtain ⟨he, hel, hok, hall⟩ := edgT_at n hn
  have hI := impl_IsMatroid_ev n s
  rw [hM] at hI
  have hpt : ∀ z, z ∈ prL n s (edgT n) ↔ z ∈ allPT n s n := fun z => by
    rw [mem_allPT]
    unfold prL
    rw [List.mem_flatMap]
    constructor
    · rintro ⟨e, hm, hz⟩
      obtain ⟨x, y, h0, h1, hx, hy, hne⟩ := hok e hm
      rw [h0, h1, Int.toNat_natCast, Int.toNat_natCast] at hz
      rcases List.mem_cons.1 hz with rfl | hz
      · exact ⟨x, y, hx, hy, hne, rfl⟩
      · rw [List.mem_singleton.1 hz]
        exact ⟨y, x, hy, hx, Ne.symm hne, rfl⟩
    · rintro ⟨x, y, hx, hy, hne, rfl⟩
      obtain ⟨e, hm, ⟨h0, h1⟩ | ⟨h0, h1⟩⟩ := hall x y hx hy hne
      · exact ⟨e, hm, by rw [h0, h1, Int.toNat_natCast, Int.toNat_natCast]; exact List.mem_cons_self⟩
      · exact ⟨e, hm, by rw [h0, h1, Int.toNat_natCast, Int.toNat_natCast]; exact List.mem_cons_of_mem _ List.mem_cons_self⟩
  obtain ⟨ps, hps⟩ : ∃ ps, prL n s (edgT n) = ps := ⟨_, rfl⟩
  rw [hps] at hpt
  have hpx : ∀ a ∈ ps, Tx n a := fun a ha => by
    obtain ⟨x, y, _, _, _, rfl⟩ := (mem_allPT n s a).1 ((hpt a).1 ha)
    exact PT_tx n s x y
  have hpl : ps.length ≤ 42 := by
    rw [← hps]
    have := flat_len (fun e : GEdge => [PT n s e.f0.toNat e.f1.toNat, PT n s e.f1.toNat e.f0.toNat]) 2 (fun _ => Nat.le_refl _) (edgT n)
    unfold prL
    omega
  have hkx := allJ_tx hpx hpx
  have hux : ∀ a ∈ uniqS (allJ ps ps), Tx n a := fun a ha => hkx a ((uniqS_mem _ _).1 ha)
  have hkl : (uniqS (allJ ps ps)).length ≤ 1764 := by
    have h1 := uniq_len (allJ ps ps)
    have h2 := allJ_len ps ps
    have h3 : ps.length * ps.length ≤ 42 * 42 := Nat.mul_le_mul hpl hpl
    omega
  have hul : (allJ ps (uniqS (allJ ps ps))).length ≤ 1000000 := by
    have h2 := allJ_len ps (uniqS (allJ ps ps))
    have h3 : ps.length * (uniqS (allJ ps ps)).length ≤ 42 * 1764 := Nat.mul_le_mul hpl hkl
    omega
  have hev : Ev (fun k => impl_TopesOf.f k n s) (sortS ((uniqS (allJ ps (uniqS (allJ ps ps)))).filter fun t => !hasZ t)) := by
    unfold impl_TopesOf.f
    refine Ev.bind hI (Ev.ite_pos rfl (Ev.bind (tableOf_ev n hn s hs) (Ev.bind he (Ev.ite_pos (by omega) (Ev.bind (by have := pairsF_ev n hn s (edgT n) hok; rw [hps] at this; exact this) (Ev.bind (joinAll_ev n hn ps hpx ps hpx) (Ev.bind (joinAll_ev n hn _ hux ps hpx) (Ev.ite_pos hul (Ev.now _)))))))))
  have heq : sortS ((uniqS (allJ ps (uniqS (allJ ps ps)))).filter fun t => !hasZ t) = TS n s := by
    refine asc_unique (sort_asc _ ((uniqS_nodup _).filter _)) (puts_asc _ _ asc_nil) (fun z => ?_)
    rw [sort_mem, List.mem_filter, uniqS_mem, allJ_mem, hasZ_eq]
    rw [TS_mem]
    refine and_congr_left' ?_
    constructor
    · rintro ⟨a, ha, t, ht, e⟩
      obtain ⟨x, hx, y, hy, e2⟩ := (allJ_mem _ _ _).1 ((uniqS_mem _ _).1 ht)
      exact ⟨a, (hpt a).1 ha, t, (allJ_mem _ _ _).2 ⟨x, (hpt x).1 hx, y, (hpt y).1 hy, e2⟩, e⟩
    · rintro ⟨a, ha, t, ht, e⟩
      obtain ⟨x, hx, y, hy, e2⟩ := (allJ_mem _ _ _).1 ht
      exact ⟨a, (hpt a).2 ha, t, (uniqS_mem _ _).2 ((allJ_mem _ _ _).2 ⟨x, (hpt x).2 hx, y, (hpt y).2 hy, e2⟩), e⟩
  rw [← heq]
  exact hev
theorem topes_both (n : Int) (s : ByteArray) : ∃ v : List ByteArray, Ev (fun k => spec_TopesOf.f k n s) v ∧ Ev (fun k => impl_TopesOf.f k n s) v ∧ v.length ≤ 1000000 ∧ (∀ t ∈ v, allC t = true ∧ t.size ≤ 7) := by
  have hS := spec_IsMatroid_ev n s
  have hI := impl_IsMatroid_ev n s
  cases hM : isM n s with
  | false =>
    rw [hM] at hS hI
    refine ⟨[], ?_, ?_, Nat.zero_le _, (fun _ h => by cases h)⟩
    · unfold spec_TopesOf.f
      exact Ev.bind0 rfl (Ev.bind hS (Ev.ite_neg (by simp) (Ev.now _)))
    · unfold impl_TopesOf.f
      exact Ev.bind hI (Ev.ite_neg (by simp) (Ev.now _))
  | true =>
    rw [hM] at hS
    have hA : isS n s = true := by
      have h := hM
      unfold isM at h
      rw [Bool.and_eq_true] at h
      exact h.1
    obtain ⟨h3, h7, hs, _⟩ := isS_bounds hA
    obtain ⟨n, rfl⟩ := Int.eq_ofNat_of_zero_le (show 0 ≤ n by omega)
    rw [Int.toNat_natCast] at hs
    have hn : n ≤ 7 := by omega
    refine ⟨TS n s, ?_, impl_topes_ev n hn s hM hs, ?_, fun t ht => ?_⟩
    · unfold spec_TopesOf.f
      exact Ev.bind0 rfl (Ev.bind hS (Ev.ite_pos rfl (spec_topes_ev n hn s hs)))
    · refine puts_bound _ 200000 (Nat.le_trans (List.length_filter_le _ _) ?_) (by omega)
      have hl := PS_len n s hn
      have hT : (puts [] (allJ (PS n s) (PS n s))).length ≤ 2500 := by
        have h1 := puts_len (allJ (PS n s) (PS n s)) []
        have h2 := allJ_len (PS n s) (PS n s)
        have h3 : (PS n s).length * (PS n s).length ≤ 49 * 49 := Nat.mul_le_mul hl hl
        simp only [List.length_nil] at h1
        omega
      have h1 := allJ_len (PS n s) (puts [] (allJ (PS n s) (PS n s)))
      have h2 : (PS n s).length * (puts [] (allJ (PS n s) (PS n s))).length ≤ 49 * 2500 := Nat.mul_le_mul hl hT
      omega
    · unfold TS at ht
      rcases (puts_mem _ _ _).1 ht with h | h
      · cases h
      · have := allJ_tx (PS_tx n s) (puts_tx (allJ_tx (PS_tx n s) (PS_tx n s))) t (List.mem_filter.1 h).1
        exact ⟨this.1, by rw [this.2]; omega⟩
theorem rd_ltZ (l : List Int) (i : Nat) (h : i < l.length) : rd l (i : Int) = l[i] := by
  unfold rd
  rw [Int.toNat_natCast, getD_lt _ _ _ h]
theorem eqIntS_selfZ (l : List Int) (hl : l.length ≤ 1048576) : Ev (fun k => laws_eqIntS.f k l l) true := by
  unfold laws_eqIntS.f
  refine Ev.ite_pos rfl ?_
  refine Ev.loop (fun i k => laws_eqIntS.l0 k l l i) l.length true ?_ ?_ 0 (by omega)
  · refine Ev.step (fun k => laws_eqIntS.l0.eq_2 ..) ?_
    exact Ev.ite_neg (by omega) (Ev.now _)
  · intro i hi ih
    refine Ev.step (fun k => laws_eqIntS.l0.eq_2 ..) ?_
    refine Ev.ite_pos (by omega) (Ev.ite_pos (by omega) (Ev.ite_pos (by omega) (Ev.ite_pos rfl ?_)))
    rw [wrap_nat i (by omega)]
    exact ih
def marksF (c n : Nat) : List Int := (List.range n).map fun i => ((c + i : Nat) : Int)
theorem marksF_length (c n : Nat) : (marksF c n).length = n := by simp [marksF]
theorem rd_marksF (c n i : Nat) (h : i < n) : rd (marksF c n) (i : Int) = ((c + i : Nat) : Int) := by
  rw [rd_ltZ _ _ (by rw [marksF_length]; exact h)]
  simp [marksF]
theorem marksF_set (l : List Int) (c n i : Nat) (hl : l.length = n) (hi : i < n) : (marksF c i ++ l.drop i).set i ((c + i : Nat) : Int) = marksF c (i + 1) ++ l.drop (i + 1) := by
  have h0 : (marksF c i).length = i := marksF_length c i
  rw [List.set_append_right _ _ (by omega), h0, Nat.sub_self, List.drop_eq_getElem_cons (by omega), List.set_cons_zero]
  simp [marksF, List.range_succ]
theorem markIntS_from (l : List Int) (c : Nat) (hc : c ≤ 100000000) (hl : l.length ≤ 1048576) : Ev (fun k => laws_markIntS.f k l c) (((c + l.length : Nat) : Int), marksF c l.length) := by
  have key := Ev.loop (fun i k => laws_markIntS.l0 k (marksF c i ++ l.drop i) ((c + i : Nat) : Int) i) l.length (((c + l.length : Nat) : Int), marksF c l.length) ?_ ?_ 0 (by omega)
  · unfold laws_markIntS.f
    simpa [marksF] using key
  · refine Ev.step (fun k => laws_markIntS.l0.eq_2 ..) ?_
    refine Ev.ite_neg (by simp [marksF_length]) (Ev.const ?_)
    simp
  · intro i hi ih
    refine Ev.step (fun k => laws_markIntS.l0.eq_2 ..) ?_
    refine Ev.ite_pos (by simp [marksF_length]; omega) (Ev.ite_pos (by omega) ?_)
    rw [wrap_nat i (by omega), wrap_nat (c + i) (by omega), Int.toNat_natCast, marksF_set l c l.length i rfl hi]
    exact ih
theorem heldIntS_from (c n : Nat) (hc : c ≤ 100000000) (hl : n ≤ 1048576) : Ev (fun k => laws_heldIntS.f k (marksF c n) c) ((c + n : Nat) : Int) := by
  have key := Ev.loop (fun i k => laws_heldIntS.l0 k (marksF c n) ((c + i : Nat) : Int) i) n ((c + n : Nat) : Int) ?_ ?_ 0 (by omega)
  · exact key
  · refine Ev.step (fun k => laws_heldIntS.l0.eq_2 ..) ?_
    exact Ev.ite_neg (by simp [marksF_length]) (Ev.now _)
  · intro i hi ih
    refine Ev.step (fun k => laws_heldIntS.l0.eq_2 ..) ?_
    refine Ev.ite_pos (by simp [marksF_length]; omega) (Ev.ite_pos (by omega) (Ev.ite_pos (rd_marksF c n i hi) ?_))
    rw [wrap_nat i (by omega), wrap_nat (c + i) (by omega)]
    exact ih
end Go.Proofs.YtcoommffjbbebaaDoor.Pure
namespace Go.Proofs.YtcoommffjbbebaaDoor.Pure
set_option linter.unusedSimpArgs false
set_option linter.unusedVariables false
open Go.RowKit Go.Proofs.YtcoommffjbbebaaDoorW.PrintWords Go.Proofs.YtcoommffjbbebaaDoor.P Go.Proofs.YtcoommffjbbebaaDoor.Pl Go.Proofs.YtcoommffjbbebaaDoor.Rk
theorem szSigns_eqN (n : Int) (s : ByteArray) (a : Int) (h0 : 0 ≤ a) (h1 : a ≤ 1048576) (hl : s.size ≤ 9223372036854775807) : laws_szSigns.f n s a = some (if a < s.size then -1 else a - s.size) := by
  unfold laws_szSigns.f
  rw [wrap_in (by omega) (by omega)]
  by_cases h : a < (s.size : Int)
  · rw [if_pos h, if_pos (by omega)]
  · rw [if_neg h, if_neg (by omega)]
theorem toListS (s : ByteArray) : s.toList = s.data.toList := Lib.toList_data s
theorem toListS_inj {a b : ByteArray} (h : a.toList = b.toList) : a = b := by
  rw [toListS, toListS] at h
  exact ByteArray.ext (Array.ext' h)
def hasB (l : List ByteArray) (x : ByteArray) : Bool := l.any fun y => decide (y = x)
theorem hasB_iff (l : List ByteArray) (x : ByteArray) : hasB l x = true ↔ x ∈ l := by
  unfold hasB
  rw [List.any_eq_true]
  exact ⟨fun ⟨e, he, h⟩ => (of_decide_eq_true h) ▸ he, fun h => ⟨x, h, decide_eq_true rfl⟩⟩
theorem spec_has_ev (l : List ByteArray) (hl : l.length ≤ 1000000) (x : ByteArray) : Ev (fun k => spec_l20Has.f k l x) (hasB l x) := by
  have key : ∀ d i, i + d = l.length → Ev (fun k => spec_l20Has.l0 k l x (i : Nat)) (hasB (l.drop i) x) := by
    intro d
    induction d with
    | zero =>
      intro i hi
      rw [List.drop_of_length_le (by omega)]
      exact Ev.step (fun k => spec_l20Has.l0.eq_2 ..) (Ev.ite_neg (by omega) (Ev.now _))
    | succ d ih =>
      intro i hi
      have hil : i < l.length := by omega
      have h := ih (i + 1) (by omega)
      rw [List.drop_eq_getElem_cons hil]
      refine Ev.step (fun k => spec_l20Has.l0.eq_2 ..) (Ev.ite_pos (by omega) (Ev.ite_pos (by omega) ?_))
      rw [rdB l i hil, wrap_nat i (by omega)]
      unfold hasB
      rw [List.any_cons]
      by_cases e : l[i] = x
      · rw [decide_eq_true e]
        exact Ev.ite_pos (by rw [e]) (Ev.now _)
      · rw [decide_eq_false e, Bool.false_or]
        exact Ev.ite_neg (fun h2 => e (toListS_inj h2)) h
  exact key l.length 0 (by omega)
theorem impl_has_ev (l : List ByteArray) (hl : l.length ≤ 1000000) (x : ByteArray) : Ev (fun k => slices_Contains_Sstring_string.f k l x) (hasB l x) := by
  have key : ∀ d i, i + d = l.length → ∃ r, Ev (fun k => slices_Index_Sstring_string.l0 k l x (l.length : Int) (i : Nat)) r ∧ decide (r ≥ 0) = hasB (l.drop i) x := by
    intro d
    induction d with
    | zero =>
      intro i hi
      refine ⟨-1, Ev.step (fun k => slices_Index_Sstring_string.l0.eq_2 ..) (Ev.ite_neg (by omega) (Ev.now _)), ?_⟩
      rw [List.drop_of_length_le (by omega)]
      rfl
    | succ d ih =>
      intro i hi
      have hil : i < l.length := by omega
      obtain ⟨r, hr, he⟩ := ih (i + 1) (by omega)
      rw [List.drop_eq_getElem_cons hil]
      unfold hasB at he ⊢
      rw [List.any_cons]
      by_cases e : l[i] = x
      · refine ⟨i, Ev.step (fun k => slices_Index_Sstring_string.l0.eq_2 ..) (Ev.ite_pos (by omega) (Ev.ite_pos (by omega) (Ev.ite_pos (by omega) (Ev.ite_pos (by rw [rdB l i hil, e]) (Ev.now _))))), ?_⟩
        rw [decide_eq_true e]
        simp
      · refine ⟨r, Ev.step (fun k => slices_Index_Sstring_string.l0.eq_2 ..) (Ev.ite_pos (by omega) (Ev.ite_pos (by omega) (Ev.ite_pos (by omega) (Ev.ite_neg (by rw [rdB l i hil]; exact fun h2 => e (toListS_inj h2.symm)) ?_)))), ?_⟩
        · rw [wrap_nat i (by omega)]
          exact hr
        · rw [he, decide_eq_false e, Bool.false_or]
  obtain ⟨r, hr, he⟩ := key l.length 0 (by omega)
  unfold slices_Contains_Sstring_string.f slices_Index_Sstring_string.f
  refine Ev.bind hr (Ev.const ?_)
  rw [he, List.drop_zero]
theorem allC_one (t : ByteArray) (h : allC t = true) (i : Nat) (hi : i < t.size) : cov (t.extract i (i + 1)) = true := by
  have hs : (t.extract i (i + 1)).size = 1 := by rw [ByteArray.size_extract]; omega
  unfold cov allC
  rw [hs, Bool.and_eq_true, List.all_eq_true]
  refine ⟨fun j hj => ?_, rfl⟩
  have hj : j = 0 := by simpa using hj
  subst hj
  rw [bt_ext t i (i + 1) 0 (by omega) (by omega), Nat.add_zero]
  have := allC_at h i hi
  unfold inC
  rcases this with e | e | e <;> rw [e] <;> rfl
theorem opp_len (t : ByteArray) : (oppL t).length = t.size := by
  unfold oppL
  first | simp | (rw [List.length_map, List.length_range])
theorem turn_ok (t : ByteArray) (h : allC t = true) (ht : t.size ≤ 7) (i : Nat) (hi : i < t.size) : ∃ o, Ev (fun k => spec_OppositeText.f k (t.extract i (i + 1))) o ∧ impl_opposite.f (t.extract i (i + 1)) = some o ∧ o.size = 1 := by
  have hs : (t.extract i (i + 1)).size = 1 := by rw [ByteArray.size_extract]; omega
  have hc := allC_one t h i hi
  have h1 := oppS_ev (t.extract i (i + 1)) (by omega)
  unfold oppS at h1
  rw [if_pos hc] at h1
  refine ⟨_, h1, ?_, ?_⟩
  · unfold impl_opposite.f
    rw [if_pos (by omega)]
  · rw [strOfNums_size, opp_len, hs]
def turnOf (t : ByteArray) (i : Nat) : ByteArray := turnT t (strOfNums (oppL (t.extract i (i + 1)))) i
def nbs (l : List ByteArray) (t : ByteArray) (i : Nat) : List Int := ((List.range i).filter fun j => hasB l (turnOf t j)).map fun j : Nat => (j : Int)
theorem nbs_succ (l : List ByteArray) (t : ByteArray) (i : Nat) : nbs l t (i + 1) = if hasB l (turnOf t i) = true then nbs l t i ++ [(i : Int)] else nbs l t i := by
  unfold nbs
  rw [List.range_succ, List.filter_append, List.map_append]
  cases h : hasB l (turnOf t i) with
  | true => simp [h]
  | false => simp [h]
theorem nbs_len (l : List ByteArray) (t : ByteArray) (i : Nat) : (nbs l t i).length ≤ i := by
  unfold nbs
  rw [List.length_map]
  have := List.length_filter_le (fun j => hasB l (turnOf t j)) (List.range i)
  rw [List.length_range] at this
  exact this
theorem nbs_both (n : Int) (s t : ByteArray) : ∃ v : List Int, Ev (fun k => spec_TopeNeighbours.f k n s t) v ∧ Ev (fun k => impl_TopeNeighbours.f k n s t) v ∧ v.length ≤ 7 := by
  obtain ⟨l, h1, h2, hl, ht⟩ := topes_both n s
  have hs := spec_has_ev l hl t
  have hi := impl_has_ev l hl t
  cases hb : hasB l t with
  | false =>
    rw [hb] at hs hi
    refine ⟨[], ?_, ?_, Nat.zero_le _⟩
    · unfold spec_TopeNeighbours.f
      exact Ev.bind0 rfl (Ev.bind h1 (Ev.bind hs (Ev.ite_neg (by simp) (Ev.now _))))
    · unfold impl_TopeNeighbours.f
      exact Ev.bind h2 (Ev.bind hi (Ev.ite_neg (by simp) (Ev.now _)))
  | true =>
    rw [hb] at hs hi
    obtain ⟨hA, h7⟩ := ht t ((hasB_iff l t).1 hb)
    refine ⟨nbs l t t.size, ?_, ?_, Nat.le_trans (nbs_len l t t.size) h7⟩
    · unfold spec_TopeNeighbours.f
      refine Ev.bind0 rfl (Ev.bind h1 (Ev.bind hs (Ev.ite_pos rfl ?_)))
      refine Ev.loop (fun i k => spec_TopeNeighbours.l0 k t (nbs l t i) l (i : Nat)) t.size _ ?_ ?_ 0 (by omega)
      · exact Ev.step (fun k => spec_TopeNeighbours.l0.eq_2 ..) (Ev.ite_neg (by omega) (Ev.now _))
      · intro i hi2 ih
        obtain ⟨o, ho1, ho2, ho3⟩ := turn_ok t hA h7 i hi2
        have eo : o = strOfNums (oppL (t.extract i (i + 1))) := by
          unfold impl_opposite.f at ho2
          split at ho2
          · exact (Option.some.inj ho2).symm
          · cases ho2
        have hsz : (t.extract 0 i).size ≤ 7 := by rw [ByteArray.size_extract]; omega
        have hsz2 : (t.extract (i + 1) t.size).size ≤ 7 := by rw [ByteArray.size_extract]; omega
        refine Ev.step (fun k => spec_TopeNeighbours.l0.eq_2 ..) (Ev.ite_pos (by omega) (Ev.ite_pos (by omega) (Ev.ite_pos (by omega) ?_)))
        rw [wrap_nat i (by omega), Int.toNat_natCast, Int.toNat_natCast]
        refine Ev.ite_pos (by omega) (Ev.ite_pos (by omega) (Ev.bind ho1 (Ev.ite_pos (by omega) (Ev.ite_pos (by omega) (Ev.ite_pos (by rw [ByteArray.size_append]; omega) ?_)))))
        have hh := spec_has_ev l hl (turnOf t i)
        unfold turnOf turnT at hh
        rw [← eo] at hh
        refine Ev.bind hh ?_
        rw [nbs_succ] at ih
        have e2 : turnOf t i = ((t.extract 0 i) ++ o) ++ (t.extract (i + 1) t.size) := by unfold turnOf turnT; rw [eo]
        rw [e2] at ih
        cases hq : hasB l (((t.extract 0 i) ++ o) ++ (t.extract (i + 1) t.size)) with
        | true =>
          rw [hq, if_pos rfl] at ih
          exact Ev.ite_pos rfl (Ev.ite_pos (by have := nbs_len l t i; omega) ih)
        | false =>
          rw [hq, if_neg (by simp)] at ih
          exact Ev.ite_neg (by simp) ih
    · unfold impl_TopeNeighbours.f
      have hasc : asc7 t = true := by
        unfold asc7
        rw [List.all_eq_true]
        intro j hj
        have := allC_at hA j (by simpa using hj)
        exact decide_eq_true (by omega)
      refine Ev.bind h2 (Ev.bind hi (Ev.ite_pos rfl (Ev.ite_pos ⟨hasc, by omega⟩ ?_)))
      have key : ∀ d i, i + d = t.size → Ev (fun k => nbF k l t d i (nbs l t i)) (nbs l t t.size) := by
        intro d
        induction d with
        | zero =>
          intro i hi2
          obtain rfl : i = t.size := by omega
          exact Ev.const rfl
        | succ d ih =>
          intro i hi2
          obtain ⟨o, ho1, ho2, ho3⟩ := turn_ok t hA h7 i (by omega)
          have eo : o = strOfNums (oppL (t.extract i (i + 1))) := by
            unfold impl_opposite.f at ho2
            split at ho2
            · exact (Option.some.inj ho2).symm
            · cases ho2
          have h := ih (i + 1) (by omega)
          rw [nbs_succ] at h
          have hh := impl_has_ev l hl (turnT t o i)
          rw [show turnOf t i = turnT t o i from by unfold turnOf; rw [eo]] at h
          exact Ev.bind0 ho2 (Ev.ite_pos (by omega) (Ev.bind hh h))
      exact key t.size 0 (by omega)
theorem FnExactTopeNeighbours (s0 : S23) (a1 : ByteArray) (hq : Q23 s0) (_ : a1.size ≤ 9223372036854775807) : ∃ k, laws_FnExactTopeNeighbours.f k s0.f0 s0.f1 a1 = some true := by
  refine Ev.rounds (g := fun k => laws_FnExactTopeNeighbours.f k s0.f0 s0.f1 a1) ?_
  unfold laws_FnExactTopeNeighbours.f
  by_cases hz : (a1.size : Int) > 1048576
  · exact Ev.ite_pos hz (Ev.now _)
  refine Ev.ite_neg hz (Ev.bind0 (szSigns_eqN _ _ 1048576 (by omega) (by omega) hq.2) ?_)
  by_cases hs : 1048576 < (s0.f1.size : Int)
  · rw [if_pos hs]
    exact Ev.ite_pos (by omega) (Ev.now _)
  rw [if_neg hs]
  refine Ev.ite_neg (by omega) ?_
  obtain ⟨v, h1, h2, hl⟩ := nbs_both s0.f0 s0.f1 a1
  have heq := eqIntS_selfZ v (by omega)
  have hmk := markIntS_from v 1 (by omega) (by omega)
  have hhd := heldIntS_from 1 v.length (by omega) (by omega)
  refine Ev.bind0 rfl (Ev.bind h1 (Ev.bind0 rfl (Ev.bind h2 (Ev.bind heq (Ev.ite_pos rfl (Ev.bind hmk (Ev.bind hhd (Ev.ite_neg (by omega) (Ev.ite_pos rfl ?_)))))))))
  exact Ev.bind0 rfl (Ev.bind h2 (Ev.bind heq (Ev.ite_pos rfl (Ev.bind hhd (Ev.ite_neg (by omega) (Ev.ite_pos rfl (Ev.now _)))))))
end Go.Proofs.YtcoommffjbbebaaDoor.Pure
