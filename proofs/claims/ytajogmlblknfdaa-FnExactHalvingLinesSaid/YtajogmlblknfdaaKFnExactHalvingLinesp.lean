/- What the law FnExactHalvingLines reaches, part 16: functions as plain Lean functions with the proofs that their calls come to them, and plain lemmas over these. Put together by a program (wip/pack.py). -/
import Derived.Test.YtajogmlblknfdaaKFnExactHalvingLinesl
import Derived.Test.YtajogmlblknfdaaKFnExactHalvingLinesn
import Derived.Test.YtajogmlblknfdaaKFnExactHalvingLinesm
import Derived.Test.YtajogmlblknfdaaKFnExactHalvingLinesg
import Derived.Test.YtajogmlblknfdaaKFnExactHalvingLineso
namespace Go.Proofs.Ytajogmlblknfdaa.Pure
set_option linter.unusedSimpArgs false
set_option linter.unusedVariables false
open Go.RowKit Go.Proofs.YtajogmlblknfdaaW.PrintWords Go.Proofs.Ytajogmlblknfdaa.P Go.Proofs.Ytajogmlblknfdaa.Pl
theorem rd_ltZ (l : List Int) (i : Nat) (h : i < l.length) : rd l (i : Int) = l[i] := by
  unfold rd
  rw [Int.toNat_natCast, getD_lt _ _ _ h]
theorem eqIntS_selfZ (l : List Int) (hl : l.length ≤ 1048576) : Ev (fun k => laws_eqIntS.f k l l) true := by
  unfold laws_eqIntS.f
  refine Ev.ite_pos rfl ?_
  refine Ev.loop (fun i k => laws_eqIntS.l0 k l l i) l.length true ?_ ?_ 0 (by omega)
  · refine Ev.step (fun k => laws_eqIntS.l0.eq_2 ..) ?_
    exact Ev.ite_neg (by omega) (Ev.now _)
  · intro i hi ih
    refine Ev.step (fun k => laws_eqIntS.l0.eq_2 ..) ?_
    refine Ev.ite_pos (by omega) (Ev.ite_pos (by omega) (Ev.ite_pos (by omega) (Ev.ite_pos rfl ?_)))
    rw [wrap_nat i (by omega)]
    exact ih
def smallSS (L : List (List Int)) : Prop := L.length ≤ 1000 ∧ ∀ l ∈ L, l.length ≤ 1000
theorem rdLL (L : List (List Int)) (j : Nat) (h : j < L.length) : rd_L3 L (j : Int) = L[j] := by
  unfold rd_L3
  rw [Int.toNat_natCast, getD_lt _ _ _ h]
theorem eqIntSS_self (L : List (List Int)) (hL : smallSS L) : Ev (fun k => laws_eqIntSS.f k L L) true := by
  have h1 := hL.1
  unfold laws_eqIntSS.f
  refine Ev.ite_pos rfl ?_
  refine Ev.loop (fun i k => laws_eqIntSS.l0 k L L i) L.length true ?_ ?_ 0 (by omega)
  · exact Ev.step (fun k => laws_eqIntSS.l0.eq_2 ..) (Ev.ite_neg (by omega) (Ev.now _))
  · intro i hi ih
    refine Ev.step (fun k => laws_eqIntSS.l0.eq_2 ..) (Ev.ite_pos (by omega) (Ev.ite_pos (by omega) (Ev.ite_pos (by omega) ?_)))
    rw [rdLL L i hi, wrap_nat i (by omega)]
    have h2 := hL.2 _ (List.getElem_mem hi)
    exact Ev.bind (eqIntS_selfZ _ (by omega)) (Ev.ite_pos rfl ih)
def marksF (c n : Nat) : List Int := (List.range n).map fun i => ((c + i : Nat) : Int)
theorem marksF_length (c n : Nat) : (marksF c n).length = n := by simp [marksF]
theorem rd_marksF (c n i : Nat) (h : i < n) : rd (marksF c n) (i : Int) = ((c + i : Nat) : Int) := by
  rw [rd_ltZ _ _ (by rw [marksF_length]; exact h)]
  simp [marksF]
theorem marksF_set (l : List Int) (c n i : Nat) (hl : l.length = n) (hi : i < n) : (marksF c i ++ l.drop i).set i ((c + i : Nat) : Int) = marksF c (i + 1) ++ l.drop (i + 1) := by
  have h0 : (marksF c i).length = i := marksF_length c i
  rw [List.set_append_right _ _ (by omega), h0, Nat.sub_self, List.drop_eq_getElem_cons (by omega), List.set_cons_zero]
  simp [marksF, List.range_succ]
theorem markIntS_from (l : List Int) (c : Nat) (hc : c ≤ 100000000) (hl : l.length ≤ 1048576) : Ev (fun k => laws_markIntS.f k l c) (((c + l.length : Nat) : Int), marksF c l.length) := by
  have key := Ev.loop (fun i k => laws_markIntS.l0 k (marksF c i ++ l.drop i) ((c + i : Nat) : Int) i) l.length (((c + l.length : Nat) : Int), marksF c l.length) ?_ ?_ 0 (by omega)
  · unfold laws_markIntS.f
    simpa [marksF] using key
  · refine Ev.step (fun k => laws_markIntS.l0.eq_2 ..) ?_
    refine Ev.ite_neg (by simp [marksF_length]) (Ev.const ?_)
    simp
  · intro i hi ih
    refine Ev.step (fun k => laws_markIntS.l0.eq_2 ..) ?_
    refine Ev.ite_pos (by simp [marksF_length]; omega) (Ev.ite_pos (by omega) ?_)
    rw [wrap_nat i (by omega), wrap_nat (c + i) (by omega), Int.toNat_natCast, marksF_set l c l.length i rfl hi]
    exact ih
theorem heldIntS_from (c n : Nat) (hc : c ≤ 100000000) (hl : n ≤ 1048576) : Ev (fun k => laws_heldIntS.f k (marksF c n) c) ((c + n : Nat) : Int) := by
  have key := Ev.loop (fun i k => laws_heldIntS.l0 k (marksF c n) ((c + i : Nat) : Int) i) n ((c + n : Nat) : Int) ?_ ?_ 0 (by omega)
  · exact key
  · refine Ev.step (fun k => laws_heldIntS.l0.eq_2 ..) ?_
    exact Ev.ite_neg (by simp [marksF_length]) (Ev.now _)
  · intro i hi ih
    refine Ev.step (fun k => laws_heldIntS.l0.eq_2 ..) ?_
    refine Ev.ite_pos (by simp [marksF_length]; omega) (Ev.ite_pos (by omega) (Ev.ite_pos (rd_marksF c n i hi) ?_))
    rw [wrap_nat i (by omega), wrap_nat (c + i) (by omega)]
    exact ih
def MK : Nat → List (List Int) → List (List Int)
  | _, [] => []
  | c, l :: L => marksF c l.length :: MK (c + l.length) L
def tot : List (List Int) → Nat
  | [] => 0
  | l :: L => l.length + tot L
theorem MK_length : ∀ (L : List (List Int)) (c : Nat), (MK c L).length = L.length := by
  intro L
  induction L with
  | nil => intro c; rfl
  | cons l L ih => intro c; rw [MK, List.length_cons, ih, List.length_cons]
theorem tot_le : ∀ (L : List (List Int)), (∀ l ∈ L, l.length ≤ 1000) → tot L ≤ 1000 * L.length := by
  intro L
  induction L with
  | nil => intro _; simp [tot]
  | cons l L ih =>
    intro h
    have h1 := ih (fun x hx => h x (List.mem_cons_of_mem _ hx))
    have h2 := h l List.mem_cons_self
    rw [tot, List.length_cons]
    omega
theorem markSS_go : ∀ (L D : List (List Int)) (c : Nat), c + tot L ≤ 10000000 → D.length + L.length ≤ 1000 → (∀ l ∈ L, l.length ≤ 1000) → Ev (fun k => laws_markIntSS.l0 k (D ++ L) c D.length) (((c + tot L : Nat) : Int), D ++ MK c L) := by
  intro L
  induction L with
  | nil =>
    intro D c hc hD _
    refine Ev.step (fun k => laws_markIntSS.l0.eq_2 ..) (Ev.ite_neg (by simp) (Ev.const ?_))
    simp [tot, MK]
  | cons l L ih =>
    intro D c hc hD hl
    rw [tot] at hc
    rw [List.length_cons] at hD
    have h2 := hl l List.mem_cons_self
    refine Ev.step (fun k => laws_markIntSS.l0.eq_2 ..) (Ev.ite_pos (by simp; omega) (Ev.ite_pos (by omega) ?_))
    have hg : (D ++ l :: L).getD ((D.length : Nat) : Int).toNat [] = l := by
      rw [Int.toNat_natCast, List.getD_eq_getElem?_getD, List.getElem?_append_right (by omega), Nat.sub_self]
      rfl
    rw [hg]
    refine Ev.bind (markIntS_from l c (by omega) (by omega)) ?_
    have h := ih (D ++ [marksF c l.length]) (c + l.length) (by omega) (by rw [List.length_append]; simp; omega) (fun x hx => hl x (List.mem_cons_of_mem _ hx))
    have e1 : (D ++ l :: L).set ((D.length : Nat) : Int).toNat (marksF c l.length) = (D ++ [marksF c l.length]) ++ L := by
      rw [Int.toNat_natCast, List.set_append_right _ _ (by omega), Nat.sub_self, List.set_cons_zero, List.append_assoc]
      rfl
    dsimp only
    rw [e1, wrap_nat D.length (by omega)]
    have e2 : (D ++ [marksF c l.length]).length = D.length + 1 := by simp
    rw [e2] at h
    rw [show c + tot (l :: L) = c + l.length + tot L by rw [tot]; omega, show D ++ MK c (l :: L) = (D ++ [marksF c l.length]) ++ MK (c + l.length) L by rw [MK, List.append_assoc]; rfl]
    exact h
theorem heldSS_go : ∀ (L D : List (List Int)) (c : Nat), c + tot L ≤ 10000000 → D.length + L.length ≤ 1000 → (∀ l ∈ L, l.length ≤ 1000) → Ev (fun k => laws_heldIntSS.l0 k (D ++ MK c L) c D.length) ((c + tot L : Nat) : Int) := by
  intro L
  induction L with
  | nil =>
    intro D c hc hD _
    refine Ev.step (fun k => laws_heldIntSS.l0.eq_2 ..) (Ev.ite_neg (by simp [MK]) (Ev.const ?_))
    simp [tot]
  | cons l L ih =>
    intro D c hc hD hl
    rw [tot] at hc
    rw [List.length_cons] at hD
    have h2 := hl l List.mem_cons_self
    rw [MK]
    refine Ev.step (fun k => laws_heldIntSS.l0.eq_2 ..) (Ev.ite_pos (by simp; omega) (Ev.ite_pos (by omega) ?_))
    have hg : rd_L3 (D ++ marksF c l.length :: MK (c + l.length) L) ((D.length : Nat) : Int) = marksF c l.length := by
      unfold rd_L3
      rw [Int.toNat_natCast, List.getD_eq_getElem?_getD, List.getElem?_append_right (by omega), Nat.sub_self]
      rfl
    rw [hg]
    refine Ev.bind (heldIntS_from c l.length (by omega) (by omega)) (Ev.ite_neg (by omega) ?_)
    have h := ih (D ++ [marksF c l.length]) (c + l.length) (by omega) (by rw [List.length_append]; simp; omega) (fun x hx => hl x (List.mem_cons_of_mem _ hx))
    rw [wrap_nat D.length (by omega)]
    have e2 : (D ++ [marksF c l.length]).length = D.length + 1 := by simp
    rw [e2, List.append_assoc] at h
    rw [show c + tot (l :: L) = c + l.length + tot L by rw [tot]; omega]
    exact h
theorem markSS_ev (L : List (List Int)) (hL : smallSS L) : Ev (fun k => laws_markIntSS.f k L 1) (((1 + tot L : Nat) : Int), MK 1 L) := by
  have h := tot_le L hL.2
  have h1 := hL.1
  unfold laws_markIntSS.f
  exact markSS_go L [] 1 (by omega) (by simpa using h1) hL.2
theorem heldSS_ev (L : List (List Int)) (hL : smallSS L) : Ev (fun k => laws_heldIntSS.f k (MK 1 L) 1) ((1 + tot L : Nat) : Int) := by
  have h := tot_le L hL.2
  have h1 := hL.1
  unfold laws_heldIntSS.f
  exact heldSS_go L [] 1 (by omega) (by simpa using h1) hL.2
theorem Ev.got {α β : Type} [DecidableEq α] {x : Nat → Option α} {a : α} {g f : Nat → Option β} {r : β} (h : Ev x a) (k : Ev g r) : Ev (fun n => if x n = some a then g n else f n) r := by
  obtain ⟨K, h⟩ := h
  obtain ⟨M, k⟩ := k
  refine ⟨max K M, fun n hn => ?_⟩
  dsimp only
  rw [if_pos (h n (by omega))]
  exact k n (by omega)
theorem Ev.gotAnd {α β : Type} [DecidableEq α] {x : Nat → Option α} {a : α} {p : Prop} [Decidable p] {g f : Nat → Option β} {r : β} (h : Ev x a) (hp : p) (k : Ev g r) : Ev (fun n => if x n = some a ∧ p then g n else f n) r := by
  obtain ⟨K, h⟩ := h
  obtain ⟨M, k⟩ := k
  refine ⟨max K M, fun n hn => ?_⟩
  dsimp only
  rw [if_pos ⟨h n (by omega), hp⟩]
  exact k n (by omega)
theorem goodSS (L : List (List Int)) (hL : smallSS L) : Ev (fun k => if laws_eqIntSS.f k L L = some true then (laws_markIntSS.f k L 1).bind fun m => if laws_heldIntSS.f k m.2 1 = some m.1 ∧ 0 ≤ m.1 ∧ L.length = m.2.length then some true else none else none) true := by
  refine Ev.got (eqIntSS_self L hL) (Ev.bind (markSS_ev L hL) ?_)
  dsimp only
  exact Ev.gotAnd (heldSS_ev L hL) ⟨by omega, (MK_length L 1).symm⟩ (Ev.now _)
end Go.Proofs.Ytajogmlblknfdaa.Pure
namespace Go.Proofs.Ytajogmlblknfdaa.Pure
set_option linter.unusedSimpArgs false
set_option linter.unusedVariables false
open Go.RowKit Go.Proofs.YtajogmlblknfdaaW.PrintWords Go.Proofs.Ytajogmlblknfdaa.P Go.Proofs.Ytajogmlblknfdaa.Pl Go.Proofs.Ytajogmlblknfdaa.Rk
def oddN (p : Nat) : Bool := Int.tmod (p : Int) 2 == 1
def oddS (m : Nat) (x y : Int) : Bool := apart m x y && (oddN (pop x.toNat) && oddN (pop y.toNat))
def hbV (m : Nat) (s : ByteArray) (A B i j : Nat) : Bool := has A i && (has B j && (ls m s i j (elts A) == 0 && ls m s i j (elts B) == 0))
theorem apart_nat {m : Nat} (h7 : m ≤ 7) {x y : Int} (h : apart m x y = true) : ∃ A B : Nat, x = A ∧ y = B ∧ A < 2 ^ m ∧ B < 2 ^ m ∧ Go.bits .and .i64 x y = 0 := by
  unfold apart at h
  simp only [Bool.and_eq_true, decide_eq_true_eq, beq_iff_eq] at h
  obtain ⟨hx, hy, hd⟩ := h
  obtain ⟨A, rfl, hA2⟩ := set_nat hx
  obtain ⟨B, rfl, hB2⟩ := set_nat hy
  exact ⟨A, B, rfl, rfl, hA2, hB2, hd⟩
theorem areOdd_eq (m : Nat) (h7 : m ≤ 7) (x y : Int) : impl_areOdd.f (m : Int) x y = some (oddS m x y) := by
  have hP := apart_impl m h7 x y
  have h128 := (full_at m h7).2.2
  unfold impl_areOdd.f oddS
  rw [hP, Option.bind_some]
  cases hb : apart m x y with
  | false => rfl
  | true =>
    obtain ⟨A, B, rfl, rfl, hA2, hB2, _⟩ := apart_nat h7 hb
    rw [Int.toNat_natCast, Int.toNat_natCast, if_pos rfl, (pop_at A (by omega)).1, Option.bind_some]
    unfold oddN
    by_cases e : Int.tmod (pop A : Int) 2 = 1
    · rw [if_pos e, (pop_at B (by omega)).1, e]
      simp
    · rw [if_neg e, beq_eq_false_iff_ne.mpr e]
      simp
theorem spec_HB_no (n : Int) (s : ByteArray) (x y i j : Int) (hA : isA n s = false) : Ev (fun k => spec_HalvesBoth.f k n s x y i j) false := by
  have hF : Ev (fun k => spec_l22Fits.f k n s x y) false := by
    unfold spec_l22Fits.f
    exact Ev.bind (spec_A n s _ hA) (Ev.ite_neg (by simp) (Ev.now _))
  unfold spec_HalvesBoth.f
  exact Ev.bind hF (Ev.ite_neg (by simp) (Ev.step (fun k => spec_HalvesBoth.j0.eq_2 ..) (Ev.ite_pos rfl (Ev.now _))))
theorem spec_HB_out (m : Nat) (h7 : m ≤ 7) (s : ByteArray) (x y i j : Int) (hA : isA m s = true) (h : oddS m x y = false ∨ diffB m [i, j] = false) (hm : 3 ≤ m) : Ev (fun k => spec_HalvesBoth.f k m s x y i j) false := by
  have nS : Ev (fun k => spec_HalvesBoth.j0 k x y i j true m s) false := Ev.step (fun k => spec_HalvesBoth.j0.eq_2 ..) (Ev.ite_pos rfl (Ev.now _))
  have hF := fits_yes m h7 s hA x y
  have h128 := (full_at m h7).2.2
  unfold spec_HalvesBoth.f
  cases hb : apart m x y with
  | false =>
    rw [hb] at hF
    exact Ev.bind hF (Ev.ite_neg (by simp) nS)
  | true =>
    rw [hb] at hF
    obtain ⟨A, B, rfl, rfl, hA2, hB2, _⟩ := apart_nat h7 hb
    obtain ⟨a1, a2, a3⟩ := pop_at A (by omega)
    obtain ⟨b1, b2, b3⟩ := pop_at B (by omega)
    refine Ev.bind hF (Ev.ite_pos rfl (Ev.bind a2 ?_))
    rcases odd_pop (pop A) a3 with ⟨p1, p2, p3⟩ | ⟨p1, p2, p3⟩
    · exact Ev.ite_pos p1 nS
    refine Ev.ite_neg p1 (Ev.bind b2 ?_)
    rcases odd_pop (pop B) b3 with ⟨q1, q2, q3⟩ | ⟨q1, q2, q3⟩
    · exact Ev.ite_pos q1 nS
    have dS := spec_l5Different_ev (m : Int) ⟨by omega, by omega⟩ [i, j] (by simp)
    have hd : diffB (m : Int) [i, j] = false := by
      rcases h with h | h
      · unfold oddS oddN at h
        rw [Int.toNat_natCast, Int.toNat_natCast, hb, p2, q2] at h
        cases h
      · exact h
    rw [hd] at dS
    exact Ev.ite_neg q1 (Ev.bind dS nS)
theorem spec_HB_in (m : Nat) (h7 : m ≤ 7) (s : ByteArray) (hs : s.size = (tri m).length) (A B i j : Nat) (hA : isA m s = true) (h : oddS m A B = true) (hm : 3 ≤ m) (hi : i < m) (hj : j < m) (hij : i ≠ j) : Ev (fun k => spec_HalvesBoth.f k m s A B i j) (hbV m s A B i j) := by
  have h128 := (full_at m h7).2.2
  unfold oddS at h
  rw [Bool.and_eq_true, Bool.and_eq_true, Int.toNat_natCast, Int.toNat_natCast] at h
  obtain ⟨hb, o1, o2⟩ := h
  have hF := fits_yes m h7 s hA A B
  rw [hb] at hF
  obtain ⟨A', B', eA, eB, hA2, hB2, _⟩ := apart_nat h7 hb
  obtain rfl : A = A' := by omega
  obtain rfl : B = B' := by omega
  obtain ⟨a1, a2, a3⟩ := pop_at A (by omega)
  obtain ⟨b1, b2, b3⟩ := pop_at B (by omega)
  have dS := spec_l5Different_ev (m : Int) ⟨by omega, by omega⟩ [i, j] (by simp)
  have hd : diffB (m : Int) [(i : Int), j] = true := by
    simp [diffB, diffFrom, okD, inE, rd, List.range_succ]
    omega
  rw [hd] at dS
  unfold spec_HalvesBoth.f
  refine Ev.bind hF (Ev.ite_pos rfl (Ev.bind a2 ?_))
  rcases odd_pop (pop A) a3 with ⟨p1, p2, p3⟩ | ⟨p1, p2, p3⟩
  · unfold oddN at o1
    rw [p2] at o1
    cases o1
  refine Ev.ite_neg p1 (Ev.bind b2 ?_)
  rcases odd_pop (pop B) b3 with ⟨q1, q2, q3⟩ | ⟨q1, q2, q3⟩
  · unfold oddN at o2
    rw [q2] at o2
    cases o2
  refine Ev.ite_neg q1 (Ev.bind dS (Ev.step (fun k => spec_HalvesBoth.j0.eq_2 ..) (Ev.ite_neg (by simp) ?_)))
  have e1 := spec_even_ev m h7 s hs A i j hA2 (by omega) (by omega) (by omega)
  have e2 := spec_even_ev m h7 s hs B i j hB2 (by omega) (by omega) (by omega)
  have g1 := l6Has_eq (A : Int) i (by omega)
  have g2 := l6Has_eq (B : Int) j (by omega)
  unfold hbV
  refine Ev.bind0 g1 ?_
  cases has A i with
  | false => exact Ev.ite_neg (by simp) (Ev.now _)
  | true =>
    refine Ev.ite_pos rfl (Ev.bind0 g2 ?_)
    cases has B j with
    | false => exact Ev.ite_neg (by simp) (Ev.now _)
    | true =>
      refine Ev.ite_pos rfl (Ev.bind e1 ?_)
      cases (ls m s i j (elts A) == 0) with
      | false => exact Ev.ite_neg (by simp) (Ev.now _)
      | true => exact Ev.ite_pos rfl (Ev.bind e2 (Ev.now _))
def one2 (v : Nat → Nat → Bool) (i j : Nat) : List (List Int) := if v i j = true then [[(i : Int), j]] else []
def gath (v : Nat → Nat → Bool) (m : Nat) : List (List Int) := (List.range m).flatMap fun i => (List.range m).flatMap (one2 v i)
theorem one2_len (v : Nat → Nat → Bool) (i j : Nat) : (one2 v i j).length ≤ 1 := by
  unfold one2
  split <;> simp
theorem gath_small (v : Nat → Nat → Bool) (m : Nat) (h7 : m ≤ 7) : (gath v m).length ≤ 49 ∧ smallSS (gath v m) := by
  have h1 : ∀ i, ((List.range m).flatMap (one2 v i)).length ≤ 7 := fun i => by
    have := flatB_len (one2 v i) 1 (one2_len v i) (List.range m)
    rw [List.length_range] at this
    omega
  have h2 := flatB_len (fun i => (List.range m).flatMap (one2 v i)) 7 h1 (List.range m)
  rw [List.length_range] at h2
  refine ⟨by unfold gath; omega, by unfold gath; omega, ?_⟩
  intro l hl
  unfold gath at hl
  simp only [List.mem_flatMap] at hl
  obtain ⟨i, _, j, _, hl⟩ := hl
  unfold one2 at hl
  split at hl
  · rw [List.mem_singleton] at hl
    rw [hl]
    simp
  · cases hl
theorem spec_gath (n : Int) (s : ByteArray) (x y : Int) (m : Nat) (v : Nat → Nat → Bool) (h7 : m ≤ 7) (hm : ∀ i : Nat, i < m → (i : Int) < n) (he : ¬ ((m : Int) < n ∧ (m : Int) < 7)) (hv : ∀ i j, i < m → j < m → Ev (fun k => spec_HalvesBoth.f k n s x y (i : Nat) (j : Nat)) (v i j)) : Ev (fun k => spec_HalvingLines.f k n s x y) (gath v m) := by
  have hR := (gath_small v m h7).1
  unfold spec_HalvingLines.f
  refine loopR (fun acc a k => spec_HalvingLines.l0 k x y acc (a : Nat) n s) m (fun i => (List.range m).flatMap (one2 v i)) [] (gath v m) (gath v m) 0 (by omega) ?_ ?_ [] (by simp [gath])
  · intro acc h
    rw [List.append_nil] at h
    have e : Ev (fun k => spec_HalvingLines.j1 k x y acc (m : Nat) false n s) (gath v m) := Ev.step (fun k => spec_HalvingLines.j1.eq_2 ..) (Ev.ite_neg (by simp) (Ev.const (by rw [h])))
    refine Ev.step (fun k => spec_HalvingLines.l0.eq_2 ..) ?_
    by_cases c : (m : Int) < n
    · refine Ev.ite_pos c ?_
      rw [decide_eq_false (by omega)]
      exact e
    · exact Ev.ite_neg c e
  intro a _ ha acc X h ih
  have := hm a ha
  refine Ev.step (fun k => spec_HalvingLines.l0.eq_2 ..) (Ev.ite_pos (by omega) ?_)
  rw [decide_eq_true (by omega)]
  refine Ev.step (fun k => spec_HalvingLines.j1.eq_2 ..) (Ev.ite_pos rfl ?_)
  refine loopR (fun acc b k => spec_HalvingLines.l1 k x y acc a (b : Nat) n s) m (one2 v a) X (gath v m) (gath v m) 0 (by omega) ?_ ?_ acc (by simpa using h)
  · intro acc h
    have e : Ev (fun k => spec_HalvingLines.j3 k x y acc a (m : Nat) false n s) (gath v m) := by
      refine Ev.step (fun k => spec_HalvingLines.j3.eq_2 ..) (Ev.ite_neg (by simp) ?_)
      rw [wrap_nat a (by omega)]
      exact ih acc h
    refine Ev.step (fun k => spec_HalvingLines.l1.eq_2 ..) ?_
    by_cases c : (m : Int) < n
    · refine Ev.ite_pos c ?_
      rw [decide_eq_false (by omega)]
      exact e
    · exact Ev.ite_neg c e
  intro b _ hb acc X' h ih'
  have := hm b hb
  have hacc := acc_le h
  refine Ev.step (fun k => spec_HalvingLines.l1.eq_2 ..) (Ev.ite_pos (by omega) ?_)
  rw [decide_eq_true (by omega)]
  refine Ev.step (fun k => spec_HalvingLines.j3.eq_2 ..) (Ev.ite_pos rfl ?_)
  have hh := hv a b ha hb
  unfold one2 at h
  rw [wrap_nat b (by omega)]
  refine Ev.bind hh ?_
  cases e : v a b with
  | false =>
    rw [e, if_neg (by simp)] at h
    exact Ev.ite_neg (by simp) (ih' acc h)
  | true =>
    rw [e, if_pos rfl] at h
    exact Ev.ite_pos rfl (Ev.ite_pos (by omega) (ih' _ (by rw [List.append_assoc]; exact h)))
theorem gath_false (m : Nat) : gath (fun _ _ => false) m = [] := by simp [gath, one2]
theorem flat_if {α β : Type} (p : α → Bool) (f : α → List β) (l : List α) : (l.filter p).flatMap f = l.flatMap fun x => if p x = true then f x else [] := by
  induction l with
  | nil => rfl
  | cons x l ih =>
    rw [List.filter_cons, List.flatMap_cons]
    by_cases h : p x = true
    · rw [if_pos h, if_pos h, List.flatMap_cons, ih]
    · rw [if_neg h, if_neg h, ih, List.nil_append]
def inV (m : Nat) (s : ByteArray) (A B i j : Nat) : Bool := ls m s i j (elts A) == 0 && ls m s i j (elts B) == 0
theorem gath_elts (m : Nat) (h7 : m ≤ 7) (s : ByteArray) (A B : Nat) (hA2 : A < 2 ^ m) (hB2 : B < 2 ^ m) : gath (hbV m s A B) m = (elts A).flatMap fun i => (elts B).flatMap (one2 (inV m s A B) i) := by
  rw [elts_at m h7 A hA2, elts_at m h7 B hB2, flat_if]
  unfold gath
  congr 1
  funext i
  rw [flat_if]
  unfold one2 hbV inV
  cases has A i with
  | false => simp
  | true =>
    rw [if_pos rfl]
    congr 1
    funext j
    cases has B j <;> simp
theorem impl_gath (m : Nat) (h7 : m ≤ 7) (s : ByteArray) (A B : Nat) (hA2 : A < 2 ^ m) (hB2 : B < 2 ^ m) (ho : oddS m A B = true) : Ev (fun k => impl_HalvingLines.j0 k A B (tab m s) false) (gath (hbV m s A B) m) := by
  have hR := (gath_small (hbV m s A B) m h7).1
  have h128 := (full_at m h7).2.2
  have lA : (eltsI A).length = (elts A).length := by simp [eltsI]
  have lB : (eltsI B).length = (elts B).length := by simp [eltsI]
  have nA := elts_len A
  have nB := elts_len B
  have hG := gath_elts m h7 s A B hA2 hB2
  generalize gath (hbV m s A B) m = R at hR hG ⊢
  refine Ev.step (fun k => impl_HalvingLines.j0.eq_2 ..) (Ev.ite_neg (by simp) (Ev.bind (elementsOf_ev A (by omega)) ?_))
  rw [lA]
  refine loopR (fun acc (i : Nat) k => impl_HalvingLines.l0 k A B (tab m s) acc (eltsI A) (elts A).length (i : Int)) (elts A).length (fun i => (elts B).flatMap (one2 (inV m s A B) ((elts A).getD i 0))) [] R R 0 (by omega) ?_ ?_ [] (by rw [hG, List.nil_append, List.append_nil, List.drop_zero]; exact (flat_range 0 (fun p => (elts B).flatMap (one2 (inV m s A B) p)) (elts A)).symm)
  · intro acc h
    rw [List.append_nil] at h
    exact Ev.step (fun k => impl_HalvingLines.l0.eq_2 ..) (Ev.ite_neg (by omega) (Ev.const (by rw [h])))
  intro i _ hi acc X h ih
  obtain ⟨p, hp, hpm, _⟩ := elts_get m h7 A hA2 i hi
  refine Ev.step (fun k => impl_HalvingLines.l0.eq_2 ..) (Ev.ite_pos (by omega) (Ev.ite_pos (by omega) (Ev.ite_pos (by omega) (Ev.bind (elementsOf_ev B (by omega)) ?_))))
  rw [lB, rd_eltsI A i hi, hp]
  rw [getD_lt _ _ _ hi, hp] at h
  refine loopR (fun acc (j : Nat) k => impl_HalvingLines.l1 k A B (tab m s) acc p (eltsI A) (elts A).length i (eltsI B) (elts B).length (j : Int)) (elts B).length (fun j => one2 (inV m s A B) p ((elts B).getD j 0)) X R R 0 (by omega) ?_ ?_ acc (by rw [List.drop_zero, ← flat_range 0 (fun q => one2 (inV m s A B) p q) (elts B)]; exact h)
  · intro acc h
    refine Ev.step (fun k => impl_HalvingLines.l1.eq_2 ..) (Ev.ite_neg (by omega) ?_)
    rw [wrap_nat i (by omega)]
    exact ih acc h
  intro j _ hj acc X' h ih'
  have hacc := acc_le h
  obtain ⟨q, hq, hqm, _⟩ := elts_get m h7 B hB2 j hj
  have l1 := impl_leans_ev m h7 s A p q hA2 hpm hqm
  have l2 := impl_leans_ev m h7 s B p q hB2 hpm hqm
  refine Ev.step (fun k => impl_HalvingLines.l1.eq_2 ..) (Ev.ite_pos (by omega) (Ev.ite_pos (by omega) (Ev.ite_pos (by omega) ?_)))
  rw [rd_eltsI B j hj, hq, wrap_nat j (by omega)]
  rw [getD_lt _ _ _ hj, hq] at h
  unfold one2 inV at h
  refine Ev.bind l1 ?_
  by_cases z1 : ls m s p q (elts A) = 0
  · refine Ev.ite_pos z1 (Ev.bind l2 ?_)
    by_cases z2 : ls m s p q (elts B) = 0
    · rw [z1, z2, if_pos (by decide)] at h
      exact Ev.ite_pos z2 (Ev.ite_pos (by omega) (ih' _ (by rw [List.append_assoc]; exact h)))
    · rw [beq_eq_false_iff_ne.mpr z2, Bool.and_false, if_neg (by simp)] at h
      exact Ev.ite_neg z2 (ih' acc h)
  · rw [beq_eq_false_iff_ne.mpr z1, Bool.false_and, if_neg (by simp)] at h
    exact Ev.ite_neg z1 (ih' acc h)
theorem halving_both (n : Int) (s : ByteArray) (x y : Int) : ∃ L, smallSS L ∧ Ev (fun k => spec_HalvingLines.f k n s x y) L ∧ Ev (fun k => impl_HalvingLines.f k n s x y) L := by
  have nil : smallSS [] := ⟨by simp, by simp⟩
  have nI : ∀ l, Ev (fun k => impl_HalvingLines.j0 k x y l true) [] := fun l => Ev.step (fun k => impl_HalvingLines.j0.eq_2 ..) (Ev.ite_pos rfl (Ev.now _))
  cases hA : isA n s with
  | false =>
    refine ⟨[], nil, ?_, ?_⟩
    · have h := spec_gath n s x y (min n.toNat 7) (fun _ _ => false) (by omega) (by omega) (by omega) (fun i j _ _ => spec_HB_no n s x y i j hA)
      rwa [gath_false] at h
    · unfold impl_HalvingLines.f
      exact Ev.bind (orderOf_no n s hA) (Ev.ite_neg (by simp) (nI _))
  | true =>
    obtain ⟨m, rfl, h3, h7, hs⟩ := isA_nat hA
    have hO := orderOf_yes m h7 s hs hA
    have hP := areOdd_eq m h7 x y
    cases ho : oddS m x y with
    | false =>
      rw [ho] at hP
      refine ⟨[], nil, ?_, ?_⟩
      · have h := spec_gath m s x y m (fun _ _ => false) h7 (by omega) (by omega) (fun i j _ _ => spec_HB_out m h7 s x y i j hA (Or.inl ho) (by omega))
        rwa [gath_false] at h
      · unfold impl_HalvingLines.f
        exact Ev.bind hO (Ev.ite_pos rfl (Ev.bind0 hP (nI _)))
    | true =>
      rw [ho] at hP
      have hb : apart m x y = true := by
        unfold oddS at ho
        rw [Bool.and_eq_true] at ho
        exact ho.1
      obtain ⟨A, B, rfl, rfl, hA2, hB2, hd⟩ := apart_nat h7 hb
      refine ⟨gath (hbV m s A B) m, (gath_small _ m h7).2, ?_, ?_⟩
      · refine spec_gath m s A B m (hbV m s A B) h7 (by omega) (by omega) (fun i j hi hj => ?_)
        by_cases hij : i = j
        · subst hij
          have hf : hbV m s A B i i = false := by
            have h128 := (full_at m h7).2.2
            have := dis_at A B (by omega) (by omega) hd i (by omega)
            unfold hbV
            cases h1 : has A i <;> cases h2 : has B i <;> simp_all
          rw [hf]
          refine spec_HB_out m h7 s A B i i hA (Or.inr ?_) (by omega)
          simp [diffB, diffFrom, okD, inE, rd, List.range_succ]
        · exact spec_HB_in m h7 s hs A B i j hA ho h3 hi hj hij
      · unfold impl_HalvingLines.f
        exact Ev.bind hO (Ev.ite_pos rfl (Ev.bind0 hP (impl_gath m h7 s A B hA2 hB2 ho)))
theorem FnExactHalvingLines (s0 : S38) (a1 a2 : Int) (hq : Q38 s0) (_ : I64 a1) (_ : I64 a2) : ∃ k, laws_FnExactHalvingLines.f k s0.f0 s0.f1 a1 a2 = some true := by
  refine Ev.rounds (g := fun k => laws_FnExactHalvingLines.f k s0.f0 s0.f1 a1 a2) ?_
  unfold laws_FnExactHalvingLines.f
  refine Ev.bind0 (szSigns_eqO _ _ 1048576 (by omega) (by omega) hq.2) ?_
  by_cases hs : 1048576 < (s0.f1.size : Int)
  · rw [if_pos hs]
    exact Ev.ite_pos (by omega) (Ev.now _)
  rw [if_neg hs]
  refine Ev.ite_neg (by omega) ?_
  obtain ⟨L, hL, h1, h2⟩ := halving_both s0.f0 s0.f1 a1 a2
  exact Ev.bind h1 (Ev.bind h2 (goodSS L hL))
end Go.Proofs.Ytajogmlblknfdaa.Pure
