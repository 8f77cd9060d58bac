/- What the law FnExactTypeOf reaches, part 14: functions as plain Lean functions with the proofs that their calls come to them, and plain lemmas over these. Put together by a program (wip/pack.py). -/
import Derived.Test.YtoajlmlobaccdaaKFnExactTypeOfk
import Derived.Test.YtoajlmlobaccdaaKFnExactTypeOff
import Derived.Test.YtoajlmlobaccdaaKFnExactTypeOfm
import Derived.Test.YtoajlmlobaccdaaKFnExactTypeOfl
import Derived.Test.YtoajlmlobaccdaaKFnExactTypeOfe
import Derived.Test.YtoajlmlobaccdaaKFnExactTypeOfd
import Derived.Test.YtoajlmlobaccdaaKFnExactTypeOfi
import Derived.Sort.Walk0
import Derived.Lib.Bytes
namespace Go.Proofs.Ytoajlmlobaccdaa.Pure
set_option linter.unusedSimpArgs false
set_option linter.unusedVariables false
open Go.RowKit Go.Proofs.YtoajlmlobaccdaaW.PrintWords Go.Proofs.Ytoajlmlobaccdaa.P Go.Proofs.Ytoajlmlobaccdaa.Pl
abbrev Q4 := S180
def quad : Nat → List Q4
  | 4 => [⟨0, 1, 2, 3⟩]
  | 5 => [⟨0, 1, 2, 3⟩, ⟨0, 1, 2, 4⟩, ⟨0, 1, 3, 4⟩, ⟨0, 2, 3, 4⟩, ⟨1, 2, 3, 4⟩]
  | 6 => [⟨0, 1, 2, 3⟩, ⟨0, 1, 2, 4⟩, ⟨0, 1, 2, 5⟩, ⟨0, 1, 3, 4⟩, ⟨0, 1, 3, 5⟩, ⟨0, 1, 4, 5⟩, ⟨0, 2, 3, 4⟩, ⟨0, 2, 3, 5⟩, ⟨0, 2, 4, 5⟩, ⟨0, 3, 4, 5⟩, ⟨1, 2, 3, 4⟩, ⟨1, 2, 3, 5⟩, ⟨1, 2, 4, 5⟩, ⟨1, 3, 4, 5⟩, ⟨2, 3, 4, 5⟩]
  | 7 => [⟨0, 1, 2, 3⟩, ⟨0, 1, 2, 4⟩, ⟨0, 1, 2, 5⟩, ⟨0, 1, 2, 6⟩, ⟨0, 1, 3, 4⟩, ⟨0, 1, 3, 5⟩, ⟨0, 1, 3, 6⟩, ⟨0, 1, 4, 5⟩, ⟨0, 1, 4, 6⟩, ⟨0, 1, 5, 6⟩, ⟨0, 2, 3, 4⟩, ⟨0, 2, 3, 5⟩, ⟨0, 2, 3, 6⟩, ⟨0, 2, 4, 5⟩, ⟨0, 2, 4, 6⟩, ⟨0, 2, 5, 6⟩, ⟨0, 3, 4, 5⟩, ⟨0, 3, 4, 6⟩, ⟨0, 3, 5, 6⟩, ⟨0, 4, 5, 6⟩, ⟨1, 2, 3, 4⟩, ⟨1, 2, 3, 5⟩, ⟨1, 2, 3, 6⟩, ⟨1, 2, 4, 5⟩, ⟨1, 2, 4, 6⟩, ⟨1, 2, 5, 6⟩, ⟨1, 3, 4, 5⟩, ⟨1, 3, 4, 6⟩, ⟨1, 3, 5, 6⟩, ⟨1, 4, 5, 6⟩, ⟨2, 3, 4, 5⟩, ⟨2, 3, 4, 6⟩, ⟨2, 3, 5, 6⟩, ⟨2, 4, 5, 6⟩, ⟨3, 4, 5, 6⟩]
  | _ => []
theorem quad_some : ∀ n : Nat, n ≤ 7 → impl_quadsOf.f 700 n = some (quad n)
  | 0, _ => by kernel_rfl
  | 1, _ => by kernel_rfl
  | 2, _ => by kernel_rfl
  | 3, _ => by kernel_rfl
  | 4, _ => by kernel_rfl
  | 5, _ => by kernel_rfl
  | 6, _ => by kernel_rfl
  | 7, _ => by kernel_rfl
  | n + 8, h => absurd h (by omega)
theorem quadsOf_ev (n : Nat) (h : n ≤ 7) : Ev (fun k => impl_quadsOf.f k n) (quad n) := Ev.of (impl_quadsOf.mono _) (quad_some n h)
def okQ (n : Nat) (q : Q4) : Bool := decide (0 ≤ q.f0 ∧ q.f0 < q.f1 ∧ q.f1 < q.f2 ∧ q.f2 < q.f3 ∧ q.f3 < n)
theorem all_q : (List.range 8).all (fun n => (quad n).all (okQ n) && decide ((quad n).length ≤ 1000)) = true := by decide +kernel
theorem quad_ok (n : Nat) (h : n ≤ 7) : (quad n).all (okQ n) = true ∧ (quad n).length ≤ 1000 := by
  have := all_q
  rw [List.all_eq_true] at this
  have := this n (by simp; omega)
  rw [Bool.and_eq_true, decide_eq_true_eq] at this
  exact this
def brk (n : Nat) (s : ByteArray) (a b c d e : Int) : Bool :=
  decide (wrap64 (sg n s a b c * sg n s a d e) = wrap64 (sg n s a b e * sg n s a c d)) && (wrap64 (sg n s a b e * sg n s a c d) == wrap64 ((wrap64 (-(sg n s a b d))) * sg n s a c e))
theorem breaks_eq (n : Nat) (hn : n ≤ 7) (s : ByteArray) (a b c d e : Nat) (ha : a < 7) (hb : b < 7) (hc : c < 7) (hd : d < 7) (he : e < 7) : impl_chi_breaks.f (tab n s) a b c d e = some (brk n s a b c d e) := by
  unfold impl_chi_breaks.f brk
  have hl := tab_length n s
  rw [if_pos (by omega), if_pos (by omega), if_pos (by omega), if_pos (by omega), if_pos (by omega), if_pos (by omega), if_pos (by omega), if_pos (by omega), if_pos (by omega), if_pos (by omega), if_pos (by omega)]
  rw [tab_at n hn s a b c ha hb hc, tab_at n hn s a d e ha hd he, tab_at n hn s a b e ha hb he, tab_at n hn s a c d ha hc hd, tab_at n hn s a b d ha hb hd, tab_at n hn s a c e ha hc he]
  by_cases h : wrap64 (sg n s a b c * sg n s a d e) = wrap64 (sg n s a b e * sg n s a c d)
  · rw [if_pos h, decide_eq_true h, Bool.true_and]
  · rw [if_neg h, decide_eq_false h, Bool.false_and]
theorem l4Breaks_ev (n : Nat) (hn : n ≤ 7) (s : ByteArray) (hs : s.size = (tri n).length) (a b c d e : Nat) (ha : a < n) (hb : b < n) (hc : c < n) (hd : d < n) (he : e < n)
    (hab : a ≠ b) (hac : a ≠ c) (had : a ≠ d) (hae : a ≠ e) (hbc : b < c) (hcd : c < d) (hde : d < e) : Ev (fun k => spec_l4Breaks.f k n s a b c d e) (brk n s a b c d e) := by
  unfold spec_l4Breaks.f brk
  refine Ev.bind (l3At_ev n hn s hs a b c ha hb hc hab (by omega) hac) (Ev.bind (l3At_ev n hn s hs a d e ha hd he had (by omega) hae) (Ev.bind (l3At_ev n hn s hs a b e ha hb he hab (by omega) hae) (Ev.bind (l3At_ev n hn s hs a c d ha hc hd hac (by omega) had) (Ev.bind (l3At_ev n hn s hs a b d ha hb hd hab (by omega) had) (Ev.bind (l3At_ev n hn s hs a c e ha hc he hac (by omega) hae) ?_)))))
  by_cases h : wrap64 (sg n s a b c * sg n s a d e) = wrap64 (sg n s a b e * sg n s a c d)
  · rw [decide_eq_true h, Bool.true_and]
    exact Ev.ite_pos h (Ev.now _)
  · rw [decide_eq_false h, Bool.false_and]
    exact Ev.ite_neg h (Ev.now _)
theorem loopE (g : Nat → Nat → Option (List Int)) (m : Nat) (P : Nat → Bool) (X : Bool) (lo : Nat) (hlo : lo ≤ m) (hend : ∃ r, Ev (g m) r ∧ r.isEmpty = !X)
    (hstep : ∀ i, lo ≤ i → i < m → (∃ r, Ev (g (i + 1)) r ∧ r.isEmpty = !(((List.range m).drop (i + 1)).any P || X)) → ∃ r, Ev (g i) r ∧ r.isEmpty = !(P i || (((List.range m).drop (i + 1)).any P || X))) :
    ∃ r, Ev (g lo) r ∧ r.isEmpty = !(((List.range m).drop lo).any P || X) := by
  have key : ∀ d i, lo ≤ i → i + d = m → ∃ r, Ev (g i) r ∧ r.isEmpty = !(((List.range m).drop i).any P || X) := by
    intro d
    induction d with
    | zero =>
      intro i _ hi
      obtain rfl : i = m := by omega
      rw [List.drop_of_length_le (by simp)]
      simpa using hend
    | succ d ih =>
      intro i hl hi
      rw [range_drop' m i (by omega), List.any_cons, Bool.or_assoc]
      exact hstep i hl (by omega) (ih (i + 1) (by omega) (by omega))
  exact key (m - lo) lo (Nat.le_refl _) (by omega)
def avoid (a : Int) (q : Q4) : Bool := !(q.f0 == a || q.f1 == a || q.f2 == a || q.f3 == a)
def brkQ (n : Nat) (s : ByteArray) (a : Int) (q : Q4) : Bool := brk n s a q.f0 q.f1 q.f2 q.f3
def anyA (n : Nat) (s : ByteArray) (a : Nat) : Bool := (quad n).any fun q => avoid a q && brkQ n s a q
def anyB (n : Nat) (s : ByteArray) : Bool := (List.range n).any (anyA n s)
theorem any_range (l : List Q4) (P : Q4 → Bool) : (List.range l.length).any (fun i => P (rd_T180 l (i : Int))) = l.any P := by
  rw [Bool.eq_iff_iff, List.any_eq_true, List.any_eq_true]
  have hr : ∀ i (h : i < l.length), rd_T180 l (i : Int) = l[i] := by
    intro i h
    unfold rd_T180
    rw [Int.toNat_natCast, getD_lt _ _ _ h]
  constructor
  · rintro ⟨i, hi, hp⟩
    rw [List.mem_range] at hi
    rw [hr i hi] at hp
    exact ⟨_, List.getElem_mem hi, hp⟩
  · rintro ⟨q, hq, hp⟩
    obtain ⟨i, hi, rfl⟩ := List.getElem_of_mem hq
    exact ⟨i, by simpa using hi, by rw [hr i hi]; exact hp⟩
theorem impl_first_ev (n : Nat) (hn : n ≤ 7) (s : ByteArray) : ∃ r, Ev (fun k => impl_chi_firstBreak.f k (tab n s)) r ∧ r.isEmpty = !anyB n s := by
  have hl := tab_length n s
  obtain ⟨hq, hq1⟩ := quad_ok n hn
  unfold impl_chi_firstBreak.f
  have key := loopE (fun a k => impl_chi_firstBreak.l0 k (tab n s) a) n (anyA n s) false 0 (by omega) ?_ ?_
  · simpa [anyB] using key
  · refine ⟨[], Ev.step (fun k => impl_chi_firstBreak.l0.eq_2 ..) (Ev.ite_pos (by omega) (Ev.ite_neg (by rw [tab_n]; omega) (Ev.now _))), rfl⟩
  · intro a _ ha h0
    rw [Bool.or_false] at h0 ⊢
    have key2 := loopE (fun i k => impl_chi_firstBreak.l1 k (tab n s) a (quad n) (quad n).length i) (quad n).length (fun i => avoid a (rd_T180 (quad n) (i : Int)) && brkQ n s a (rd_T180 (quad n) (i : Int))) (((List.range n).drop (a + 1)).any (anyA n s)) 0 (by omega) ?_ ?_
    · obtain ⟨r, h1, h2⟩ := key2
      rw [List.drop_zero, any_range (quad n) (fun q => avoid a q && brkQ n s a q)] at h2
      refine ⟨r, Ev.step (fun k => impl_chi_firstBreak.l0.eq_2 ..) (Ev.ite_pos (by omega) (Ev.ite_pos (by rw [tab_n]; omega) ?_)), h2⟩
      rw [tab_n]
      exact Ev.bind (quadsOf_ev n hn) h1
    · obtain ⟨r, h1, h2⟩ := h0
      refine ⟨r, Ev.step (fun k => impl_chi_firstBreak.l1.eq_2 ..) (Ev.ite_neg (by omega) ?_), h2⟩
      rw [wrap_nat a (by omega)]
      exact h1
    · intro i _ hi h1
      have hr : rd_T180 (quad n) (i : Int) = (quad n)[i] := by
        unfold rd_T180
        rw [Int.toNat_natCast, getD_lt _ _ _ hi]
      rw [List.all_eq_true] at hq
      have ht := hq _ (List.getElem_mem hi)
      rw [← hr] at ht
      obtain ⟨r, h1, h2⟩ := h1
      rw [← wrap_nat i (by omega)] at h1
      by_cases hav : avoid a (rd_T180 (quad n) (i : Int)) = true
      · have hav' := hav
        unfold avoid at hav'
        simp only [Bool.not_eq_true', Bool.or_eq_false_iff, beq_eq_false_iff_ne] at hav'
        obtain ⟨⟨⟨e0, e1⟩, e2⟩, e3⟩ := hav'
        have hb : impl_chi_breaks.f (tab n s) a (rd_T180 (quad n) (i : Int)).f0 (rd_T180 (quad n) (i : Int)).f1 (rd_T180 (quad n) (i : Int)).f2 (rd_T180 (quad n) (i : Int)).f3 = some (brkQ n s a (rd_T180 (quad n) (i : Int))) := by
          generalize rd_T180 (quad n) (i : Int) = q at ht ⊢
          obtain ⟨b, c, d, e⟩ := q
          unfold okQ at ht
          rw [decide_eq_true_eq] at ht
          dsimp only at ht
          obtain ⟨b, rfl⟩ := Int.eq_ofNat_of_zero_le ht.1
          obtain ⟨c, rfl⟩ := Int.eq_ofNat_of_zero_le (show 0 ≤ c by omega)
          obtain ⟨d, rfl⟩ := Int.eq_ofNat_of_zero_le (show 0 ≤ d by omega)
          obtain ⟨e, rfl⟩ := Int.eq_ofNat_of_zero_le (show 0 ≤ e by omega)
          exact breaks_eq n hn s a b c d e (by omega) (by omega) (by omega) (by omega) (by omega)
        rw [hav, Bool.true_and]
        by_cases hbk : brkQ n s a (rd_T180 (quad n) (i : Int)) = true
        · rw [hbk, Bool.true_or]
          exact ⟨_, Ev.step (fun k => impl_chi_firstBreak.l1.eq_2 ..) (Ev.ite_pos (by omega) (Ev.ite_pos (by omega) (Ev.ite_pos (by omega) (Ev.ite_neg e0 (Ev.ite_neg e1 (Ev.ite_neg e2 (Ev.ite_neg e3 (Ev.bind0 hb (Ev.ite_pos hbk (Ev.now _)))))))))), rfl⟩
        · rw [Bool.eq_false_iff.mpr hbk, Bool.false_or]
          exact ⟨r, Ev.step (fun k => impl_chi_firstBreak.l1.eq_2 ..) (Ev.ite_pos (by omega) (Ev.ite_pos (by omega) (Ev.ite_pos (by omega) (Ev.ite_neg e0 (Ev.ite_neg e1 (Ev.ite_neg e2 (Ev.ite_neg e3 (Ev.bind0 hb (Ev.ite_neg hbk h1))))))))), h2⟩
      · rw [Bool.eq_false_iff.mpr hav, Bool.false_and, Bool.false_or]
        refine ⟨r, Ev.step (fun k => impl_chi_firstBreak.l1.eq_2 ..) (Ev.ite_pos (by omega) (Ev.ite_pos (by omega) (Ev.ite_pos (by omega) ?_))), h2⟩
        unfold avoid at hav
        by_cases e0 : (rd_T180 (quad n) (i : Int)).f0 = a
        · exact Ev.ite_pos e0 h1
        refine Ev.ite_neg e0 ?_
        by_cases e1 : (rd_T180 (quad n) (i : Int)).f1 = a
        · exact Ev.ite_pos e1 h1
        refine Ev.ite_neg e1 ?_
        by_cases e2 : (rd_T180 (quad n) (i : Int)).f2 = a
        · exact Ev.ite_pos e2 h1
        refine Ev.ite_neg e2 ?_
        by_cases e3 : (rd_T180 (quad n) (i : Int)).f3 = a
        · exact Ev.ite_pos e3 h1
        · exact absurd (by simp [e0, e1, e2, e3]) hav
def oth (n a : Nat) : List Int := ((List.range n).filter fun x => x != a).map fun x : Nat => (x : Int)
theorem all_oth : (List.range 8).all (fun n => (List.range n).all fun a => spec_l3Others.f 40 n a == some (oth n a)) = true := by decide +kernel
theorem l3Others_ev (n a : Nat) (hn : n ≤ 7) (ha : a < n) : Ev (fun k => spec_l3Others.f k n a) (oth n a) := by
  have h := all_oth
  rw [List.all_eq_true] at h
  have h := h n (by simp; omega)
  rw [List.all_eq_true] at h
  have h := h a (by simpa using ha)
  exact Ev.of (spec_l3Others.mono _ _) (k := 40) (by simpa using h)
theorem all_o : (List.range 8).all (fun n => (List.range n).all fun a => decide ((oth n a).length ≤ 7) && (List.range (oth n a).length).all fun i => decide (0 ≤ rd (oth n a) (i : Int) ∧ rd (oth n a) (i : Int) < n ∧ rd (oth n a) (i : Int) ≠ a) && (List.range i).all fun j => decide (rd (oth n a) (j : Int) < rd (oth n a) (i : Int))) = true := by decide +kernel
theorem oth_ok (n a : Nat) (hn : n ≤ 7) (ha : a < n) : (oth n a).length ≤ 7 ∧ ∀ i, i < (oth n a).length → (∃ u : Nat, rd (oth n a) (i : Int) = u ∧ u < n ∧ u ≠ a) ∧ ∀ j, j < i → rd (oth n a) (j : Int) < rd (oth n a) (i : Int) := by
  have h := all_o
  rw [List.all_eq_true] at h
  have h := h n (by simp; omega)
  rw [List.all_eq_true] at h
  have h := h a (by simpa using ha)
  rw [Bool.and_eq_true, decide_eq_true_eq, List.all_eq_true] at h
  refine ⟨h.1, fun i hi => ?_⟩
  have g := h.2 i (by simpa using hi)
  rw [Bool.and_eq_true, decide_eq_true_eq, List.all_eq_true] at g
  refine ⟨⟨(rd (oth n a) (i : Int)).toNat, by omega, by omega, by omega⟩, fun j hj => ?_⟩
  simpa using g.2 j (by simpa using hj)
def listQ (n a : Nat) : List Q4 :=
  ((List.range (oth n a).length).drop 0).flatMap fun b : Nat => ((List.range (oth n a).length).drop (b + 1)).flatMap fun c : Nat => ((List.range (oth n a).length).drop (c + 1)).flatMap fun d : Nat => ((List.range (oth n a).length).drop (d + 1)).map fun e : Nat =>
    (⟨rd (oth n a) (b : Int), rd (oth n a) (c : Int), rd (oth n a) (d : Int), rd (oth n a) (e : Int)⟩ : Q4)
def tup (q : Q4) : Int × Int × Int × Int := (q.f0, q.f1, q.f2, q.f3)
def untup (q : Int × Int × Int × Int) : Q4 := ⟨q.1, q.2.1, q.2.2.1, q.2.2.2⟩
theorem untup_map (l : List Q4) : (l.map tup).map untup = l := by
  rw [List.map_map]
  exact List.map_id' l
theorem all_list : (List.range 8).all (fun n => (List.range n).all fun a => (listQ n a).map tup == ((quad n).filter (avoid a)).map tup) = true := by decide +kernel
theorem listQ_eq (n a : Nat) (hn : n ≤ 7) (ha : a < n) : listQ n a = (quad n).filter (avoid a) := by
  have h := all_list
  rw [List.all_eq_true] at h
  have h := h n (by simp; omega)
  rw [List.all_eq_true] at h
  have h := h a (by simpa using ha)
  have h := congrArg (List.map untup) (eq_of_beq h)
  rwa [untup_map, untup_map] at h
section
variable (n : Nat) (s : ByteArray) (a : Nat)
def b4 (b c d e : Nat) : Bool := brk n s a (rd (oth n a) (b : Int)) (rd (oth n a) (c : Int)) (rd (oth n a) (d : Int)) (rd (oth n a) (e : Int))
def b3 (b c d : Nat) : Bool := ((List.range (oth n a).length).drop (d + 1)).any (b4 n s a b c d)
def b2 (b c : Nat) : Bool := ((List.range (oth n a).length).drop (c + 1)).any (b3 n s a b c)
def b1 (b : Nat) : Bool := ((List.range (oth n a).length).drop (b + 1)).any (b2 n s a b)
end
theorem b1_eq (n : Nat) (s : ByteArray) (a : Nat) (hn : n ≤ 7) (ha : a < n) : (List.range (oth n a).length).any (b1 n s a) = anyA n s a := by
  unfold anyA
  rw [← List.any_filter, ← listQ_eq n a hn ha]
  unfold listQ
  rw [List.drop_zero, List.any_flatMap]
  simp only [List.any_flatMap, List.any_map]
  rfl
theorem spec_first_ev (n : Nat) (hn : n ≤ 7) (s : ByteArray) (hA : isS n s = true) : ∃ r, Ev (fun k => spec_FirstBreak.f k n s) r ∧ r.isEmpty = !anyB n s := by
  have hS := spec_AreSigns_ev n s
  rw [hA] at hS
  obtain ⟨_, _, hs, _⟩ := isS_bounds hA
  rw [Int.toNat_natCast] at hs
  unfold spec_FirstBreak.f
  have key := loopE (fun a k => spec_FirstBreak.l0 k a n s) n (anyA n s) false 0 (by omega) ?_ ?_
  · simpa [anyB] using key
  · exact ⟨[], Ev.step (fun k => spec_FirstBreak.l0.eq_2 ..) (Ev.ite_neg (by omega) (Ev.step (fun k => spec_FirstBreak.j1.eq_2 ..) (Ev.ite_neg (by simp) (Ev.now _)))), rfl⟩
  · intro a _ ha h0
    rw [Bool.or_false] at h0 ⊢
    obtain ⟨ho, hok⟩ := oth_ok n a hn ha
    rw [← b1_eq n s a hn ha]
    have key1 := loopE (fun b k => spec_FirstBreak.l1 k a (oth n a) b n s) (oth n a).length (b1 n s a) (((List.range n).drop (a + 1)).any (anyA n s)) 0 (by omega) ?_ ?_
    · obtain ⟨r, h1, h2⟩ := key1
      rw [List.drop_zero] at h2
      exact ⟨r, Ev.step (fun k => spec_FirstBreak.l0.eq_2 ..) (Ev.ite_pos (by omega) (Ev.bind hS (Ev.step (fun k => spec_FirstBreak.j1.eq_2 ..) (Ev.ite_pos rfl (Ev.bind (l3Others_ev n a hn ha) h1))))), h2⟩
    · obtain ⟨r, h1, h2⟩ := h0
      refine ⟨r, Ev.step (fun k => spec_FirstBreak.l1.eq_2 ..) (Ev.ite_neg (by omega) ?_), h2⟩
      rw [wrap_nat a (by omega)]
      exact h1
    · intro b _ hb h1
      have key2 := loopE (fun c k => spec_FirstBreak.l2 k a (oth n a) b c n s) (oth n a).length (b2 n s a b) (((List.range (oth n a).length).drop (b + 1)).any (b1 n s a) || ((List.range n).drop (a + 1)).any (anyA n s)) (b + 1) (by omega) ?_ ?_
      · obtain ⟨r, g1, g2⟩ := key2
        refine ⟨r, Ev.step (fun k => spec_FirstBreak.l1.eq_2 ..) (Ev.ite_pos (by omega) ?_), g2⟩
        rw [wrap_nat b (by omega)]
        exact g1
      · obtain ⟨r, g1, g2⟩ := h1
        refine ⟨r, Ev.step (fun k => spec_FirstBreak.l2.eq_2 ..) (Ev.ite_neg (by omega) ?_), g2⟩
        rw [wrap_nat b (by omega)]
        exact g1
      · intro c hbc hc h2
        have key3 := loopE (fun d k => spec_FirstBreak.l3 k a (oth n a) b c d n s) (oth n a).length (b3 n s a b c) (((List.range (oth n a).length).drop (c + 1)).any (b2 n s a b) || (((List.range (oth n a).length).drop (b + 1)).any (b1 n s a) || ((List.range n).drop (a + 1)).any (anyA n s))) (c + 1) (by omega) ?_ ?_
        · obtain ⟨r, g1, g2⟩ := key3
          refine ⟨r, Ev.step (fun k => spec_FirstBreak.l2.eq_2 ..) (Ev.ite_pos (by omega) ?_), g2⟩
          rw [wrap_nat c (by omega)]
          exact g1
        · obtain ⟨r, g1, g2⟩ := h2
          refine ⟨r, Ev.step (fun k => spec_FirstBreak.l3.eq_2 ..) (Ev.ite_neg (by omega) ?_), g2⟩
          rw [wrap_nat c (by omega)]
          exact g1
        · intro d hcd hd h3
          have key4 := loopE (fun e k => spec_FirstBreak.l4 k a (oth n a) b c d e n s) (oth n a).length (b4 n s a b c d) (((List.range (oth n a).length).drop (d + 1)).any (b3 n s a b c) || (((List.range (oth n a).length).drop (c + 1)).any (b2 n s a b) || (((List.range (oth n a).length).drop (b + 1)).any (b1 n s a) || ((List.range n).drop (a + 1)).any (anyA n s)))) (d + 1) (by omega) ?_ ?_
          · obtain ⟨r, g1, g2⟩ := key4
            refine ⟨r, Ev.step (fun k => spec_FirstBreak.l3.eq_2 ..) (Ev.ite_pos (by omega) ?_), g2⟩
            rw [wrap_nat d (by omega)]
            exact g1
          · obtain ⟨r, g1, g2⟩ := h3
            refine ⟨r, Ev.step (fun k => spec_FirstBreak.l4.eq_2 ..) (Ev.ite_neg (by omega) ?_), g2⟩
            rw [wrap_nat d (by omega)]
            exact g1
          · intro e hde he h4
            have hord : b < c ∧ c < d ∧ d < e := ⟨by omega, by omega, by omega⟩
            obtain ⟨⟨ub, eb, lb, nb⟩, _⟩ := hok b hb
            obtain ⟨⟨uc, ec, lc, nc⟩, oc⟩ := hok c hc
            obtain ⟨⟨ud, ed, ld, nd⟩, od⟩ := hok d hd
            obtain ⟨⟨ue, ee, le, ne⟩, oe⟩ := hok e he
            have kb := oc b hord.1
            have kc := od c hord.2.1
            have kd := oe d hord.2.2
            rw [eb, ec] at kb
            rw [ec, ed] at kc
            rw [ed, ee] at kd
            have hbr : Ev (fun k => spec_l4Breaks.f k n s a (rd (oth n a) (b : Int)) (rd (oth n a) (c : Int)) (rd (oth n a) (d : Int)) (rd (oth n a) (e : Int))) (b4 n s a b c d e) := by
              unfold b4
              rw [eb, ec, ed, ee]
              exact l4Breaks_ev n hn s hs a ub uc ud ue ha lb lc ld le (Ne.symm nb) (Ne.symm nc) (Ne.symm nd) (Ne.symm ne) (by omega) (by omega) (by omega)
            obtain ⟨r, g1, g2⟩ := h4
            rw [← wrap_nat e (by omega)] at g1
            by_cases hbk : b4 n s a b c d e = true
            · rw [hbk] at hbr
              rw [hbk, Bool.true_or]
              exact ⟨_, Ev.step (fun k => spec_FirstBreak.l4.eq_2 ..) (Ev.ite_pos (by omega) (Ev.ite_pos (by omega) (Ev.ite_pos (by omega) (Ev.ite_pos (by omega) (Ev.ite_pos (by omega) (Ev.ite_pos (by omega) (Ev.ite_pos (by omega) (Ev.ite_pos (by omega) (Ev.bind hbr (Ev.ite_pos rfl (Ev.now _))))))))))), rfl⟩
            · rw [Bool.eq_false_iff.mpr hbk] at hbr
              rw [Bool.eq_false_iff.mpr hbk, Bool.false_or]
              exact ⟨r, Ev.step (fun k => spec_FirstBreak.l4.eq_2 ..) (Ev.ite_pos (by omega) (Ev.ite_pos (by omega) (Ev.ite_pos (by omega) (Ev.ite_pos (by omega) (Ev.ite_pos (by omega) (Ev.ite_pos (by omega) (Ev.ite_pos (by omega) (Ev.ite_pos (by omega) (Ev.bind hbr (Ev.ite_neg (by simp) g1)))))))))), g2⟩
def isM (n : Int) (s : ByteArray) : Bool := isS n s && !anyB n.toNat s
theorem len_empty (r : List Int) : ((r.length : Int) = 0) ↔ r.isEmpty = true := by
  rw [List.isEmpty_iff, ← List.length_eq_zero_iff]
  omega
theorem spec_IsMatroid_ev (n : Int) (s : ByteArray) : Ev (fun k => spec_IsMatroid.f k n s) (isM n s) := by
  have hS := spec_AreSigns_ev n s
  unfold spec_IsMatroid.f isM
  cases hA : isS n s with
  | false =>
    rw [hA] at hS
    exact Ev.bind hS (Ev.ite_neg (by simp) (Ev.now _))
  | true =>
    rw [hA] at hS
    obtain ⟨h3, h7, _, _⟩ := isS_bounds hA
    obtain ⟨n, rfl⟩ := Int.eq_ofNat_of_zero_le (show 0 ≤ n by omega)
    obtain ⟨r, h1, h2⟩ := spec_first_ev n (by omega) s hA
    rw [Int.toNat_natCast, Bool.true_and, ← h2]
    refine Ev.bind hS (Ev.ite_pos rfl (Ev.bind h1 (Ev.const (congrArg some ?_))))
    rw [Bool.eq_iff_iff, beq_iff_eq]
    exact len_empty r
theorem impl_IsMatroid_ev (n : Int) (s : ByteArray) : Ev (fun k => impl_IsMatroid.f k n s) (isM n s) := by
  have hS := impl_AreSigns_ev n s
  unfold impl_IsMatroid.f isM
  cases hA : isS n s with
  | false =>
    rw [hA] at hS
    exact Ev.bind hS (Ev.ite_neg (by simp) (Ev.now _))
  | true =>
    rw [hA] at hS
    obtain ⟨h3, h7, hs, _⟩ := isS_bounds hA
    obtain ⟨n, rfl⟩ := Int.eq_ofNat_of_zero_le (show 0 ≤ n by omega)
    rw [Int.toNat_natCast] at hs
    obtain ⟨r, h1, h2⟩ := impl_first_ev n (by omega) s
    rw [Int.toNat_natCast, Bool.true_and, ← h2]
    have hF : Ev (fun k => impl_FirstBreak.f k n s) r := by
      unfold impl_FirstBreak.f
      exact Ev.bind hS (Ev.ite_pos rfl (Ev.bind (tableOf_ev n (by omega) s hs) (Ev.bind h1 (Ev.now _))))
    refine Ev.bind hS (Ev.ite_pos rfl (Ev.bind hF ?_))
    cases he : r.isEmpty with
    | true => exact Ev.ite_pos ((len_empty r).mpr he) (Ev.now _)
    | false => exact Ev.ite_neg (fun h => by rw [(len_empty r).mp h] at he; cases he) (Ev.now _)
def byteS (v : Int) : ByteArray := if v > 0 then ⟨#[43]⟩ else ⟨#[45]⟩
def circT (p q r t : Int) : ByteArray := (((⟨#[43]⟩ : ByteArray) ++ byteS (wrap64 ((wrap64 (-p)) * q))) ++ byteS (wrap64 (p * r))) ++ byteS (wrap64 ((wrap64 (-p)) * t))
theorem l3Byte_eq (v : Int) : spec_l3Byte.f v = some (byteS v) := by
  unfold spec_l3Byte.f byteS
  by_cases h : v > 0
  · rw [if_pos h, if_pos h]
  · rw [if_neg h, if_neg h]
theorem byteS_size (v : Int) : (byteS v).size = 1 := by
  unfold byteS
  by_cases h : v > 0
  · rw [if_pos h]; rfl
  · rw [if_neg h]; rfl
def pm1 : List Int := [1, -1]
theorem all_circ : pm1.all (fun p => pm1.all fun q => pm1.all fun r => pm1.all fun t => (impl_chi_circuit.l0 12 [] [p, wrap64 (-q), r, wrap64 (-t)] 4 0).map (fun b => b.data.toList) == some (circT p q r t).data.toList) = true := by decide +kernel
theorem circ_eq (p q r t : Int) (hp : p = 1 ∨ p = -1) (hq : q = 1 ∨ q = -1) (hr : r = 1 ∨ r = -1) (ht : t = 1 ∨ t = -1) : impl_chi_circuit.l0 12 [] [p, wrap64 (-q), r, wrap64 (-t)] 4 0 = some (circT p q r t) := by
  have h := all_circ
  rw [List.all_eq_true] at h
  have h := h p (by rcases hp with rfl | rfl <;> decide)
  rw [List.all_eq_true] at h
  have h := h q (by rcases hq with rfl | rfl <;> decide)
  rw [List.all_eq_true] at h
  have h := h r (by rcases hr with rfl | rfl <;> decide)
  rw [List.all_eq_true] at h
  have h := eq_of_beq (h t (by rcases ht with rfl | rfl <;> decide))
  obtain ⟨b, h1, h2⟩ := Option.map_eq_some_iff.mp h
  rw [h1]
  congr 1
  apply ByteArray.ext
  exact Array.ext' h2
theorem impl_circuit_ev (n : Nat) (hn : n ≤ 7) (s : ByteArray) (a b c d : Nat) (hd : d < n) (hab : a < b) (hbc : b < c) (hcd : c < d) :
    Ev (fun k => impl_chi_circuit.f k (tab n s) a b c d) (circT (sg n s b c d) (sg n s a c d) (sg n s a b d) (sg n s a b c)) := by
  have hl := tab_length n s
  unfold impl_chi_circuit.f
  refine Ev.ite_pos (by omega) (Ev.ite_pos (by omega) (Ev.ite_pos (by omega) (Ev.ite_pos (by omega) (Ev.ite_pos (by omega) (Ev.ite_pos (by omega) (Ev.ite_pos (by omega) (Ev.ite_pos (by omega) (Ev.ite_pos (by omega) (Ev.bind0 rfl ?_)))))))))
  rw [tab_at n hn s b c d (by omega) (by omega) (by omega), tab_at n hn s a c d (by omega) (by omega) (by omega), tab_at n hn s a b d (by omega) (by omega) (by omega), tab_at n hn s a b c (by omega) (by omega) (by omega)]
  exact Ev.of (fun k => (impl_chi_circuit.mono_l k) _ _ _ _) (k := 12) (circ_eq _ _ _ _ (sg_pm n hn s b c d (by omega) (by omega) (by omega) (by omega) (by omega) (by omega)) (sg_pm n hn s a c d (by omega) (by omega) (by omega) (by omega) (by omega) (by omega)) (sg_pm n hn s a b d (by omega) (by omega) (by omega) (by omega) (by omega) (by omega)) (sg_pm n hn s a b c (by omega) (by omega) (by omega) (by omega) (by omega) (by omega)))
theorem spec_circuit_ev (n : Nat) (hn : n ≤ 7) (s : ByteArray) (hs : s.size = (tri n).length) (a b c d : Nat) (hd : d < n) (hab : a < b) (hbc : b < c) (hcd : c < d) :
    Ev (fun k => spec_l4Circuit.f k n s a b c d) (circT (sg n s b c d) (sg n s a c d) (sg n s a b d) (sg n s a b c)) := by
  unfold spec_l4Circuit.f circT
  refine Ev.bind (l3At_ev n hn s hs b c d (by omega) (by omega) (by omega) (by omega) (by omega) (by omega)) (Ev.bind (l3At_ev n hn s hs a c d (by omega) (by omega) (by omega) (by omega) (by omega) (by omega)) (Ev.bind0 (l3Byte_eq _) (Ev.ite_pos (by rw [byteS_size]; omega) ?_)))
  refine Ev.bind (l3At_ev n hn s hs a b d (by omega) (by omega) (by omega) (by omega) (by omega) (by omega)) (Ev.bind0 (l3Byte_eq _) (Ev.ite_pos (by rw [ByteArray.size_append, byteS_size, byteS_size]; decide) ?_))
  exact Ev.bind (l3At_ev n hn s hs a b c (by omega) (by omega) (by omega) (by omega) (by omega) (by omega)) (Ev.bind0 (l3Byte_eq _) (Ev.ite_pos (by rw [ByteArray.size_append, ByteArray.size_append, byteS_size, byteS_size, byteS_size]; decide) (Ev.now _)))
def listC (n : Nat) : List Q4 :=
  ((List.range n).drop 0).flatMap fun a : Nat => ((List.range n).drop (a + 1)).flatMap fun b : Nat => ((List.range n).drop (b + 1)).flatMap fun c : Nat => ((List.range n).drop (c + 1)).map fun d : Nat => (⟨a, b, c, d⟩ : Q4)
theorem all_c : (List.range 8).all (fun n => (listC n).map tup == (quad n).map tup) = true := by decide +kernel
theorem listC_eq (n : Nat) (hn : n ≤ 7) : listC n = quad n := by
  have h := all_c
  rw [List.all_eq_true] at h
  have h := congrArg (List.map untup) (eq_of_beq (h n (by simp; omega)))
  rwa [untup_map, untup_map] at h
theorem loopA (g : Nat → Nat → Option Bool) (m : Nat) (P : Nat → Bool) (X : Bool) (lo : Nat) (hlo : lo ≤ m) (hend : Ev (g m) X)
    (hstep : ∀ i, lo ≤ i → i < m → Ev (g (i + 1)) (((List.range m).drop (i + 1)).all P && X) → Ev (g i) (P i && (((List.range m).drop (i + 1)).all P && X))) : Ev (g lo) (((List.range m).drop lo).all P && X) := by
  have key : ∀ d i, lo ≤ i → i + d = m → Ev (g i) (((List.range m).drop i).all P && X) := by
    intro d
    induction d with
    | zero =>
      intro i _ hi
      obtain rfl : i = m := by omega
      rw [List.drop_of_length_le (by simp)]
      simpa using hend
    | succ d ih =>
      intro i hl hi
      rw [range_drop' m i (by omega), List.all_cons, Bool.and_assoc]
      exact hstep i hl (by omega) (ih (i + 1) (by omega) (by omega))
  exact key (m - lo) lo (Nat.le_refl _) (by omega)
def pm (v : Int) : Int := if v > 0 then 43 else 45
def codesT (l : List Int) (ts : List T3) : List Int := ts.map fun t => pm (chiA l t.f0 t.f1 t.f2)
theorem signs_ev (n : Nat) (hn : n ≤ 7) (l : List Int) (hl : l.length = 344) (hc : chiN l = n) : Ev (fun k => impl_chi_signs.f k l) ((n : Int), strOfNums (codesT l (tri n))) := by
  unfold impl_chi_signs.f
  rw [hc]
  refine Ev.ite_pos (by omega) (Ev.bind (triplesOf_ev n hn) ?_)
  have h35 : (tri n).length ≤ 1000 := by
    have : (List.range 8).all (fun n => decide ((tri n).length ≤ 1000)) = true := by decide +kernel
    rw [List.all_eq_true] at this
    simpa using this n (by simp; omega)
  have key := Ev.loop (fun i k => impl_chi_signs.l0 k l (codesT l ((tri n).take i)) (tri n) (tri n).length i) (tri n).length ((n : Int), strOfNums (codesT l (tri n))) ?_ ?_ 0 (by omega)
  · simpa [codesT] using key
  · refine Ev.step (fun k => impl_chi_signs.l0.eq_2 ..) (Ev.ite_neg (by omega) (Ev.ite_pos (by omega) (Ev.const ?_)))
    rw [List.take_length, hc]
  · intro i hi ih
    have ht := tri_at n hn i hi
    have hlen : (codesT l ((tri n).take i)).length < 140737488355328 := by unfold codesT; simp; omega
    refine Ev.step (fun k => impl_chi_signs.l0.eq_2 ..) (Ev.ite_pos (by omega) (Ev.ite_pos (by omega) (Ev.ite_pos (by omega) (Ev.ite_pos (by omega) ?_))))
    rw [wrap_nat i (by omega), rdT_lt _ i hi]
    have hcod : codesT l ((tri n).take (i + 1)) = codesT l ((tri n).take i) ++ [pm (chiA l (tri n)[i].f0 (tri n)[i].f1 (tri n)[i].f2)] := by
      unfold codesT
      rw [List.take_succ_eq_append_getElem hi, List.map_append]
      rfl
    rw [hcod] at ih
    generalize (tri n)[i] = t at ih ht ⊢
    unfold okT at ht
    rw [decide_eq_true_eq] at ht
    refine Ev.ite_pos (by omega) (Ev.ite_pos (by omega) (Ev.ite_pos (by omega) (Ev.ite_pos (by omega) (Ev.ite_pos (by omega) (Ev.ite_pos (by omega) ?_)))))
    unfold pm at ih
    by_cases h : chiA l t.f0 t.f1 t.f2 > 0
    · rw [if_pos h] at ih
      exact Ev.ite_pos h (Ev.ite_pos hlen ih)
    · rw [if_neg h] at ih
      exact Ev.ite_neg h (Ev.ite_pos hlen ih)
theorem all_tri : (List.range 8).all (fun n => (List.range (tri n).length).all fun m => (let t := (tri n).getD m ⟨0, 0, 0⟩; src (tri n) 0 t.f0 t.f1 t.f2 == some (m, true))) = true := by decide +kernel
theorem tri_src (n : Nat) (hn : n ≤ 7) (m : Nat) (hm : m < (tri n).length) : src (tri n) 0 (tri n)[m].f0 (tri n)[m].f1 (tri n)[m].f2 = some (m, true) := by
  have g := all_tri
  rw [List.all_eq_true] at g
  have g := g n (by simp; omega)
  rw [List.all_eq_true] at g
  have g := g m (by simpa using hm)
  rw [getD_lt _ _ _ hm] at g
  simpa using g
theorem tri_nat (n : Nat) (hn : n ≤ 7) (m : Nat) (hm : m < (tri n).length) : ∃ a b c : Nat, a < b ∧ b < c ∧ c < n ∧ (tri n)[m] = ⟨a, b, c⟩ := by
  have h := tri_ok n hn
  rw [List.all_eq_true] at h
  have h := h _ (List.getElem_mem hm)
  generalize (tri n)[m] = t at h ⊢
  obtain ⟨a, b, c⟩ := t
  unfold okT at h
  rw [decide_eq_true_eq] at h
  dsimp only at h
  obtain ⟨a, rfl⟩ := Int.eq_ofNat_of_zero_le h.1
  obtain ⟨b, rfl⟩ := Int.eq_ofNat_of_zero_le (show 0 ≤ b by omega)
  obtain ⟨c, rfl⟩ := Int.eq_ofNat_of_zero_le (show 0 ≤ c by omega)
  exact ⟨a, b, c, by omega, by omega, by omega, rfl⟩
theorem tab_tri (n : Nat) (hn : n ≤ 7) (s : ByteArray) (m : Nat) (hm : m < (tri n).length) : chiA (tab n s) (tri n)[m].f0 (tri n)[m].f1 (tri n)[m].f2 = sgAt s m := by
  obtain ⟨a, b, c, h1, h2, h3, e⟩ := tri_nat n hn m hm
  have hs := tri_src n hn m hm
  rw [e] at hs ⊢
  dsimp only at hs ⊢
  rw [tab_at n hn s a b c (by omega) (by omega) (by omega)]
  unfold sg
  rw [hs]
  rfl
def okD3 (t : T3) : Prop := ∃ a b c : Nat, t = ⟨a, b, c⟩ ∧ a < 7 ∧ b < 7 ∧ c < 7 ∧ a ≠ b ∧ b ≠ c ∧ a ≠ c
theorem chiA_put3d (l : List Int) (hl : l.length = 344) (t : T3) (ht : okD3 t) (v : Int) (x y z : Nat) (hx : x < 7) (hy : y < 7) (hz : z < 7) :
    chiA (put3 l t v) x y z = match par t x y z with | some true => v | some false => wrap64 (-v) | none => chiA l x y z := by
  obtain ⟨a, b, c, rfl, ha, hb, hc, h1, h2, h3⟩ := ht
  exact chiA_set l hl a b c ha hb hc h1 h2 h3 v x y z hx hy hz
theorem chiA_filld (v : Nat → Int) (x y z : Nat) (hx : x < 7) (hy : y < 7) (hz : z < 7) : ∀ (ts : List T3), (∀ t ∈ ts, okD3 t) → ∀ m l, l.length = 344 → chiA (fill v ts m l) x y z = sval v (chiA l x y z) (src ts m x y z) := by
  intro ts
  induction ts with
  | nil => intro _ m l _; rfl
  | cons t ts ih =>
    intro h m l hl
    rw [fill, ih (fun u hu => h u (List.mem_cons_of_mem _ hu)) (m + 1) _ (by unfold put3; rw [chiSet_length]; exact hl), chiA_put3d l hl t (h t List.mem_cons_self) (v m) x y z hx hy hz, src]
    cases hs : src ts (m + 1) x y z with
    | some p => obtain ⟨q, b⟩ := p; cases b <;> rfl
    | none =>
      cases hp : par t x y z with
      | none => rfl
      | some b => cases b <;> rfl
def permT (p : List Int) (t : T3) : T3 := ⟨rd p t.f0, rd p t.f1, rd p t.f2⟩
def isP (n : Nat) (p : List Int) : Prop := p.length = n ∧ (inv p).length = n ∧ ∀ a, a < n → (0 ≤ rd p (a : Int) ∧ rd p (a : Int) < n ∧ 0 ≤ rd (inv p) (a : Int) ∧ rd (inv p) (a : Int) < n) ∧ ∀ x, x < n → ((x : Int) = rd p (a : Int) ↔ rd (inv p) (x : Int) = (a : Int))
theorem par_perm (n : Nat) (p : List Int) (hp : isP n p) (a b c x y z : Nat) (ha : a < n) (hb : b < n) (hc : c < n) (hx : x < n) (hy : y < n) (hz : z < n) :
    par (permT p ⟨a, b, c⟩) x y z = par ⟨a, b, c⟩ (rd (inv p) (x : Int)) (rd (inv p) (y : Int)) (rd (inv p) (z : Int)) := by
  have h : ∀ u v : Nat, u < n → v < n → ((u : Int) = rd p (v : Int) ↔ rd (inv p) (u : Int) = (v : Int)) := fun u v hu hv => (hp.2.2 v hv).2 u hu
  unfold par permT
  simp only [h x a hx ha, h x b hx hb, h x c hx hc, h y a hy ha, h y b hy hb, h y c hy hc, h z a hz ha, h z b hz hb, h z c hz hc]
theorem src_perm (n : Nat) (p : List Int) (hp : isP n p) (x y z : Nat) (hx : x < n) (hy : y < n) (hz : z < n) : ∀ (ts : List T3), (∀ t ∈ ts, ∃ a b c : Nat, t = ⟨a, b, c⟩ ∧ a < n ∧ b < n ∧ c < n) → ∀ m,
    src (ts.map (permT p)) m x y z = src ts m (rd (inv p) (x : Int)) (rd (inv p) (y : Int)) (rd (inv p) (z : Int)) := by
  intro ts
  induction ts with
  | nil => intro _ m; rfl
  | cons t ts ih =>
    intro h m
    obtain ⟨a, b, c, rfl, ha, hb, hc⟩ := h t List.mem_cons_self
    rw [List.map_cons, src, src, ih (fun u hu => h u (List.mem_cons_of_mem _ hu)), par_perm n p hp a b c x y z ha hb hc hx hy hz]
theorem tri_mem (n : Nat) (hn : n ≤ 7) (t : T3) (h : t ∈ tri n) : ∃ a b c : Nat, t = ⟨a, b, c⟩ ∧ a < b ∧ b < c ∧ c < n := by
  obtain ⟨m, hm, rfl⟩ := List.getElem_of_mem h
  obtain ⟨a, b, c, h1, h2, h3, e⟩ := tri_nat n hn m hm
  exact ⟨a, b, c, e, h1, h2, h3⟩
theorem perm_ne (n : Nat) (p : List Int) (hp : isP n p) (a b : Nat) (ha : a < n) (hb : b < n) (h : a ≠ b) : rd p (a : Int) ≠ rd p (b : Int) := by
  intro e
  have h1 := hp.2.2 a ha
  have h2 := hp.2.2 b hb
  obtain ⟨u, hu⟩ := Int.eq_ofNat_of_zero_le h1.1.1
  have hun : u < n := by omega
  have k1 := (h1.2 u hun).mp hu.symm
  have k2 := (h2.2 u hun).mp (by rw [← e]; exact hu.symm)
  omega
theorem permT_ok (n : Nat) (hn : n ≤ 7) (p : List Int) (hp : isP n p) (t : T3) (h : t ∈ tri n) : okD3 (permT p t) := by
  obtain ⟨a, b, c, rfl, h1, h2, h3⟩ := tri_mem n hn t h
  have ka := (hp.2.2 a (by omega)).1
  have kb := (hp.2.2 b (by omega)).1
  have kc := (hp.2.2 c (by omega)).1
  have n1 := perm_ne n p hp a b (by omega) (by omega) (by omega)
  have n2 := perm_ne n p hp b c (by omega) (by omega) (by omega)
  have n3 := perm_ne n p hp a c (by omega) (by omega) (by omega)
  exact ⟨(rd p (a : Int)).toNat, (rd p (b : Int)).toNat, (rd p (c : Int)).toNat, by unfold permT; congr 1 <;> dsimp only <;> omega, by omega, by omega, by omega, by omega, by omega, by omega⟩
def pickC (n : Nat) (s : ByteArray) (q : List Int) : List Int := (tri n).map fun t => pm (sg n s (rd q t.f0) (rd q t.f1) (rd q t.f2))
def pickT (n : Nat) (s : ByteArray) (q : List Int) : ByteArray := strOfNums (pickC n s q)
theorem rename_ev (n : Nat) (hn : n ≤ 7) (s : ByteArray) (p : List Int) (hp : isP n p) : Ev (fun k => impl_chi_rename.f k (tab n s) p) ((n : Int), pickT n s (inv p)) := by
  have hl := tab_length n s
  have h35 : (tri n).length ≤ 1000 := by
    have : (List.range 8).all (fun n => decide ((tri n).length ≤ 1000)) = true := by decide +kernel
    rw [List.all_eq_true] at this
    simpa using this n (by simp; omega)
  unfold impl_chi_rename.f
  rw [tab_n]
  refine Ev.ite_pos (by omega) (Ev.bind (triplesOf_ev n hn) ?_)
  have key := Ev.loop (fun i k => impl_chi_rename.l0 k (tab n s) p (fill (sgAt s) (((tri n).take i).map (permT p)) 0 (chiNew n)) (tri n) (tri n).length i) (tri n).length ((n : Int), pickT n s (inv p)) ?_ ?_ 0 (by omega)
  · simpa [fill] using key
  · have hY : (fill (sgAt s) ((tri n).map (permT p)) 0 (chiNew n)).length = 344 := by rw [fill_length, chiNew_length]
    have hN : chiN (fill (sgAt s) ((tri n).map (permT p)) 0 (chiNew n)) = n := by rw [chiN_fill _ _ _ _ (chiNew_length _)]; rfl
    rw [List.take_length]
    refine Ev.step (fun k => impl_chi_rename.l0.eq_2 ..) (Ev.ite_neg (by omega) (Ev.bind (signs_ev n hn _ hY hN) (Ev.const ?_)))
    have e : codesT (fill (sgAt s) ((tri n).map (permT p)) 0 (chiNew n)) (tri n) = pickC n s (inv p) := by
      unfold codesT pickC
      apply List.map_congr_left
      intro t ht
      obtain ⟨a, b, c, rfl, h1, h2, h3⟩ := tri_mem n hn t ht
      dsimp only
      rw [chiA_filld (sgAt s) a b c (by omega) (by omega) (by omega) _ (fun u hu => by obtain ⟨w, hw, rfl⟩ := List.mem_map.mp hu; exact permT_ok n hn p hp w hw) 0 _ (chiNew_length _), chiA_new _ a b c (by omega) (by omega) (by omega)]
      rw [src_perm n p hp a b c (by omega) (by omega) (by omega) (tri n) (fun u hu => by obtain ⟨x, y, z, e, g1, g2, g3⟩ := tri_mem n hn u hu; exact ⟨x, y, z, e, by omega, by omega, by omega⟩) 0]
      rfl
    rw [e]
    rfl
  · intro i hi ih
    have hm := List.getElem_mem hi
    obtain ⟨a, b, c, hab, hbc, hcn, e⟩ := tri_nat n hn i hi
    have hok := permT_ok n hn p hp _ hm
    have htab := tab_tri n hn s i hi
    refine Ev.step (fun k => impl_chi_rename.l0.eq_2 ..) (Ev.ite_pos (by omega) (Ev.ite_pos (by omega) (Ev.ite_pos (by omega) ?_)))
    rw [rdT_lt _ i hi, wrap_nat i (by omega)]
    rw [List.take_succ_eq_append_getElem hi, List.map_append, fill_append, Nat.zero_add, List.length_map, List.length_take, Nat.min_eq_left (by omega)] at ih
    have hlY : (fill (sgAt s) (((tri n).take i).map (permT p)) 0 (chiNew n)).length = 344 := by rw [fill_length, chiNew_length]
    rw [e] at hok htab ih ⊢
    generalize fill (sgAt s) (((tri n).take i).map (permT p)) 0 (chiNew n) = Y at ih hlY ⊢
    dsimp only at htab ⊢
    have hpl := hp.1
    refine Ev.ite_pos (by omega) (Ev.ite_pos (by omega) (Ev.ite_pos (by omega) (Ev.ite_pos (by omega) (Ev.ite_pos (by omega) (Ev.ite_pos (by omega) (Ev.ite_pos (by omega) (Ev.ite_pos (by omega) (Ev.ite_pos (by omega) (Ev.ite_pos (by omega) ?_)))))))))
    rw [htab]
    refine Ev.bind0 (a := put3 Y (permT p ⟨a, b, c⟩) (sgAt s i)) ?_ ih
    obtain ⟨u, v, w, eu, hu, hv, hw, n1, n2, n3⟩ := hok
    have e1 : rd p (a : Int) = u := congrArg S89.f0 eu
    have e2 : rd p (b : Int) = v := congrArg S89.f1 eu
    have e3 : rd p (c : Int) = w := congrArg S89.f2 eu
    rw [eu, e1, e2, e3]
    unfold impl_chi_set.f
    rw [if_pos ⟨hlY, by omega, by omega, by omega⟩]
    rfl
theorem Ev.loopS {σ ρ : Type} (g : σ → Nat → Nat → Option ρ) (m : Nat) (I : σ → Nat → Prop) (R : σ → Nat → ρ) (hend : ∀ S, I S m → Ev (g S m) (R S m))
    (hstep : ∀ S i, i < m → I S i → (∀ S', I S' (i + 1) → Ev (g S' (i + 1)) (R S' (i + 1))) → Ev (g S i) (R S i)) : ∀ i, i ≤ m → ∀ S, I S i → Ev (g S i) (R S i) := by
  have key : ∀ d i, i + d = m → ∀ S, I S i → Ev (g S i) (R S i) := by
    intro d
    induction d with
    | zero => intro i hi S hS; obtain rfl : i = m := by omega
              exact hend S hS
    | succ d ih => intro i hi S hS; exact hstep S i (by omega) hS (fun S' hS' => ih (i + 1) (by omega) S' hS')
  intro i hi
  exact key (m - i) i (by omega)
def rem2 (n i j k : Nat) : List T3 := ((List.range n).drop k).map fun c : Nat => (⟨i, j, c⟩ : T3)
def rem1 (n i j : Nat) : List T3 := ((List.range n).drop j).flatMap fun b : Nat => rem2 n i b (b + 1)
def rem0 (n i : Nat) : List T3 := ((List.range n).drop i).flatMap fun a : Nat => rem1 n a (a + 1)
theorem rem0_all (n : Nat) (hn : n ≤ 7) : rem0 n 0 = tri n := listT_eq n hn
def strP (n : Nat) (s : ByteArray) (q : List Int) (ts : List T3) : ByteArray := strOfNums (ts.map fun t => pm (sg n s (rd q t.f0) (rd q t.f1) (rd q t.f2)))
theorem strOfNums_append (a b : List Int) : strOfNums (a ++ b) = strOfNums a ++ strOfNums b := by
  unfold strOfNums
  apply ByteArray.ext
  apply Array.ext'
  simp [ByteArray.data_append]
theorem strOfNums_size (a : List Int) : (strOfNums a).size = a.length := by
  unfold strOfNums
  show (Array.size _) = _
  simp
theorem strP_cons (n : Nat) (s : ByteArray) (q : List Int) (t : T3) (ts : List T3) : strP n s q (t :: ts) = byteS (sg n s (rd q t.f0) (rd q t.f1) (rd q t.f2)) ++ strP n s q ts := by
  unfold strP
  rw [List.map_cons, show ∀ (x : Int) (l : List Int), x :: l = [x] ++ l from fun _ _ => rfl, strOfNums_append]
  congr 1
  unfold pm byteS
  by_cases h : sg n s (rd q t.f0) (rd q t.f1) (rd q t.f2) > 0
  · rw [if_pos h, if_pos h]
    rfl
  · rw [if_neg h, if_neg h]
    rfl
theorem strP_append (n : Nat) (s : ByteArray) (q : List Int) (a b : List T3) : strP n s q (a ++ b) = strP n s q a ++ strP n s q b := by
  unfold strP
  rw [List.map_append, strOfNums_append]
theorem pick_ev (n : Nat) (hn : n ≤ 7) (s : ByteArray) (hs : s.size = (tri n).length) (q : List Int) (hq : isP n q) : Ev (fun k => spec_l3Pick.f k n s q) ((n : Int), pickT n s q) := by
  have hql := hq.1
  unfold spec_l3Pick.f
  have hnil : (⟨#[]⟩ : ByteArray).size = 0 := rfl
  have key := Ev.loopS (fun (S : ByteArray) i k => spec_l3Pick.l0 k q i n s (q.length : Int) S) n (fun S i => S.size ≤ 1000 * i) (fun S i => ((n : Int), S ++ strP n s q (rem0 n i))) ?_ ?_ 0 (by omega) (⟨#[]⟩ : ByteArray) (by omega)
  · rw [rem0_all n hn] at key
    rw [show pickT n s q = (⟨#[]⟩ : ByteArray) ++ strP n s q (tri n) by unfold pickT strP pickC; exact (ByteArray.empty_append).symm]
    exact key
  · intro S hS
    refine Ev.step (fun k => spec_l3Pick.l0.eq_2 ..) (Ev.ite_neg (by omega) (Ev.const ?_))
    unfold rem0
    rw [List.drop_of_length_le (by simp), hql]
    show some ((n : Int), S) = some ((n : Int), S ++ (⟨#[]⟩ : ByteArray))
    rw [show S ++ (⟨#[]⟩ : ByteArray) = S from ByteArray.append_empty]
  · intro S i hi hS ih
    refine Ev.step (fun k => spec_l3Pick.l0.eq_2 ..) (Ev.ite_pos (by omega) ?_)
    rw [wrap_nat i (by omega)]
    rw [show rem0 n i = rem1 n i (i + 1) ++ rem0 n (i + 1) by unfold rem0; rw [range_drop' n i hi, List.flatMap_cons], strP_append, ← ByteArray.append_assoc]
    refine Ev.loopS (fun (S : ByteArray) j k => spec_l3Pick.l1 k q i j n s (q.length : Int) S) n (fun S j => i < j ∧ S.size ≤ 1000 * i + 100 * j) (fun S j => ((n : Int), (S ++ strP n s q (rem1 n i j)) ++ strP n s q (rem0 n (i + 1)))) ?_ ?_ (i + 1) (by omega) S ⟨by omega, by omega⟩
    · intro S hS
      refine Ev.step (fun k => spec_l3Pick.l1.eq_2 ..) (Ev.ite_neg (by omega) ?_)
      rw [wrap_nat i (by omega)]
      have h := ih S (by omega)
      rw [show S ++ strP n s q (rem1 n i n) = S by unfold rem1; rw [List.drop_of_length_le (by simp)]; exact ByteArray.append_empty]
      exact h
    · intro S j hj hS ihj
      refine Ev.step (fun k => spec_l3Pick.l1.eq_2 ..) (Ev.ite_pos (by omega) ?_)
      rw [wrap_nat j (by omega)]
      rw [show rem1 n i j = rem2 n i j (j + 1) ++ rem1 n i (j + 1) by unfold rem1; rw [range_drop' n j hj, List.flatMap_cons], strP_append, ← ByteArray.append_assoc]
      have hij := hS.1
      · refine Ev.loopS (fun (S : ByteArray) m k => spec_l3Pick.l2 k q i j m n s (q.length : Int) S) n (fun S m => j < m ∧ S.size ≤ 1000 * i + 100 * j + m) (fun S m => ((n : Int), ((S ++ strP n s q (rem2 n i j m)) ++ strP n s q (rem1 n i (j + 1))) ++ strP n s q (rem0 n (i + 1)))) ?_ ?_ (j + 1) (by omega) S (by omega)
        · intro S hS
          refine Ev.step (fun k => spec_l3Pick.l2.eq_2 ..) (Ev.ite_neg (by omega) ?_)
          rw [wrap_nat j (by omega)]
          have h := ihj S ⟨by omega, by omega⟩
          rw [show S ++ strP n s q (rem2 n i j n) = S by unfold rem2; rw [List.drop_of_length_le (by simp)]; exact ByteArray.append_empty]
          exact h
        · intro S m hm hS ihm
          have ki := (hq.2.2 i hi).1
          have kj := (hq.2.2 j hj).1
          have km := (hq.2.2 m hm).1
          have n1 := perm_ne n q hq i j hi hj (by omega)
          have n2 := perm_ne n q hq j m hj hm (by omega)
          have n3 := perm_ne n q hq i m hi hm (by omega)
          refine Ev.step (fun k => spec_l3Pick.l2.eq_2 ..) (Ev.ite_pos (by omega) (Ev.ite_pos (by omega) (Ev.ite_pos (by omega) (Ev.ite_pos (by omega) (Ev.ite_pos (by omega) (Ev.ite_pos (by omega) ?_))))))
          rw [wrap_nat m (by omega)]
          have hb := byteS_size (sg n s (rd q (i : Int)) (rd q (j : Int)) (rd q (m : Int)))
          have h := ihm (S ++ byteS (sg n s (rd q (i : Int)) (rd q (j : Int)) (rd q (m : Int)))) (by rw [ByteArray.size_append, hb]; omega)
          rw [show rem2 n i j m = (⟨i, j, m⟩ : T3) :: rem2 n i j (m + 1) by unfold rem2; rw [range_drop' n m hm, List.map_cons], strP_cons, ← ByteArray.append_assoc]
          have hAt : Ev (fun k => spec_l3At.f k n s (rd q (i : Int)) (rd q (j : Int)) (rd q (m : Int))) (sg n s (rd q (i : Int)) (rd q (j : Int)) (rd q (m : Int))) := by
            obtain ⟨a, ha⟩ := Int.eq_ofNat_of_zero_le ki.1
            obtain ⟨b, hb⟩ := Int.eq_ofNat_of_zero_le kj.1
            obtain ⟨c, hc⟩ := Int.eq_ofNat_of_zero_le km.1
            rw [ha] at n1 n3 ki ⊢
            rw [hb] at n1 n2 kj ⊢
            rw [hc] at n2 n3 km ⊢
            exact l3At_ev n hn s hs a b c (by omega) (by omega) (by omega) (by omega) (by omega) (by omega)
          exact Ev.bind hAt (Ev.bind0 (l3Byte_eq _) (Ev.ite_pos (by rw [hb]; omega) h))
theorem AN_len (n : Nat) (hn : n ≤ 6) : (AN n).length ≤ 46656 := lev_len2 n hn n hn
theorem AN_P (n : Nat) (hn : n ≤ 6) (p : List Int) (h : p ∈ AN n) : isP n p := P_at n hn p h
theorem isS_nat {n : Int} {s : ByteArray} (h : isS n s = true) : ∃ m : Nat, n = m ∧ 3 ≤ m ∧ m ≤ 7 ∧ s.size = (tri m).length ∧ s.size ≤ 35 ∧ (List.range s.size).all (isPM s) = true := by
  obtain ⟨h3, h7, hs, h35⟩ := isS_bounds h
  obtain ⟨m, rfl⟩ := Int.eq_ofNat_of_zero_le (show 0 ≤ n by omega)
  rw [Int.toNat_natCast] at hs
  unfold isS at h
  rw [Bool.and_eq_true] at h
  exact ⟨m, rfl, by omega, by omega, hs, h35, h.2⟩
def texts (n : Nat) (s : ByteArray) : List ByteArray := (AN n).map fun p => pickT n s (inv p)
theorem renamed_yes (n : Nat) (hn : n ≤ 6) (s : ByteArray) (hs : s.size = (tri n).length) (hA : isS n s = true) : Ev (fun k => impl_renamed.f k n s) (texts n s, true) := by
  have hS := impl_AreSigns_ev n s
  rw [hA] at hS
  have hlen := AN_len n hn
  unfold impl_renamed.f
  refine Ev.bind hS (Ev.ite_pos rfl (Ev.step (fun k => impl_renamed.j0.eq_2 ..) (Ev.ite_neg (by simp; omega) (Ev.bind (tableOf_ev n (by omega) s hs) (Ev.bind (allNames_ev n hn) ?_)))))
  have key := Ev.loop (fun i k => impl_renamed.l0 k (tab n s) (((AN n).take i).map fun p => pickT n s (inv p)) (AN n) (AN n).length i) (AN n).length (texts n s, true) ?_ ?_ 0 (by omega)
  · simpa using key
  · refine Ev.step (fun k => impl_renamed.l0.eq_2 ..) (Ev.ite_neg (by omega) (Ev.const ?_))
    rw [List.take_length]
    rfl
  · intro i hi ih
    refine Ev.step (fun k => impl_renamed.l0.eq_2 ..) (Ev.ite_pos (by omega) (Ev.ite_pos (by omega) (Ev.ite_pos (by omega) ?_)))
    rw [rdL _ i hi, wrap_nat i (by omega)]
    rw [List.take_succ_eq_append_getElem hi, List.map_append] at ih
    exact Ev.bind (rename_ev n (by omega) s _ (AN_P n hn _ (List.getElem_mem hi))) (Ev.ite_pos (by simp; omega) ih)
theorem renamed_no (n : Int) (s : ByteArray) (h : isS n s = false ∨ n > 6) : Ev (fun k => impl_renamed.f k n s) ([], false) := by
  have hS := impl_AreSigns_ev n s
  unfold impl_renamed.f
  refine Ev.bind hS ?_
  cases hA : isS n s with
  | false => exact Ev.ite_neg (by simp) (Ev.step (fun k => impl_renamed.j0.eq_2 ..) (Ev.ite_pos rfl (Ev.now _)))
  | true =>
    have h6 : n > 6 := by
      rcases h with h | h
      · rw [hA] at h
        cases h
      · exact h
    exact Ev.ite_pos rfl (Ev.step (fun k => impl_renamed.j0.eq_2 ..) (Ev.ite_pos (by simpa using h6) (Ev.now _)))
theorem fits_ev (n : Int) (s : ByteArray) : Ev (fun k => spec_l19Fits.f k n s) (isS n s && decide (n ≤ 6)) := by
  have hS := spec_AreSigns_ev n s
  unfold spec_l19Fits.f
  refine Ev.bind hS ?_
  cases isS n s with
  | false => exact Ev.ite_neg (by simp) (Ev.now _)
  | true => exact Ev.ite_pos rfl (Ev.now _)
def oppT (s : ByteArray) : ByteArray := strOfNums (oppL s)
theorem opp_impl (s : ByteArray) (h : s.size ≤ 9223372036854775807) : impl_opposite.f s = some (oppT s) := by
  unfold impl_opposite.f oppT
  rw [if_pos h]
theorem oppL_take (s : ByteArray) (i : Nat) : (List.range (i + 1)).map (fun j : Nat => oppI (bt s (j : Int))) = (List.range i).map (fun j : Nat => oppI (bt s (j : Int))) ++ [oppI (bt s (i : Int))] := by
  rw [List.range_succ, List.map_append]
  rfl
theorem opp_spec (n : Nat) (s : ByteArray) (hA : isS n s = true) : Ev (fun k => spec_OppositeSigns.f k n s) ((n : Int), oppT s, true) := by
  have hS := spec_AreSigns_ev n s
  rw [hA] at hS
  obtain ⟨m, hm, h3, h7, hs, h35, hpm⟩ := isS_nat hA
  unfold spec_OppositeSigns.f
  refine Ev.bind hS (Ev.ite_pos rfl ?_)
  have key := Ev.loop (fun i k => spec_OppositeSigns.l0 k i n s n (strOfNums ((List.range i).map fun j : Nat => oppI (bt s (j : Int))))) s.size ((n : Int), oppT s, true) ?_ ?_ 0 (by omega)
  · exact key
  · exact Ev.step (fun k => spec_OppositeSigns.l0.eq_2 ..) (Ev.ite_neg (by omega) (Ev.now _))
  · intro i hi ih
    rw [oppL_take, strOfNums_append] at ih
    rw [List.all_eq_true] at hpm
    have hp := hpm i (by simpa using hi)
    unfold isPM at hp
    rw [Bool.or_eq_true, beq_iff_eq, beq_iff_eq] at hp
    have hsz : (strOfNums ((List.range i).map fun j : Nat => oppI (bt s (j : Int)))).size = i := by rw [strOfNums_size]; simp
    refine Ev.step (fun k => spec_OppositeSigns.l0.eq_2 ..) (Ev.ite_pos (by omega) (Ev.ite_pos (by omega) ?_))
    rw [wrap_nat i (by omega)]
    rcases hp with hp | hp
    · rw [hp] at ih ⊢
      exact Ev.bind0 (a := 0) rfl (Ev.bind0 (l3Byte_eq _) (Ev.ite_pos (by rw [hsz, byteS_size]; omega) ih))
    · rw [hp] at ih ⊢
      exact Ev.bind0 (a := 1) rfl (Ev.bind0 (l3Byte_eq _) (Ev.ite_pos (by rw [hsz, byteS_size]; omega) ih))
theorem bt_strOf (L : List Int) (j : Nat) (hj : j < L.length) (h : 0 ≤ L[j] ∧ L[j] < 256) : bt (strOfNums L) (j : Int) = L[j] := by
  unfold bt
  have hs : (strOfNums L).size = L.length := strOfNums_size L
  rw [dif_pos (by rw [Int.toNat_natCast, hs]; exact hj)]
  simp only [Int.toNat_natCast]
  have e : (strOfNums L)[j]'(by rw [hs]; exact hj) = UInt8.ofNat (L[j]).toNat := by
    show (strOfNums L).data[j]'_ = _
    simp [strOfNums]
  rw [e, UInt8.toNat_ofNat']
  omega
theorem src_lt : ∀ (ts : List T3) (m : Nat) (x y z : Int) (q : Nat) (b : Bool), src ts m x y z = some (q, b) → q < m + ts.length
  | [], m, x, y, z, q, b, h => by simp [src] at h
  | t :: ts, m, x, y, z, q, b, h => by
    rw [src] at h
    rw [List.length_cons]
    cases hs : src ts (m + 1) x y z with
    | some p =>
      rw [hs] at h
      obtain ⟨q', b'⟩ := p
      have := src_lt ts (m + 1) x y z q' b' hs
      simp at h
      omega
    | none =>
      rw [hs] at h
      cases hp : par t x y z with
      | none => rw [hp] at h; simp at h
      | some c =>
        rw [hp] at h
        simp at h
        omega
theorem sgAt_opp (s : ByteArray) (h : (List.range s.size).all (isPM s) = true) (m : Nat) (hm : m < s.size) : sgAt (oppT s) m = -sgAt s m := by
  have hl : (oppL s).length = s.size := by simp [oppL]
  have e0 : (oppL s)[m]'(by omega) = oppI (bt s (m : Int)) := by simp [oppL]
  rw [List.all_eq_true] at h
  have hp := h m (by simpa using hm)
  unfold isPM at hp
  rw [Bool.or_eq_true, beq_iff_eq, beq_iff_eq] at hp
  have e : bt (oppT s) (m : Int) = oppI (bt s (m : Int)) := by
    unfold oppT
    rw [bt_strOf _ _ (by omega) (by rw [e0]; rcases hp with hp | hp <;> rw [hp] <;> decide), e0]
  unfold sgAt
  rw [e]
  rcases hp with hp | hp <;> rw [hp] <;> decide
theorem sgAt_pm (s : ByteArray) (m : Nat) : sgAt s m = 1 ∨ sgAt s m = -1 := by
  unfold sgAt
  split
  · exact .inr rfl
  · exact .inl rfl
theorem sg_opp (n : Nat) (s : ByteArray) (hs : s.size = (tri n).length) (h : (List.range s.size).all (isPM s) = true) (x y z : Int) : sg n (oppT s) x y z = -sg n s x y z := by
  unfold sg
  cases hr : src (tri n) 0 x y z with
  | none => rfl
  | some p =>
    obtain ⟨q, b⟩ := p
    have hq := src_lt _ _ _ _ _ _ _ hr
    have e := sgAt_opp s h q (by omega)
    cases b with
    | true => exact e
    | false =>
      show wrap64 (-sgAt (oppT s) q) = -wrap64 (-sgAt s q)
      rw [e]
      rcases sgAt_pm s q with h | h <;> rw [h] <;> decide +kernel
theorem oppL_str (L : List Int) (h : ∀ x ∈ L, 0 ≤ x ∧ x < 256) : oppL (strOfNums L) = L.map oppI := by
  unfold oppL
  rw [strOfNums_size]
  apply List.ext_getElem
  · simp
  · intro i h1 h2
    have hi : i < L.length := by simpa using h2
    simp only [List.getElem_map, List.getElem_range]
    rw [bt_strOf L i hi (h _ (List.getElem_mem hi))]
theorem pick_opp (n : Nat) (hn : n ≤ 7) (s : ByteArray) (hs : s.size = (tri n).length) (h : (List.range s.size).all (isPM s) = true) (q : List Int) (hq : isP n q) : pickT n (oppT s) q = oppT (pickT n s q) := by
  unfold oppT
  rw [show pickT n s q = strOfNums (pickC n s q) from rfl, oppL_str _ (fun x hx => by
    unfold pickC at hx
    obtain ⟨t, _, rfl⟩ := List.mem_map.1 hx
    unfold pm
    split <;> decide)]
  show strOfNums (pickC n (oppT s) q) = _
  congr 1
  unfold pickC
  rw [List.map_map]
  apply List.map_congr_left
  intro t ht
  obtain ⟨a, b, c, rfl, hab, hbc, hcn⟩ := tri_mem n hn t ht
  show pm (sg n (oppT s) _ _ _) = oppI (pm (sg n s _ _ _))
  rw [sg_opp n s hs h]
  obtain ⟨_, _, hp⟩ := hq
  obtain ⟨⟨a0, a1, _, _⟩, _⟩ := hp a (by omega)
  obtain ⟨⟨b0, b1, _, _⟩, _⟩ := hp b (by omega)
  obtain ⟨⟨c0, c1, _, _⟩, _⟩ := hp c (by omega)
  have n1 := perm_ne n q ⟨‹_›, ‹_›, hp⟩ a b (by omega) (by omega) (by omega)
  have n2 := perm_ne n q ⟨‹_›, ‹_›, hp⟩ b c (by omega) (by omega) (by omega)
  have n3 := perm_ne n q ⟨‹_›, ‹_›, hp⟩ a c (by omega) (by omega) (by omega)
  dsimp only
  obtain ⟨a', ea⟩ := Int.eq_ofNat_of_zero_le a0
  obtain ⟨b', eb⟩ := Int.eq_ofNat_of_zero_le b0
  obtain ⟨c', ec⟩ := Int.eq_ofNat_of_zero_le c0
  rw [ea, eb] at n1
  rw [eb, ec] at n2
  rw [ea, ec] at n3
  rw [ea, eb, ec]
  rcases sg_pm n hn s a' b' c' (by omega) (by omega) (by omega) (by omega) (by omega) (by omega) with h | h <;> rw [h] <;> decide
theorem toS_list (s : ByteArray) : s.toList = toS s := Lib.toList_data s
theorem toS_inj {a b : ByteArray} (h : toS a = toS b) : a = b := by
  have := congrArg ofS h
  rwa [ofS_toS, ofS_toS] at this
theorem less_toS (a b : ByteArray) : Op.bytesLess a.toList b.toList = decide (toS a < toS b) := by
  rw [bytesLess_eq, toS_list, toS_list]
def putB : List ByteArray → ByteArray → List ByteArray
  | [], x => [x]
  | y :: r, x => if toS y < toS x then y :: putB r x else if toS y = toS x then y :: r else x :: y :: r
theorem putB_len : ∀ (S : List ByteArray) (x : ByteArray), (putB S x).length ≤ S.length + 1
  | [], x => by simp [putB]
  | y :: r, x => by
    unfold putB
    have := putB_len r x
    split
    · simp only [List.length_cons]; omega
    · split <;> simp only [List.length_cons] <;> omega
theorem putB_mem : ∀ (S : List ByteArray) (x z : ByteArray), z ∈ putB S x ↔ z = x ∨ z ∈ S
  | [], x, z => by simp [putB]
  | y :: r, x, z => by
    unfold putB
    split
    · rw [List.mem_cons, putB_mem r x z, List.mem_cons]
      constructor
      · rintro (h | h | h) <;> simp [h]
      · rintro (h | h | h) <;> simp [h]
    · split
      · rename_i _ h2
        have e := toS_inj h2
        subst e
        simp
      · simp
def ascB (S : List ByteArray) : Prop := S.Pairwise fun a b => toS a < toS b
theorem putB_asc : ∀ (S : List ByteArray) (x : ByteArray), ascB S → ascB (putB S x)
  | [], x, h => by simp [putB, ascB]
  | y :: r, x, h => by
    obtain ⟨h1, h2⟩ := List.pairwise_cons.1 h
    unfold putB
    split
    · rename_i hlt
      refine List.pairwise_cons.2 ⟨fun z hz => ?_, putB_asc r x h2⟩
      rcases (putB_mem r x z).1 hz with rfl | hz
      · exact hlt
      · exact h1 z hz
    · rename_i hlt
      split
      · exact h
      · rename_i hne
        have hx : toS x < toS y := by
          rcases Decidable.em (toS x < toS y) with h | h
          · exact h
          · exact absurd (List.le_antisymm (List.not_lt.1 h) (List.not_lt.1 hlt)) hne
        refine List.pairwise_cons.2 ⟨fun z hz => ?_, h⟩
        rcases List.mem_cons.1 hz with rfl | hz
        · exact hx
        · exact List.lt_trans hx (h1 z hz)
theorem rdB (S : List ByteArray) (i : Nat) (h : i < S.length) : rdOf ByteArray.empty S (i : Int) = S[i] := by
  unfold rdOf
  rw [Int.toNat_natCast, getD_lt _ _ _ h]
theorem l19Put_from (S : List ByteArray) (x : ByteArray) (hS : S.length ≤ 1000000) : ∀ d i, i + d = S.length → Ev (fun k => spec_l19Put.l0 k S x (i : Nat)) (S.take i ++ putB (S.drop i) x)
  | 0, i, hi => by
    refine Ev.step (fun k => spec_l19Put.l0.eq_2 ..) (Ev.ite_neg (by omega) (Ev.bind0 rfl (Ev.ite_pos (by omega) (Ev.ite_pos (by omega) (Ev.bind0 rfl (Ev.ite_pos (by simp; omega) (Ev.bind0 rfl ?_)))))))
    refine Ev.bind0 rfl (Ev.ite_pos (by simp; omega) (Ev.bind0 rfl (Ev.ite_pos (by simp; omega) (Ev.const ?_))))
    rw [Int.toNat_natCast, List.drop_of_length_le (by omega)]
    simp [putB]
  | d + 1, i, hi => by
    have hil : i < S.length := by omega
    refine Ev.step (fun k => spec_l19Put.l0.eq_2 ..) (Ev.ite_pos (by omega) (Ev.ite_pos (by omega) ?_))
    rw [rdB S i hil, less_toS, toS_list, toS_list, List.drop_eq_getElem_cons hil, putB]
    by_cases h1 : toS S[i] < toS x
    · rw [if_pos h1]
      refine Ev.ite_pos (decide_eq_true h1) ?_
      rw [wrap_nat i (by omega)]
      have h := l19Put_from S x hS d (i + 1) (by omega)
      rw [List.take_succ_eq_append_getElem hil, List.append_assoc] at h
      exact h
    · rw [if_neg h1]
      refine Ev.ite_neg (by simpa using h1) ?_
      by_cases h2 : toS S[i] = toS x
      · rw [if_pos h2, if_pos h2]
        refine Ev.const ?_
        rw [← List.drop_eq_getElem_cons hil, List.take_append_drop]
      · rw [if_neg h2, if_neg h2]
        refine (Ev.bind0 rfl (Ev.ite_pos (by omega) (Ev.bind0 rfl (Ev.ite_pos (by simp; omega) (Ev.bind0 rfl ?_)))))
        refine Ev.bind0 rfl (Ev.ite_pos (by simp; omega) (Ev.bind0 rfl (Ev.ite_pos (by simp; omega) (Ev.const ?_))))
        rw [Int.toNat_natCast, ← List.drop_eq_getElem_cons hil]
        simp
theorem l19Put_ev (S : List ByteArray) (x : ByteArray) (hS : S.length ≤ 1000000) : Ev (fun k => spec_l19Put.f k S x) (putB S x) := l19Put_from S x hS S.length 0 (by omega)
theorem sortS_toS (l : List ByteArray) : (sortS l).map toS = (l.map toS).mergeSort fun x y => decide (x ≤ y) := by
  unfold sortS
  rw [List.map_map]
  exact List.map_id _
theorem sorted_le (l : List (List UInt8)) : (l.mergeSort fun x y => decide (x ≤ y)).Pairwise (· ≤ ·) := by
  have := List.pairwise_mergeSort (le := fun x y : List UInt8 => decide (x ≤ y)) (fun a b c h1 h2 => by simp at *; exact List.le_trans h1 h2) (fun a b => by simp; exact List.le_total a b) l
  exact this.imp (fun h => of_decide_eq_true h)
theorem asc_unique {A B : List ByteArray} (hA : ascB A) (hB : ascB B) (h : ∀ z, z ∈ A ↔ z ∈ B) : A = B := by
  have nA : A.Nodup := by
    refine hA.imp ?_
    intro a b hlt e
    subst e
    exact List.lt_irrefl _ hlt
  have nB : B.Nodup := by
    refine hB.imp ?_
    intro a b hlt e
    subst e
    exact List.lt_irrefl _ hlt
  have hp : A.Perm B := (List.perm_ext_iff_of_nodup nA nB).2 h
  exact List.Perm.eq_of_pairwise (le := fun a b => toS a < toS b) (fun a b _ _ h1 h2 => absurd h2 (List.lt_asymm h1)) hA hB hp
theorem compact_spec (zs : List (List UInt8)) (hz : zs.Pairwise (· ≤ ·)) : ∀ m, m ≤ zs.length → (∀ z, z ∈ Lib.compactUpTo zs.toArray m ↔ z ∈ zs.take m) ∧ (Lib.compactUpTo zs.toArray m).Pairwise (· < ·) ∧ (∀ z ∈ Lib.compactUpTo zs.toArray m, ∀ h : 0 < m, z ≤ zs[m - 1]!)
  | 0, _ => ⟨fun z => by simp [Lib.compactUpTo], by simp [Lib.compactUpTo], fun z hz h => absurd h (Nat.lt_irrefl _)⟩
  | m + 1, hm => by
    obtain ⟨h1, h2, h3⟩ := compact_spec zs hz m (by omega)
    have hml : m < zs.length := by omega
    have e0 : zs.toArray[m]! = zs[m] := by rw [getElem!_pos _ _ (by simpa using hml)]; simp
    rw [Lib.compactUpTo_succ, List.take_succ_eq_append_getElem hml, Nat.add_sub_cancel, getElem!_pos zs m hml]
    have hprev : ∀ h : 0 < m, zs[m - 1]! ≤ zs[m] := fun h => by
      rw [getElem!_pos zs (m - 1) (by omega)]
      exact List.pairwise_iff_getElem.1 hz (m - 1) m (by omega) hml (by omega)
    by_cases hk : m = 0 ∨ zs.toArray[m]! ≠ zs.toArray[m - 1]!
    · have hkt : Lib.keeps zs.toArray m = true := decide_eq_true hk
      rw [if_pos hkt, e0]
      refine ⟨fun z => by rw [List.mem_append, List.mem_append, h1 z], ?_, ?_⟩
      · rw [List.pairwise_append]
        refine ⟨h2, List.pairwise_singleton _ _, fun a ha b hb => ?_⟩
        rw [List.mem_singleton.1 hb]
        rcases hk with hk | hk
        · subst hk
          simp [Lib.compactUpTo] at ha
        · have hm0 : 0 < m := by
            rcases Nat.eq_zero_or_pos m with h | h
            · subst h; exact absurd rfl hk
            · exact h
          have e1 : zs.toArray[m - 1]! = zs[m - 1]! := by simp
          rw [e0, e1] at hk
          have ha2 := h3 a ha hm0
          rcases Decidable.em (a < zs[m]) with h | h
          · exact h
          · have h4 := List.not_lt.1 h
            exact absurd (List.le_antisymm (List.le_trans h4 ha2) (hprev hm0)) hk
      · intro z hz2 _
        rcases List.mem_append.1 hz2 with h | h
        · rcases Nat.eq_zero_or_pos m with h0 | h0
          · subst h0
            simp [Lib.compactUpTo] at h
          · exact List.le_trans (h3 z h h0) (hprev h0)
        · rw [List.mem_singleton.1 h]
          exact List.le_refl _
    · have hkf : Lib.keeps zs.toArray m = false := decide_eq_false hk
      have hm0 : 0 < m := Nat.pos_of_ne_zero fun h => hk (.inl h)
      have he : zs.toArray[m]! = zs.toArray[m - 1]! := Decidable.not_not.1 fun h => hk (.inr h)
      have e1 : zs.toArray[m - 1]! = zs[m - 1]! := by simp
      rw [e0, e1] at he
      rw [if_neg (by rw [hkf]; simp), List.append_nil]
      refine ⟨fun z => ?_, h2, fun z hz2 _ => List.le_trans (h3 z hz2 hm0) (hprev hm0)⟩
      rw [List.mem_append, h1 z, List.mem_singleton]
      constructor
      · exact .inl
      · rintro (h | h)
        · exact h
        · rw [h, he, getElem!_pos zs (m - 1) (by omega)]
          exact List.mem_iff_getElem.2 ⟨m - 1, by rw [List.length_take]; omega, by rw [List.getElem_take]⟩
theorem compS_spec (l : List ByteArray) : ((compS (sortS l)).map toS).Pairwise (· < ·) ∧ ∀ z, z ∈ compS (sortS l) ↔ z ∈ l := by
  have e : (compS (sortS l)).map toS = Lib.compact ((l.map toS).mergeSort fun x y => decide (x ≤ y)) := by
    unfold compS
    rw [List.map_map, sortS_toS]
    exact List.map_id _
  obtain ⟨h1, h2, _⟩ := compact_spec _ (sorted_le (l.map toS)) _ (Nat.le_refl _)
  refine ⟨by rw [e]; exact h2, fun z => ?_⟩
  have hz : z ∈ compS (sortS l) ↔ toS z ∈ (compS (sortS l)).map toS := by
    rw [List.mem_map]
    constructor
    · intro h; exact ⟨z, h, rfl⟩
    · rintro ⟨y, hy, e⟩
      rw [← toS_inj e]
      exact hy
  rw [hz, e]
  have h3 := h1 (toS z)
  rw [List.take_length, List.mem_mergeSort] at h3
  refine h3.trans ?_
  rw [List.mem_map]
  constructor
  · rintro ⟨y, hy, e⟩
    rw [← toS_inj e]
    exact hy
  · intro h; exact ⟨z, h, rfl⟩
theorem compS_asc (l : List ByteArray) : ascB (compS (sortS l)) := List.pairwise_map.1 (compS_spec l).1
theorem mnT_eq (x y : ByteArray) : mnT x y = if toS y < toS x then y else x := by
  unfold mnT
  rw [less_toS, toS_list, toS_list]
  by_cases h : toS y < toS x
  · rw [if_pos h, if_neg]
    rw [Bool.or_eq_true, decide_eq_true_eq, beq_iff_eq]
    rintro (h2 | h2)
    · exact List.lt_asymm h h2
    · rw [h2] at h
      exact List.lt_irrefl _ h
  · rw [if_neg h, if_pos]
    rw [Bool.or_eq_true, decide_eq_true_eq, beq_iff_eq]
    rcases Decidable.em (toS x < toS y) with h2 | h2
    · exact .inl h2
    · exact .inr (List.le_antisymm (List.not_lt.1 h) (List.not_lt.1 h2))
def minL : ByteArray → List ByteArray → ByteArray
  | b, [] => b
  | b, x :: r => minL (mnT b x) r
theorem mnT_or (x y : ByteArray) : mnT x y = x ∨ mnT x y = y := by
  rw [mnT_eq]
  split
  · exact .inr rfl
  · exact .inl rfl
theorem mnT_le (x y : ByteArray) : toS (mnT x y) ≤ toS x ∧ toS (mnT x y) ≤ toS y := by
  rw [mnT_eq]
  by_cases h : toS y < toS x
  · rw [if_pos h]
    exact ⟨List.le_of_lt h, List.le_refl _⟩
  · rw [if_neg h]
    exact ⟨List.le_refl _, List.not_lt.1 h⟩
theorem minL_spec : ∀ (l : List ByteArray) (b : ByteArray), minL b l ∈ b :: l ∧ ∀ z ∈ b :: l, toS (minL b l) ≤ toS z
  | [], b => ⟨List.mem_cons_self, fun z hz => by simp at hz; subst hz; exact List.le_refl _⟩
  | x :: r, b => by
    obtain ⟨h1, h2⟩ := minL_spec r (mnT b x)
    obtain ⟨l1, l2⟩ := mnT_le b x
    have h3 := h2 _ List.mem_cons_self
    refine ⟨?_, fun z hz => ?_⟩
    · rw [minL]
      rcases List.mem_cons.1 h1 with h | h
      · rw [h]
        rcases mnT_or b x with e | e <;> rw [e] <;> simp
      · exact List.mem_cons_of_mem _ (List.mem_cons_of_mem _ h)
    · rw [minL]
      rcases List.mem_cons.1 hz with rfl | hz
      · exact List.le_trans h3 l1
      · rcases List.mem_cons.1 hz with rfl | hz
        · exact List.le_trans h3 l2
        · exact h2 z (List.mem_cons_of_mem _ hz)
theorem minL_unique (b c : ByteArray) (l m : List ByteArray) (h : ∀ z, z ∈ b :: l ↔ z ∈ c :: m) : minL b l = minL c m := by
  obtain ⟨h1, h2⟩ := minL_spec l b
  obtain ⟨k1, k2⟩ := minL_spec m c
  exact toS_inj (List.le_antisymm (h2 _ ((h _).2 k1)) (k2 _ ((h _).1 h1)))
def idL (n : Nat) : List Int := (List.range n).map fun i : Nat => (i : Int)
theorem id_all : (List.range 7).all (fun n => (AN n).contains (idL n)) = true := by decide +kernel
theorem id_mem (n : Nat) (hn : n ≤ 6) : idL n ∈ AN n := by
  have h := id_all
  rw [List.all_eq_true] at h
  have h := h n (by simp; omega)
  simpa using h
theorem rd_idL (n a : Nat) (ha : a < n) : rd (idL n) (a : Int) = a := by
  unfold rd idL
  rw [Int.toNat_natCast, getD_lt _ _ _ (by simpa using ha)]
  simp
theorem bt_get (s : ByteArray) (m : Nat) (hm : m < s.size) : bt s (m : Int) = ((s.data.toList[m]'hm).toNat : Int) := by
  unfold bt
  rw [dif_pos (by simpa using hm)]
  rfl
theorem pick_id (n : Nat) (hn : n ≤ 6) (s : ByteArray) (hs : s.size = (tri n).length) (h : (List.range s.size).all (isPM s) = true) : pickT n s (idL n) = s := by
  have hL : pickC n s (idL n) = (List.range s.size).map fun m : Nat => bt s (m : Int) := by
    apply List.ext_getElem
    · simp [pickC, hs]
    · intro m h1 h2
      have hm : m < (tri n).length := by simpa [pickC] using h1
      simp only [pickC, List.getElem_map, List.getElem_range]
      obtain ⟨a, b, c, e, hab, hbc, hcn⟩ := tri_mem n (by omega) _ (List.getElem_mem hm)
      have ht := tab_tri n (by omega) s m hm
      rw [e] at ht ⊢
      dsimp only at ht ⊢
      rw [rd_idL n a (by omega), rd_idL n b (by omega), rd_idL n c (by omega), ← tab_at n (by omega) s a b c (by omega) (by omega) (by omega), ht]
      rw [List.all_eq_true] at h
      have hp := h m (by simpa using (by omega : m < s.size))
      unfold isPM at hp
      rw [Bool.or_eq_true, beq_iff_eq, beq_iff_eq] at hp
      unfold sgAt
      rcases hp with hp | hp <;> rw [hp] <;> decide
  unfold pickT
  rw [hL]
  apply toS_inj
  unfold toS strOfNums
  rw [List.map_map]
  show List.map _ _ = _
  apply List.ext_getElem
  · rw [List.length_map, List.length_range]
    rfl
  · intro m h1 h2
    have hm : m < s.size := by simpa using h1
    simp only [List.getElem_map, List.getElem_range, Function.comp]
    rw [bt_get s m hm, Int.toNat_natCast]
    exact UInt8.ofNat_toNat
theorem spec_least (n : Nat) (hn : n ≤ 6) (s t : ByteArray) (hs : s.size = (tri n).length) (ht : t.size = (tri n).length) : ∀ d i, i + d = (AN n).length → ∀ b : ByteArray,
    Ev (fun k => spec_LeastSigns.l0 k (AN n) (i : Nat) n s n t n b) ((n : Int), minL b (((AN n).drop i).flatMap fun q => [pickT n s q, pickT n t q]), true)
  | 0, i, hi, b => by
    rw [List.drop_of_length_le (by omega)]
    exact Ev.step (fun k => spec_LeastSigns.l0.eq_2 ..) (Ev.ite_neg (by omega) (Ev.now _))
  | d + 1, i, hi, b => by
    have hl := AN_len n hn
    have hil : i < (AN n).length := by omega
    have hp := AN_P n hn _ (List.getElem_mem hil)
    have ih := spec_least n hn s t hs ht d (i + 1) (by omega) (mnT (mnT b (pickT n s (AN n)[i])) (pickT n t (AN n)[i]))
    have hj : ∀ c : ByteArray, mnT b (pickT n s (AN n)[i]) = c → Ev (fun k => spec_LeastSigns.j1 k (AN n) (i : Nat) n s n t n c n (pickT n t (AN n)[i])) ((n : Int), minL b (((AN n).drop i).flatMap fun q => [pickT n s q, pickT n t q]), true) := fun c hc => by
      rw [hc] at ih
      rw [List.drop_eq_getElem_cons hil, List.flatMap_cons]
      show Ev _ ((n : Int), minL (mnT (mnT b (pickT n s (AN n)[i])) (pickT n t (AN n)[i])) _, true)
      rw [hc]
      refine Ev.step (fun k => spec_LeastSigns.j1.eq_2 ..) ?_
      rw [wrap_nat i (by omega), less_toS]
      by_cases h : toS (pickT n t (AN n)[i]) < toS c
      · have e : mnT c (pickT n t (AN n)[i]) = pickT n t (AN n)[i] := by rw [mnT_eq, if_pos h]
        rw [e] at ih ⊢
        exact Ev.ite_pos (decide_eq_true h) ih
      · have e : mnT c (pickT n t (AN n)[i]) = c := by rw [mnT_eq, if_neg h]
        rw [e] at ih ⊢
        exact Ev.ite_neg (by simpa using h) ih
    refine Ev.step (fun k => spec_LeastSigns.l0.eq_2 ..) (Ev.ite_pos (by omega) (Ev.ite_pos (by omega) ?_))
    rw [rdL _ i hil]
    refine Ev.bind (pick_ev n (by omega) s hs _ hp) (Ev.bind (pick_ev n (by omega) t ht _ hp) ?_)
    dsimp only
    rw [less_toS]
    by_cases h : toS (pickT n s (AN n)[i]) < toS b
    · exact Ev.ite_pos (decide_eq_true h) (hj _ (by rw [mnT_eq, if_pos h]))
    · exact Ev.ite_neg (by simpa using h) (hj _ (by rw [mnT_eq, if_neg h]))
theorem impl_least (L : List ByteArray) (hL : L.length ≤ 100000) (hz : ∀ x ∈ L, x.size ≤ 9223372036854775807) (n : Int) (s : ByteArray) : ∀ d i, i + d = L.length → ∀ b : ByteArray,
    Ev (fun k => impl_LeastSigns.l0 k b L (L.length : Int) (i : Nat) n s) (n, minL b ((L.drop i).flatMap fun x => [x, oppT x]), true)
  | 0, i, hi, b => by
    rw [List.drop_of_length_le (by omega)]
    exact Ev.step (fun k => impl_LeastSigns.l0.eq_2 ..) (Ev.ite_neg (by omega) (Ev.now _))
  | d + 1, i, hi, b => by
    have hil : i < L.length := by omega
    rw [List.drop_eq_getElem_cons hil, List.flatMap_cons]
    refine Ev.step (fun k => impl_LeastSigns.l0.eq_2 ..) (Ev.ite_pos (by omega) (Ev.ite_pos (by omega) (Ev.ite_pos (by omega) ?_)))
    rw [rdB L i hil, wrap_nat i (by omega)]
    exact Ev.bind0 (opp_impl _ (hz _ (List.getElem_mem hil))) (impl_least L hL hz n s d (i + 1) (by omega) _)
theorem oppT_sizeL (s : ByteArray) : (oppT s).size = s.size := by
  unfold oppT
  rw [strOfNums_size]
  simp [oppL]
theorem least_both (n : Int) (s : ByteArray) (hz : s.size ≤ 9223372036854775807) : ∃ v : Int × ByteArray × Bool, Ev (fun k => spec_LeastSigns.f k n s) v ∧ Ev (fun k => impl_LeastSigns.f k n s) v := by
  unfold spec_LeastSigns.f impl_LeastSigns.f
  have hF := fits_ev n s
  by_cases hA : isS n s = true ∧ n ≤ 6
  · obtain ⟨m, rfl, h3, h7, hs, h35, hpm⟩ := isS_nat hA.1
    have hn : m ≤ 6 := by omega
    rw [hA.1, decide_eq_true hA.2] at hF
    have hl := AN_len m hn
    have hlt : (texts m s).length = (AN m).length := by unfold texts; rw [List.length_map]
    have hpos : 0 < (AN m).length := List.length_pos_of_mem (id_mem m hn)
    have h1 := spec_least m hn s (oppT s) hs (by rw [oppT_sizeL]; exact hs) (AN m).length 0 (by omega) s
    have hsz : ∀ x ∈ texts m s, x.size ≤ 9223372036854775807 := fun x hx => by
      obtain ⟨p, _, rfl⟩ := List.mem_map.1 hx
      show (strOfNums (pickC m s (inv p))).size ≤ _
      rw [strOfNums_size, pickC, List.length_map]
      omega
    have h2 := impl_least (texts m s) (by omega) hsz m s (texts m s).length 0 (by omega) (rdOf ByteArray.empty (texts m s) 0)
    have e0 : rdOf ByteArray.empty (texts m s) 0 ∈ texts m s := by
      have := rdB (texts m s) 0 (by omega)
      rw [show ((0 : Nat) : Int) = 0 from rfl] at this
      rw [this]
      exact List.getElem_mem _
    have e : minL s ((AN m).flatMap fun q => [pickT m s q, pickT m (oppT s) q]) = minL (rdOf ByteArray.empty (texts m s) 0) ((texts m s).flatMap fun x => [x, oppT x]) := by
      refine minL_unique _ _ _ _ (fun z => ?_)
      have hL : z ∈ s :: ((AN m).flatMap fun q => [pickT m s q, pickT m (oppT s) q]) ↔ ∃ q ∈ AN m, z = pickT m s q ∨ z = pickT m (oppT s) q := by
        rw [List.mem_cons, List.mem_flatMap]
        constructor
        · rintro (h | ⟨q, hq, h⟩)
          · exact ⟨idL m, id_mem m hn, .inl (by rw [pick_id m hn s hs hpm]; exact h)⟩
          · exact ⟨q, hq, by simpa using h⟩
        · rintro ⟨q, hq, h⟩
          exact .inr ⟨q, hq, by simpa using h⟩
      have hR : z ∈ rdOf ByteArray.empty (texts m s) 0 :: ((texts m s).flatMap fun x => [x, oppT x]) ↔ ∃ x ∈ texts m s, z = x ∨ z = oppT x := by
        rw [List.mem_cons, List.mem_flatMap]
        constructor
        · rintro (h | ⟨q, hq, h⟩)
          · exact ⟨_, e0, .inl h⟩
          · exact ⟨q, hq, by simpa using h⟩
        · rintro ⟨q, hq, h⟩
          exact .inr ⟨q, hq, by simpa using h⟩
      rw [hL, hR]
      constructor
      · rintro ⟨q, hq, h⟩
        obtain ⟨p, hp, e⟩ := List.mem_map.1 ((inv_all m hn).mem_iff.2 hq)
        refine ⟨pickT m s q, List.mem_map.2 ⟨p, hp, by rw [e]⟩, ?_⟩
        rw [pick_opp m (by omega) s hs hpm q (AN_P m hn q hq)] at h
        exact h
      · rintro ⟨x, hx, h⟩
        obtain ⟨p, hp, rfl⟩ := List.mem_map.1 hx
        refine ⟨inv p, inv_mem m hn p hp, ?_⟩
        rw [pick_opp m (by omega) s hs hpm _ (AN_P m hn _ (inv_mem m hn p hp))]
        exact h
    rw [List.drop_zero, e] at h1
    rw [List.drop_zero] at h2
    exact ⟨_, Ev.bind hF (Ev.ite_pos rfl (Ev.bind (opp_spec m s hA.1) (Ev.bind (orders_ev m hn) h1))), Ev.bind (renamed_yes m hn s hs hA.1) (Ev.ite_pos rfl (Ev.ite_pos (by dsimp only; omega) h2))⟩
  · have hb : (isS n s && decide (n ≤ 6)) = false := by
      cases h1 : isS n s with
      | false => rfl
      | true => rw [Bool.true_and, decide_eq_false_iff_not]; exact fun h => hA ⟨h1, h⟩
    rw [hb] at hF
    exact ⟨(0, (⟨#[]⟩ : ByteArray), false), Ev.bind hF (Ev.ite_neg (by simp) (Ev.now _)), Ev.bind (renamed_no n s (by cases h1 : isS n s with | false => exact .inl rfl | true => exact .inr (Int.not_le.mp fun h => hA ⟨h1, h⟩))) (Ev.ite_neg (by simp) (Ev.now _))⟩
end Go.Proofs.Ytoajlmlobaccdaa.Pure
namespace Go.Proofs.Ytoajlmlobaccdaa.Pure
set_option linter.unusedSimpArgs false
set_option linter.unusedVariables false
set_option maxRecDepth 100000
open Go.RowKit Go.Proofs.YtoajlmlobaccdaaW.PrintWords Go.Proofs.Ytoajlmlobaccdaa.P Go.Proofs.Ytoajlmlobaccdaa.Pl
def comp (q p : List Int) : List Int := p.map fun a => rd q a
theorem rd_comp (q p : List Int) (i : Nat) (h : i < p.length) : rd (comp q p) (i : Int) = rd q (rd p (i : Int)) := by
  unfold comp
  have e : ∀ l : List Int, ∀ (h : i < l.length), rd l (i : Int) = l[i] := fun l h => by
    unfold rd
    rw [Int.toNat_natCast, getD_lt _ _ _ h]
  rw [e _ (by rw [List.length_map]; exact h), e p h]
  simp
theorem rdIdx (l : List Int) (i : Nat) (h : i < l.length) : rd l (i : Int) = l[i] := by
  unfold rd
  rw [Int.toNat_natCast, getD_lt _ _ _ h]
theorem lev_of (n : Nat) : ∀ (k : Nat) (l : List Int), l.length = k → (∀ x ∈ l, 0 ≤ x ∧ x < (n : Int)) → l.Nodup → l ∈ lev n k
  | 0, l, hl, _, _ => by
    obtain rfl := List.eq_nil_of_length_eq_zero hl
    exact List.mem_singleton.2 rfl
  | k + 1, l, hl, hr, hn => by
    have hne : l ≠ [] := fun e => by rw [e] at hl; cases hl
    have e := (List.dropLast_concat_getLast hne).symm
    obtain ⟨l', hl'⟩ : ∃ l', l' = l.dropLast := ⟨_, rfl⟩
    obtain ⟨x, hx⟩ : ∃ x, x = l.getLast hne := ⟨_, rfl⟩
    rw [← hl', ← hx] at e
    subst e
    have hlen : l'.length = k := by rw [List.length_append, List.length_singleton] at hl; omega
    obtain ⟨n1, n2, n3⟩ := List.nodup_append.1 hn
    have ih := lev_of n k l' hlen (fun y hy => hr y (List.mem_append_left _ hy)) n1
    have hx2 := hr x (List.mem_append_right _ List.mem_cons_self)
    rw [lev, List.mem_flatMap]
    refine ⟨l', ih, ?_⟩
    unfold nxt
    refine List.mem_map.2 ⟨x.toNat, List.mem_filter.2 ⟨List.mem_range.2 (by omega), ?_⟩, by rw [Int.toNat_of_nonneg hx2.1]⟩
    rw [Int.toNat_of_nonneg hx2.1, Bool.not_eq_true']
    unfold inL
    rw [List.any_eq_false]
    intro j hj
    have hj : j < l'.length := by simpa using hj
    rw [rdIdx l' j hj, beq_iff_eq]
    intro e2
    exact n3 _ (List.getElem_mem hj) x List.mem_cons_self e2.symm
theorem comp_mem (n : Nat) (h3 : 3 ≤ n) (h5 : n ≤ 5) (q p : List Int) (hq : q ∈ AN n) (hp : p ∈ AN n) : comp q p ∈ AN n := by
  have hP := AN_P n (by omega) p hp
  have hQ := AN_P n (by omega) q hq
  have hl : p.length = n := hP.1
  have el : (comp q p).length = n := by unfold comp; rw [List.length_map, hl]
  have at_ : ∀ i (hi : i < n), ∃ a : Nat, rd p (i : Int) = a ∧ a < n ∧ (comp q p)[i]'(by omega) = rd q (a : Int) := fun i hi => by
    have h1 := (hP.2.2 i hi).1
    obtain ⟨a, ha⟩ := Int.eq_ofNat_of_zero_le h1.1
    refine ⟨a, ha, by omega, ?_⟩
    rw [← rdIdx (comp q p) i (by omega), rd_comp q p i (by omega), ha]
  refine lev_of n n (comp q p) el (fun x hx => ?_) (List.pairwise_iff_getElem.2 (fun i j hi hj hij e => ?_))
  · obtain ⟨i, hi, rfl⟩ := List.mem_iff_getElem.1 hx
    obtain ⟨a, _, ha, e⟩ := at_ i (by omega)
    rw [e]
    have := (hQ.2.2 a ha).1
    exact ⟨this.1, this.2.1⟩
  · obtain ⟨a, ha, ha2, ea⟩ := at_ i (by omega)
    obtain ⟨b, hb, hb2, eb⟩ := at_ j (by omega)
    rw [ea, eb] at e
    have hab : a ≠ b := fun h => by
      have h1 := perm_ne n p hP i j (by omega) (by omega) (by omega)
      rw [ha, hb, h] at h1
      exact h1 rfl
    exact perm_ne n q hQ a b ha2 hb2 hab e
def okC (n : Nat) (q : List Int) (x y z : Nat) : Bool := match src (tri n) 0 (x : Int) (y : Int) (z : Int) with
  | some (m, b) => match src (tri n) 0 (rd q ((tri n).getD m ⟨0, 0, 0⟩).f0) (rd q ((tri n).getD m ⟨0, 0, 0⟩).f1) (rd q ((tri n).getD m ⟨0, 0, 0⟩).f2), src (tri n) 0 (rd q (x : Int)) (rd q (y : Int)) (rd q (z : Int)) with
    | some (m1, b1), some (m2, b2) => m1 == m2 && ((b1 == b) == b2) && decide (m < (tri n).length)
    | _, _ => false
  | none => false
theorem all_okC : ([3, 4, 5] : List Nat).all (fun n => (AN n).all fun q => (List.range n).all fun x => (List.range n).all fun y => (List.range n).all fun z => x == y || (y == z || (x == z || okC n q x y z))) = true := by decide +kernel
theorem okC_at (n : Nat) (h3 : 3 ≤ n) (h5 : n ≤ 5) (q : List Int) (hq : q ∈ AN n) (x y z : Nat) (hx : x < n) (hy : y < n) (hz : z < n) (hxy : x ≠ y) (hyz : y ≠ z) (hxz : x ≠ z) : okC n q x y z = true := by
  have h := List.all_eq_true.1 (List.all_eq_true.1 (List.all_eq_true.1 (List.all_eq_true.1 (List.all_eq_true.1 all_okC n (by simp; omega)) q hq) x (by simpa using hx)) y (by simpa using hy)) z (by simpa using hz)
  rw [Bool.or_eq_true, Bool.or_eq_true, Bool.or_eq_true, beq_iff_eq, beq_iff_eq, beq_iff_eq] at h
  rcases h with h | h | h | h
  · exact absurd h hxy
  · exact absurd h hyz
  · exact absurd h hxz
  · exact h
theorem pick_size (n : Nat) (s : ByteArray) (q : List Int) : (pickT n s q).size = (tri n).length := by
  unfold pickT
  rw [strOfNums_size, pickC, List.length_map]
theorem sgAt_pick (n : Nat) (s : ByteArray) (q : List Int) (m : Nat) (hm : m < (tri n).length) : sgAt (pickT n s q) m = if sg n s (rd q (tri n)[m].f0) (rd q (tri n)[m].f1) (rd q (tri n)[m].f2) > 0 then 1 else -1 := by
  have hl : (pickC n s q).length = (tri n).length := by unfold pickC; rw [List.length_map]
  have e0 : (pickC n s q)[m]'(by omega) = pm (sg n s (rd q (tri n)[m].f0) (rd q (tri n)[m].f1) (rd q (tri n)[m].f2)) := by simp [pickC]
  have e : bt (pickT n s q) (m : Int) = pm (sg n s (rd q (tri n)[m].f0) (rd q (tri n)[m].f1) (rd q (tri n)[m].f2)) := by
    unfold pickT
    rw [bt_strOf _ _ (by omega) (by rw [e0]; unfold pm; split <;> decide), e0]
  unfold sgAt
  rw [e]
  unfold pm
  by_cases h : sg n s (rd q (tri n)[m].f0) (rd q (tri n)[m].f1) (rd q (tri n)[m].f2) > 0
  · rw [if_pos h, if_pos h]; rfl
  · rw [if_neg h, if_neg h]; rfl
theorem sg_pick (n : Nat) (h3 : 3 ≤ n) (h5 : n ≤ 5) (s : ByteArray) (q : List Int) (hq : q ∈ AN n) (x y z : Nat) (hx : x < n) (hy : y < n) (hz : z < n) (hxy : x ≠ y) (hyz : y ≠ z) (hxz : x ≠ z) : sg n (pickT n s q) x y z = sg n s (rd q (x : Int)) (rd q (y : Int)) (rd q (z : Int)) := by
  have h := okC_at n h3 h5 q hq x y z hx hy hz hxy hyz hxz
  unfold okC at h
  unfold sg
  cases h1 : src (tri n) 0 (x : Int) (y : Int) (z : Int) with
  | none => rw [h1] at h; cases h
  | some p =>
    obtain ⟨m, b⟩ := p
    rw [h1] at h
    try dsimp only at h
    cases h2 : src (tri n) 0 (rd q ((tri n).getD m ⟨0, 0, 0⟩).f0) (rd q ((tri n).getD m ⟨0, 0, 0⟩).f1) (rd q ((tri n).getD m ⟨0, 0, 0⟩).f2) with
    | none => rw [h2] at h; cases h
    | some p1 =>
      obtain ⟨m1, b1⟩ := p1
      rw [h2] at h
      try dsimp only at h
      cases h3' : src (tri n) 0 (rd q (x : Int)) (rd q (y : Int)) (rd q (z : Int)) with
      | none => rw [h3'] at h; cases h
      | some p2 =>
        obtain ⟨m2, b2⟩ := p2
        rw [h3'] at h
        try dsimp only at h
        rw [Bool.and_eq_true, Bool.and_eq_true, beq_iff_eq, beq_iff_eq, decide_eq_true_eq] at h
        obtain ⟨⟨rfl, hb⟩, hm⟩ := h
        rw [getD_lt _ _ _ hm] at h2
        have hs := sgAt_pick n s q m hm
        unfold sg at hs
        rw [h2] at hs
        subst hb
        rcases sgAt_pm s m1 with e | e <;> cases b <;> cases b1 <;> (simp only [sval, hs, e, show (false == false) = true from rfl, show (true == false) = false from rfl, show (false == true) = false from rfl, show (true == true) = true from rfl]; try decide +kernel)
theorem pick_pick (n : Nat) (h3 : 3 ≤ n) (h5 : n ≤ 5) (s : ByteArray) (q p : List Int) (hq : q ∈ AN n) (hp : p ∈ AN n) : pickT n (pickT n s q) p = pickT n s (comp q p) := by
  have hP := AN_P n (by omega) p hp
  unfold pickT
  congr 1
  unfold pickC
  refine List.map_congr_left (fun t ht => ?_)
  obtain ⟨a, b, c, rfl, hab, hbc, hcn⟩ := tri_mem n (by omega) t ht
  dsimp only
  obtain ⟨hl, hl2, hr⟩ := hP
  have ra := (hr a (by omega)).1
  have rb := (hr b (by omega)).1
  have rc := (hr c (by omega)).1
  have nab := perm_ne n p ⟨hl, hl2, hr⟩ a b (by omega) (by omega) (by omega)
  have nbc := perm_ne n p ⟨hl, hl2, hr⟩ b c (by omega) (by omega) (by omega)
  have nac := perm_ne n p ⟨hl, hl2, hr⟩ a c (by omega) (by omega) (by omega)
  rw [rd_comp q p a (by omega), rd_comp q p b (by omega), rd_comp q p c (by omega)]
  obtain ⟨x, hx⟩ := Int.eq_ofNat_of_zero_le ra.1
  obtain ⟨y, hy⟩ := Int.eq_ofNat_of_zero_le rb.1
  obtain ⟨z, hz⟩ := Int.eq_ofNat_of_zero_le rc.1
  rw [hx, hy, hz]
  congr 1
  exact sg_pick n h3 h5 s q hq x y z (by omega) (by omega) (by omega) (by omega) (by omega) (by omega)
end Go.Proofs.Ytoajlmlobaccdaa.Pure
namespace Go.Proofs.Ytoajlmlobaccdaa.Pure
set_option linter.unusedSimpArgs false
set_option linter.unusedVariables false
open Go.RowKit Go.Proofs.YtoajlmlobaccdaaW.PrintWords Go.Proofs.Ytoajlmlobaccdaa.P Go.Proofs.Ytoajlmlobaccdaa.Pl
theorem rdIx (l : List Int) (i : Nat) (h : i < l.length) : rd l (i : Int) = l[i] := by
  unfold rd
  rw [Int.toNat_natCast, getD_lt _ _ _ h]
theorem same_from (a b : List Int) (hl : a.length = b.length) (hz : a.length ≤ 1000000) : ∀ d i, i + d = a.length → Ev (fun k => spec_l15Same.l0 k a b (i : Nat)) (decide (a.drop i = b.drop i))
  | 0, i, hi => by
    rw [List.drop_of_length_le (by omega), List.drop_of_length_le (by omega)]
    exact Ev.step (fun k => spec_l15Same.l0.eq_2 ..) (Ev.ite_neg (by omega) (Ev.now _))
  | d + 1, i, hi => by
    have ha : i < a.length := by omega
    have hb : i < b.length := by omega
    have ih := same_from a b hl hz d (i + 1) (by omega)
    refine Ev.step (fun k => spec_l15Same.l0.eq_2 ..) (Ev.ite_pos (by omega) (Ev.ite_pos (by omega) (Ev.ite_pos (by omega) ?_)))
    rw [rdIx a i ha, rdIx b i hb, wrap_nat i (by omega), List.drop_eq_getElem_cons ha, List.drop_eq_getElem_cons hb]
    by_cases e : a[i] = b[i]
    · rw [show decide (a[i] :: a.drop (i + 1) = b[i] :: b.drop (i + 1)) = decide (a.drop (i + 1) = b.drop (i + 1)) from by rw [e]; exact decide_eq_decide.2 ⟨fun h => (List.cons.inj h).2, fun h => by rw [h]⟩]
      exact Ev.ite_pos e ih
    · rw [decide_eq_false (fun h => e (List.cons.inj h).1)]
      exact Ev.ite_neg e (Ev.now _)
theorem same_ev (a b : List Int) (hz : a.length ≤ 1000000) : Ev (fun k => spec_l15Same.f k a b) (decide (a = b)) := by
  unfold spec_l15Same.f
  by_cases hl : a.length = b.length
  · have h := same_from a b hl hz a.length 0 (by omega)
    rw [List.drop_zero, List.drop_zero] at h
    exact Ev.ite_pos (by omega) h
  · rw [decide_eq_false (fun h => hl (by rw [h]))]
    exact Ev.ite_neg (by omega) (Ev.now _)
theorem less_ex (a b : List Int) (hl : a.length = b.length) (hz : a.length ≤ 1000000) : ∃ v, Ev (fun k => spec_l14Less.f k a b) v := by
  unfold spec_l14Less.f
  have key : ∀ d i, i + d = a.length → ∃ v, Ev (fun k => spec_l14Less.l0 k a b (i : Nat)) v := by
    intro d
    induction d with
    | zero =>
      intro i hi
      exact ⟨_, Ev.step (fun k => spec_l14Less.l0.eq_2 ..) (Ev.ite_neg (by omega) (Ev.now _))⟩
    | succ d ih =>
      intro i hi
      obtain ⟨v, hv⟩ := ih (i + 1) (by omega)
      by_cases e : rd a (i : Int) = rd b (i : Int)
      · refine ⟨v, Ev.step (fun k => spec_l14Less.l0.eq_2 ..) (Ev.ite_pos (by omega) (Ev.ite_pos (by omega) (Ev.ite_pos (by omega) (Ev.ite_pos e ?_))))⟩
        rw [wrap_nat i (by omega)]
        exact hv
      · exact ⟨_, Ev.step (fun k => spec_l14Less.l0.eq_2 ..) (Ev.ite_pos (by omega) (Ev.ite_pos (by omega) (Ev.ite_pos (by omega) (Ev.ite_neg e (Ev.now _)))))⟩
  exact key a.length 0 (by omega)
theorem scan_ex (m : Nat) (hm : m ≤ 1000000) (x : List Int) (hx : x.length = m) (xs : List (List Int)) (hs : ∀ y ∈ xs, y.length = m) : ∀ i, i ≤ xs.length → ∃ a, a ≤ i ∧ Ev (fun k => scanL k x xs i) a
  | 0, _ => ⟨0, Nat.le_refl _, Ev.const rfl⟩
  | i + 1, hi => by
    obtain ⟨a, ha, hv⟩ := scan_ex m hm x hx xs hs i (by omega)
    have hy : (xs.getD i []).length = m := by
      rw [List.getD_eq_getElem?_getD, List.getElem?_eq_getElem (by omega)]
      exact hs _ (List.getElem_mem _)
    obtain ⟨b, hb⟩ := less_ex x (xs.getD i []) (by rw [hx, hy]) (by omega)
    cases b with
    | true => exact ⟨a, by omega, Ev.bind hb (Ev.ite_pos rfl hv)⟩
    | false => exact ⟨i + 1, Nat.le_refl _, Ev.bind hb (Ev.ite_neg (by simp) (Ev.now _))⟩
theorem put_ex (m : Nat) (hm : m ≤ 1000000) (x : List Int) (hx : x.length = m) (xs : List (List Int)) (hs : ∀ y ∈ xs, y.length = m) (hl : xs.length ≤ 1000000) : ∃ r, Ev (fun k => spec_l14Put.f k xs x) r ∧ r.Perm (x :: xs) := by
  obtain ⟨a, ha, hv⟩ := scan_ex m hm x hx xs hs xs.length (Nat.le_refl _)
  refine ⟨xs.take a ++ x :: xs.drop a, ?_, ?_⟩
  · unfold spec_l14Put.f
    exact Ev.ite_pos hl (Ev.bind hv (Ev.now _))
  · refine List.perm_middle.trans ?_
    rw [List.take_append_drop]
theorem putAll_ex (m : Nat) (hm : m ≤ 1000000) : ∀ (l out : List (List Int)), (∀ y ∈ l, y.length = m) → (∀ y ∈ out, y.length = m) → l.length + out.length ≤ 1000000 → ∃ r, Ev (fun k => putRest k l out) r ∧ r.Perm (l ++ out)
  | [], out, _, _, _ => ⟨out, Ev.const rfl, List.Perm.refl _⟩
  | x :: l, out, hl, ho, hz => by
    have hx := hl x List.mem_cons_self
    rw [List.length_cons] at hz
    obtain ⟨o, h1, p1⟩ := put_ex m hm x hx out ho (by omega)
    obtain ⟨r, h2, p2⟩ := putAll_ex m hm l o (fun y hy => hl y (List.mem_cons_of_mem _ hy)) (fun y hy => by
      rcases List.mem_cons.1 (p1.mem_iff.1 hy) with rfl | h
      · exact hx
      · exact ho y h) (by rw [p1.length_eq, List.length_cons]; omega)
    refine ⟨r, Ev.bind h1 h2, p2.trans ?_⟩
    refine (List.Perm.append_left l p1).trans ?_
    exact List.perm_middle
def knownP (x : List Int) (out : List (List Int)) : Bool := out.any fun y => decide (y = x)
theorem known_ev (x : List Int) : ∀ out : List (List Int), (∀ y ∈ out, y.length ≤ 1000000) → Ev (fun k => knownF k x out) (knownP x out)
  | [], _ => Ev.const rfl
  | y :: r, h => by
    have h1 := same_ev y x (h y List.mem_cons_self)
    have h2 := known_ev x r (fun z hz => h z (List.mem_cons_of_mem _ hz))
    unfold knownP at h2 ⊢
    rw [List.any_cons]
    by_cases e : y = x
    · rw [decide_eq_true e] at h1 ⊢
      exact Ev.bind h1 (Ev.ite_pos rfl (Ev.now _))
    · rw [decide_eq_false e] at h1 ⊢
      rw [Bool.false_or]
      exact Ev.bind h1 (Ev.ite_neg (by simp) h2)
def addP : List (List Int) → List (List Int) → Option (List (List Int))
  | [], out => some out
  | x :: r, out => if out.length < 1000000 ∧ out.all (fun y => decide (y.length ≤ 1000000)) = true then addP r (if knownP x out = true then out else out ++ [x]) else none
theorem add_ev : ∀ (l out o : List (List Int)), addP l out = some o → Ev (fun k => addAll k l out) o
  | [], out, o, h => by
    obtain rfl := Option.some.inj h
    exact Ev.const rfl
  | x :: r, out, o, h => by
    rw [addP] at h
    by_cases c : out.length < 1000000 ∧ out.all (fun y => decide (y.length ≤ 1000000)) = true
    case neg => rw [if_neg c] at h; cases h
    rw [if_pos c] at h
    have hk := known_ev x out (fun y hy => of_decide_eq_true (List.all_eq_true.1 c.2 y hy))
    exact Ev.ite_pos c.1 (Ev.bind hk (add_ev r _ o h))
def rchP (br : List Int → Option (List (List Int))) : Nat → Nat → List (List Int) → Option (List (List Int))
  | 0, _, _ => none
  | f + 1, p, out => if p < out.length ∧ p < 1000000 then (br (out.getD p [])).bind fun l => if l.length < 1000000 then (addP l out).bind fun o => rchP br f (p + 1) o else none else if p < 1000000 then some out else none
theorem rch_ev (n : Int) (br : List Int → Option (List (List Int))) (hbr : ∀ w l, br w = some l → Ev (fun k => spec_BraidsFrom.f k n w) l) : ∀ f p out o, rchP br f p out = some o → ∃ K, ∀ k, K ≤ k → ∀ d, f ≤ d → rchF k n d p out = some o
  | 0, _, _, _, h => by cases h
  | f + 1, p, out, o, h => by
    rw [rchP] at h
    by_cases c : p < out.length ∧ p < 1000000
    · rw [if_pos c] at h
      obtain ⟨l, hl, h⟩ := Option.bind_eq_some_iff.mp h
      by_cases c2 : l.length < 1000000
      case neg => rw [if_neg c2] at h; cases h
      rw [if_pos c2] at h
      obtain ⟨o2, ho, h⟩ := Option.bind_eq_some_iff.mp h
      obtain ⟨K1, h1⟩ := hbr _ _ hl
      obtain ⟨K2, h2⟩ := add_ev l out o2 ho
      obtain ⟨K3, h3⟩ := rch_ev n br hbr f (p + 1) o2 o h
      refine ⟨max K1 (max K2 K3), fun k hk d hd => ?_⟩
      obtain ⟨d, rfl⟩ : ∃ e, d = e + 1 := ⟨d - 1, by omega⟩
      have e1 := h1 k (by omega)
      have e2 := h2 k (by omega)
      simp only at e1 e2
      rw [rchF, if_pos c, e1, Option.bind_some, if_pos c2, e2, Option.bind_some]
      exact h3 k (by omega) d (by omega)
    · rw [if_neg c] at h
      by_cases c2 : p < 1000000
      case neg => rw [if_neg c2] at h; cases h
      rw [if_pos c2] at h
      obtain rfl := Option.some.inj h
      refine ⟨0, fun k _ d hd => ?_⟩
      obtain ⟨d, rfl⟩ : ∃ e, d = e + 1 := ⟨d - 1, by omega⟩
      rw [rchF, if_neg c, if_pos c2]
theorem reach_ev (n : Int) (br : List Int → Option (List (List Int))) (hbr : ∀ w l, br w = some l → Ev (fun k => spec_BraidsFrom.f k n w) l) (f : Nat) (w : List Int) (o : List (List Int)) (h : rchP br f 0 [w] = some o) : Ev (fun k => spec_l15Reach.f k n w) o := by
  obtain ⟨K, hK⟩ := rch_ev n br hbr f 0 [w] o h
  exact ⟨max K f, fun k hk => hK k (by omega) k (by omega)⟩
end Go.Proofs.Ytoajlmlobaccdaa.Pure
