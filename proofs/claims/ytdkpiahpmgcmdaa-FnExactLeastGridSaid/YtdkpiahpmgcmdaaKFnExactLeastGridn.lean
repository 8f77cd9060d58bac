/- What the law FnExactLeastGrid reaches, part 14: functions as plain Lean functions with the proofs that their calls come to them, and plain lemmas over these. Put together by a program (wip/pack.py). -/
import Derived.Test.YtdkpiahpmgcmdaaKFnExactLeastGridm
import Derived.Test.YtdkpiahpmgcmdaaKFnExactLeastGride
import Derived.Test.YtdkpiahpmgcmdaaKFnExactLeastGridf
import Derived.Test.YtdkpiahpmgcmdaaKFnExactLeastGridc
import Derived.Test.YtdkpiahpmgcmdaaKFnExactLeastGridj
import Derived.Test.YtdkpiahpmgcmdaaKFnExactLeastGridi
namespace Go.Proofs.Ytdkpiahpmgcmdaa.Pure
set_option linter.unusedSimpArgs false
set_option linter.unusedVariables false
open Go.RowKit Go.Proofs.YtdkpiahpmgcmdaaW.PrintWords Go.Proofs.Ytdkpiahpmgcmdaa.P Go.Proofs.Ytdkpiahpmgcmdaa.Pl
abbrev Q4 := S119
def quad : Nat → List Q4
  | 4 => [⟨0, 1, 2, 3⟩]
  | 5 => [⟨0, 1, 2, 3⟩, ⟨0, 1, 2, 4⟩, ⟨0, 1, 3, 4⟩, ⟨0, 2, 3, 4⟩, ⟨1, 2, 3, 4⟩]
  | 6 => [⟨0, 1, 2, 3⟩, ⟨0, 1, 2, 4⟩, ⟨0, 1, 2, 5⟩, ⟨0, 1, 3, 4⟩, ⟨0, 1, 3, 5⟩, ⟨0, 1, 4, 5⟩, ⟨0, 2, 3, 4⟩, ⟨0, 2, 3, 5⟩, ⟨0, 2, 4, 5⟩, ⟨0, 3, 4, 5⟩, ⟨1, 2, 3, 4⟩, ⟨1, 2, 3, 5⟩, ⟨1, 2, 4, 5⟩, ⟨1, 3, 4, 5⟩, ⟨2, 3, 4, 5⟩]
  | 7 => [⟨0, 1, 2, 3⟩, ⟨0, 1, 2, 4⟩, ⟨0, 1, 2, 5⟩, ⟨0, 1, 2, 6⟩, ⟨0, 1, 3, 4⟩, ⟨0, 1, 3, 5⟩, ⟨0, 1, 3, 6⟩, ⟨0, 1, 4, 5⟩, ⟨0, 1, 4, 6⟩, ⟨0, 1, 5, 6⟩, ⟨0, 2, 3, 4⟩, ⟨0, 2, 3, 5⟩, ⟨0, 2, 3, 6⟩, ⟨0, 2, 4, 5⟩, ⟨0, 2, 4, 6⟩, ⟨0, 2, 5, 6⟩, ⟨0, 3, 4, 5⟩, ⟨0, 3, 4, 6⟩, ⟨0, 3, 5, 6⟩, ⟨0, 4, 5, 6⟩, ⟨1, 2, 3, 4⟩, ⟨1, 2, 3, 5⟩, ⟨1, 2, 3, 6⟩, ⟨1, 2, 4, 5⟩, ⟨1, 2, 4, 6⟩, ⟨1, 2, 5, 6⟩, ⟨1, 3, 4, 5⟩, ⟨1, 3, 4, 6⟩, ⟨1, 3, 5, 6⟩, ⟨1, 4, 5, 6⟩, ⟨2, 3, 4, 5⟩, ⟨2, 3, 4, 6⟩, ⟨2, 3, 5, 6⟩, ⟨2, 4, 5, 6⟩, ⟨3, 4, 5, 6⟩]
  | _ => []
def okQ (n : Nat) (q : Q4) : Bool := decide (0 ≤ q.f0 ∧ q.f0 < q.f1 ∧ q.f1 < q.f2 ∧ q.f2 < q.f3 ∧ q.f3 < n)
theorem all_q : (List.range 8).all (fun n => (quad n).all (okQ n) && decide ((quad n).length ≤ 1000)) = true := by decide +kernel
theorem quad_ok (n : Nat) (h : n ≤ 7) : (quad n).all (okQ n) = true ∧ (quad n).length ≤ 1000 := by
  have := all_q
  rw [List.all_eq_true] at this
  have := this n (by simp; omega)
  rw [Bool.and_eq_true, decide_eq_true_eq] at this
  exact this
def brk (n : Nat) (s : ByteArray) (a b c d e : Int) : Bool :=
  decide (wrap64 (sg n s a b c * sg n s a d e) = wrap64 (sg n s a b e * sg n s a c d)) && (wrap64 (sg n s a b e * sg n s a c d) == wrap64 ((wrap64 (-(sg n s a b d))) * sg n s a c e))
theorem l4Breaks_ev (n : Nat) (hn : n ≤ 7) (s : ByteArray) (hs : s.size = (tri n).length) (a b c d e : Nat) (ha : a < n) (hb : b < n) (hc : c < n) (hd : d < n) (he : e < n)
    (hab : a ≠ b) (hac : a ≠ c) (had : a ≠ d) (hae : a ≠ e) (hbc : b < c) (hcd : c < d) (hde : d < e) : Ev (fun k => spec_l4Breaks.f k n s a b c d e) (brk n s a b c d e) := by
  unfold spec_l4Breaks.f brk
  refine Ev.bind (l3At_ev n hn s hs a b c ha hb hc hab (by omega) hac) (Ev.bind (l3At_ev n hn s hs a d e ha hd he had (by omega) hae) (Ev.bind (l3At_ev n hn s hs a b e ha hb he hab (by omega) hae) (Ev.bind (l3At_ev n hn s hs a c d ha hc hd hac (by omega) had) (Ev.bind (l3At_ev n hn s hs a b d ha hb hd hab (by omega) had) (Ev.bind (l3At_ev n hn s hs a c e ha hc he hac (by omega) hae) ?_)))))
  by_cases h : wrap64 (sg n s a b c * sg n s a d e) = wrap64 (sg n s a b e * sg n s a c d)
  · rw [decide_eq_true h, Bool.true_and]
    exact Ev.ite_pos h (Ev.now _)
  · rw [decide_eq_false h, Bool.false_and]
    exact Ev.ite_neg h (Ev.now _)
theorem loopE (g : Nat → Nat → Option (List Int)) (m : Nat) (P : Nat → Bool) (X : Bool) (lo : Nat) (hlo : lo ≤ m) (hend : ∃ r, Ev (g m) r ∧ r.isEmpty = !X)
    (hstep : ∀ i, lo ≤ i → i < m → (∃ r, Ev (g (i + 1)) r ∧ r.isEmpty = !(((List.range m).drop (i + 1)).any P || X)) → ∃ r, Ev (g i) r ∧ r.isEmpty = !(P i || (((List.range m).drop (i + 1)).any P || X))) :
    ∃ r, Ev (g lo) r ∧ r.isEmpty = !(((List.range m).drop lo).any P || X) := by
  have key : ∀ d i, lo ≤ i → i + d = m → ∃ r, Ev (g i) r ∧ r.isEmpty = !(((List.range m).drop i).any P || X) := by
    intro d
    induction d with
    | zero =>
      intro i _ hi
      obtain rfl : i = m := by omega
      rw [List.drop_of_length_le (by simp)]
      simpa using hend
    | succ d ih =>
      intro i hl hi
      rw [range_drop' m i (by omega), List.any_cons, Bool.or_assoc]
      exact hstep i hl (by omega) (ih (i + 1) (by omega) (by omega))
  exact key (m - lo) lo (Nat.le_refl _) (by omega)
def avoid (a : Int) (q : Q4) : Bool := !(q.f0 == a || q.f1 == a || q.f2 == a || q.f3 == a)
def brkQ (n : Nat) (s : ByteArray) (a : Int) (q : Q4) : Bool := brk n s a q.f0 q.f1 q.f2 q.f3
def anyA (n : Nat) (s : ByteArray) (a : Nat) : Bool := (quad n).any fun q => avoid a q && brkQ n s a q
def anyB (n : Nat) (s : ByteArray) : Bool := (List.range n).any (anyA n s)
def oth (n a : Nat) : List Int := ((List.range n).filter fun x => x != a).map fun x : Nat => (x : Int)
theorem all_oth : (List.range 8).all (fun n => (List.range n).all fun a => spec_l3Others.f 40 n a == some (oth n a)) = true := by decide +kernel
theorem l3Others_ev (n a : Nat) (hn : n ≤ 7) (ha : a < n) : Ev (fun k => spec_l3Others.f k n a) (oth n a) := by
  have h := all_oth
  rw [List.all_eq_true] at h
  have h := h n (by simp; omega)
  rw [List.all_eq_true] at h
  have h := h a (by simpa using ha)
  exact Ev.of (spec_l3Others.mono _ _) (k := 40) (by simpa using h)
theorem all_o : (List.range 8).all (fun n => (List.range n).all fun a => decide ((oth n a).length ≤ 7) && (List.range (oth n a).length).all fun i => decide (0 ≤ rd (oth n a) (i : Int) ∧ rd (oth n a) (i : Int) < n ∧ rd (oth n a) (i : Int) ≠ a) && (List.range i).all fun j => decide (rd (oth n a) (j : Int) < rd (oth n a) (i : Int))) = true := by decide +kernel
theorem oth_ok (n a : Nat) (hn : n ≤ 7) (ha : a < n) : (oth n a).length ≤ 7 ∧ ∀ i, i < (oth n a).length → (∃ u : Nat, rd (oth n a) (i : Int) = u ∧ u < n ∧ u ≠ a) ∧ ∀ j, j < i → rd (oth n a) (j : Int) < rd (oth n a) (i : Int) := by
  have h := all_o
  rw [List.all_eq_true] at h
  have h := h n (by simp; omega)
  rw [List.all_eq_true] at h
  have h := h a (by simpa using ha)
  rw [Bool.and_eq_true, decide_eq_true_eq, List.all_eq_true] at h
  refine ⟨h.1, fun i hi => ?_⟩
  have g := h.2 i (by simpa using hi)
  rw [Bool.and_eq_true, decide_eq_true_eq, List.all_eq_true] at g
  refine ⟨⟨(rd (oth n a) (i : Int)).toNat, by omega, by omega, by omega⟩, fun j hj => ?_⟩
  simpa using g.2 j (by simpa using hj)
def listQ (n a : Nat) : List Q4 :=
  ((List.range (oth n a).length).drop 0).flatMap fun b : Nat => ((List.range (oth n a).length).drop (b + 1)).flatMap fun c : Nat => ((List.range (oth n a).length).drop (c + 1)).flatMap fun d : Nat => ((List.range (oth n a).length).drop (d + 1)).map fun e : Nat =>
    (⟨rd (oth n a) (b : Int), rd (oth n a) (c : Int), rd (oth n a) (d : Int), rd (oth n a) (e : Int)⟩ : Q4)
def tup (q : Q4) : Int × Int × Int × Int := (q.f0, q.f1, q.f2, q.f3)
def untup (q : Int × Int × Int × Int) : Q4 := ⟨q.1, q.2.1, q.2.2.1, q.2.2.2⟩
theorem untup_map (l : List Q4) : (l.map tup).map untup = l := by
  rw [List.map_map]
  exact List.map_id' l
theorem all_list : (List.range 8).all (fun n => (List.range n).all fun a => (listQ n a).map tup == ((quad n).filter (avoid a)).map tup) = true := by decide +kernel
theorem listQ_eq (n a : Nat) (hn : n ≤ 7) (ha : a < n) : listQ n a = (quad n).filter (avoid a) := by
  have h := all_list
  rw [List.all_eq_true] at h
  have h := h n (by simp; omega)
  rw [List.all_eq_true] at h
  have h := h a (by simpa using ha)
  have h := congrArg (List.map untup) (eq_of_beq h)
  rwa [untup_map, untup_map] at h
section
variable (n : Nat) (s : ByteArray) (a : Nat)
def b4 (b c d e : Nat) : Bool := brk n s a (rd (oth n a) (b : Int)) (rd (oth n a) (c : Int)) (rd (oth n a) (d : Int)) (rd (oth n a) (e : Int))
def b3 (b c d : Nat) : Bool := ((List.range (oth n a).length).drop (d + 1)).any (b4 n s a b c d)
def b2 (b c : Nat) : Bool := ((List.range (oth n a).length).drop (c + 1)).any (b3 n s a b c)
def b1 (b : Nat) : Bool := ((List.range (oth n a).length).drop (b + 1)).any (b2 n s a b)
end
theorem b1_eq (n : Nat) (s : ByteArray) (a : Nat) (hn : n ≤ 7) (ha : a < n) : (List.range (oth n a).length).any (b1 n s a) = anyA n s a := by
  unfold anyA
  rw [← List.any_filter, ← listQ_eq n a hn ha]
  unfold listQ
  rw [List.drop_zero, List.any_flatMap]
  simp only [List.any_flatMap, List.any_map]
  rfl
theorem spec_first_ev (n : Nat) (hn : n ≤ 7) (s : ByteArray) (hA : isS n s = true) : ∃ r, Ev (fun k => spec_FirstBreak.f k n s) r ∧ r.isEmpty = !anyB n s := by
  have hS := spec_AreSigns_ev n s
  rw [hA] at hS
  obtain ⟨_, _, hs, _⟩ := isS_bounds hA
  rw [Int.toNat_natCast] at hs
  unfold spec_FirstBreak.f
  have key := loopE (fun a k => spec_FirstBreak.l0 k a n s) n (anyA n s) false 0 (by omega) ?_ ?_
  · simpa [anyB] using key
  · exact ⟨[], Ev.step (fun k => spec_FirstBreak.l0.eq_2 ..) (Ev.ite_neg (by omega) (Ev.step (fun k => spec_FirstBreak.j1.eq_2 ..) (Ev.ite_neg (by simp) (Ev.now _)))), rfl⟩
  · intro a _ ha h0
    rw [Bool.or_false] at h0 ⊢
    obtain ⟨ho, hok⟩ := oth_ok n a hn ha
    rw [← b1_eq n s a hn ha]
    have key1 := loopE (fun b k => spec_FirstBreak.l1 k a (oth n a) b n s) (oth n a).length (b1 n s a) (((List.range n).drop (a + 1)).any (anyA n s)) 0 (by omega) ?_ ?_
    · obtain ⟨r, h1, h2⟩ := key1
      rw [List.drop_zero] at h2
      exact ⟨r, Ev.step (fun k => spec_FirstBreak.l0.eq_2 ..) (Ev.ite_pos (by omega) (Ev.bind hS (Ev.step (fun k => spec_FirstBreak.j1.eq_2 ..) (Ev.ite_pos rfl (Ev.bind (l3Others_ev n a hn ha) h1))))), h2⟩
    · obtain ⟨r, h1, h2⟩ := h0
      refine ⟨r, Ev.step (fun k => spec_FirstBreak.l1.eq_2 ..) (Ev.ite_neg (by omega) ?_), h2⟩
      rw [wrap_nat a (by omega)]
      exact h1
    · intro b _ hb h1
      have key2 := loopE (fun c k => spec_FirstBreak.l2 k a (oth n a) b c n s) (oth n a).length (b2 n s a b) (((List.range (oth n a).length).drop (b + 1)).any (b1 n s a) || ((List.range n).drop (a + 1)).any (anyA n s)) (b + 1) (by omega) ?_ ?_
      · obtain ⟨r, g1, g2⟩ := key2
        refine ⟨r, Ev.step (fun k => spec_FirstBreak.l1.eq_2 ..) (Ev.ite_pos (by omega) ?_), g2⟩
        rw [wrap_nat b (by omega)]
        exact g1
      · obtain ⟨r, g1, g2⟩ := h1
        refine ⟨r, Ev.step (fun k => spec_FirstBreak.l2.eq_2 ..) (Ev.ite_neg (by omega) ?_), g2⟩
        rw [wrap_nat b (by omega)]
        exact g1
      · intro c hbc hc h2
        have key3 := loopE (fun d k => spec_FirstBreak.l3 k a (oth n a) b c d n s) (oth n a).length (b3 n s a b c) (((List.range (oth n a).length).drop (c + 1)).any (b2 n s a b) || (((List.range (oth n a).length).drop (b + 1)).any (b1 n s a) || ((List.range n).drop (a + 1)).any (anyA n s))) (c + 1) (by omega) ?_ ?_
        · obtain ⟨r, g1, g2⟩ := key3
          refine ⟨r, Ev.step (fun k => spec_FirstBreak.l2.eq_2 ..) (Ev.ite_pos (by omega) ?_), g2⟩
          rw [wrap_nat c (by omega)]
          exact g1
        · obtain ⟨r, g1, g2⟩ := h2
          refine ⟨r, Ev.step (fun k => spec_FirstBreak.l3.eq_2 ..) (Ev.ite_neg (by omega) ?_), g2⟩
          rw [wrap_nat c (by omega)]
          exact g1
        · intro d hcd hd h3
          have key4 := loopE (fun e k => spec_FirstBreak.l4 k a (oth n a) b c d e n s) (oth n a).length (b4 n s a b c d) (((List.range (oth n a).length).drop (d + 1)).any (b3 n s a b c) || (((List.range (oth n a).length).drop (c + 1)).any (b2 n s a b) || (((List.range (oth n a).length).drop (b + 1)).any (b1 n s a) || ((List.range n).drop (a + 1)).any (anyA n s)))) (d + 1) (by omega) ?_ ?_
          · obtain ⟨r, g1, g2⟩ := key4
            refine ⟨r, Ev.step (fun k => spec_FirstBreak.l3.eq_2 ..) (Ev.ite_pos (by omega) ?_), g2⟩
            rw [wrap_nat d (by omega)]
            exact g1
          · obtain ⟨r, g1, g2⟩ := h3
            refine ⟨r, Ev.step (fun k => spec_FirstBreak.l4.eq_2 ..) (Ev.ite_neg (by omega) ?_), g2⟩
            rw [wrap_nat d (by omega)]
            exact g1
          · intro e hde he h4
            have hord : b < c ∧ c < d ∧ d < e := ⟨by omega, by omega, by omega⟩
            obtain ⟨⟨ub, eb, lb, nb⟩, _⟩ := hok b hb
            obtain ⟨⟨uc, ec, lc, nc⟩, oc⟩ := hok c hc
            obtain ⟨⟨ud, ed, ld, nd⟩, od⟩ := hok d hd
            obtain ⟨⟨ue, ee, le, ne⟩, oe⟩ := hok e he
            have kb := oc b hord.1
            have kc := od c hord.2.1
            have kd := oe d hord.2.2
            rw [eb, ec] at kb
            rw [ec, ed] at kc
            rw [ed, ee] at kd
            have hbr : Ev (fun k => spec_l4Breaks.f k n s a (rd (oth n a) (b : Int)) (rd (oth n a) (c : Int)) (rd (oth n a) (d : Int)) (rd (oth n a) (e : Int))) (b4 n s a b c d e) := by
              unfold b4
              rw [eb, ec, ed, ee]
              exact l4Breaks_ev n hn s hs a ub uc ud ue ha lb lc ld le (Ne.symm nb) (Ne.symm nc) (Ne.symm nd) (Ne.symm ne) (by omega) (by omega) (by omega)
            obtain ⟨r, g1, g2⟩ := h4
            rw [← wrap_nat e (by omega)] at g1
            by_cases hbk : b4 n s a b c d e = true
            · rw [hbk] at hbr
              rw [hbk, Bool.true_or]
              exact ⟨_, Ev.step (fun k => spec_FirstBreak.l4.eq_2 ..) (Ev.ite_pos (by omega) (Ev.ite_pos (by omega) (Ev.ite_pos (by omega) (Ev.ite_pos (by omega) (Ev.ite_pos (by omega) (Ev.ite_pos (by omega) (Ev.ite_pos (by omega) (Ev.ite_pos (by omega) (Ev.bind hbr (Ev.ite_pos rfl (Ev.now _))))))))))), rfl⟩
            · rw [Bool.eq_false_iff.mpr hbk] at hbr
              rw [Bool.eq_false_iff.mpr hbk, Bool.false_or]
              exact ⟨r, Ev.step (fun k => spec_FirstBreak.l4.eq_2 ..) (Ev.ite_pos (by omega) (Ev.ite_pos (by omega) (Ev.ite_pos (by omega) (Ev.ite_pos (by omega) (Ev.ite_pos (by omega) (Ev.ite_pos (by omega) (Ev.ite_pos (by omega) (Ev.ite_pos (by omega) (Ev.bind hbr (Ev.ite_neg (by simp) g1)))))))))), g2⟩
def isM (n : Int) (s : ByteArray) : Bool := isS n s && !anyB n.toNat s
theorem len_empty (r : List Int) : ((r.length : Int) = 0) ↔ r.isEmpty = true := by
  rw [List.isEmpty_iff, ← List.length_eq_zero_iff]
  omega
theorem spec_IsMatroid_ev (n : Int) (s : ByteArray) : Ev (fun k => spec_IsMatroid.f k n s) (isM n s) := by
  have hS := spec_AreSigns_ev n s
  unfold spec_IsMatroid.f isM
  cases hA : isS n s with
  | false =>
    rw [hA] at hS
    exact Ev.bind hS (Ev.ite_neg (by simp) (Ev.now _))
  | true =>
    rw [hA] at hS
    obtain ⟨h3, h7, _, _⟩ := isS_bounds hA
    obtain ⟨n, rfl⟩ := Int.eq_ofNat_of_zero_le (show 0 ≤ n by omega)
    obtain ⟨r, h1, h2⟩ := spec_first_ev n (by omega) s hA
    rw [Int.toNat_natCast, Bool.true_and, ← h2]
    refine Ev.bind hS (Ev.ite_pos rfl (Ev.bind h1 (Ev.const (congrArg some ?_))))
    rw [Bool.eq_iff_iff, beq_iff_eq]
    exact len_empty r
def byteS (v : Int) : ByteArray := if v > 0 then ⟨#[43]⟩ else ⟨#[45]⟩
def circT (p q r t : Int) : ByteArray := (((⟨#[43]⟩ : ByteArray) ++ byteS (wrap64 ((wrap64 (-p)) * q))) ++ byteS (wrap64 (p * r))) ++ byteS (wrap64 ((wrap64 (-p)) * t))
theorem l3Byte_eq (v : Int) : spec_l3Byte.f v = some (byteS v) := by
  unfold spec_l3Byte.f byteS
  by_cases h : v > 0
  · rw [if_pos h, if_pos h]
  · rw [if_neg h, if_neg h]
theorem byteS_size (v : Int) : (byteS v).size = 1 := by
  unfold byteS
  by_cases h : v > 0
  · rw [if_pos h]; rfl
  · rw [if_neg h]; rfl
def pm1 : List Int := [1, -1]
theorem spec_circuit_ev (n : Nat) (hn : n ≤ 7) (s : ByteArray) (hs : s.size = (tri n).length) (a b c d : Nat) (hd : d < n) (hab : a < b) (hbc : b < c) (hcd : c < d) :
    Ev (fun k => spec_l4Circuit.f k n s a b c d) (circT (sg n s b c d) (sg n s a c d) (sg n s a b d) (sg n s a b c)) := by
  unfold spec_l4Circuit.f circT
  refine Ev.bind (l3At_ev n hn s hs b c d (by omega) (by omega) (by omega) (by omega) (by omega) (by omega)) (Ev.bind (l3At_ev n hn s hs a c d (by omega) (by omega) (by omega) (by omega) (by omega) (by omega)) (Ev.bind0 (l3Byte_eq _) (Ev.ite_pos (by rw [byteS_size]; omega) ?_)))
  refine Ev.bind (l3At_ev n hn s hs a b d (by omega) (by omega) (by omega) (by omega) (by omega) (by omega)) (Ev.bind0 (l3Byte_eq _) (Ev.ite_pos (by rw [ByteArray.size_append, byteS_size, byteS_size]; decide) ?_))
  exact Ev.bind (l3At_ev n hn s hs a b c (by omega) (by omega) (by omega) (by omega) (by omega) (by omega)) (Ev.bind0 (l3Byte_eq _) (Ev.ite_pos (by rw [ByteArray.size_append, ByteArray.size_append, byteS_size, byteS_size, byteS_size]; decide) (Ev.now _)))
def listC (n : Nat) : List Q4 :=
  ((List.range n).drop 0).flatMap fun a : Nat => ((List.range n).drop (a + 1)).flatMap fun b : Nat => ((List.range n).drop (b + 1)).flatMap fun c : Nat => ((List.range n).drop (c + 1)).map fun d : Nat => (⟨a, b, c, d⟩ : Q4)
theorem all_c : (List.range 8).all (fun n => (listC n).map tup == (quad n).map tup) = true := by decide +kernel
theorem listC_eq (n : Nat) (hn : n ≤ 7) : listC n = quad n := by
  have h := all_c
  rw [List.all_eq_true] at h
  have h := congrArg (List.map untup) (eq_of_beq (h n (by simp; omega)))
  rwa [untup_map, untup_map] at h
theorem loopA (g : Nat → Nat → Option Bool) (m : Nat) (P : Nat → Bool) (X : Bool) (lo : Nat) (hlo : lo ≤ m) (hend : Ev (g m) X)
    (hstep : ∀ i, lo ≤ i → i < m → Ev (g (i + 1)) (((List.range m).drop (i + 1)).all P && X) → Ev (g i) (P i && (((List.range m).drop (i + 1)).all P && X))) : Ev (g lo) (((List.range m).drop lo).all P && X) := by
  have key : ∀ d i, lo ≤ i → i + d = m → Ev (g i) (((List.range m).drop i).all P && X) := by
    intro d
    induction d with
    | zero =>
      intro i _ hi
      obtain rfl : i = m := by omega
      rw [List.drop_of_length_le (by simp)]
      simpa using hend
    | succ d ih =>
      intro i hl hi
      rw [range_drop' m i (by omega), List.all_cons, Bool.and_assoc]
      exact hstep i hl (by omega) (ih (i + 1) (by omega) (by omega))
  exact key (m - lo) lo (Nat.le_refl _) (by omega)
def mixed (n : Nat) (s : ByteArray) (a b c d : Int) : Bool := !decide ((circT (sg n s b c d) (sg n s a c d) (sg n s a b d) (sg n s a b c)).toList = ([43, 43, 43, 43] : List UInt8))
def mixQ (n : Nat) (s : ByteArray) (q : Q4) : Bool := mixed n s q.f0 q.f1 q.f2 q.f3
def acyT (n : Nat) (s : ByteArray) : Bool := (quad n).all (mixQ n s)
section
variable (n : Nat) (s : ByteArray)
def m4 (a b c d : Nat) : Bool := mixed n s a b c d
def m3 (a b c : Nat) : Bool := ((List.range n).drop (c + 1)).all (m4 n s a b c)
def m2 (a b : Nat) : Bool := ((List.range n).drop (b + 1)).all (m3 n s a b)
def m1 (a : Nat) : Bool := ((List.range n).drop (a + 1)).all (m2 n s a)
end
theorem acy_eq (n : Nat) (hn : n ≤ 7) (s : ByteArray) : (List.range n).all (m1 n s) = acyT n s := by
  unfold acyT
  rw [← listC_eq n hn]
  unfold listC
  rw [List.drop_zero, List.all_flatMap]
  simp only [List.all_flatMap, List.all_map]
  rfl
theorem spec_acy_ev (n : Nat) (hn : n ≤ 7) (s : ByteArray) (hs : s.size = (tri n).length) : Ev (fun k => spec_l4Acyclic.f k n s) (acyT n s) := by
  rw [← acy_eq n hn s]
  unfold spec_l4Acyclic.f
  have key := loopA (fun a k => spec_l4Acyclic.l0 k a n s) n (m1 n s) true 0 (by omega) ?_ ?_
  · simpa using key
  · exact Ev.step (fun k => spec_l4Acyclic.l0.eq_2 ..) (Ev.ite_neg (by omega) (Ev.now _))
  · intro a _ ha h0
    have key1 := loopA (fun b k => spec_l4Acyclic.l1 k a b n s) n (m2 n s a) (((List.range n).drop (a + 1)).all (m1 n s) && true) (a + 1) (by omega) ?_ ?_
    · refine Ev.step (fun k => spec_l4Acyclic.l0.eq_2 ..) (Ev.ite_pos (by omega) ?_)
      rw [wrap_nat a (by omega)]
      exact key1
    · refine Ev.step (fun k => spec_l4Acyclic.l1.eq_2 ..) (Ev.ite_neg (by omega) ?_)
      rw [wrap_nat a (by omega)]
      exact h0
    · intro b hab hb h1
      have key2 := loopA (fun c k => spec_l4Acyclic.l2 k a b c n s) n (m3 n s a b) (((List.range n).drop (b + 1)).all (m2 n s a) && (((List.range n).drop (a + 1)).all (m1 n s) && true)) (b + 1) (by omega) ?_ ?_
      · refine Ev.step (fun k => spec_l4Acyclic.l1.eq_2 ..) (Ev.ite_pos (by omega) ?_)
        rw [wrap_nat b (by omega)]
        exact key2
      · refine Ev.step (fun k => spec_l4Acyclic.l2.eq_2 ..) (Ev.ite_neg (by omega) ?_)
        rw [wrap_nat b (by omega)]
        exact h1
      · intro c hbc hc h2
        have key3 := loopA (fun d k => spec_l4Acyclic.l3 k a b c d n s) n (m4 n s a b c) (((List.range n).drop (c + 1)).all (m3 n s a b) && (((List.range n).drop (b + 1)).all (m2 n s a) && (((List.range n).drop (a + 1)).all (m1 n s) && true))) (c + 1) (by omega) ?_ ?_
        · refine Ev.step (fun k => spec_l4Acyclic.l2.eq_2 ..) (Ev.ite_pos (by omega) ?_)
          rw [wrap_nat c (by omega)]
          exact key3
        · refine Ev.step (fun k => spec_l4Acyclic.l3.eq_2 ..) (Ev.ite_neg (by omega) ?_)
          rw [wrap_nat c (by omega)]
          exact h2
        · intro d hcd hd h3
          refine Ev.step (fun k => spec_l4Acyclic.l3.eq_2 ..) (Ev.ite_pos (by omega) (Ev.bind (spec_circuit_ev n hn s hs a b c d (by omega) (by omega) (by omega) (by omega)) ?_))
          rw [show m4 n s a b c d = !decide ((circT (sg n s b c d) (sg n s a c d) (sg n s a b d) (sg n s a b c)).toList = ([43, 43, 43, 43] : List UInt8)) from rfl, wrap_nat d (by omega)]
          by_cases h : (circT (sg n s b c d) (sg n s a c d) (sg n s a b d) (sg n s a b c)).toList = ([43, 43, 43, 43] : List UInt8)
          · rw [decide_eq_true h]
            exact Ev.ite_pos h (Ev.now _)
          · rw [decide_eq_false h]
            exact Ev.ite_neg h (by simpa using h3)
def isA (n : Int) (s : ByteArray) : Bool := isM n s && acyT n.toNat s
theorem isM_S {n : Int} {s : ByteArray} (h : isM n s = true) : isS n s = true := by
  unfold isM at h
  rw [Bool.and_eq_true] at h
  exact h.1
theorem spec_IsAcyclic_ev (n : Int) (s : ByteArray) : Ev (fun k => spec_IsAcyclic.f k n s) (isA n s) := by
  unfold spec_IsAcyclic.f isA
  refine Ev.bind (spec_IsMatroid_ev n s) ?_
  cases hM : isM n s with
  | false => exact Ev.ite_neg (by simp) (Ev.now _)
  | true =>
    obtain ⟨h3, h7, hs, _⟩ := isS_bounds (isM_S hM)
    obtain ⟨n, rfl⟩ := Int.eq_ofNat_of_zero_le (show 0 ≤ n by omega)
    rw [Int.toNat_natCast] at hs ⊢
    exact Ev.ite_pos rfl (Ev.bind (spec_acy_ev n (by omega) s hs) (Ev.now _))
def D4 (n a b c d : Nat) : Prop := (a < n ∧ b < n ∧ c < n ∧ d < n) ∧ (a ≠ b ∧ a ≠ c ∧ a ≠ d ∧ b ≠ c ∧ b ≠ d ∧ c ≠ d)
def ct (n : Nat) (s : ByteArray) (a b c d : Nat) : ByteArray := circT (sg n s b c d) (sg n s a c d) (sg n s a b d) (sg n s a b c)
def sb (x : Bool) : UInt8 := if x then 43 else 45
def txt (x y z : Bool) : ByteArray := ⟨#[43, sb x, sb y, sb z]⟩
theorem circ_txt (p q r t : Int) (hp : p = 1 ∨ p = -1) (hq : q = 1 ∨ q = -1) (hr : r = 1 ∨ r = -1) (ht : t = 1 ∨ t = -1) : circT p q r t = txt (p != q) (p == r) (p != t) := by
  rcases hp with rfl | rfl <;> rcases hq with rfl | rfl <;> rcases hr with rfl | rfl <;> rcases ht with rfl | rfl <;> kernel_rfl
def cx (n : Nat) (s : ByteArray) (a b c d : Nat) : Bool := sg n s b c d != sg n s a c d
def cy (n : Nat) (s : ByteArray) (a b c d : Nat) : Bool := sg n s b c d == sg n s a b d
def cz (n : Nat) (s : ByteArray) (a b c d : Nat) : Bool := sg n s b c d != sg n s a b c
def bools : List Bool := [true, false]
theorem mem_bools (x : Bool) : x ∈ bools := by cases x <;> decide
def spl (x y z : Bool) (a b c d : Nat) : Int × Int :=
  let e : Nat → Bool → Int := fun i p => if p then 2 ^ i else 0
  (2 ^ a + e b x + e c y + e d z, e b (!x) + e c (!y) + e d (!z))
def okSpl (a b c d : Nat) : Bool := a == b || a == c || a == d || b == c || b == d || c == d || bools.all fun x => bools.all fun y => bools.all fun z =>
  impl_chi_split.l0 6 (txt x y z) 0 0 [(a : Int), b, c, d] 4 0 == some (spl x y z a b c d) && spec_l5Split.l0 6 [(a : Int), b, c, d] (txt x y z) 0 0 0 == some (spl x y z a b c d)
theorem D4.up {n a b c d : Nat} (h : D4 n a b c d) (hn : n ≤ 7) : D4 7 a b c d := by
  obtain ⟨⟨ha, hb, hc, hd⟩, h1, h2, h3, h4, h5, h6⟩ := h
  exact ⟨⟨by omega, by omega, by omega, by omega⟩, h1, h2, h3, h4, h5, h6⟩
def sp (n : Nat) (s : ByteArray) (a b c d : Nat) : Int × Int := spl (cx n s a b c d) (cy n s a b c d) (cz n s a b c d) a b c d
def pick1 (x : Int) : List Nat → Int
  | [] => -1
  | i :: is => if x = 2 ^ i then i else pick1 x is
def only (x : Int) : Int := pick1 x (List.range 7)
def inn (n : Nat) (s : ByteArray) (a b c d : Nat) : Int := mx (only (sp n s a b c d).1) (only (sp n s a b c d).2)
def has (set : Int) (i : Nat) : Bool := (Go.bits .and .i64 (shr .i64 set (i : Int)) 1) == 1
def listT (n : Nat) : List T3 :=
  ((List.range n).drop 0).flatMap fun a : Nat => ((List.range n).drop (a + 1)).flatMap fun b : Nat => ((List.range n).drop (b + 1)).map fun c : Nat => (⟨a, b, c⟩ : T3)
def tupT (q : T3) : Int × Int × Int := (q.f0, q.f1, q.f2)
def untupT (q : Int × Int × Int) : T3 := ⟨q.1, q.2.1, q.2.2⟩
def okMask (set a b c : Nat) : Bool := decide (Go.bits .and .i64 (set : Int) (Go.bits .or .i64 (Go.bits .or .i64 (shl .i64 1 (a : Int)) (shl .i64 1 (b : Int))) (shl .i64 1 (c : Int))) = Go.bits .or .i64 (Go.bits .or .i64 (shl .i64 1 (a : Int)) (shl .i64 1 (b : Int))) (shl .i64 1 (c : Int))) == (has set a && has set b && has set c)
def hulT (n : Nat) (s : ByteArray) (set : Int) (p : Nat) (a b c : Nat) : Bool := has set a && has set b && has set c && (inn n s p a b c == p)
def hul (n : Nat) (s : ByteArray) (set : Int) (p : Nat) : Bool := (tri n).any fun t => hulT n s set p t.f0.toNat t.f1.toNat t.f2.toNat
def pm (v : Int) : Int := if v > 0 then 43 else 45
def codesT (l : List Int) (ts : List T3) : List Int := ts.map fun t => pm (chiA l t.f0 t.f1 t.f2)
theorem all_tri : (List.range 8).all (fun n => (List.range (tri n).length).all fun m => (let t := (tri n).getD m ⟨0, 0, 0⟩; src (tri n) 0 t.f0 t.f1 t.f2 == some (m, true))) = true := by decide +kernel
theorem tri_src (n : Nat) (hn : n ≤ 7) (m : Nat) (hm : m < (tri n).length) : src (tri n) 0 (tri n)[m].f0 (tri n)[m].f1 (tri n)[m].f2 = some (m, true) := by
  have g := all_tri
  rw [List.all_eq_true] at g
  have g := g n (by simp; omega)
  rw [List.all_eq_true] at g
  have g := g m (by simpa using hm)
  rw [getD_lt _ _ _ hm] at g
  simpa using g
theorem tri_nat (n : Nat) (hn : n ≤ 7) (m : Nat) (hm : m < (tri n).length) : ∃ a b c : Nat, a < b ∧ b < c ∧ c < n ∧ (tri n)[m] = ⟨a, b, c⟩ := by
  have h := tri_ok n hn
  rw [List.all_eq_true] at h
  have h := h _ (List.getElem_mem hm)
  generalize (tri n)[m] = t at h ⊢
  obtain ⟨a, b, c⟩ := t
  unfold okT at h
  rw [decide_eq_true_eq] at h
  dsimp only at h
  obtain ⟨a, rfl⟩ := Int.eq_ofNat_of_zero_le h.1
  obtain ⟨b, rfl⟩ := Int.eq_ofNat_of_zero_le (show 0 ≤ b by omega)
  obtain ⟨c, rfl⟩ := Int.eq_ofNat_of_zero_le (show 0 ≤ c by omega)
  exact ⟨a, b, c, by omega, by omega, by omega, rfl⟩
def okD3 (t : T3) : Prop := ∃ a b c : Nat, t = ⟨a, b, c⟩ ∧ a < 7 ∧ b < 7 ∧ c < 7 ∧ a ≠ b ∧ b ≠ c ∧ a ≠ c
def permT (p : List Int) (t : T3) : T3 := ⟨rd p t.f0, rd p t.f1, rd p t.f2⟩
def isP (n : Nat) (p : List Int) : Prop := p.length = n ∧ (inv p).length = n ∧ ∀ a, a < n → (0 ≤ rd p (a : Int) ∧ rd p (a : Int) < n ∧ 0 ≤ rd (inv p) (a : Int) ∧ rd (inv p) (a : Int) < n) ∧ ∀ x, x < n → ((x : Int) = rd p (a : Int) ↔ rd (inv p) (x : Int) = (a : Int))
theorem tri_mem (n : Nat) (hn : n ≤ 7) (t : T3) (h : t ∈ tri n) : ∃ a b c : Nat, t = ⟨a, b, c⟩ ∧ a < b ∧ b < c ∧ c < n := by
  obtain ⟨m, hm, rfl⟩ := List.getElem_of_mem h
  obtain ⟨a, b, c, h1, h2, h3, e⟩ := tri_nat n hn m hm
  exact ⟨a, b, c, e, h1, h2, h3⟩
def pickC (n : Nat) (s : ByteArray) (q : List Int) : List Int := (tri n).map fun t => pm (sg n s (rd q t.f0) (rd q t.f1) (rd q t.f2))
def pickT (n : Nat) (s : ByteArray) (q : List Int) : ByteArray := strOfNums (pickC n s q)
def rem2 (n i j k : Nat) : List T3 := ((List.range n).drop k).map fun c : Nat => (⟨i, j, c⟩ : T3)
def rem1 (n i j : Nat) : List T3 := ((List.range n).drop j).flatMap fun b : Nat => rem2 n i b (b + 1)
def rem0 (n i : Nat) : List T3 := ((List.range n).drop i).flatMap fun a : Nat => rem1 n a (a + 1)
def strP (n : Nat) (s : ByteArray) (q : List Int) (ts : List T3) : ByteArray := strOfNums (ts.map fun t => pm (sg n s (rd q t.f0) (rd q t.f1) (rd q t.f2)))
theorem strOfNums_size (a : List Int) : (strOfNums a).size = a.length := by
  unfold strOfNums
  show (Array.size _) = _
  simp
theorem szSigns_eqO (n : Int) (s : ByteArray) (a : Int) (h0 : 0 ≤ a) (h1 : a ≤ 1048576) (hl : s.size ≤ 9223372036854775807) : laws_szSigns.f n s a = some (if a < s.size then -1 else a - s.size) := by
  unfold laws_szSigns.f
  rw [wrap_in (by omega) (by omega)]
  by_cases h : a < (s.size : Int)
  · rw [if_pos h, if_pos (by omega)]
  · rw [if_neg h, if_neg (by omega)]
def texts (n : Nat) (s : ByteArray) : List ByteArray := (AN n).map fun p => pickT n s (inv p)
def oppT (s : ByteArray) : ByteArray := strOfNums (oppL s)
theorem bt_strOf (L : List Int) (j : Nat) (hj : j < L.length) (h : 0 ≤ L[j] ∧ L[j] < 256) : bt (strOfNums L) (j : Int) = L[j] := by
  unfold bt
  have hs : (strOfNums L).size = L.length := strOfNums_size L
  rw [dif_pos (by rw [Int.toNat_natCast, hs]; exact hj)]
  simp only [Int.toNat_natCast]
  have e : (strOfNums L)[j]'(by rw [hs]; exact hj) = UInt8.ofNat (L[j]).toNat := by
    show (strOfNums L).data[j]'_ = _
    simp [strOfNums]
  rw [e, UInt8.toNat_ofNat']
  omega
theorem mul_b (x y : Int) (h1 : -100 ≤ x) (h2 : x ≤ 100) (h3 : -100 ≤ y) (h4 : y ≤ 100) : -10000 ≤ x * y ∧ x * y ≤ 10000 := by
  have a := Int.mul_nonneg (show 0 ≤ 100 - x by omega) (show 0 ≤ 100 - y by omega)
  have b := Int.mul_nonneg (show 0 ≤ 100 + x by omega) (show 0 ≤ 100 + y by omega)
  have c := Int.mul_nonneg (show 0 ≤ 100 - x by omega) (show 0 ≤ 100 + y by omega)
  have d := Int.mul_nonneg (show 0 ≤ 100 + x by omega) (show 0 ≤ 100 - y by omega)
  have e1 : (100 - x) * (100 - y) = 10000 - 100 * x - 100 * y + x * y := by grind
  have e2 : (100 + x) * (100 + y) = 10000 + 100 * x + 100 * y + x * y := by grind
  have e3 : (100 - x) * (100 + y) = 10000 - 100 * x + 100 * y - x * y := by grind
  have e4 : (100 + x) * (100 - y) = 10000 + 100 * x - 100 * y - x * y := by grind
  rw [e1] at a
  rw [e2] at b
  rw [e3] at c
  rw [e4] at d
  omega
def cr (a b c : Pt) : Int := (b.f0 - a.f0) * (c.f1 - a.f1) - (b.f1 - a.f1) * (c.f0 - a.f0)
theorem cr_cyc (a b c : Pt) : cr a b c = cr b c a := by
  unfold cr
  grind
theorem cr_alt (a b c : Pt) : cr a b c = - cr a c b := by
  unfold cr
  grind
theorem areaP_cr (a b c : Pt) (ha : nearB 50 a = true) (hb : nearB 50 b = true) (hc : nearB 50 c = true) : areaP a b c = cr a b c := by
  unfold nearB at ha hb hc
  simp only [Bool.and_eq_true, decide_eq_true_eq] at ha hb hc
  have m1 := mul_b (b.f0 - a.f0) (c.f1 - a.f1) (by omega) (by omega) (by omega) (by omega)
  have m2 := mul_b (b.f1 - a.f1) (c.f0 - a.f0) (by omega) (by omega) (by omega) (by omega)
  unfold areaP cr
  rw [wrap_in (n := b.f0 - a.f0) (by omega) (by omega), wrap_in (n := c.f1 - a.f1) (by omega) (by omega), wrap_in (n := b.f1 - a.f1) (by omega) (by omega), wrap_in (n := c.f0 - a.f0) (by omega) (by omega)]
  rw [wrap_in (n := (b.f0 - a.f0) * (c.f1 - a.f1)) (by omega) (by omega), wrap_in (n := (b.f1 - a.f1) * (c.f0 - a.f0)) (by omega) (by omega), wrap_in (by omega) (by omega)]
theorem near_at {l : List Pt} (h : areP l = true) (i : Nat) (hi : i < l.length) : nearB 50 (rdP l i) = true := by
  unfold areP at h
  rw [Bool.and_eq_true, Bool.and_eq_true] at h
  exact nearAll_at h.2.1 i hi
def X (l : List Pt) (a b c : Nat) : Int := cr (rdP l a) (rdP l b) (rdP l c)
theorem X_cyc (l : List Pt) (a b c : Nat) : X l a b c = X l b c a := cr_cyc ..
theorem X_alt (l : List Pt) (a b c : Nat) : X l a b c = - X l a c b := cr_alt ..
theorem X_area {l : List Pt} (h : areP l = true) (a b c : Nat) (ha : a < l.length) (hb : b < l.length) (hc : c < l.length) : areaP (rdP l a) (rdP l b) (rdP l c) = X l a b c :=
  areaP_cr _ _ _ (near_at h a ha) (near_at h b hb) (near_at h c hc)
theorem X_up {l : List Pt} (h : areP l = true) (a b c : Nat) (hab : a < b) (hbc : b < c) (hc : c < l.length) : X l a b c ≠ 0 := by
  obtain ⟨t, ht, e⟩ := tri_in l.length c b a (areP_len h).2 hc hbc hab
  have h' := h
  unfold areP at h'
  rw [Bool.and_eq_true, Bool.and_eq_true, List.all_eq_true] at h'
  have g := h'.2.2 t ht
  rw [e] at g
  unfold bentT at g
  have g : (areaP (rdP l a) (rdP l b) (rdP l c) != 0) = true := g
  rw [X_area h a b c (by omega) (by omega) hc] at g
  simpa using g
theorem X_ne {l : List Pt} (h : areP l = true) (a b c : Nat) (ha : a < l.length) (hb : b < l.length) (hc : c < l.length) (h1 : a ≠ b) (h2 : b ≠ c) (h3 : a ≠ c) : X l a b c ≠ 0 := by
  have c1 := X_cyc l a b c
  have c2 := X_cyc l b c a
  have a1 := X_alt l a b c
  have a2 := X_alt l b c a
  have a3 := X_alt l c a b
  rcases Nat.lt_or_ge a b with k1 | k1 <;> rcases Nat.lt_or_ge b c with k2 | k2 <;> rcases Nat.lt_or_ge a c with k3 | k3
  · exact X_up h a b c k1 k2 hc
  · omega
  · have := X_up h a c b k3 (by omega) hb
    omega
  · have := X_up h c a b (by omega) k1 hb
    omega
  · have := X_up h b a c (by omega) k3 hc
    omega
  · have := X_up h b c a k2 (by omega) ha
    omega
  · omega
  · have := X_up h c b a (by omega) (by omega) ha
    omega
def sx (l : List Pt) (a b c : Nat) : Int := sgn (X l a b c)
theorem sgn_neg (x : Int) : sgn (-x) = - sgn x := by
  unfold sgn
  split <;> split <;> (try split) <;> (try split) <;> omega
theorem sgn_pos (x : Int) : sgn x = 1 ↔ 0 < x := by
  unfold sgn
  split
  · omega
  · split <;> omega
theorem sgn_min (x : Int) : sgn x = -1 ↔ x < 0 := by
  unfold sgn
  split
  · omega
  · split <;> omega
theorem sx_cyc (l : List Pt) (a b c : Nat) : sx l a b c = sx l b c a := by unfold sx; rw [X_cyc]
theorem sx_alt (l : List Pt) (a b c : Nat) : sx l a b c = - sx l a c b := by unfold sx; rw [X_alt, sgn_neg]
theorem sx_pm {l : List Pt} (h : areP l = true) (a b c : Nat) (ha : a < l.length) (hb : b < l.length) (hc : c < l.length) (h1 : a ≠ b) (h2 : b ≠ c) (h3 : a ≠ c) : sx l a b c = 1 ∨ sx l a b c = -1 := by
  have := X_ne h a b c ha hb hc h1 h2 h3
  unfold sx sgn
  split
  · exact Or.inr rfl
  · split
    · exact Or.inl rfl
    · omega
def codeX (l : List Pt) (t : T3) : Int := pm (X l t.f0.toNat t.f1.toNat t.f2.toNat)
def sO (l : List Pt) : ByteArray := strOfNums ((tri l.length).map (codeX l))
theorem sO_size (l : List Pt) : (sO l).size = (tri l.length).length := by
  unfold sO
  rw [strOfNums_size, List.length_map]
theorem pm_two (v : Int) : pm v = 43 ∨ pm v = 45 := by
  unfold pm
  split
  · exact Or.inl rfl
  · exact Or.inr rfl
theorem sgAt_sO {l : List Pt} (hn : l.length ≤ 7) (h : areP l = true) (m : Nat) (hm : m < (tri l.length).length) (a b c : Nat) (e : (tri l.length)[m] = ⟨a, b, c⟩) (hab : a < b) (hbc : b < c) (hc : c < l.length) : sgAt (sO l) m = sx l a b c := by
  have hb : bt (sO l) (m : Int) = pm (X l a b c) := by
    unfold sO
    have g : ((tri l.length).map (codeX l))[m]'(by rw [List.length_map]; exact hm) = pm (X l a b c) := by
      rw [List.getElem_map, e]
      rfl
    rw [bt_strOf _ m (by rw [List.length_map]; exact hm) (by rw [g]; rcases pm_two (X l a b c) with k | k <;> omega), g]
  have hx := X_up h a b c hab hbc hc
  unfold sgAt sx
  rw [hb]
  unfold pm sgn
  by_cases k : X l a b c > 0
  · rw [if_pos k, if_neg (by omega), if_neg (by omega), if_pos k]
  · rw [if_neg k, if_pos rfl, if_pos (by omega)]
theorem src_in : ∀ (ts : List T3) (m : Nat) (x y z : Int) (q : Nat) (b : Bool), src ts m x y z = some (q, b) → ∃ i, ∃ h : i < ts.length, q = m + i ∧ par ts[i] x y z = some b
  | [], m, x, y, z, q, b, h => by simp [src] at h
  | t :: ts, m, x, y, z, q, b, h => by
    rw [src] at h
    cases hs : src ts (m + 1) x y z with
    | some p =>
      rw [hs] at h
      obtain ⟨q', b'⟩ := p
      simp only [Option.some_or, Option.some.injEq, Prod.mk.injEq] at h
      obtain ⟨rfl, rfl⟩ := h
      obtain ⟨i, hi, e, hp⟩ := src_in ts (m + 1) x y z _ _ hs
      exact ⟨i + 1, by rw [List.length_cons]; omega, by omega, by rw [List.getElem_cons_succ]; exact hp⟩
    | none =>
      rw [hs] at h
      cases hp : par t x y z with
      | none => rw [hp] at h; simp at h
      | some b' =>
        rw [hp] at h
        simp only [Option.map_some, Option.none_or, Option.some.injEq, Prod.mk.injEq] at h
        obtain ⟨rfl, rfl⟩ := h
        exact ⟨0, by rw [List.length_cons]; omega, rfl, hp⟩
theorem sg_sO {l : List Pt} (h : areP l = true) (x y z : Nat) (hx : x < l.length) (hy : y < l.length) (hz : z < l.length) (h1 : x ≠ y) (h2 : y ≠ z) (h3 : x ≠ z) : sg l.length (sO l) x y z = sx l x y z := by
  have hn := (areP_len h).2
  have hs := srt_ok l.length x y z hn hx hy hz h1 h2 h3
  unfold okSrt at hs
  unfold sg
  cases ha : srt l.length x y z with
  | none => rw [ha] at hs; simp at hs
  | some v =>
    cases hb : src (tri l.length) 0 x y z with
    | none => rw [ha, hb] at hs; simp at hs
    | some w =>
      obtain ⟨q, b⟩ := w
      obtain ⟨i, hi, e, hp⟩ := src_in _ _ _ _ _ _ _ hb
      obtain rfl : q = i := by omega
      obtain ⟨a, b', c, k1, k2, k3, ht⟩ := tri_nat l.length hn q hi
      have hA := sgAt_sO hn h q hi a b' c ht k1 k2 k3
      rw [ht] at hp
      unfold par at hp
      dsimp only at hp
      have c1 := sx_cyc l a b' c
      have c2 := sx_cyc l b' c a
      have a1 := sx_alt l a b' c
      have a2 := sx_alt l b' c a
      have a3 := sx_alt l c a b'
      have hpm := sx_pm h a b' c (by omega) (by omega) k3 (by omega) (by omega) (by omega)
      split at hp
      · rename_i g
        obtain rfl : true = b := Option.some.inj hp
        show sgAt (sO l) q = _
        rw [hA]
        rcases g with ⟨g1, g2, g3⟩ | ⟨g1, g2, g3⟩ | ⟨g1, g2, g3⟩
        · obtain rfl : x = a := by omega
          obtain rfl : y = b' := by omega
          obtain rfl : z = c := by omega
          rfl
        · obtain rfl : x = b' := by omega
          obtain rfl : y = c := by omega
          obtain rfl : z = a := by omega
          exact c1
        · obtain rfl : x = c := by omega
          obtain rfl : y = a := by omega
          obtain rfl : z = b' := by omega
          omega
      · split at hp
        · rename_i g
          obtain rfl : false = b := Option.some.inj hp
          show wrap64 (-(sgAt (sO l) q)) = _
          rw [hA, wrap_in (by omega) (by omega)]
          rcases g with ⟨g1, g2, g3⟩ | ⟨g1, g2, g3⟩ | ⟨g1, g2, g3⟩
          · obtain rfl : x = a := by omega
            obtain rfl : y = c := by omega
            obtain rfl : z = b' := by omega
            omega
          · obtain rfl : x = c := by omega
            obtain rfl : y = b' := by omega
            obtain rfl : z = a := by omega
            omega
          · obtain rfl : x = b' := by omega
            obtain rfl : y = a := by omega
            obtain rfl : z = c := by omega
            omega
        · exact absurd hp (by simp)
theorem X_ex (l : List Pt) (a b c d e : Nat) : X l a b c * X l a d e - X l a b d * X l a c e + X l a b e * X l a c d = 0 := by
  unfold X cr
  grind
theorem X_in (l : List Pt) (a b c d : Nat) : X l b c d - X l a c d + X l a b d - X l a b c = 0 := by
  unfold X cr
  grind
theorem sgn_mul (x y : Int) : sgn x * sgn y = sgn (x * y) := by
  rcases Int.lt_trichotomy x 0 with hx | hx | hx
  · rcases Int.lt_trichotomy y 0 with hy | hy | hy
    · have := Int.mul_pos_of_neg_of_neg hx hy
      rw [(sgn_min x).2 hx, (sgn_min y).2 hy, (sgn_pos _).2 this]
      rfl
    · subst hy
      simp [sgn]
    · have := Int.mul_neg_of_neg_of_pos hx hy
      rw [(sgn_min x).2 hx, (sgn_pos y).2 hy, (sgn_min _).2 this]
      rfl
  · subst hx
    simp [sgn]
  · rcases Int.lt_trichotomy y 0 with hy | hy | hy
    · have := Int.mul_neg_of_pos_of_neg hx hy
      rw [(sgn_pos x).2 hx, (sgn_min y).2 hy, (sgn_min _).2 this]
      rfl
    · subst hy
      simp [sgn]
    · have := Int.mul_pos hx hy
      rw [(sgn_pos x).2 hx, (sgn_pos y).2 hy, (sgn_pos _).2 this]
      rfl
theorem sgn_range (x : Int) : -1 ≤ sgn x ∧ sgn x ≤ 1 := by
  unfold sgn
  split
  · omega
  · split <;> omega
theorem brk_no {l : List Pt} (h : areP l = true) (a b c d e : Nat) (ha : a < l.length) (hbc : b < c) (hcd : c < d) (hde : d < e) (he : e < l.length) (h1 : a ≠ b) (h2 : a ≠ c) (h3 : a ≠ d) (h4 : a ≠ e) : brk l.length (sO l) a b c d e = false := by
  unfold brk
  rw [sg_sO h a b c ha (by omega) (by omega) h1 (by omega) h2, sg_sO h a d e ha (by omega) (by omega) h3 (by omega) h4, sg_sO h a b e ha (by omega) (by omega) h1 (by omega) h4, sg_sO h a c d ha (by omega) (by omega) h2 (by omega) h3, sg_sO h a b d ha (by omega) (by omega) h1 (by omega) h3, sg_sO h a c e ha (by omega) (by omega) h2 (by omega) h4]
  have k1 : sx l a b c * sx l a d e = sgn (X l a b c * X l a d e) := sgn_mul _ _
  have k2 : sx l a b e * sx l a c d = sgn (X l a b e * X l a c d) := sgn_mul _ _
  have k3 : wrap64 (-(sx l a b d)) * sx l a c e = sgn (-(X l a b d * X l a c e)) := by
    have := sgn_range (X l a b d)
    unfold sx
    rw [wrap_in (by omega) (by omega), ← sgn_neg, sgn_mul, Int.neg_mul]
  rw [k1, k2, k3]
  have hx := X_ex l a b c d e
  have n1 : X l a b c * X l a d e ≠ 0 := by
    intro g
    rcases Int.mul_eq_zero.1 g with g | g
    · exact X_ne h a b c ha (by omega) (by omega) h1 (by omega) h2 g
    · exact X_ne h a d e ha (by omega) (by omega) h3 (by omega) h4 g
  generalize X l a b c * X l a d e = u at hx n1 ⊢
  generalize X l a b e * X l a c d = v at hx ⊢
  generalize X l a b d * X l a c e = w at hx ⊢
  have r1 := sgn_range u
  have r2 := sgn_range v
  have r3 := sgn_range (-w)
  rw [wrap_in (by omega) (by omega), wrap_in (by omega) (by omega), wrap_in (by omega) (by omega)]
  rw [Bool.and_eq_false_iff, decide_eq_false_iff_not, beq_eq_false_iff_ne]
  by_cases g : sgn u = sgn v
  · right
    intro g2
    rcases Int.lt_trichotomy u 0 with hu | hu | hu
    · rw [(sgn_min u).2 hu] at g
      have hv := (sgn_min v).1 g.symm
      rw [← g] at g2
      have hw := (sgn_min (-w)).1 g2.symm
      omega
    · exact n1 hu
    · rw [(sgn_pos u).2 hu] at g
      have hv := (sgn_pos v).1 g.symm
      rw [← g] at g2
      have hw := (sgn_pos (-w)).1 g2.symm
      omega
  · left
    exact g
theorem quad_nat (n : Nat) (hn : n ≤ 7) (q : Q4) (hq : q ∈ quad n) : ∃ a b c d : Nat, q = ⟨a, b, c, d⟩ ∧ a < b ∧ b < c ∧ c < d ∧ d < n := by
  have h := (quad_ok n hn).1
  rw [List.all_eq_true] at h
  have h := h q hq
  obtain ⟨a, b, c, d⟩ := q
  unfold okQ at h
  rw [decide_eq_true_eq] at h
  dsimp only at h
  obtain ⟨a, rfl⟩ := Int.eq_ofNat_of_zero_le h.1
  obtain ⟨b, rfl⟩ := Int.eq_ofNat_of_zero_le (show 0 ≤ b by omega)
  obtain ⟨c, rfl⟩ := Int.eq_ofNat_of_zero_le (show 0 ≤ c by omega)
  obtain ⟨d, rfl⟩ := Int.eq_ofNat_of_zero_le (show 0 ≤ d by omega)
  exact ⟨a, b, c, d, rfl, by omega, by omega, by omega, by omega⟩
theorem isM_sO {l : List Pt} (h : areP l = true) : isM (l.length : Int) (sO l) = true := by
  obtain ⟨h3, h7⟩ := areP_len h
  unfold isM
  rw [Bool.and_eq_true, Int.toNat_natCast]
  constructor
  · unfold isS
    rw [Bool.and_eq_true, decide_eq_true_eq, sO_size]
    refine ⟨⟨by omega, by omega, tri_length _ h7⟩, ?_⟩
    rw [List.all_eq_true]
    intro m hm
    have hm : m < (tri l.length).length := by simpa using hm
    unfold isPM
    have hb : bt (sO l) (m : Int) = codeX l (tri l.length)[m] := by
      unfold sO
      have g : ((tri l.length).map (codeX l))[m]'(by rw [List.length_map]; exact hm) = codeX l (tri l.length)[m] := by rw [List.getElem_map]
      rw [bt_strOf _ m (by rw [List.length_map]; exact hm) (by rw [g]; unfold codeX; rcases pm_two (X l (tri l.length)[m].f0.toNat (tri l.length)[m].f1.toNat (tri l.length)[m].f2.toNat) with k | k <;> omega), g]
    rw [hb]
    unfold codeX
    rcases pm_two (X l (tri l.length)[m].f0.toNat (tri l.length)[m].f1.toNat (tri l.length)[m].f2.toNat) with k | k <;> rw [k] <;> rfl
  · rw [Bool.not_eq_true']
    unfold anyB
    rw [List.any_eq_false]
    intro a ha
    rw [List.mem_range] at ha
    unfold anyA
    rw [Bool.not_eq_true, List.any_eq_false]
    intro q hq
    obtain ⟨b, c, d, e, rfl, k1, k2, k3, k4⟩ := quad_nat _ h7 q hq
    rw [Bool.not_eq_true, Bool.and_eq_false_iff]
    cases hv : avoid (a : Int) ⟨b, c, d, e⟩ with
    | false => exact Or.inl rfl
    | true =>
      right
      unfold avoid at hv
      dsimp only at hv
      rw [Bool.not_eq_true'] at hv
      simp only [Bool.or_eq_false_iff, beq_eq_false_iff_ne] at hv
      exact brk_no h a b c d e ha k1 k2 k3 k4 (by omega) (by omega) (by omega) (by omega)
theorem all_txt : (bools.all fun x => bools.all fun y => bools.all fun z => (decide ((txt x y z).toList = ([43, 43, 43, 43] : List UInt8))) == (x && y && z)) = true := by decide +kernel
theorem txt_plus (x y z : Bool) (h : (txt x y z).toList = ([43, 43, 43, 43] : List UInt8)) : x = true ∧ y = true ∧ z = true := by
  have g := all_txt
  rw [List.all_eq_true] at g
  have g := g x (mem_bools x)
  rw [List.all_eq_true] at g
  have g := g y (mem_bools y)
  rw [List.all_eq_true] at g
  have g := eq_of_beq (g z (mem_bools z))
  rw [decide_eq_true h] at g
  have g := g.symm
  simpa [and_assoc] using g
theorem isA_sO {l : List Pt} (h : areP l = true) : isA (l.length : Int) (sO l) = true := by
  obtain ⟨h3, h7⟩ := areP_len h
  unfold isA
  rw [isM_sO h, Bool.true_and, Int.toNat_natCast]
  unfold acyT
  rw [List.all_eq_true]
  intro q hq
  obtain ⟨a, b, c, d, rfl, k1, k2, k3, k4⟩ := quad_nat _ h7 q hq
  unfold mixQ mixed
  dsimp only
  rw [Bool.not_eq_true', decide_eq_false_iff_not]
  have p1 := sx_pm h b c d (by omega) (by omega) (by omega) (by omega) (by omega) (by omega)
  have p2 := sx_pm h a c d (by omega) (by omega) (by omega) (by omega) (by omega) (by omega)
  have p3 := sx_pm h a b d (by omega) (by omega) (by omega) (by omega) (by omega) (by omega)
  have p4 := sx_pm h a b c (by omega) (by omega) (by omega) (by omega) (by omega) (by omega)
  rw [sg_sO h b c d (by omega) (by omega) (by omega) (by omega) (by omega) (by omega), sg_sO h a c d (by omega) (by omega) (by omega) (by omega) (by omega) (by omega), sg_sO h a b d (by omega) (by omega) (by omega) (by omega) (by omega) (by omega), sg_sO h a b c (by omega) (by omega) (by omega) (by omega) (by omega) (by omega)]
  rw [circ_txt _ _ _ _ p1 p2 p3 p4]
  intro g
  obtain ⟨g1, g2, g3⟩ := txt_plus _ _ _ g
  rw [bne_iff_ne] at g1 g3
  have g2 := eq_of_beq g2
  have hx := X_in l a b c d
  unfold sx at p1 p2 p3 p4 g1 g2 g3
  rcases p1 with p1 | p1
  · have q1 := (sgn_pos _).1 p1
    have q2 := (sgn_min (X l a c d)).1 (by omega)
    have q3 := (sgn_pos (X l a b d)).1 (by omega)
    have q4 := (sgn_min (X l a b c)).1 (by omega)
    omega
  · have q1 := (sgn_min _).1 p1
    have q2 := (sgn_pos (X l a c d)).1 (by omega)
    have q3 := (sgn_min (X l a b d)).1 (by omega)
    have q4 := (sgn_pos (X l a b c)).1 (by omega)
    omega
def edP (m : Nat) : List (Nat × Nat) := ((List.range m).drop 0).flatMap fun a => ((List.range m).drop (a + 1)).map fun b => (a, b)
def edQ (m : Nat) : List (S81) := (edP m).map fun e => ⟨(e.1 : Int), (e.2 : Int)⟩
def tup2 (q : S81) : Int × Int := (q.f0, q.f1)
def untup2 (q : Int × Int) : S81 := ⟨q.1, q.2⟩
theorem untup2_map (l : List (S81)) : (l.map tup2).map untup2 = l := by
  rw [List.map_map]
  exact List.map_id' l
theorem all_edQ : (List.range 6).all (fun m => (impl_edgesOf.f 100 (m : Int)).map (fun l => l.map tup2) == some ((edQ m).map tup2)) = true := by decide +kernel
theorem edQ_some (m : Nat) (hm : m ≤ 5) : impl_edgesOf.f 100 (m : Int) = some (edQ m) := by
  have h := all_edQ
  rw [List.all_eq_true] at h
  have h := eq_of_beq (h m (by simp; omega))
  cases e : impl_edgesOf.f 100 (m : Int) with
  | none => rw [e] at h; cases h
  | some l =>
    rw [e] at h
    have h := Option.some.inj h
    have h := congrArg (List.map untup2) h
    rw [untup2_map, untup2_map] at h
    rw [h]
theorem edP_mem (m : Nat) (e : Nat × Nat) : e ∈ edP m ↔ e.1 < e.2 ∧ e.2 < m := by
  unfold edP
  obtain ⟨a, b⟩ := e
  simp only [List.drop_zero, List.mem_flatMap, List.mem_map, List.mem_range, Prod.mk.injEq]
  constructor
  · rintro ⟨x, hx, y, hy, rfl, rfl⟩
    obtain ⟨i, hi, e⟩ := List.getElem_of_mem hy
    simp only [List.length_drop, List.length_range] at hi
    rw [List.getElem_drop, List.getElem_range] at e
    exact ⟨by omega, by omega⟩
  · rintro ⟨h1, h2⟩
    refine ⟨a, by omega, b, ?_, rfl, rfl⟩
    rw [List.mem_iff_getElem]
    exact ⟨b - (a + 1), by simp; omega, by rw [List.getElem_drop, List.getElem_range]; omega⟩
theorem edP_len (m : Nat) (hm : m ≤ 5) : (edP m).length ≤ 10 := by
  have : m = 0 ∨ m = 1 ∨ m = 2 ∨ m = 3 ∨ m = 4 ∨ m = 5 := by omega
  rcases this with rfl | rfl | rfl | rfl | rfl | rfl <;> decide
section
variable (n : Nat) (s : ByteArray)
def okPl (l : List Pt) (p : Pt) (e : Nat × Nat) : Bool := sgn (areaP (rdP l e.1) (rdP l e.2) p) == sg n s e.1 e.2 l.length
def fitI (l : List Pt) (p : Pt) : Bool := (edP l.length).all (okPl n s l p)
def eqP (p q : Pt) : Bool := p.f0 == q.f0 && (p.f1 == q.f1)
def fitS (l : List Pt) (p : Pt) : Bool := fitI n s l p && (List.range l.length).all fun i => !eqP (rdP l i) p
def grd (M : Nat) : List Pt := ((List.range M).drop 0).flatMap fun x : Nat => ((List.range M).drop 0).map fun y : Nat => (⟨(x : Int), (y : Int)⟩ : Pt)
def fnd (fit : List Pt → Pt → Bool) (M : Nat) : Nat → List Pt → Option (List Pt)
  | 0, l => some l
  | d + 1, l => (grd M).findSome? fun p => if fit l p then fnd fit M d (l ++ [p]) else none
def res : Option (List Pt) → List Pt × Bool
  | some l => (l, true)
  | none => ([], false)
end
theorem grd_near (M : Nat) (hM : M ≤ 6) (p : Pt) (hp : p ∈ grd M) : nearB 50 p = true ∧ 0 ≤ p.f0 ∧ 0 ≤ p.f1 := by
  unfold grd at hp
  simp only [List.drop_zero, List.mem_flatMap, List.mem_map, List.mem_range] at hp
  obtain ⟨x, hx, y, hy, rfl⟩ := hp
  unfold nearB
  simp only [Bool.and_eq_true, decide_eq_true_eq]
  omega
theorem rdP_app (l : List Pt) (p : Pt) (i : Nat) (hi : i < l.length) : rdP (l ++ [p]) i = rdP l i := by
  rw [rdP_lt _ i (by simp; omega), rdP_lt _ i hi, List.getElem_append_left hi]
theorem rdP_last (l : List Pt) (p : Pt) : rdP (l ++ [p]) l.length = p := by
  rw [rdP_lt _ _ (by simp)]
  simp
theorem area_same (p q : Pt) (hp : nearB 50 p = true) (hq : nearB 50 q = true) : areaP p p q = 0 ∧ areaP p q p = 0 ∧ areaP q p p = 0 := by
  rw [areaP_cr p p q hp hp hq, areaP_cr p q p hp hq hp, areaP_cr q p p hq hp hp]
  unfold cr
  refine ⟨?_, ?_, ?_⟩ <;> grind
theorem eqP_eq {p q : Pt} (h : eqP p q = true) : p = q := by
  unfold eqP at h
  obtain ⟨a, b⟩ := p
  obtain ⟨c, d⟩ := q
  simp only [Bool.and_eq_true, beq_iff_eq] at h
  obtain ⟨rfl, rfl⟩ := h
  rfl
def nr (l : List Pt) : Prop := ∀ i, i < l.length → nearB 50 (rdP l i) = true
theorem nr_app {l : List Pt} {p : Pt} (h : nr l) (hp : nearB 50 p = true) : nr (l ++ [p]) := by
  intro i hi
  by_cases e : i < l.length
  · rw [rdP_app l p i e]
    exact h i e
  · rw [show i = l.length by simp at hi; omega, rdP_last]
    exact hp
theorem fnd_same (n : Nat) (hn : n ≤ 7) (h3 : 3 ≤ n) (s : ByteArray) (M : Nat) (hM : M ≤ 6) : ∀ d l, l.length + d = n → nr l → fnd (fitS n s) M d l = fnd (fitI n s) M d l := by
  intro d
  induction d with
  | zero => intro l _ _; rfl
  | succ d ih =>
    intro l hl hnr
    rw [fnd, fnd]
    have key : ∀ g : List Pt, (∀ p ∈ g, nearB 50 p = true) → (g.findSome? fun p => if fitS n s l p then fnd (fitS n s) M d (l ++ [p]) else none) = g.findSome? fun p => if fitI n s l p then fnd (fitI n s) M d (l ++ [p]) else none := by
      intro g hg
      induction g with
      | nil => rfl
      | cons p g ihg =>
        have hp := hg p (List.mem_cons_self ..)
        have ihg := ihg (fun q hq => hg q (List.mem_cons_of_mem _ hq))
        have e : (if fitS n s l p then fnd (fitS n s) M d (l ++ [p]) else none) = if fitI n s l p then fnd (fitI n s) M d (l ++ [p]) else none := by
          have hrec := ih (l ++ [p]) (by simp; omega) (nr_app hnr hp)
          cases hI : fitI n s l p with
          | false =>
            have : fitS n s l p = false := by unfold fitS; rw [hI]; rfl
            rw [this]
            rfl
          | true =>
            cases hS : fitS n s l p with
            | true => rw [if_pos rfl, if_pos rfl]; exact hrec
            | false =>
              rw [if_neg (by simp), if_pos rfl]
              unfold fitS at hS
              rw [hI, Bool.true_and, List.all_eq_false] at hS
              obtain ⟨i, hi, hq⟩ := hS
              rw [List.mem_range] at hi
              have hq : rdP l i = p := eqP_eq (by simpa using hq)
              unfold fitI at hI
              rw [List.all_eq_true] at hI
              by_cases h1 : l.length = 1
              · -- a point twice: nothing fits behind it
                symm
                obtain ⟨d', rfl⟩ : ∃ d', d = d' + 1 := ⟨d - 1, by omega⟩
                rw [fnd]
                rw [List.findSome?_eq_none_iff]
                intro q hqm
                have hqn := (grd_near M hM q hqm).1
                have hf : fitI n s (l ++ [p]) q = false := by
                  unfold fitI
                  rw [List.all_eq_false]
                  refine ⟨(0, 1), (edP_mem _ _).2 ⟨by omega, by simp; omega⟩, ?_⟩
                  unfold okPl
                  dsimp only
                  have a0 : rdP (l ++ [p]) 0 = p := by rw [rdP_app l p 0 (by omega), ← hq, show i = 0 by omega]
                  have a1 : rdP (l ++ [p]) 1 = p := by have := rdP_last l p; rwa [h1] at this
                  rw [a0, a1, (area_same p q hp hqn).1]
                  have hlp : (l ++ [p]).length = 2 := by rw [List.length_append, h1]; rfl
                  have := sg_pm n hn s 0 1 (l ++ [p]).length (by omega) (by omega) (by omega) (by omega) (by omega) (by omega)
                  rw [Bool.not_eq_true, beq_eq_false_iff_ne]
                  show (0 : Int) ≠ _
                  have h01 : ((0 : Nat) : Int) = 0 := rfl
                  rcases this with g | g
                  · intro e
                    have e : (0 : Int) = sg n s ((0 : Nat) : Int) ((1 : Nat) : Int) ((l ++ [p]).length : Int) := e
                    omega
                  · intro e
                    have e : (0 : Int) = sg n s ((0 : Nat) : Int) ((1 : Nat) : Int) ((l ++ [p]).length : Int) := e
                    omega
                rw [hf]
                rfl
              · exfalso
                by_cases hi0 : i = 0
                · have g := hI (0, 1) ((edP_mem _ _).2 ⟨by omega, by dsimp only; omega⟩)
                  unfold okPl at g
                  dsimp only at g
                  rw [show rdP l 0 = p by rw [← hq, hi0], (area_same p (rdP l 1) hp (hnr 1 (by omega))).2.1, beq_iff_eq] at g
                  have := sg_pm n hn s 0 1 l.length (by omega) (by omega) (by omega) (by omega) (by omega) (by omega)
                  have g : (0 : Int) = sg n s ((0 : Nat) : Int) ((1 : Nat) : Int) (l.length : Int) := g
                  omega
                · have g := hI (0, i) ((edP_mem _ _).2 ⟨by dsimp only; omega, by dsimp only; omega⟩)
                  unfold okPl at g
                  dsimp only at g
                  rw [hq, (area_same p (rdP l 0) hp (hnr 0 (by omega))).2.2, beq_iff_eq] at g
                  have := sg_pm n hn s 0 i l.length (by omega) (by omega) (by omega) (by omega) (by omega) (by omega)
                  have g : (0 : Int) = sg n s ((0 : Nat) : Int) (i : Int) (l.length : Int) := g
                  omega
        rw [List.findSome?_cons, List.findSome?_cons, e, ihg]
    exact key (grd M) (fun p hp => (grd_near M hM p hp).1)
def rightP (n : Nat) (s : ByteArray) (l : List Pt) : Prop := nr l ∧ ∀ a b c, a < b → b < c → c < l.length → sgn (areaP (rdP l a) (rdP l b) (rdP l c)) = sg n s a b c
theorem fnd_right (n : Nat) (s : ByteArray) (M : Nat) (hM : M ≤ 6) : ∀ d l L, rightP n s l → fnd (fitI n s) M d l = some L → rightP n s L ∧ L.length = l.length + d := by
  intro d
  induction d with
  | zero =>
    intro l L h e
    obtain rfl := Option.some.inj e
    exact ⟨h, rfl⟩
  | succ d ih =>
    intro l L h e
    rw [fnd] at e
    obtain ⟨p, hp, e⟩ := List.exists_of_findSome?_eq_some e
    cases hf : fitI n s l p with
    | false => rw [hf, if_neg (by simp)] at e; cases e
    | true =>
      rw [hf, if_pos rfl] at e
      have hpn := (grd_near M hM p hp).1
      have hr : rightP n s (l ++ [p]) := by
        refine ⟨nr_app h.1 hpn, ?_⟩
        intro a b c hab hbc hc
        have hc : c < l.length + 1 := by simpa using hc
        rw [rdP_app l p a (by omega), rdP_app l p b (by omega)]
        by_cases ec : c = l.length
        · subst ec
          rw [rdP_last]
          unfold fitI at hf
          rw [List.all_eq_true] at hf
          have g := hf (a, b) ((edP_mem _ _).2 ⟨hab, hbc⟩)
          unfold okPl at g
          exact eq_of_beq g
        · rw [rdP_app l p c (by omega)]
          exact h.2 a b c hab hbc (by omega)
      obtain ⟨g1, g2⟩ := ih _ L hr e
      exact ⟨g1, by rw [g2]; simp; omega⟩
theorem fnd_acy (n : Nat) (s : ByteArray) (h3 : 3 ≤ n) (hn : n ≤ 7) (hS : isS n s = true) (M : Nat) (hM : M ≤ 6) (L : List Pt) (e : fnd (fitI n s) M n [] = some L) : isA n s = true := by
  obtain ⟨⟨hnr, hr⟩, hL⟩ := fnd_right n s M hM n [] L ⟨fun i hi => by simp at hi, fun a b c _ _ hc => by simp at hc⟩ e
  have hL : L.length = n := by simpa using hL
  subst hL
  have hA : areP L = true := by
    unfold areP
    rw [decide_eq_true ⟨h3, hn⟩, Bool.true_and, Bool.and_eq_true]
    constructor
    · unfold nearAll
      rw [List.all_eq_true]
      intro i hi
      exact hnr i (by simpa using hi)
    · rw [List.all_eq_true]
      intro t ht
      obtain ⟨a, b, c, rfl, k1, k2, k3⟩ := tri_mem L.length hn t ht
      have g := hr a b c k1 k2 k3
      have h1 := sg_pm L.length hn s a b c (by omega) (by omega) k3 (by omega) (by omega) (by omega)
      unfold bentT
      show (areaP (rdP L a) (rdP L b) (rdP L c) != 0) = true
      rw [bne_iff_ne]
      intro h0
      rw [h0] at g
      have g : (0 : Int) = sg L.length s a b c := g
      omega
  obtain ⟨_, _, hs, _⟩ := isS_bounds hS
  rw [Int.toNat_natCast] at hs
  have hsO : sO L = s := by
    have hbt : ∀ m, (hm : m < (tri L.length).length) → bt s (m : Int) = codeX L (tri L.length)[m] := by
      intro m hm
      obtain ⟨a, b, c, k1, k2, k3, et⟩ := tri_nat L.length hn m hm
      have g := hr a b c k1 k2 k3
      have hsrc := tri_src L.length hn m hm
      rw [et] at hsrc
      dsimp only at hsrc
      have hg : sg L.length s a b c = sgAt s m := by
        unfold sg
        rw [hsrc]
        rfl
      rw [hg, X_area hA a b c (by omega) (by omega) k3] at g
      unfold isS at hS
      rw [Bool.and_eq_true, List.all_eq_true] at hS
      have hp := hS.2 m (by rw [List.mem_range, hs]; exact hm)
      unfold isPM at hp
      rw [Bool.or_eq_true, beq_iff_eq, beq_iff_eq] at hp
      rw [et]
      show bt s (m : Int) = pm (X L a b c)
      unfold sgAt at g
      rcases hp with hp | hp
      · rw [if_neg (by omega)] at g
        have := (sgn_pos _).1 g
        unfold pm
        rw [if_pos this, hp]
      · rw [if_pos hp] at g
        have := (sgn_min _).1 g
        unfold pm
        rw [if_neg (by omega), hp]
    unfold sO
    apply ByteArray.ext
    apply Array.ext'
    have hsz : s.data.toList.length = (tri L.length).length := hs
    apply List.ext_getElem
    · simp [strOfNums, hsz]
    · intro m h1 h2
      have hm : m < (tri L.length).length := by omega
      have e1 := hbt m hm
      unfold bt at e1
      rw [dif_pos (by rw [Int.toNat_natCast]; omega)] at e1
      simp only [Int.toNat_natCast] at e1
      simp only [strOfNums, List.getElem_map, ← e1]
      simp
      rfl
  rw [← hsO]
  exact isA_sO hA
theorem fitS_any (n : Nat) (s : ByteArray) (l : List Pt) (p : Pt) : fitS n s l p = !(((List.range l.length).drop 0).any fun i => (((List.range l.length).drop (i + 1)).any fun j => !okPl n s l p (i, j)) || eqP (rdP l i) p) := by
  rw [Bool.eq_iff_iff, Bool.not_eq_true', List.any_eq_false]
  unfold fitS fitI
  rw [Bool.and_eq_true, List.all_eq_true, List.all_eq_true]
  constructor
  · rintro ⟨h1, h2⟩ i hi
    rw [List.drop_zero, List.mem_range] at hi
    rw [Bool.not_eq_true, Bool.or_eq_false_iff, List.any_eq_false]
    refine ⟨fun j hj => ?_, ?_⟩
    · have hm : (i, j) ∈ edP l.length := by
        unfold edP
        rw [List.mem_flatMap]
        exact ⟨i, by rw [List.drop_zero, List.mem_range]; exact hi, List.mem_map.2 ⟨j, hj, rfl⟩⟩
      rw [h1 _ hm]
      simp
    · have := h2 i (by rw [List.mem_range]; exact hi)
      simpa using this
  · intro h
    constructor
    · intro e he
      obtain ⟨a, b⟩ := e
      have hab := (edP_mem _ _).1 he
      unfold edP at he
      rw [List.mem_flatMap] at he
      obtain ⟨x, hx, hy⟩ := he
      obtain ⟨y, hy', e⟩ := List.mem_map.1 hy
      obtain ⟨rfl, rfl⟩ := Prod.mk.inj e
      have g := h x hx
      rw [Bool.not_eq_true, Bool.or_eq_false_iff, List.any_eq_false] at g
      have := g.1 y hy'
      simpa using this
    · intro i hi
      have g := h i (by rw [List.drop_zero]; exact hi)
      rw [Bool.not_eq_true, Bool.or_eq_false_iff] at g
      rw [g.2]
      rfl
theorem spec_fits_ev (n : Nat) (hn : n ≤ 5) (s : ByteArray) (hs : s.size = (tri n).length) (l : List Pt) (hl : l.length < n) (hnr : nr l) (p : Pt) (hp : nearB 50 p = true) : Ev (fun k => spec_l23Fits.f k (n : Int) s l p.f0 p.f1) (fitS n s l p) := by
  rw [fitS_any]
  unfold spec_l23Fits.f
  have key := Srch.of (fun (i : Nat) k => spec_l23Fits.l0 k l (l.length : Int) (i : Int) (n : Int) s p.f0 p.f1) l.length (fun i => (((List.range l.length).drop (i + 1)).any fun j => !okPl n s l p (i, j)) || eqP (rdP l i) p) false 0 (by omega) ?_
  · have h := key.ans (w := true) (Ev.step (fun k => spec_l23Fits.l0.eq_2 ..) (Ev.ite_neg (by omega) (Ev.now _)))
    cases hh : ((List.range l.length).drop 0).any (fun i => (((List.range l.length).drop (i + 1)).any fun j => !okPl n s l p (i, j)) || eqP (rdP l i) p) <;> rw [hh] at h <;> exact h
  · intro i _ hi r h1 h2
    refine Ev.step (fun k => spec_l23Fits.l0.eq_2 ..) (Ev.ite_pos (by omega) ?_)
    rw [wrap_nat i (by omega)]
    refine Srch.of (fun (j : Nat) k => spec_l23Fits.l1 k l (l.length : Int) (i : Int) (j : Int) (n : Int) s p.f0 p.f1) l.length (fun j => !okPl n s l p (i, j)) false (i + 1) (by omega) ?_ r (fun g => h1 (by rw [g]; rfl)) (fun g => ?_)
    · intro j hij hj r g1 g2
      have hA : spec_l2Area.f (rdP l i).f0 (rdP l i).f1 (rdP l j).f0 (rdP l j).f1 p.f0 p.f1 = some (areaP (rdP l i) (rdP l j) p) := rfl
      refine Ev.step (fun k => spec_l23Fits.l1.eq_2 ..) (Ev.ite_pos (by omega) (Ev.ite_pos (by omega) (Ev.ite_pos (by omega) (Ev.ite_pos (by omega) (Ev.ite_pos (by omega) (Ev.bind0 hA (Ev.bind0 (l2Sign_eq _) (Ev.bind (l3At_ev n (by omega) s hs i j l.length (by omega) (by omega) (by omega) (by omega) (by omega) (by omega)) ?_))))))))
      rw [wrap_nat j (by omega)]
      unfold okPl at g1 g2
      by_cases e : sgn (areaP (rdP l i) (rdP l j) p) = sg n s i j l.length
      · exact Ev.ite_pos e (g2 (by simpa using e))
      · rw [g1 (by simpa using e)]
        exact Ev.ite_neg e (Ev.now _)
    · refine Ev.step (fun k => spec_l23Fits.l1.eq_2 ..) (Ev.ite_neg (by omega) (Ev.ite_pos (by omega) (Ev.ite_pos (by omega) ?_)))
      rw [wrap_nat i (by omega)]
      cases he : eqP (rdP l i) p with
      | true =>
        rw [h1 (by rw [he, Bool.or_true])]
        exact Ev.ite_pos he (Ev.now _)
      | false =>
        refine Ev.ite_neg ?_ (h2 (by rw [g, he]; rfl))
        intro hc
        have hc : eqP (rdP l i) p = true := hc
        rw [he] at hc
        cases hc
def gp (x y : Nat) : Pt := ⟨(x : Int), (y : Int)⟩
theorem gp_near (M : Nat) (hM : M ≤ 6) (x y : Nat) (hx : x < M) (hy : y < M) : nearB 50 (gp x y) = true := by
  unfold nearB gp
  simp only [Bool.and_eq_true, decide_eq_true_eq]
  omega
theorem spec_place_ev (n : Nat) (hn : n ≤ 5) (s : ByteArray) (hs : s.size = (tri n).length) (most : Nat) (hm : most ≤ 5) : ∀ d l, l.length + d = n → nr l → Ev (fun k => spec_l23Place.f k (n : Int) s (most : Int) l) (res (fnd (fitS n s) (most + 1) d l)) := by
  intro d
  induction d with
  | zero =>
    intro l hl hnr
    exact Ev.step (fun k => spec_l23Place.f.eq_2 ..) (Ev.ite_pos (by omega) (Ev.now _))
  | succ d ih =>
    intro l hl hnr
    refine Ev.step (fun k => spec_l23Place.f.eq_2 ..) (Ev.ite_neg (by omega) ?_)
    rw [fnd]
    unfold grd
    generalize hF : (fun p => if fitS n s l p then fnd (fitS n s) (most + 1) d (l ++ [p]) else none) = F
    have hFp : ∀ p, F p = if fitS n s l p then fnd (fitS n s) (most + 1) d (l ++ [p]) else none := fun p => by rw [← hF]
    refine Ev.loop_to (fun (x : Nat) k => spec_l23Place.l0 k (most : Int) l (x : Int) (n : Int) s) (most + 1) (fun x => res ((((List.range (most + 1)).drop x).flatMap fun x : Nat => ((List.range (most + 1)).drop 0).map fun y : Nat => (⟨(x : Int), (y : Int)⟩ : Pt)).findSome? F)) ?_ ?_ 0 (by omega)
    · rw [List.drop_of_length_le (i := most + 1) (by simp)]
      exact Ev.step (fun k => spec_l23Place.l0.eq_2 ..) (Ev.ite_neg (by omega) (Ev.now _))
    · intro x hx ihx
      refine Ev.step (fun k => spec_l23Place.l0.eq_2 ..) (Ev.ite_pos (by omega) ?_)
      rw [range_dropS (most + 1) x hx, List.flatMap_cons]
      refine Ev.loop_to (fun (y : Nat) k => spec_l23Place.l1 k (most : Int) l (x : Int) (y : Int) (n : Int) s) (most + 1) (fun y => res ((((List.range (most + 1)).drop y).map (fun y : Nat => (⟨(x : Int), (y : Int)⟩ : Pt)) ++ ((List.range (most + 1)).drop (x + 1)).flatMap fun x : Nat => ((List.range (most + 1)).drop 0).map fun y : Nat => (⟨(x : Int), (y : Int)⟩ : Pt)).findSome? F)) ?_ ?_ 0 (by omega)
      · rw [List.drop_of_length_le (i := most + 1) (by simp), List.map_nil, List.nil_append]
        refine Ev.step (fun k => spec_l23Place.l1.eq_2 ..) (Ev.ite_neg (by omega) ?_)
        rw [wrap_nat x (by omega)]
        exact ihx
      · intro y hy ihy
        have hp := gp_near (most + 1) (by omega) x y hx hy
        have hfit := spec_fits_ev n hn s hs l (by omega) hnr (gp x y) hp
        refine Ev.step (fun k => spec_l23Place.l1.eq_2 ..) (Ev.ite_pos (by omega) (Ev.bind hfit ?_))
        rw [wrap_nat y (by omega)]
        rw [range_dropS (most + 1) y hy, List.map_cons, List.cons_append, List.findSome?_cons]
        have hFg := hFp (gp x y)
        cases hf : fitS n s l (gp x y) with
        | false =>
          rw [hf, if_neg (by simp)] at hFg
          rw [show F ⟨(x : Int), (y : Int)⟩ = none from hFg]
          exact Ev.ite_neg (by simp) ihy
        | true =>
          rw [hf, if_pos rfl] at hFg
          refine Ev.ite_pos rfl (Ev.bind0 rfl (Ev.ite_pos (by simp only [List.length_nil]; omega) (Ev.bind0 rfl (Ev.bind0 rfl (Ev.ite_pos (by simp only [List.nil_append, List.length_cons, List.length_nil]; omega) ?_)))))
          have hrec := ih (l ++ [gp x y]) (by rw [List.length_append]; show l.length + 1 + d = n; omega) (nr_app hnr hp)
          rw [List.nil_append]
          cases hr : fnd (fitS n s) (most + 1) d (l ++ [gp x y]) with
          | some L =>
            rw [hr] at hFg hrec
            rw [show F ⟨(x : Int), (y : Int)⟩ = some L from hFg]
            exact Ev.bind hrec (Ev.ite_pos rfl (Ev.now _))
          | none =>
            rw [hr] at hFg hrec
            rw [show F ⟨(x : Int), (y : Int)⟩ = none from hFg]
            exact Ev.bind hrec (Ev.ite_neg (by simp [res]) ihy)
theorem rdE (m j : Nat) (hj : j < (edP m).length) : rd_T81 (edQ m) (j : Int) = ⟨((edP m)[j].1 : Int), ((edP m)[j].2 : Int)⟩ := by
  unfold rd_T81 edQ
  rw [Int.toNat_natCast, getD_lt _ _ _ (by rw [List.length_map]; exact hj), List.getElem_map]
def gpI (M i : Nat) : Pt := gp (i / M) (i % M)
def gI (M : Nat) : List Pt := (List.range (M * M)).map (gpI M)
def tupP (q : Pt) : Int × Int := (q.f0, q.f1)
def untupP (q : Int × Int) : Pt := ⟨q.1, q.2⟩
theorem untupP_map (l : List Pt) : (l.map tupP).map untupP = l := by
  rw [List.map_map]
  exact List.map_id' l
theorem all_gI : (List.range 7).all (fun M => (gI M).map tupP == (grd M).map tupP) = true := by decide +kernel
theorem gI_grd (M : Nat) (hM : M ≤ 6) : gI M = grd M := by
  have h := all_gI
  rw [List.all_eq_true] at h
  have h := congrArg (List.map untupP) (eq_of_beq (h M (by simp; omega)))
  rwa [untupP_map, untupP_map] at h
theorem edQ_ev (m : Nat) (hm : m ≤ 5) : Ev (fun k => impl_edgesOf.f k (m : Int)) (edQ m) := Ev.of (impl_edgesOf.mono _) (edQ_some m hm)
theorem tdiv_nat (i M : Nat) (hi : i < 1000000) : wrap64 (Int.tdiv (i : Int) (M : Int)) = ((i / M : Nat) : Int) := by
  have h1 : Int.tdiv (i : Int) (M : Int) = ((i / M : Nat) : Int) := rfl
  have h2 := Nat.div_le_self i M
  rw [h1]
  generalize i / M = q at h2 ⊢
  exact wrap_in (by omega) (by omega)
theorem tmod_nat (i M : Nat) : Int.tmod (i : Int) (M : Int) = ((i % M : Nat) : Int) := rfl
theorem impl_place_ev (n : Nat) (hn : n ≤ 5) (s : ByteArray) (hs : s.size = (tri n).length) (most : Nat) (hm : most ≤ 5) : ∀ d l, l.length + d = n → nr l → Ev (fun k => impl_chi_place.f k (tab n s) l (most : Int)) (res (fnd (fitI n s) (most + 1) d l)) := by
  have htl := tab_length n s
  have htn := tab_n n s
  intro d
  induction d with
  | zero =>
    intro l hl hnr
    refine Ev.step (fun k => impl_chi_place.f.eq_2 ..) (Ev.ite_pos (by omega) ?_)
    rw [htn]
    exact Ev.ite_pos (by omega) (Ev.now _)
  | succ d ih =>
    intro l hl hnr
    refine Ev.step (fun k => impl_chi_place.f.eq_2 ..) (Ev.ite_pos (by omega) ?_)
    rw [htn]
    refine Ev.ite_neg (by omega) ?_
    rw [fnd, ← gI_grd (most + 1) (by omega)]
    generalize hF : (fun p => if fitI n s l p then fnd (fitI n s) (most + 1) d (l ++ [p]) else none) = F
    have hFp : ∀ p, F p = if fitI n s l p then fnd (fitI n s) (most + 1) d (l ++ [p]) else none := fun p => by rw [← hF]
    have hMM : (most + 1) * (most + 1) ≤ 36 := by
      have : most = 0 ∨ most = 1 ∨ most = 2 ∨ most = 3 ∨ most = 4 ∨ most = 5 := by omega
      rcases this with rfl | rfl | rfl | rfl | rfl | rfl <;> decide
    have hw : wrap64 ((most : Int) + 1) = ((most + 1 : Nat) : Int) := wrap_nat most (by omega)
    have hw2 : wrap64 (((most + 1 : Nat) : Int) * ((most + 1 : Nat) : Int)) = (((most + 1) * (most + 1) : Nat) : Int) := by
      rw [← Int.natCast_mul]
      exact wrap_in (by omega) (by omega)
    unfold gI
    have hlt : ∀ i, i < (most + 1) * (most + 1) → i / (most + 1) < most + 1 := fun i hi => Nat.div_lt_of_lt_mul hi
    generalize (most + 1) * (most + 1) = MM at hMM hw2 hlt ⊢
    rw [← List.drop_zero (l := List.range MM)]
    have hlen : (edP l.length).length ≤ 10 := edP_len _ (by omega)
    have key1 := Ev.loop_to (fun (i : Nat) k => impl_chi_place.l0 k (tab n s) l (most : Int) (l.length : Int) (i : Int)) MM (fun i => res ((((List.range MM).drop i).map (gpI (most + 1))).findSome? F)) ?_ ?_ 0 (Nat.zero_le _)
    · exact key1
    · rw [List.drop_of_length_le (i := MM) (by simp)]
      refine Ev.step (fun k => impl_chi_place.l0.eq_2 ..) ?_
      rw [hw, hw2]
      exact Ev.ite_neg (by omega) (Ev.now _)
    · intro i hi ih2
      refine Ev.step (fun k => impl_chi_place.l0.eq_2 ..) ?_
      rw [hw, hw2]
      have hx := hlt i hi
      clear hw hw2 hlt
      refine Ev.ite_pos (by omega) (Ev.ite_neg (by omega) (Ev.bind (edQ_ev l.length (by omega)) ?_))
      have hdiv := tdiv_nat i (most + 1) (by omega)
      have hmod := tmod_nat i (most + 1)
      rw [hdiv, hmod]
      have hy : i % (most + 1) < most + 1 := Nat.mod_lt _ (by omega)
      have hp := gp_near (most + 1) (by omega) (i / (most + 1)) (i % (most + 1)) hx hy
      rw [range_dropS _ i hi, List.map_cons, List.findSome?_cons]
      have hq : (edQ l.length).length = (edP l.length).length := by unfold edQ; rw [List.length_map]
      have hFg := hFp (gpI (most + 1) i)
      have hfit : fitI n s l (gpI (most + 1) i) = (((edP l.length).take (edP l.length).length).all (okPl n s l (gpI (most + 1) i))) := by
        rw [List.take_length]
        rfl
      have hnx : gpI (most + 1) i = gp (i / (most + 1)) (i % (most + 1)) := rfl
      have key := Ev.loop (fun (j : Nat) k => impl_chi_place.l1 k (tab n s) l (most : Int) (l.length : Int) (i : Int) (((edP l.length).take j).all (okPl n s l (gpI (most + 1) i))) (edQ l.length) ((edQ l.length).length : Int) (j : Int) ((i / (most + 1) : Nat) : Int) ((i % (most + 1) : Nat) : Int)) (edP l.length).length
        (res (match F (gpI (most + 1) i) with | some b => some b | none => ((((List.range MM).drop (i + 1)).map (gpI (most + 1))).findSome? F))) ?_ ?_ 0 (Nat.zero_le _)
      · rw [List.take_zero, List.all_nil, show ((0 : Nat) : Int) = 0 from rfl] at key
        cases hFF : F (gpI (most + 1) i) <;> rw [hFF] at key <;> exact key
      · rw [← hfit]
        refine Ev.step (fun k => impl_chi_place.l1.eq_2 ..) (Ev.ite_neg (by omega) ?_)
        rw [wrap_nat i (by omega)]
        cases hf : fitI n s l (gpI (most + 1) i) with
        | false =>
          rw [hf, if_neg (by simp)] at hFg
          rw [hFg]
          exact Ev.ite_neg (by simp) ih2
        | true =>
          rw [hf, if_pos rfl] at hFg
          have hcl : slices_Clone_Simpl_Point_impl_Point.f l = some l := by
            unfold slices_Clone_Simpl_Point_impl_Point.f
            show (if 0 + l.length < 8796093022208 then some ([] ++ l) else none) = some l
            rw [if_pos (by omega)]
            rfl
          refine Ev.ite_pos rfl (Ev.bind0 hcl (Ev.bind0 rfl (Ev.ite_pos (by simp only [List.length_cons, List.length_nil]; omega) ?_)))
          have hrec := ih (l ++ [gpI (most + 1) i]) (by rw [List.length_append]; show l.length + 1 + d = n; omega) (nr_app hnr hp)
          cases hr : fnd (fitI n s) (most + 1) d (l ++ [gpI (most + 1) i]) with
          | some L =>
            rw [hr] at hFg hrec
            rw [hFg]
            exact Ev.bind hrec (Ev.ite_pos rfl (Ev.now _))
          | none =>
            rw [hr] at hFg hrec
            rw [hFg]
            exact Ev.bind hrec (Ev.ite_neg (by simp [res]) ih2)
      · intro j hj ihj
        have hmem := (edP_mem _ _).1 (List.getElem_mem hj)
        rw [List.take_succ_eq_append_getElem hj, List.all_append] at ihj
        refine Ev.step (fun k => impl_chi_place.l1.eq_2 ..) (Ev.ite_pos (by omega) (Ev.ite_pos (by omega) (Ev.ite_pos (by omega) ?_)))
        rw [rdE l.length j hj, wrap_nat j (by omega)]
        dsimp only
        generalize (edP l.length)[j] = e at hmem ihj ⊢
        obtain ⟨a, b⟩ := e
        dsimp only at hmem ⊢
        cases hx11 : ((edP l.length).take j).all (okPl n s l (gpI (most + 1) i)) with
        | false =>
          rw [hx11, Bool.false_and] at ihj
          exact Ev.ite_neg (by simp) ihj
        | true =>
          rw [hx11, Bool.true_and, List.all_cons, List.all_nil, Bool.and_true] at ihj
          have hT := TurnOf_ev (rdP l a) (rdP l b) (gpI (most + 1) i) (hnr a (by omega)) (hnr b (by omega)) hp
          refine Ev.ite_pos rfl (Ev.ite_pos (by omega) (Ev.ite_pos (by omega) (Ev.ite_pos (by omega) (Ev.ite_pos (by omega) (Ev.bind hT (Ev.ite_pos (by omega) (Ev.ite_pos (by omega) (Ev.ite_pos (by omega) (Ev.ite_pos (by omega) (Ev.ite_pos (by omega) ?_))))))))))
          rw [tab_at n (by omega) s a b l.length (by omega) (by omega) (by omega)]
          exact ihj
theorem l1In_15 (a : Int) : spec_l1In.f a 1 5 = some (decide (1 ≤ a ∧ a ≤ 5)) := by
  unfold spec_l1In.f
  by_cases h1 : 1 ≤ a
  · by_cases h2 : a ≤ 5 <;> simp [h1, h2]
  · simp [h1, show ¬ a ≥ 1 by omega]
theorem fnd_len (n : Nat) (s : ByteArray) (M : Nat) (hM : M ≤ 6) (d : Nat) : (res (fnd (fitI n s) M d [])).1.length ≤ d := by
  cases e : fnd (fitI n s) M d [] with
  | none => simp [res]
  | some L =>
    have := (fnd_right n s M hM d [] L ⟨fun i hi => by simp at hi, fun a b c _ _ hc => by simp at hc⟩ e).2
    show L.length ≤ d
    rw [this]
    simp
theorem nr_nil : nr [] := fun i hi => by simp at hi
theorem place_both (n : Int) (s : ByteArray) (a : Int) : ∃ v : List Pt × Bool, v.1.length ≤ 7 ∧ Ev (fun k => spec_PlacePoints.f k n s a) v ∧ Ev (fun k => impl_PlacePoints.f k n s a) v := by
  have hS := spec_AreSigns_ev n s
  have hI := impl_AreSigns_ev n s
  have nI : ∀ x, Ev (fun k => impl_PlacePoints.j0 k a true n s) x ↔ Ev (fun k => impl_PlacePoints.j0 k a true n s) x := fun _ => Iff.rfl
  have no : Ev (fun k => impl_PlacePoints.j0 k a true n s) (([], false) : List Pt × Bool) := Ev.step (fun k => impl_PlacePoints.j0.eq_2 ..) (Ev.ite_pos rfl (Ev.now _))
  unfold spec_PlacePoints.f impl_PlacePoints.f
  cases hA : isS n s with
  | false =>
    rw [hA] at hS hI
    exact ⟨([], false), by simp, Ev.bind hS (Ev.ite_neg (by simp) (Ev.now _)), Ev.bind hI (Ev.ite_neg (by simp) no)⟩
  | true =>
    rw [hA] at hS hI
    by_cases h5 : n > 5
    · exact ⟨([], false), by simp, Ev.bind hS (Ev.ite_pos rfl (Ev.ite_pos h5 (Ev.now _))), Ev.bind hI (Ev.ite_pos rfl (Ev.ite_pos h5 no))⟩
    by_cases ha : 1 ≤ a ∧ a ≤ 5
    · obtain ⟨h3, _, hs, _⟩ := isS_bounds hA
      obtain ⟨n, rfl⟩ := Int.eq_ofNat_of_zero_le (show 0 ≤ n by omega)
      obtain ⟨m, rfl⟩ := Int.eq_ofNat_of_zero_le (show 0 ≤ a by omega)
      rw [Int.toNat_natCast] at hs
      have hAc := spec_IsAcyclic_ev (n : Int) s
      have e1 := spec_place_ev n (by omega) s hs m (by omega) n [] (by simp) nr_nil
      have e2 := impl_place_ev n (by omega) s hs m (by omega) n [] (by simp) nr_nil
      rw [fnd_same n (by omega) (by omega) s (m + 1) (by omega) n [] (by simp) nr_nil] at e1
      have hlen := fnd_len n s (m + 1) (by omega) n
      have eI : Ev (fun k => impl_PlacePoints.j0 k (m : Int) (decide ((m : Int) > 5)) (n : Int) s) (res (fnd (fitI n s) (m + 1) n [])) := by
        rw [decide_eq_false (by omega)]
        exact Ev.step (fun k => impl_PlacePoints.j0.eq_2 ..) (Ev.ite_neg (by simp) (Ev.bind (tableOf_ev n (by omega) s hs) (Ev.bind e2 (Ev.now _))))
      have hno : isA (n : Int) s = false → fnd (fitI n s) (m + 1) n [] = none := by
        intro g
        cases e : fnd (fitI n s) (m + 1) n [] with
        | none => rfl
        | some L =>
          have := fnd_acy n s (by omega) (by omega) hA (m + 1) (by omega) L e
          rw [g] at this
          cases this
      refine ⟨res (fnd (fitI n s) (m + 1) n []), by omega, ?_, Ev.bind hI (Ev.ite_pos rfl (Ev.ite_neg h5 (Ev.ite_neg (by omega) eI)))⟩
      refine Ev.bind hS (Ev.ite_pos rfl (Ev.ite_neg h5 (Ev.bind0 (l1In_15 _) (Ev.ite_pos (by simpa using ha) ?_))))
      cases hacy : isA (n : Int) s with
      | false =>
        rw [hacy] at hAc
        by_cases h55 : (n : Int) = 5
        · rw [hno hacy]
          exact Ev.ite_pos h55 (Ev.bind hAc (Ev.ite_neg (by simp) (Ev.now _)))
        · refine Ev.ite_neg h55 ?_
          by_cases h44 : (n : Int) = 4
          · rw [hno hacy]
            exact Ev.ite_pos h44 (Ev.bind hAc (Ev.ite_neg (by simp) (Ev.now _)))
          · exact Ev.ite_neg h44 (Ev.bind e1 (Ev.now _))
      | true =>
        rw [hacy] at hAc
        by_cases h55 : (n : Int) = 5
        · exact Ev.ite_pos h55 (Ev.bind hAc (Ev.ite_pos rfl (Ev.ite_neg (by omega) (Ev.bind e1 (Ev.now _)))))
        · refine Ev.ite_neg h55 ?_
          by_cases h44 : (n : Int) = 4
          · exact Ev.ite_pos h44 (Ev.bind hAc (Ev.ite_pos rfl (Ev.bind e1 (Ev.now _))))
          · exact Ev.ite_neg h44 (Ev.bind e1 (Ev.now _))
    · refine ⟨([], false), by simp, Ev.bind hS (Ev.ite_pos rfl (Ev.ite_neg h5 (Ev.bind0 (l1In_15 _) (Ev.ite_neg (by simpa using ha) (Ev.now _))))), Ev.bind hI (Ev.ite_pos rfl (Ev.ite_neg h5 ?_))⟩
      by_cases h1 : a < 1
      · exact Ev.ite_pos h1 no
      · refine Ev.ite_neg h1 ?_
        rw [decide_eq_true (show a > 5 by omega)]
        exact no
theorem grid_both (n : Int) (s : ByteArray) : ∃ v : Int, Ev (fun k => spec_LeastGrid.f k n s) v ∧ Ev (fun k => impl_LeastGrid.f k n s) v := by
  unfold spec_LeastGrid.f impl_LeastGrid.f
  have key := Ev.loop2 (fun (i : Nat) k => spec_LeastGrid.l0 k (i : Int) n s) (fun (i : Nat) k => impl_LeastGrid.l0 k (i : Int) n s) 6 ?_ ?_ 1 (by omega)
  · exact key
  · exact ⟨0, Ev.step (fun k => spec_LeastGrid.l0.eq_2 ..) (Ev.ite_neg (by omega) (Ev.now _)), Ev.step (fun k => impl_LeastGrid.l0.eq_2 ..) (Ev.ite_neg (by omega) (Ev.now _))⟩
  · rintro i hi ⟨r, h1, h2⟩
    obtain ⟨⟨L, b⟩, _, e1, e2⟩ := place_both n s (i : Int)
    cases b with
    | true =>
      exact ⟨i, Ev.step (fun k => spec_LeastGrid.l0.eq_2 ..) (Ev.ite_pos (by omega) (Ev.bind e1 (Ev.ite_pos rfl (Ev.now _)))), Ev.step (fun k => impl_LeastGrid.l0.eq_2 ..) (Ev.ite_pos (by omega) (Ev.bind e2 (Ev.ite_pos rfl (Ev.now _))))⟩
    | false =>
      refine ⟨r, Ev.step (fun k => spec_LeastGrid.l0.eq_2 ..) (Ev.ite_pos (by omega) (Ev.bind e1 (Ev.ite_neg (by simp) ?_))), Ev.step (fun k => impl_LeastGrid.l0.eq_2 ..) (Ev.ite_pos (by omega) (Ev.bind e2 (Ev.ite_neg (by simp) ?_)))⟩
      · rw [wrap_nat i (by omega)]
        exact h1
      · rw [wrap_nat i (by omega)]
        exact h2
end Go.Proofs.Ytdkpiahpmgcmdaa.Pure
namespace Go.Proofs.Ytdkpiahpmgcmdaa.Pure
set_option linter.unusedSimpArgs false
set_option linter.unusedVariables false
open Go.RowKit Go.Proofs.YtdkpiahpmgcmdaaW.PrintWords Go.Proofs.Ytdkpiahpmgcmdaa.P Go.Proofs.Ytdkpiahpmgcmdaa.Pl Go.Proofs.Ytdkpiahpmgcmdaa.Rk
theorem FnExactLeastGrid (s0 : S23) (hq : Q23 s0) : ∃ k, laws_FnExactLeastGrid.f k s0.f0 s0.f1 = some true := by
  refine Ev.rounds (g := fun k => laws_FnExactLeastGrid.f k s0.f0 s0.f1) ?_
  unfold laws_FnExactLeastGrid.f
  refine Ev.bind0 (szSigns_eqO _ _ 1048576 (by omega) (by omega) hq.2) ?_
  by_cases hs : 1048576 < (s0.f1.size : Int)
  · rw [if_pos hs]
    exact Ev.ite_pos (by omega) (Ev.now _)
  rw [if_neg hs]
  refine Ev.ite_neg (by omega) ?_
  obtain ⟨v, h1, h2⟩ := grid_both s0.f0 s0.f1
  exact Ev.bind0 rfl (Ev.bind h1 (Ev.bind0 rfl (Ev.bind h2 (Ev.ite_pos rfl (Ev.now _)))))
end Go.Proofs.Ytdkpiahpmgcmdaa.Pure
