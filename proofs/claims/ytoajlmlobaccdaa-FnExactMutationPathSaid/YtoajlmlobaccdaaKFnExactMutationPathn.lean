/- What the law FnExactMutationPath reaches, part 14: functions as plain Lean functions with the proofs that their calls come to them, and plain lemmas over these. Put together by a program (wip/pack.py). -/
import Derived.Test.YtoajlmlobaccdaaKFnExactMutationPathm
import Derived.Test.YtoajlmlobaccdaaKFnExactMutationPathf
import Derived.Test.YtoajlmlobaccdaaKFnExactMutationPathj
import Derived.Test.YtoajlmlobaccdaaKFnExactMutationPathg
import Derived.Test.YtoajlmlobaccdaaKFnExactMutationPathk
import Derived.Test.YtoajlmlobaccdaaKFnExactMutationPathd
import Derived.Test.YtoajlmlobaccdaaKFnExactMutationPathl
namespace Go.Proofs.Ytoajlmlobaccdaa.Pure
set_option linter.unusedSimpArgs false
set_option linter.unusedVariables false
open Go.RowKit Go.Proofs.YtoajlmlobaccdaaW.PrintWords Go.Proofs.Ytoajlmlobaccdaa.P Go.Proofs.Ytoajlmlobaccdaa.Pl
def okIdx (n a b c : Nat) : Bool :=
  match src (tri n) 0 a b c, spec_l3Index.f 60 n a b c with
  | some (q, _), some m => m == (q : Int) && decide (q < (tri n).length)
  | _, _ => false
theorem all_idx : (List.range 8).all (fun n => (List.range n).all fun a => (List.range n).all fun b => (List.range n).all fun c => !(decide (a < b ∧ b < c)) || okIdx n a b c) = true := by decide +kernel
theorem idx_some (n a b c : Nat) (hn : n ≤ 7) (hab : a < b) (hbc : b < c) (hc : c < n) : ∃ q b', src (tri n) 0 a b c = some (q, b') ∧ q < (tri n).length ∧ Ev (fun k => spec_l3Index.f k n a b c) (q : Int) := by
  have h := all_idx
  rw [List.all_eq_true] at h
  have h := h n (by simp; omega)
  rw [List.all_eq_true] at h
  have h := h a (by simp; omega)
  rw [List.all_eq_true] at h
  have h := h b (by simp; omega)
  rw [List.all_eq_true] at h
  have h := h c (by simp; omega)
  simp only [hab, hbc, and_self, decide_true, Bool.not_true, Bool.false_or] at h
  unfold okIdx at h
  cases ha : src (tri n) 0 a b c with
  | none => rw [ha] at h; cases h
  | some p =>
    obtain ⟨q, b'⟩ := p
    cases hb : spec_l3Index.f 60 n a b c with
    | none => rw [ha, hb] at h; cases h
    | some m =>
      rw [ha, hb] at h
      simp only [Bool.and_eq_true, beq_iff_eq, decide_eq_true_eq] at h
      exact ⟨q, b', rfl, h.2, l3Index_ev (by rw [hb, h.1])⟩
def pass (fl : Bool) (n : Nat) (T : ByteArray) : Bool := isM n T && (!fl || acyT n T)
def itemT (fl : Bool) (n : Nat) (s : ByteArray) (t : T3) : List (List Int) := if pass fl n (exT n s t.f0 t.f1 t.f2) = true then [[t.f0, t.f1, t.f2]] else []
def item (fl : Bool) (n : Nat) (s : ByteArray) (a b c : Nat) : List (List Int) := itemT fl n s ⟨a, b, c⟩
def mutR (fl : Bool) (n : Nat) (s : ByteArray) : List (List Int) := (tri n).flatMap (itemT fl n s)
theorem mutR_eq (fl : Bool) (n : Nat) (hn : n ≤ 7) (s : ByteArray) : mutR fl n s = ((List.range n).drop 0).flatMap fun a => ((List.range n).drop (a + 1)).flatMap fun b => ((List.range n).drop (b + 1)).flatMap (item fl n s a b) := by
  unfold mutR
  rw [← list3_eq n hn]
  unfold list3
  simp only [List.flatMap_assoc, List.flatMap_map]
  rfl
theorem itemT_len (fl : Bool) (n : Nat) (s : ByteArray) (t : T3) : (itemT fl n s t).length ≤ 1 ∧ ∀ l ∈ itemT fl n s t, l.length ≤ 1000 := by
  unfold itemT
  split
  · exact ⟨by simp, by simp⟩
  · exact ⟨by simp, by simp⟩
theorem flat_len {α β : Type} (f : α → List β) (h : ∀ x, (f x).length ≤ 1) : ∀ l : List α, (l.flatMap f).length ≤ l.length := by
  intro l
  induction l with
  | nil => simp
  | cons x l ih =>
    have := h x
    rw [List.flatMap_cons, List.length_append, List.length_cons]
    omega
theorem tri_small (n : Nat) (hn : n ≤ 7) : (tri n).length ≤ 35 := by
  have h := tri_length n hn
  have : n = 0 ∨ n = 1 ∨ n = 2 ∨ n = 3 ∨ n = 4 ∨ n = 5 ∨ n = 6 ∨ n = 7 := by omega
  rcases this with rfl | rfl | rfl | rfl | rfl | rfl | rfl | rfl <;> simp [tri]
theorem mutR_small (fl : Bool) (n : Nat) (hn : n ≤ 7) (s : ByteArray) : ((mutR fl n s).length ≤ 1000 ∧ ∀ l ∈ mutR fl n s, l.length ≤ 1000) ∧ (mutR fl n s).length ≤ 35 := by
  have h1 := flat_len _ (fun t => (itemT_len fl n s t).1) (tri n)
  have h2 := tri_small n hn
  refine ⟨⟨by unfold mutR; omega, ?_⟩, by unfold mutR; omega⟩
  intro l hl
  unfold mutR at hl
  rw [List.mem_flatMap] at hl
  obtain ⟨t, _, hl⟩ := hl
  exact (itemT_len fl n s t).2 l hl
theorem acc_small {β : Type} {acc X R : List β} (h : acc ++ X = R) (hR : R.length ≤ 35) : acc.length ≤ 35 := by
  have := congrArg List.length h
  rw [List.length_append] at this
  omega
theorem exT_eq {n : Nat} {s : ByteArray} {x y z : Int} {q : Nat} {b : Bool} (h : src (tri n) 0 x y z = some (q, b)) : exT n s x y z = strOfNums (codesX s s.size q) := by
  unfold exT
  rw [h]
  rfl
theorem spec_l18_ev (n : Nat) (h7 : n ≤ 7) (s : ByteArray) (hs : s.size = (tri n).length) (fl : Bool) : Ev (fun k => spec_l18All.f k n s fl) (mutR fl n s) := by
  unfold spec_l18All.f
  have hR := (mutR_small fl n h7 s).2
  have ht := tri_small n h7
  have key := loopR (fun acc a k => spec_l18All.l0 k fl acc (a : Nat) n s) n (fun a => ((List.range n).drop (a + 1)).flatMap fun b => ((List.range n).drop (b + 1)).flatMap (item fl n s a b)) [] (mutR fl n s) (mutR fl n s) 0 (by omega) ?_ ?_ [] (by rw [mutR_eq fl n h7 s]; simp)
  · exact key
  · intro acc h
    rw [List.append_nil] at h
    exact Ev.step (fun k => spec_l18All.l0.eq_2 ..) (Ev.ite_neg (by omega) (Ev.const (by rw [h])))
  intro a _ ha acc X h ih
  refine Ev.step (fun k => spec_l18All.l0.eq_2 ..) (Ev.ite_pos (by omega) ?_)
  rw [wrap_nat a (by omega)]
  refine loopR (fun acc b k => spec_l18All.l1 k fl acc a (b : Nat) n s) n (fun b => ((List.range n).drop (b + 1)).flatMap (item fl n s a b)) X (mutR fl n s) (mutR fl n s) (a + 1) (by omega) ?_ ?_ acc h
  · intro acc h
    refine Ev.step (fun k => spec_l18All.l1.eq_2 ..) (Ev.ite_neg (by omega) ?_)
    rw [wrap_nat a (by omega)]
    exact ih acc h
  intro b hab hb acc X' h ih'
  refine Ev.step (fun k => spec_l18All.l1.eq_2 ..) (Ev.ite_pos (by omega) ?_)
  rw [wrap_nat b (by omega)]
  refine loopR (fun acc c k => spec_l18All.l2 k fl acc a b (c : Nat) n s) n (item fl n s a b) X' (mutR fl n s) (mutR fl n s) (b + 1) (by omega) ?_ ?_ acc h
  · intro acc h
    refine Ev.step (fun k => spec_l18All.l2.eq_2 ..) (Ev.ite_neg (by omega) ?_)
    rw [wrap_nat b (by omega)]
    exact ih' acc h
  intro c hbc hc acc X'' h ih''
  have hacc := acc_small h hR
  obtain ⟨q, b', e1, e2, e3⟩ := idx_some n a b c h7 (by omega) (by omega) hc
  have eX := exT_eq (s := s) e1
  refine Ev.step (fun k => spec_l18All.l2.eq_2 ..) (Ev.ite_pos (by omega) (Ev.bind e3 (Ev.bind0 (l14_eq n s q (by omega) (by omega)) ?_)))
  dsimp only
  rw [← eX, wrap_nat c (by omega)]
  have hM := spec_IsMatroid_ev n (exT n s a b c)
  have hit : item fl n s a b c = if pass fl n (exT n s a b c) = true then [[(a : Int), b, c]] else [] := rfl
  rw [hit] at h
  cases m : isM n (exT n s a b c) with
  | false =>
    rw [m] at hM
    rw [if_neg (by simp [pass, m])] at h
    exact Ev.bind hM (Ev.ite_neg (by simp) (ih'' acc h))
  | true =>
    rw [m] at hM
    refine Ev.bind hM (Ev.ite_pos rfl ?_)
    cases fl with
    | false =>
      rw [if_pos (by simp [pass, m])] at h
      exact Ev.ite_neg (by simp) (Ev.ite_pos (by omega) (ih'' _ (by rw [List.append_assoc]; exact h)))
    | true =>
      obtain ⟨_, _, hsz, _⟩ := isS_bounds (isM_S m)
      rw [Int.toNat_natCast] at hsz
      have hA := spec_acy_ev n h7 _ hsz
      refine Ev.ite_pos rfl (Ev.bind hA ?_)
      cases y : acyT n (exT n s a b c) with
      | false =>
        rw [if_neg (by simp [pass, m, y])] at h
        exact Ev.ite_neg (by simp) (ih'' acc h)
      | true =>
        rw [if_pos (by simp [pass, m, y])] at h
        exact Ev.ite_pos rfl (Ev.ite_pos (by omega) (ih'' _ (by rw [List.append_assoc]; exact h)))
theorem exS_good (n : Nat) (s : ByteArray) (hS : isS n s = true) (a b c : Nat) (hab : a < b) (hbc : b < c) (hc : c < n) : exS n s a b c = ((n : Int), exT n s a b c, true) := by
  unfold exS
  rw [if_pos ⟨hS, diff3_of ⟨by omega, by omega, by omega, by omega, by omega, by omega⟩⟩, Int.toNat_natCast]
theorem tri_item (fl : Bool) (n : Nat) (s : ByteArray) (i a b c : Nat) (hi : i < (tri n).length) (e : (tri n)[i] = ⟨a, b, c⟩) : itemT fl n s ((tri n).getD i ⟨0, 0, 0⟩) = if pass fl n (exT n s a b c) = true then [[(a : Int), b, c]] else [] := by
  rw [getD_lt _ _ _ hi, e]
  rfl
instance decN : DecidableEq GSg := fun p q => decidable_of_iff (eqN p q = true) eqN_iff
theorem eqN_dec (p q : GSg) : eqN p q = decide (p = q) := by
  by_cases h : p = q
  · rw [decide_eq_true h]
    exact eqN_iff.2 h
  · rw [decide_eq_false h]
    cases e : eqN p q with
    | false => rfl
    | true => exact absurd (eqN_iff.1 e) h
theorem hasE_G (es : List (GSg × Int)) (p : GSg) : hasE es p = hasG es p := by
  unfold hasE hasG
  simp only [eqN_dec]
theorem lookE_G (es : List (GSg × Int)) (p : GSg) : lookE es p = lookG es p := by
  have h : es.find? (fun e => eqN e.1 p) = es.find? (fun e => decide (e.1 = p)) := by simp only [eqN_dec]
  unfold lookE lookG
  rw [h]
  cases es.find? (fun e => decide (e.1 = p)) <;> rfl
theorem isAM {n : Int} {s : ByteArray} (h : isA n s = true) : isM n s = true := by
  unfold isA at h
  rw [Bool.and_eq_true] at h
  exact h.1
theorem isA_pass (n : Nat) (s : ByteArray) : isA n s = pass true n s := by simp [isA, pass]
def nxT (n : Nat) (p : GSg) (l : List Int) : GSg := ⟨(n : Int), exT n p.f1 (rd l 0) (rd l 1) (rd l 2)⟩
def adjP (n : Nat) (p : GSg) : List (List Int × GSg) := (mutR true n p.f1).map fun l => (l, nxT n p l)
theorem mem_mut (n : Nat) (hn : n ≤ 7) (s : ByteArray) (l : List Int) (h : l ∈ mutR true n s) : ∃ a b c : Nat, a < b ∧ b < c ∧ c < n ∧ l = [(a : Int), b, c] ∧ pass true n (exT n s a b c) = true ∧ (⟨a, b, c⟩ : T3) ∈ tri n := by
  unfold mutR at h
  rw [List.mem_flatMap] at h
  obtain ⟨t, ht, h⟩ := h
  obtain ⟨i, hi, e⟩ := List.getElem_of_mem ht
  obtain ⟨a, b, c, h1, h2, h3, e2⟩ := tri_nat n hn i hi
  rw [e2] at e
  subst e
  unfold itemT at h
  split at h
  · rename_i hp
    rw [List.mem_singleton] at h
    exact ⟨a, b, c, h1, h2, h3, h, hp, ht⟩
  · cases h
theorem mut_mem (n : Nat) (s : ByteArray) (a b c : Nat) (ht : (⟨a, b, c⟩ : T3) ∈ tri n) (hp : pass true n (exT n s a b c) = true) : [(a : Int), b, c] ∈ mutR true n s := by
  unfold mutR
  rw [List.mem_flatMap]
  refine ⟨_, ht, ?_⟩
  unfold itemT
  rw [if_pos hp]
  exact List.mem_singleton.2 rfl
theorem codesX_list (s : ByteArray) (q : Nat) : (strOfNums (codesX s s.size q)).data.toList = s.data.toList.set q (UInt8.ofNat (if bt s (q : Int) = 43 then 45 else 43 : Int).toNat) := by
  apply List.ext_getElem
  · rw [List.length_set]
    simp [strOfNums, codesX]
  · intro m hm hm'
    have hm1 : m < s.size := by simpa [strOfNums, codesX] using hm
    rw [List.getElem_set]
    simp only [strOfNums, codesX, List.getElem_map, List.getElem_range, List.map_map, Function.comp]
    by_cases e : q = m
    · subst e
      rw [if_pos rfl, if_pos rfl]
    · rw [if_neg e, if_neg (fun h => e h.symm), bt_get s m hm1]
      rfl
theorem bt_data (s : ByteArray) (q : Nat) (h : q < s.data.toList.length) : bt s (q : Int) = ((s.data.toList[q]'h).toNat : Int) := by
  unfold bt
  rw [dif_pos (by simpa using h)]
  simp
  rfl
theorem exT_back (n : Nat) (hn : n ≤ 7) (s : ByteArray) (hS : isS n s = true) (a b c : Nat) (hab : a < b) (hbc : b < c) (hc : c < n) : exT n (exT n s a b c) a b c = s := by
  obtain ⟨_, _, hs, _⟩ := isS_bounds hS
  rw [Int.toNat_natCast] at hs
  obtain ⟨q, b', hq, hq1, _⟩ := src_some n a b c hn (by omega) (by omega) hc (by omega) (by omega) (by omega)
  rw [exT_eq hq, exT_eq hq]
  have hpm := isS_pm hS q (by omega)
  unfold isPM at hpm
  simp only [Bool.or_eq_true, beq_iff_eq] at hpm
  have hql : q < s.data.toList.length := by
    have : s.data.toList.length = s.size := rfl
    omega
  have hb0 := bt_data s q hql
  apply ByteArray.ext
  apply Array.ext'
  have e1 := codesX_list s q
  have e2 := codesX_list (strOfNums (codesX s s.size q)) q
  rw [e2, e1, List.set_set]
  have hb : bt (strOfNums (codesX s s.size q)) (q : Int) = if bt s (q : Int) = 43 then 45 else 43 := by
    rw [bt_data _ q (by rw [e1, List.length_set]; exact hql)]
    simp only [e1, List.getElem_set_self]
    rcases hpm with h | h <;> rw [h] <;> decide
  rw [hb]
  have hx : UInt8.ofNat (if (if bt s (q : Int) = 43 then 45 else 43 : Int) = 43 then 45 else 43 : Int).toNat = s.data.toList[q] := by
    rw [← UInt8.toNat_inj]
    rcases hpm with h | h
    · have h1 : (s.data.toList[q]'hql).toNat = 43 := by omega
      rw [h1, h]
      rfl
    · have h1 : (s.data.toList[q]'hql).toNat = 45 := by omega
      rw [h1, h]
      rfl
  rw [hx]
  exact List.set_getElem_self hql
def allT : Nat → List (List UInt8)
  | 0 => [[]]
  | m + 1 => (allT m).map (fun l => 43 :: l) ++ (allT m).map (fun l => 45 :: l)
theorem allT_length : ∀ m, (allT m).length = 2 ^ m
  | 0 => rfl
  | m + 1 => by
    rw [allT, List.length_append, List.length_map, List.length_map, allT_length m, Nat.pow_succ]
    omega
theorem mem_allT : ∀ (l : List UInt8), (∀ x ∈ l, x = 43 ∨ x = 45) → l ∈ allT l.length
  | [], _ => List.mem_singleton.2 rfl
  | x :: l, h => by
    have ih := mem_allT l (fun y hy => h y (List.mem_cons_of_mem _ hy))
    rw [List.length_cons, allT, List.mem_append, List.mem_map, List.mem_map]
    rcases h x List.mem_cons_self with rfl | rfl
    · exact Or.inl ⟨l, ih, rfl⟩
    · exact Or.inr ⟨l, ih, rfl⟩
def allU (n : Nat) : List GSg := ((allT (tri n).length).map fun l => (⟨(n : Int), ⟨⟨l⟩⟩⟩ : GSg)).filter fun p => isA n p.f1
theorem tri_five (n : Nat) (hn : n ≤ 5) : (tri n).length ≤ 10 := by
  have : n = 0 ∨ n = 1 ∨ n = 2 ∨ n = 3 ∨ n = 4 ∨ n = 5 := by omega
  rcases this with rfl | rfl | rfl | rfl | rfl | rfl <;> simp [tri]
theorem allU_length (n : Nat) (hn : n ≤ 5) : (allU n).length ≤ 1024 := by
  unfold allU
  refine Nat.le_trans (List.length_filter_le _ _) ?_
  rw [List.length_map, allT_length]
  exact Nat.le_trans (Nat.pow_le_pow_right (by decide) (tri_five n hn)) (by decide)
theorem mem_allU (n : Nat) (s : ByteArray) (h : isA n s = true) : (⟨(n : Int), s⟩ : GSg) ∈ allU n := by
  have hS := isM_S (isAM h)
  obtain ⟨_, _, hs, _⟩ := isS_bounds hS
  rw [Int.toNat_natCast] at hs
  unfold allU
  rw [List.mem_filter]
  refine ⟨List.mem_map.2 ⟨s.data.toList, ?_, rfl⟩, h⟩
  rw [← hs]
  refine mem_allT s.data.toList ?_
  intro x hx
  obtain ⟨i, hi, rfl⟩ := List.getElem_of_mem hx
  have hpm := isS_pm hS i hi
  unfold isPM at hpm
  simp only [Bool.or_eq_true, beq_iff_eq] at hpm
  have hb := bt_data s i hi
  rw [← UInt8.toNat_inj, ← UInt8.toNat_inj]
  rcases hpm with e | e
  · have h1 : (s.data.toList[i]'hi).toNat = 43 := by omega
    exact Or.inl h1
  · have h1 : (s.data.toList[i]'hi).toNat = 45 := by omega
    exact Or.inr h1
theorem allU_mem (n : Nat) (p : GSg) (h : p ∈ allU n) : p = ⟨(n : Int), p.f1⟩ ∧ isA n p.f1 = true := by
  unfold allU at h
  rw [List.mem_filter, List.mem_map] at h
  obtain ⟨⟨l, _, rfl⟩, h⟩ := h
  exact ⟨rfl, h⟩
theorem adj_in (n : Nat) (hn : n ≤ 5) (u : GSg) (hu : u ∈ allU n) (e : List Int × GSg) (he : e ∈ adjP n u) : e.2 ∈ allU n := by
  unfold adjP at he
  rw [List.mem_map] at he
  obtain ⟨l, hl, rfl⟩ := he
  obtain ⟨a, b, c, _, _, _, rfl, hp, _⟩ := mem_mut n (by omega) _ l hl
  exact mem_allU n _ (by rw [isA_pass]; exact hp)
theorem adj_sym (n : Nat) (hn : n ≤ 5) (u : GSg) (hu : u ∈ allU n) (e : List Int × GSg) (he : e ∈ adjP n u) : ∃ e' ∈ adjP n e.2, e'.2 = u := by
  obtain ⟨h1, h2⟩ := allU_mem n u hu
  unfold adjP at he
  rw [List.mem_map] at he
  obtain ⟨l, hl, rfl⟩ := he
  obtain ⟨a, b, c, hab, hbc, hc, rfl, hp, ht⟩ := mem_mut n (by omega) _ l hl
  have hb := exT_back n (by omega) u.f1 (isM_S (isAM h2)) a b c hab hbc hc
  refine ⟨([(a : Int), b, c], nxT n (nxT n u [(a : Int), b, c]) [(a : Int), b, c]), List.mem_map.2 ⟨_, mut_mem n _ a b c ht ?_, rfl⟩, ?_⟩
  · show pass true n (exT n (exT n u.f1 a b c) a b c) = true
    rw [hb, ← isA_pass]
    exact h2
  · show (⟨(n : Int), exT n (exT n u.f1 a b c) a b c⟩ : GSg) = u
    rw [hb, ← h1]
theorem rdL1_lt (L : List (List Int)) (j : Nat) (h : j < L.length) : rd_L1 L (j : Int) = L[j] := by
  unfold rd_L1
  rw [Int.toNat_natCast, getD_lt _ _ _ h]
theorem rdL3_lt (L : List (List (List Int))) (j : Nat) (h : j < L.length) : rd_L3 L (j : Int) = L[j] := by
  unfold rd_L3
  rw [Int.toNat_natCast, getD_lt _ _ _ h]
theorem rdT31_lt (L : List GSg) (j : Nat) (h : j < L.length) : rd_T31 L (j : Int) = L[j] := by
  unfold rd_T31
  rw [Int.toNat_natCast, getD_lt _ _ _ h]
theorem l18Copy_ev (L : List (List Int)) (h : L.length ≤ 1000000) (h2 : ∀ l ∈ L, l.length ≤ 1000000) : Ev (fun k => spec_l18Copy.f k L) L := by
  unfold spec_l18Copy.f
  have key := Ev.loop (fun i k => spec_l18Copy.l0 k L (L.take i) i) L.length L ?_ ?_ 0 (by omega)
  · rw [List.take_zero] at key
    exact key
  · refine Ev.step (fun k => spec_l18Copy.l0.eq_2 ..) (Ev.ite_neg (by omega) (Ev.const ?_))
    rw [List.take_of_length_le (Nat.le_refl _)]
  · intro i hi ih
    have h3 := h2 _ (List.getElem_mem hi)
    have h4 : (L.take i).length ≤ L.length := by rw [List.length_take]; omega
    refine Ev.step (fun k => spec_l18Copy.l0.eq_2 ..) (Ev.ite_pos (by omega) (Ev.bind0 rfl (Ev.ite_pos (by omega) ?_)))
    rw [rdL1_lt L i hi, wrap_nat i (by omega), List.nil_append]
    refine Ev.ite_pos (by rw [List.length_nil]; omega) (Ev.ite_pos (by omega) ?_)
    rw [List.take_succ_eq_append_getElem hi] at ih
    exact ih
theorem toList_eq {s t : ByteArray} : (s.toList == t.toList) = decide (s = t) := by
  by_cases h : s = t
  · rw [decide_eq_true h, h]
    simp
  · rw [decide_eq_false h]
    cases e : s.toList == t.toList with
    | false => rfl
    | true =>
      refine absurd ?_ h
      have e2 : s.toList = t.toList := by simpa using e
      rw [ByteArray.toList_eq, ByteArray.toList_eq] at e2
      exact ByteArray.ext (Array.ext' e2)
theorem gs_eq (p : GSg) (n : Int) (s : ByteArray) : (p.f0 == n && (p.f1.toList == s.toList)) = decide (p = ⟨n, s⟩) := by
  obtain ⟨a, b⟩ := p
  rw [toList_eq]
  dsimp only
  by_cases h1 : a = n
  · by_cases h2 : b = s
    · subst h1
      subst h2
      simp
    · have h3 : ¬ ((⟨a, b⟩ : GSg) = ⟨n, s⟩) := fun h => h2 (congrArg S31.f1 h)
      rw [decide_eq_false h2, decide_eq_false h3, Bool.and_false]
  · have h3 : ¬ ((⟨a, b⟩ : GSg) = ⟨n, s⟩) := fun h => h1 (congrArg S31.f0 h)
    have h4 : (a == n) = false := by simpa using h1
    rw [decide_eq_false h3, h4, Bool.false_and]
theorem mpS_l2 (X5 : List GSg) (X6 : List (List (List Int))) (x7 : Int) (x8 : List (List Int)) (x9 : Int) (n0 : Int) (s0 : ByteArray) (n1 : Int) (s1 : ByteArray) (p : GSg) (r : List (List Int)) (hX : X5.length ≤ 1000000)
    (h1 : p ∈ X5 → Ev (fun k => spec_MutationPath.l1 k X5 X6 x7 x8 (wrap64 (x9 + 1)) n0 s0 n1 s1) r)
    (h2 : p ∉ X5 → Ev (fun k => spec_MutationPath.l2 k X5 X6 x7 x8 x9 false X5.length n0 s0 n1 s1 p.f0 p.f1) r) :
    Ev (fun k => spec_MutationPath.l2 k X5 X6 x7 x8 x9 false 0 n0 s0 n1 s1 p.f0 p.f1) r := by
  have key := Ev.loop (fun i k => spec_MutationPath.l2 k X5 X6 x7 x8 x9 (decide (p ∈ X5.take i)) i n0 s0 n1 s1 p.f0 p.f1) X5.length r ?_ ?_ 0 (by omega)
  · simpa using key
  · rw [List.take_of_length_le (Nat.le_refl _)]
    by_cases hm : p ∈ X5
    · rw [decide_eq_true hm]
      exact Ev.step (fun k => spec_MutationPath.l2.eq_2 ..) (Ev.ite_neg (by omega) (Ev.ite_pos rfl (h1 hm)))
    · rw [decide_eq_false hm]
      exact h2 hm
  · intro i hi ih
    refine Ev.step (fun k => spec_MutationPath.l2.eq_2 ..) (Ev.ite_pos (by omega) ?_)
    rw [wrap_nat i (by omega)]
    have e : decide (p ∈ X5.take (i + 1)) = (decide (p ∈ X5.take i) || decide (X5[i] = p)) := by
      rw [List.take_succ_eq_append_getElem hi]
      have e3 : (p ∈ X5.take i ++ [X5[i]]) ↔ (p ∈ X5.take i ∨ X5[i] = p) := by
        rw [List.mem_append, List.mem_singleton, eq_comm (a := p)]
      rw [decide_eq_decide.2 e3, Bool.decide_or]
    by_cases hm : p ∈ X5.take i
    · rw [decide_eq_true hm] at e ⊢
      rw [Bool.true_or] at e
      rw [e] at ih
      exact Ev.ite_pos rfl ih
    · rw [decide_eq_false hm] at e ⊢
      rw [Bool.false_or] at e
      rw [e] at ih
      refine Ev.ite_neg (by simp) (Ev.ite_pos (by omega) ?_)
      rw [rdT31_lt X5 i hi, gs_eq]
      exact ih
theorem mpS_new (X5 : List GSg) (X6 : List (List (List Int))) (i : Nat) (x8 : List (List Int)) (j : Nat) (n0 : Int) (s0 : ByteArray) (n1 : Int) (s1 : ByteArray) (p : GSg) (r : List (List Int)) (hX : X5.length ≤ 1000000) (hX6 : X6.length = X5.length) (hi : i < X6.length) (hj : j < x8.length) (hw : X6[i].length ≤ 100000) (hj2 : j ≤ 1000000)
    (hL : ∀ l ∈ X6[i] ++ [x8[j]], l.length ≤ 1000000)
    (h1 : p = ⟨n1, s1⟩ → r = X6[i] ++ [x8[j]])
    (h2 : p ≠ ⟨n1, s1⟩ → Ev (fun k => spec_MutationPath.l1 k (X5 ++ [p]) (X6 ++ [X6[i] ++ [x8[j]]]) i x8 ((j + 1 : Nat) : Int) n0 s0 n1 s1) r) :
    Ev (fun k => spec_MutationPath.l2 k X5 X6 i x8 j false X5.length n0 s0 n1 s1 p.f0 p.f1) r := by
  refine Ev.step (fun k => spec_MutationPath.l2.eq_2 ..) (Ev.ite_neg (by omega) (Ev.ite_neg (by simp) (Ev.bind0 rfl (Ev.ite_pos (by omega) (Ev.ite_pos (by omega) ?_)))))
  rw [rdL3_lt X6 i hi, rdL1_lt x8 j hj, List.nil_append, wrap_nat j (by omega)]
  refine Ev.ite_pos (by rw [List.length_nil]; omega) (Ev.bind0 rfl (Ev.ite_pos (by omega) (Ev.ite_pos (by omega) (Ev.ite_pos (by omega) (Ev.bind0 rfl ?_)))))
  rw [gs_eq]
  by_cases hp : p = ⟨n1, s1⟩
  · rw [decide_eq_true hp, h1 hp]
    exact Ev.ite_pos rfl (Ev.bind (l18Copy_ev _ (by rw [List.length_append, List.length_singleton]; omega) hL) (Ev.now _))
  · rw [decide_eq_false hp]
    exact Ev.ite_neg (by simp) (Ev.ite_pos (by omega) (Ev.ite_pos (by omega) (h2 hp)))
structure OKF (n : Nat) (F : List (GSg × List (List Int))) : Prop where
  fnd : Fnd (allU n) (fun _ => True) F
  sz : ∀ e ∈ F, e.2.length ≤ F.length ∧ ∀ l ∈ e.2, l.length ≤ 1000000
theorem OKF.len {n : Nat} (hn : n ≤ 5) {F : List (GSg × List (List Int))} (h : OKF n F) : F.length ≤ 1024 := Nat.le_trans h.fnd.len (allU_length n hn)
theorem OKF.add {n : Nat} {F : List (GSg × List (List Int))} (h : OKF n F) {p : GSg} {w : List (List Int)} {l : List Int} {u : GSg} (hn : ¬ hasF F p = true) (hp : p ∈ allU n) (hw : (u, w) ∈ F) (hl : l.length ≤ 1000000) : OKF n (F ++ [(p, w ++ [l])]) := by
  refine ⟨h.fnd.add (by cases e : hasF F p with | true => exact absurd e hn | false => rfl) hp trivial, ?_⟩
  intro e he
  rw [List.length_append, List.length_singleton]
  rcases List.mem_append.1 he with he | he
  · have := h.sz e he
    exact ⟨by omega, this.2⟩
  · have hwF := h.sz _ hw
    rw [List.mem_singleton] at he
    rw [he]
    refine ⟨by rw [List.length_append, List.length_singleton]; have := hwF.1; simp only at this; omega, ?_⟩
    intro x hx
    rcases List.mem_append.1 hx with hx | hx
    · exact hwF.2 x hx
    · rw [List.mem_singleton] at hx
      rw [hx]
      exact hl
theorem mpS_l1 (n : Nat) (hn : n ≤ 5) (t : GSg) (n0 : Int) (s0 : ByteArray) (hn0 : n0 = n) (i : Nat) (u : GSg) (w : List (List Int)) (hu : u ∈ allU n) (r : List (List Int)) : ∀ (d j : Nat) (F : List (GSg × List (List Int))), j + d = (mutR true n u.f1).length → F[i]? = some (u, w) → OKF n F →
    (match innS t w ((adjP n u).drop j) F with
      | .inr o => r = o
      | .inl F' => OKF n F' → Ev (fun k => spec_MutationPath.l0 k (F'.map Prod.fst) (F'.map Prod.snd) ((i + 1 : Nat) : Int) n0 s0 t.f0 t.f1) r) →
    Ev (fun k => spec_MutationPath.l1 k (F.map Prod.fst) (F.map Prod.snd) i (mutR true n u.f1) j n0 s0 t.f0 t.f1) r
  | 0, j, F, hd, hF, hO, h => by
    have hi : i < F.length := (List.getElem?_eq_some_iff.1 hF).1
    have hz := hO.len hn
    rw [List.drop_of_length_le (by unfold adjP; rw [List.length_map]; omega), innS] at h
    refine Ev.step (fun k => spec_MutationPath.l1.eq_2 ..) (Ev.ite_neg (by omega) ?_)
    rw [wrap_nat i (by omega)]
    exact h hO
  | d + 1, j, F, hd, hF, hO, h => by
    have hi : i < F.length := (List.getElem?_eq_some_iff.1 hF).1
    have hz := hO.len hn
    have hm := mutR_small true n (by omega) u.f1
    have hj : j < (mutR true n u.f1).length := by omega
    have hja : j < (adjP n u).length := by unfold adjP; rw [List.length_map]; exact hj
    have e1 : (adjP n u)[j] = ((mutR true n u.f1)[j], nxT n u (mutR true n u.f1)[j]) := by simp only [adjP, List.getElem_map]
    have hin := adj_in n hn u hu _ (List.getElem_mem hja)
    rw [e1] at hin
    obtain ⟨a, b, c, hab, hbc, hc, el, hp, ht⟩ := mem_mut n (by omega) u.f1 _ (List.getElem_mem hj)
    obtain ⟨hu1, hu2⟩ := allU_mem n u hu
    obtain ⟨_, _, hs, _⟩ := isS_bounds (isM_S (isAM hu2))
    rw [Int.toNat_natCast] at hs
    have ht10 := tri_five n hn
    obtain ⟨q, b', q1, q2, q3⟩ := idx_some n a b c (by omega) hab hbc hc
    have h5 : i < (F.map Prod.fst).length := by rw [List.length_map]; exact hi
    have h6 : i < (F.map Prod.snd).length := by rw [List.length_map]; exact hi
    have eF : F[i] = (u, w) := (List.getElem?_eq_some_iff.1 hF).2
    have g5 : (F.map Prod.fst)[i] = u := by rw [List.getElem_map, eF]
    have g6 : (F.map Prod.snd)[i] = w := by rw [List.getElem_map, eF]
    have hwF := hO.sz _ (List.mem_of_getElem? hF)
    have hl3 : (mutR true n u.f1)[j].length ≤ 1000000 := by have := hm.1.2 _ (List.getElem_mem hj); omega
    have enx : nxT n u (mutR true n u.f1)[j] = ⟨(n : Int), strOfNums (codesX u.f1 u.f1.size q)⟩ := by
      rw [el, ← exT_eq q1]
      rfl
    rw [List.drop_eq_getElem_cons hja, e1, innS] at h
    refine Ev.step (fun k => spec_MutationPath.l1.eq_2 ..) (Ev.ite_pos (by omega) (Ev.ite_pos (by omega) (Ev.ite_pos (by omega) (Ev.ite_pos (by omega) ?_))))
    rw [rdL1_lt _ j hj, rdT31_lt _ i h5, g5]
    refine Ev.ite_pos (by rw [el]; simp) (Ev.ite_pos (by rw [el]; simp) (Ev.ite_pos (by rw [el]; simp) ?_))
    have eu0 : u.f0 = (n : Int) := congrArg S31.f0 hu1
    have q3' : Ev (fun k => spec_l3Index.f k n0 (rd (mutR true n u.f1)[j] 0) (rd (mutR true n u.f1)[j] 1) (rd (mutR true n u.f1)[j] 2)) (q : Int) := by
      rw [el, hn0]
      exact q3
    refine Ev.bind q3' (Ev.bind0 (l14_eq u.f0 u.f1 q (by omega) (by omega)) ?_)
    dsimp only
    have ek : ∀ p : GSg, (p ∈ F.map Prod.fst ↔ hasF F p = true) := by
      intro p
      rw [hasF_iff, List.mem_map]
      constructor
      · rintro ⟨e, h1, rfl⟩
        exact ⟨e.2, h1⟩
      · rintro ⟨o, h1⟩
        exact ⟨_, h1, rfl⟩
    have ep : (⟨u.f0, strOfNums (codesX u.f1 u.f1.size q)⟩ : GSg) = nxT n u (mutR true n u.f1)[j] := by rw [enx, eu0]
    refine mpS_l2 (F.map Prod.fst) (F.map Prod.snd) i (mutR true n u.f1) j n0 s0 t.f0 t.f1 ⟨u.f0, strOfNums (codesX u.f1 u.f1.size q)⟩ r (by rw [List.length_map]; omega) ?_ ?_
    · intro hin
      rw [ep, ek] at hin
      rw [if_pos hin] at h
      rw [wrap_nat j (by omega)]
      exact mpS_l1 n hn t n0 s0 hn0 i u w hu r d (j + 1) F (by omega) hF hO h
    · intro hnin
      rw [ep, ek] at hnin
      rw [if_neg hnin] at h
      refine mpS_new (F.map Prod.fst) (F.map Prod.snd) i (mutR true n u.f1) j n0 s0 t.f0 t.f1 ⟨u.f0, strOfNums (codesX u.f1 u.f1.size q)⟩ r (by rw [List.length_map]; omega) (by rw [List.length_map, List.length_map]) h6 hj (by rw [g6]; have := hwF.1; simp only at this; omega) (by omega) ?_ ?_ ?_
      · intro l hl
        rw [g6] at hl
        rcases List.mem_append.1 hl with hl | hl
        · exact hwF.2 l hl
        · rw [List.mem_singleton] at hl
          rw [hl]
          exact hl3
      · intro hpt
        rw [ep] at hpt
        rw [if_pos hpt] at h
        rw [g6]
        exact h
      · intro hpt
        rw [ep] at hpt
        rw [if_neg hpt] at h
        rw [g6, ep]
        have ih := mpS_l1 n hn t n0 s0 hn0 i u w hu r d (j + 1) (F ++ [(nxT n u (mutR true n u.f1)[j], w ++ [(mutR true n u.f1)[j]])]) (by omega) (by rw [List.getElem?_append_left hi]; exact hF) (hO.add hnin hin (List.mem_of_getElem? hF) hl3) h
        rw [List.map_append, List.map_append] at ih
        exact ih
theorem mpS_l0 (n : Nat) (hn : n ≤ 5) (t : GSg) (n0 : Int) (s0 : ByteArray) (hn0 : n0 = n) (r : List (List Int)) : ∀ (f i : Nat) (F : List (GSg × List (List Int))), OKF n F → i ≤ 1000000 → outS (adjP n) t f i F = some r →
    Ev (fun k => spec_MutationPath.l0 k (F.map Prod.fst) (F.map Prod.snd) i n0 s0 t.f0 t.f1) r
  | 0, _, _, _, _, h => by cases h
  | f + 1, i, F, hO, hi1, h => by
    have hz := hO.len hn
    rw [outS] at h
    cases hF : F[i]? with
    | none =>
      rw [hF] at h
      obtain rfl := Option.some.inj h
      have := List.getElem?_eq_none_iff.1 hF
      exact Ev.step (fun k => spec_MutationPath.l0.eq_2 ..) (Ev.ite_neg (by rw [List.length_map]; omega) (Ev.now _))
    | some e =>
      obtain ⟨u, w⟩ := e
      rw [hF] at h
      have hi : i < F.length := (List.getElem?_eq_some_iff.1 hF).1
      have eF : F[i] = (u, w) := (List.getElem?_eq_some_iff.1 hF).2
      have h5 : i < (F.map Prod.fst).length := by rw [List.length_map]; exact hi
      have g5 : (F.map Prod.fst)[i] = u := by rw [List.getElem_map, eF]
      have hu : u ∈ allU n := hO.fnd.inU _ (List.mem_of_getElem? hF)
      obtain ⟨hu1, hu2⟩ := allU_mem n u hu
      obtain ⟨_, _, hs, _⟩ := isS_bounds (isM_S (isAM hu2))
      rw [Int.toNat_natCast] at hs
      have eu0 : u.f0 = (n : Int) := congrArg S31.f0 hu1
      refine Ev.step (fun k => spec_MutationPath.l0.eq_2 ..) (Ev.ite_pos (by omega) (Ev.ite_pos (by omega) ?_))
      rw [rdT31_lt _ i h5, g5, eu0]
      refine Ev.bind (spec_l18_ev n (by omega) u.f1 hs true) ?_
      refine mpS_l1 n hn t n0 s0 hn0 i u w hu r _ 0 F (Nat.zero_add _) hF hO ?_
      rw [List.drop_zero]
      cases hI : innS t w (adjP n u) F with
      | inr o =>
        simp only [hI] at h ⊢
        exact (Option.some.inj h).symm
      | inl F' =>
        simp only [hI] at h ⊢
        intro hO'
        exact mpS_l0 n hn t n0 s0 hn0 r f (i + 1) F' hO' (by omega) h
theorem impl_mutA_ev (n : Nat) (h7 : n ≤ 7) (s : ByteArray) (hS : isS n s = true) : Ev (fun k => impl_mutations_impl_IsAcyclic.f k n s ()) (mutR true n s) := by
  unfold impl_mutations_impl_IsAcyclic.f
  have hR := (mutR_small true n h7 s).2
  have ht := tri_small n h7
  refine Ev.bind (triplesOf_ev n h7) ?_
  refine loopR (fun acc (i : Nat) k => impl_mutations_impl_IsAcyclic.l0 k acc (tri n) ((tri n).length : Int) (i : Int) n s) (tri n).length (fun i => itemT true n s ((tri n).getD i ⟨0, 0, 0⟩)) [] (mutR true n s) (mutR true n s) 0 (by omega) ?_ ?_ [] (by unfold mutR; rw [flat_range (⟨0, 0, 0⟩ : T3)]; simp)
  · intro acc h
    rw [List.append_nil] at h
    exact Ev.step (fun k => impl_mutations_impl_IsAcyclic.l0.eq_2 ..) (Ev.ite_neg (by omega) (Ev.const (by rw [h])))
  intro i _ hi acc X h ih
  have hacc := acc_small h hR
  obtain ⟨a, b, c, hab, hbc, hc, e⟩ := tri_nat n h7 i hi
  rw [tri_item true n s i a b c hi e] at h
  refine Ev.step (fun k => impl_mutations_impl_IsAcyclic.l0.eq_2 ..) (Ev.ite_pos (by omega) (Ev.ite_pos (by omega) (Ev.ite_pos (by omega) ?_)))
  rw [rdT_lt _ i hi, e, wrap_nat i (by omega)]
  have hE := impl_Exchange_ev n s a b c
  rw [exS_good n s hS a b c hab hbc hc] at hE
  have hM := impl_IsAcyclic_ev n (exT n s a b c)
  have hp : isA n (exT n s a b c) = pass true n (exT n s a b c) := by simp [isA, pass]
  rw [hp] at hM
  refine Ev.bind hE ?_
  dsimp only
  cases m : pass true n (exT n s a b c) with
  | false =>
    rw [m] at hM
    rw [if_neg (by simp [m])] at h
    exact Ev.bind hM (Ev.ite_neg (by simp) (ih acc h))
  | true =>
    rw [m] at hM
    rw [if_pos (by simp [m])] at h
    exact Ev.bind hM (Ev.ite_pos rfl (Ev.ite_pos (by omega) (ih _ (by rw [List.append_assoc]; exact h))))
theorem rdL1_ltT (L : List (List Int)) (j : Nat) (h : j < L.length) : rd_L1 L (j : Int) = L[j] := by
  unfold rd_L1
  rw [Int.toNat_natCast, getD_lt _ _ _ h]
theorem rdT31_z (x : GSg) (L : List GSg) : rd_T31 (x :: L) 0 = x := rfl
theorem toList_eqT {s t : ByteArray} : (s.toList == t.toList) = decide (s = t) := by
  by_cases h : s = t
  · rw [decide_eq_true h, h]
    simp
  · rw [decide_eq_false h]
    cases e : s.toList == t.toList with
    | false => rfl
    | true =>
      refine absurd ?_ h
      have e2 : s.toList = t.toList := by simpa using e
      rw [ByteArray.toList_eq, ByteArray.toList_eq] at e2
      exact ByteArray.ext (Array.ext' e2)
theorem okN_U (n : Nat) (hn : n ≤ 5) (p : GSg) (hp : p ∈ allU n) : okN p = true := by
  obtain ⟨h1, h2⟩ := allU_mem n p hp
  obtain ⟨_, _, hs, _⟩ := isS_bounds (isM_S (isAM h2))
  rw [Int.toNat_natCast] at hs
  have h3 := tri_five n hn
  have h4 : p.f0 = (n : Int) := congrArg S31.f0 h1
  unfold okN
  rw [Bool.and_eq_true]
  refine ⟨?_, decide_eq_true (by unfold maxLen; omega)⟩
  rw [h4, ← wrap_in (n := (n : Int)) (by omega) (by omega)]
  exact RowKit.wrap64_wf _
theorem orderMut_ev (n : Nat) (hn : n ≤ 7) (s : ByteArray) (hA : isA n s = true) : Ev (fun k => impl_OrderMutations.f k n s) (mutR true n s) := by
  have hI := impl_IsAcyclic_ev n s
  rw [hA] at hI
  unfold impl_OrderMutations.f
  exact Ev.bind hI (Ev.ite_pos rfl (Ev.bind (impl_mutA_ev n hn s (isM_S (isAM hA))) (Ev.now _)))
theorem exchanged_ev (n : Nat) (hn : n ≤ 7) (s : ByteArray) (hS : isS n s = true) (l : List Int) (hl : l ∈ mutR true n s) : Ev (fun k => impl_exchanged.f k n s l) ((n : Int), (nxT n ⟨n, s⟩ l).f1) := by
  obtain ⟨a, b, c, hab, hbc, hc, rfl, hp, ht⟩ := mem_mut n hn s l hl
  have hE := impl_Exchange_ev n s a b c
  rw [exS_good n s hS a b c hab hbc hc] at hE
  unfold impl_exchanged.f
  exact Ev.ite_pos (by simp) (Ev.ite_pos (by simp) (Ev.ite_pos (by simp) (Ev.bind hE (Ev.now _))))
def nbT (n : Nat) (u : GSg) : List GSg := (adjP n u).map Prod.snd
theorem nbT_length (n : Nat) (u : GSg) : (nbT n u).length = (mutR true n u.f1).length := by
  unfold nbT adjP
  rw [List.length_map, List.length_map]
theorem nbT_get (n : Nat) (u : GSg) (j : Nat) (h : j < (nbT n u).length) (h' : j < (mutR true n u.f1).length) : (nbT n u)[j] = nxT n u (mutR true n u.f1)[j] := by
  simp only [nbT, adjP, List.getElem_map]
theorem nb_in (n : Nat) (hn : n ≤ 5) (u : GSg) (hu : u ∈ allU n) (v : GSg) (hv : v ∈ nbT n u) : v ∈ allU n := by
  unfold nbT at hv
  rw [List.mem_map] at hv
  obtain ⟨e, he, rfl⟩ := hv
  exact adj_in n hn u hu e he
theorem mpT_l1 (n : Nat) (hn : n ≤ 5) (n0 : Int) (s0 : ByteArray) (t : GSg) (b : ByteArray) (k0 : Nat) (u : GSg) (dd : Int) (r : List (List Int)) : ∀ (d j : Nat) (es : List (GSg × Int)), j + d = (mutR true n u.f1).length → InvI (nbT n) t (allU n) k0 es → es[k0]? = some (u, dd) → (∀ a ∈ es, a.2 ≤ dd + 1) →
    (Ev (fun k => impl_MutationPath.l0 k (((innI dd ((nbT n u).drop j) es).drop (k0 + 1)).map Prod.fst) n0 s0 t.f0 t.f1 (innI dd ((nbT n u).drop j) es) b) r) →
    Ev (fun k => impl_MutationPath.l1 k ((es.drop k0).map Prod.fst) (mutR true n u.f1) ((mutR true n u.f1).length : Int) j n0 s0 t.f0 t.f1 es b) r
  | 0, j, es, hd, hI, hu, near, h => by
    have hk : k0 < es.length := (List.getElem?_eq_some_iff.1 hu).1
    rw [show (nbT n u).drop j = [] from List.drop_of_length_le (by rw [nbT_length]; omega), innI] at h
    refine Ev.step (fun k => impl_MutationPath.l1.eq_2 ..) (Ev.ite_neg (by omega) (Ev.ite_pos (by rw [List.length_map, List.length_drop]; omega) ?_))
    rw [show (1 : Int).toNat = 1 from rfl, ← List.map_drop, List.drop_drop]
    exact h
  | d + 1, j, es, hd, hI, hu, near, h => by
    have hk : k0 < es.length := (List.getElem?_eq_some_iff.1 hu).1
    have eF : es[k0] = (u, dd) := (List.getElem?_eq_some_iff.1 hu).2
    have hz : es.length ≤ 1024 := Nat.le_trans hI.len (allU_length n hn)
    have hm := (mutR_small true n (by omega) u.f1).2
    have hj : j < (mutR true n u.f1).length := by omega
    have hjn : j < (nbT n u).length := by rw [nbT_length]; exact hj
    have huU : u ∈ allU n := hI.inU _ (List.mem_of_getElem? hu)
    obtain ⟨hu1, hu2⟩ := allU_mem n u huU
    have eu0 : u.f0 = (n : Int) := congrArg S31.f0 hu1
    have hv : nxT n u (mutR true n u.f1)[j] ∈ nbT n u := by
      rw [← nbT_get n u j hjn hj]
      exact List.getElem_mem hjn
    have hvU := nb_in n hn u huU _ hv
    have eq0 : (es.drop k0).map Prod.fst = u :: (es.drop (k0 + 1)).map Prod.fst := by
      rw [List.drop_eq_getElem_cons hk, eF, List.map_cons]
    have hlk : lookE es u = dd := by
      rw [lookE_G]
      exact lookG_mem hI.nd (List.mem_of_getElem? hu)
    have hb := hI.bd _ (List.mem_of_getElem? hu)
    simp only at hb
    have hx := exchanged_ev n (by omega) u.f1 (isM_S (isAM hu2)) _ (List.getElem_mem hj)
    have enx : (⟨(n : Int), (nxT n ⟨n, u.f1⟩ (mutR true n u.f1)[j]).f1⟩ : GSg) = nxT n u (mutR true n u.f1)[j] := rfl
    rw [List.drop_eq_getElem_cons hjn, nbT_get n u j hjn hj, innI] at h
    refine Ev.step (fun k => impl_MutationPath.l1.eq_2 ..) (Ev.ite_pos (by omega) (Ev.ite_pos (by omega) (Ev.ite_pos (by omega) (Ev.ite_pos (by rw [eq0, List.length_cons]; omega) ?_))))
    rw [rdL1_ltT _ j hj]
    have hx2 : Ev (fun k => impl_exchanged.f k (rd_T31 ((es.drop k0).map Prod.fst) 0).f0 (rd_T31 ((es.drop k0).map Prod.fst) 0).f1 (mutR true n u.f1)[j]) ((n : Int), (nxT n ⟨n, u.f1⟩ (mutR true n u.f1)[j]).f1) := by
      rw [eq0, rdT31_z, eu0]
      exact hx
    refine Ev.bind hx2 ?_
    dsimp only
    have hM : hasM es ((es.drop k0).map Prod.fst) (n : Int) (nxT n ⟨n, u.f1⟩ (mutR true n u.f1)[j]).f1 = some (hasG es (nxT n u (mutR true n u.f1)[j])) := by
      unfold hasM
      rw [if_pos ⟨by rw [enx]; exact okN_U n hn _ hvU, by rw [eq0, rdT31_z]; exact okN_U n hn _ huU, by omega⟩, enx, hasE_G]
    refine Ev.bind0 hM ?_
    cases hh : hasG es (nxT n u (mutR true n u.f1)[j]) with
    | true =>
      rw [hh, if_pos rfl] at h
      rw [wrap_nat j (by omega)]
      exact Ev.ite_pos rfl (mpT_l1 n hn n0 s0 t b k0 u dd r d (j + 1) es (by omega) hI hu near h)
    | false =>
      rw [hh, if_neg (by simp)] at h
      rw [wrap_nat j (by omega)]
      have hA : addM es ((es.drop k0).map Prod.fst) (n : Int) (nxT n ⟨n, u.f1⟩ (mutR true n u.f1)[j]).f1 = es ++ [(nxT n u (mutR true n u.f1)[j], dd + 1)] := by
        unfold addM
        rw [eq0, rdT31_z, hlk, enx, wrap_in (by omega) (by omega)]
      refine Ev.ite_neg (by simp) (Ev.ite_pos (by rw [List.length_map, List.length_drop]; omega) ?_)
      rw [hA, enx]
      have ih := mpT_l1 n hn n0 s0 t b k0 u dd r d (j + 1) (es ++ [(nxT n u (mutR true n u.f1)[j], dd + 1)]) (by omega) (inv_add hI hu near hv hvU hh) (by rw [List.getElem?_append_left hk]; exact hu) (fun a ha => by
        rcases List.mem_append.1 ha with ha | ha
        · exact near a ha
        · rw [List.mem_singleton] at ha
          rw [ha]
          exact Int.le_refl _) h
      rw [List.drop_append_of_le_length (by omega), List.map_append] at ih
      exact ih
theorem mpT_l0 (n : Nat) (hn : n ≤ 5) (n0 : Int) (s0 : ByteArray) (t : GSg) (b : ByteArray) (o : List (GSg × Int)) (r : List (List Int)) (hend : Ev (fun k => (metM o n0 s0).bind fun z => if z = true then impl_MutationPath.l2 k [] n0 s0 t.f0 t.f1 o b else some []) r) : ∀ (f k0 : Nat) (es : List (GSg × Int)), InvI (nbT n) t (allU n) k0 es → (∀ b, es[k0]? = some b → ∀ a ∈ es, a.2 ≤ b.2 + 1) → outI (nbT n) f k0 es = some o →
    Ev (fun k => impl_MutationPath.l0 k ((es.drop k0).map Prod.fst) n0 s0 t.f0 t.f1 es b) r
  | 0, _, _, _, _, h => by cases h
  | f + 1, k0, es, hI, near, h => by
    rw [outI] at h
    cases he : es[k0]? with
    | none =>
      rw [he] at h
      obtain rfl := Option.some.inj h
      have := List.getElem?_eq_none_iff.1 he
      refine Ev.step (fun k => impl_MutationPath.l0.eq_2 ..) (Ev.ite_neg (by rw [List.length_map, List.length_drop]; omega) hend)
    | some e =>
      obtain ⟨u, dd⟩ := e
      rw [he] at h
      simp only at h
      have hk : k0 < es.length := (List.getElem?_eq_some_iff.1 he).1
      have eF : es[k0] = (u, dd) := (List.getElem?_eq_some_iff.1 he).2
      have huU : u ∈ allU n := hI.inU _ (List.mem_of_getElem? he)
      obtain ⟨hu1, hu2⟩ := allU_mem n u huU
      have eu0 : u.f0 = (n : Int) := congrArg S31.f0 hu1
      have eq0 : (es.drop k0).map Prod.fst = u :: (es.drop (k0 + 1)).map Prod.fst := by
        rw [List.drop_eq_getElem_cons hk, eF, List.map_cons]
      have hO : Ev (fun k => impl_OrderMutations.f k (rd_T31 ((es.drop k0).map Prod.fst) 0).f0 (rd_T31 ((es.drop k0).map Prod.fst) 0).f1) (mutR true n u.f1) := by
        rw [eq0, rdT31_z, eu0]
        exact orderMut_ev n (by omega) u.f1 hu2
      refine Ev.step (fun k => impl_MutationPath.l0.eq_2 ..) (Ev.ite_pos (by rw [List.length_map, List.length_drop]; omega) (Ev.ite_pos (by rw [List.length_map, List.length_drop]; omega) (Ev.bind hO ?_)))
      refine mpT_l1 n hn n0 s0 t b k0 u dd r _ 0 es (Nat.zero_add _) hI he (near _ he) ?_
      rw [List.drop_zero]
      obtain ⟨h1, h2⟩ := step_inv (nb := nbT n) (fun x hx v hv => nb_in n hn x hx v hv) hI near he
      exact mpT_l0 n hn n0 s0 t b o r hend f (k0 + 1) _ h1 h2 h
theorem mpT_l3 (n : Nat) (hn : n ≤ 5) (t : GSg) (b : ByteArray) (es : List (GSg × Int)) (hes : ∀ p, -1000000 ≤ lookE es p ∧ lookE es p ≤ 1000000) (s : GSg) (hs : s ∈ allU n) (out : List (List Int)) (hz : out.length ≤ 1000000) (e : List Int × GSg) (r : List (List Int)) (hr : Ev (fun k => impl_MutationPath.l2 k (out ++ [e.1]) e.2.f0 e.2.f1 t.f0 t.f1 es b) r) : ∀ (d j : Nat), j + d = (mutR true n s.f1).length → ((adjP n s).drop j).find? (fun e => decide (lookG es e.2 = lookG es s - 1)) = some e →
    Ev (fun k => impl_MutationPath.l3 k out (mutR true n s.f1) ((mutR true n s.f1).length : Int) j s.f0 s.f1 t.f0 t.f1 es b) r
  | 0, j, hd, h => by
    rw [List.drop_of_length_le (by unfold adjP; rw [List.length_map]; omega)] at h
    cases h
  | d + 1, j, hd, h => by
    have hm := (mutR_small true n (by omega) s.f1).2
    have hj : j < (mutR true n s.f1).length := by omega
    have hja : j < (adjP n s).length := by unfold adjP; rw [List.length_map]; exact hj
    have e1 : (adjP n s)[j] = ((mutR true n s.f1)[j], nxT n s (mutR true n s.f1)[j]) := by simp only [adjP, List.getElem_map]
    obtain ⟨hu1, hu2⟩ := allU_mem n s hs
    have eu0 : s.f0 = (n : Int) := congrArg S31.f0 hu1
    have hx := exchanged_ev n (by omega) s.f1 (isM_S (isAM hu2)) _ (List.getElem_mem hj)
    have enx : (⟨(n : Int), (nxT n ⟨n, s.f1⟩ (mutR true n s.f1)[j]).f1⟩ : GSg) = nxT n s (mutR true n s.f1)[j] := rfl
    have hvU := adj_in n hn s hs _ (List.getElem_mem hja)
    rw [e1] at hvU
    have hl := hes s
    have hE : eqM es (n : Int) (nxT n ⟨n, s.f1⟩ (mutR true n s.f1)[j]).f1 s.f0 s.f1 = some (decide (lookG es (nxT n s (mutR true n s.f1)[j]) = lookG es s - 1)) := by
      unfold eqM
      rw [if_pos ⟨by rw [enx]; exact okN_U n hn _ hvU, okN_U n hn _ hs⟩, enx, wrap_in (by show _ ≤ lookE es s - 1; omega) (by show lookE es s - 1 ≤ _; omega), lookE_G, lookE_G]
    rw [List.drop_eq_getElem_cons hja, e1] at h
    refine Ev.step (fun k => impl_MutationPath.l3.eq_2 ..) (Ev.ite_pos (by omega) (Ev.ite_pos (by omega) (Ev.ite_pos (by omega) ?_)))
    rw [rdL1_ltT _ j hj]
    have hx2 : Ev (fun k => impl_exchanged.f k s.f0 s.f1 (mutR true n s.f1)[j]) ((n : Int), (nxT n ⟨n, s.f1⟩ (mutR true n s.f1)[j]).f1) := by
      rw [eu0]
      exact hx
    refine Ev.bind hx2 (Ev.bind0 hE ?_)
    by_cases c : lookG es (nxT n s (mutR true n s.f1)[j]) = lookG es s - 1
    · rw [List.find?_cons_of_pos (by exact decide_eq_true c)] at h
      obtain rfl := Option.some.inj h
      exact Ev.ite_pos (decide_eq_true c) (Ev.ite_pos (by omega) hr)
    · rw [List.find?_cons_of_neg (by simpa using c)] at h
      rw [wrap_nat j (by omega)]
      exact Ev.ite_neg (by simpa using c) (mpT_l3 n hn t b es hes s hs out hz e r hr d (j + 1) (by omega) h)
theorem mpT_l2 (n : Nat) (hn : n ≤ 5) (t : GSg) (b : ByteArray) (es : List (GSg × Int)) (hes : ∀ p, -1000000 ≤ lookE es p ∧ lookE es p ≤ 1000000) (r : List (List Int)) : ∀ (f : Nat) (s : GSg) (out : List (List Int)), s ∈ allU n → out.length + f ≤ 1000000 → grd (adjP n) (lookG es) t f s out = some r →
    Ev (fun k => impl_MutationPath.l2 k out s.f0 s.f1 t.f0 t.f1 es b) r
  | 0, _, _, _, _, h => by cases h
  | f + 1, s, out, hs, hz, h => by
    rw [grd] at h
    have hc : (!(s.f0 == t.f0) || (!(s.f1.toList == t.f1.toList))) = !decide (s = t) := by
      rw [toList_eqT]
      by_cases e : s = t
      · subst e
        simp
      · rw [decide_eq_false e]
        by_cases c1 : s.f0 = t.f0
        · have c2 : s.f1 ≠ t.f1 := fun h2 => e (by
            obtain ⟨a, b⟩ := s
            obtain ⟨a', b'⟩ := t
            simp only at c1 h2
            rw [c1, h2])
          rw [decide_eq_false c2]
          simp
        · have : (s.f0 == t.f0) = false := by simpa using c1
          rw [this]
          rfl
    by_cases e : s = t
    · rw [if_pos e] at h
      obtain rfl := Option.some.inj h
      refine Ev.step (fun k => impl_MutationPath.l2.eq_2 ..) (Ev.ite_neg ?_ (Ev.now _))
      rw [hc, decide_eq_true e]
      simp
    · rw [if_neg e] at h
      cases hf : (adjP n s).find? (fun e => decide (lookG es e.2 = lookG es s - 1)) with
      | none =>
        simp only [hf] at h
        cases h
      | some x =>
        simp only [hf] at h
        obtain ⟨hu1, hu2⟩ := allU_mem n s hs
        have eu0 : s.f0 = (n : Int) := congrArg S31.f0 hu1
        have hO : Ev (fun k => impl_OrderMutations.f k s.f0 s.f1) (mutR true n s.f1) := by
          rw [eu0]
          exact orderMut_ev n (by omega) s.f1 hu2
        refine Ev.step (fun k => impl_MutationPath.l2.eq_2 ..) (Ev.ite_pos (by rw [hc, decide_eq_false e]; rfl) (Ev.bind hO ?_))
        have hx : x.2 ∈ allU n := adj_in n hn s hs x (List.mem_of_find?_eq_some hf)
        refine mpT_l3 n hn t b es hes s hs out (by omega) x r (mpT_l2 n hn t b es hes r f x.2 (out ++ [x.1]) hx (by rw [List.length_append, List.length_singleton]; omega) h) _ 0 (Nat.zero_add _) ?_
        rw [List.drop_zero]
        exact hf
theorem rd_ltZ (l : List Int) (i : Nat) (h : i < l.length) : rd l (i : Int) = l[i] := by
  unfold rd
  rw [Int.toNat_natCast, getD_lt _ _ _ h]
theorem eqIntS_selfZ (l : List Int) (hl : l.length ≤ 1048576) : Ev (fun k => laws_eqIntS.f k l l) true := by
  unfold laws_eqIntS.f
  refine Ev.ite_pos rfl ?_
  refine Ev.loop (fun i k => laws_eqIntS.l0 k l l i) l.length true ?_ ?_ 0 (by omega)
  · refine Ev.step (fun k => laws_eqIntS.l0.eq_2 ..) ?_
    exact Ev.ite_neg (by omega) (Ev.now _)
  · intro i hi ih
    refine Ev.step (fun k => laws_eqIntS.l0.eq_2 ..) ?_
    refine Ev.ite_pos (by omega) (Ev.ite_pos (by omega) (Ev.ite_pos (by omega) (Ev.ite_pos rfl ?_)))
    rw [wrap_nat i (by omega)]
    exact ih
def smallSS (L : List (List Int)) : Prop := L.length ≤ 1000 ∧ ∀ l ∈ L, l.length ≤ 1000
theorem rdLL (L : List (List Int)) (j : Nat) (h : j < L.length) : rd_L1 L (j : Int) = L[j] := by
  unfold rd_L1
  rw [Int.toNat_natCast, getD_lt _ _ _ h]
def marksF (c n : Nat) : List Int := (List.range n).map fun i => ((c + i : Nat) : Int)
theorem marksF_length (c n : Nat) : (marksF c n).length = n := by simp [marksF]
theorem rd_marksF (c n i : Nat) (h : i < n) : rd (marksF c n) (i : Int) = ((c + i : Nat) : Int) := by
  rw [rd_ltZ _ _ (by rw [marksF_length]; exact h)]
  simp [marksF]
theorem marksF_set (l : List Int) (c n i : Nat) (hl : l.length = n) (hi : i < n) : (marksF c i ++ l.drop i).set i ((c + i : Nat) : Int) = marksF c (i + 1) ++ l.drop (i + 1) := by
  have h0 : (marksF c i).length = i := marksF_length c i
  rw [List.set_append_right _ _ (by omega), h0, Nat.sub_self, List.drop_eq_getElem_cons (by omega), List.set_cons_zero]
  simp [marksF, List.range_succ]
theorem markIntS_from (l : List Int) (c : Nat) (hc : c ≤ 100000000) (hl : l.length ≤ 1048576) : Ev (fun k => laws_markIntS.f k l c) (((c + l.length : Nat) : Int), marksF c l.length) := by
  have key := Ev.loop (fun i k => laws_markIntS.l0 k (marksF c i ++ l.drop i) ((c + i : Nat) : Int) i) l.length (((c + l.length : Nat) : Int), marksF c l.length) ?_ ?_ 0 (by omega)
  · unfold laws_markIntS.f
    simpa [marksF] using key
  · refine Ev.step (fun k => laws_markIntS.l0.eq_2 ..) ?_
    refine Ev.ite_neg (by simp [marksF_length]) (Ev.const ?_)
    simp
  · intro i hi ih
    refine Ev.step (fun k => laws_markIntS.l0.eq_2 ..) ?_
    refine Ev.ite_pos (by simp [marksF_length]; omega) (Ev.ite_pos (by omega) ?_)
    rw [wrap_nat i (by omega), wrap_nat (c + i) (by omega), Int.toNat_natCast, marksF_set l c l.length i rfl hi]
    exact ih
theorem heldIntS_from (c n : Nat) (hc : c ≤ 100000000) (hl : n ≤ 1048576) : Ev (fun k => laws_heldIntS.f k (marksF c n) c) ((c + n : Nat) : Int) := by
  have key := Ev.loop (fun i k => laws_heldIntS.l0 k (marksF c n) ((c + i : Nat) : Int) i) n ((c + n : Nat) : Int) ?_ ?_ 0 (by omega)
  · exact key
  · refine Ev.step (fun k => laws_heldIntS.l0.eq_2 ..) ?_
    exact Ev.ite_neg (by simp [marksF_length]) (Ev.now _)
  · intro i hi ih
    refine Ev.step (fun k => laws_heldIntS.l0.eq_2 ..) ?_
    refine Ev.ite_pos (by simp [marksF_length]; omega) (Ev.ite_pos (by omega) (Ev.ite_pos (rd_marksF c n i hi) ?_))
    rw [wrap_nat i (by omega), wrap_nat (c + i) (by omega)]
    exact ih
def MK : Nat → List (List Int) → List (List Int)
  | _, [] => []
  | c, l :: L => marksF c l.length :: MK (c + l.length) L
def tot : List (List Int) → Nat
  | [] => 0
  | l :: L => l.length + tot L
theorem MK_length : ∀ (L : List (List Int)) (c : Nat), (MK c L).length = L.length := by
  intro L
  induction L with
  | nil => intro c; rfl
  | cons l L ih => intro c; rw [MK, List.length_cons, ih, List.length_cons]
theorem tot_le : ∀ (L : List (List Int)), (∀ l ∈ L, l.length ≤ 1000) → tot L ≤ 1000 * L.length := by
  intro L
  induction L with
  | nil => intro _; simp [tot]
  | cons l L ih =>
    intro h
    have h1 := ih (fun x hx => h x (List.mem_cons_of_mem _ hx))
    have h2 := h l List.mem_cons_self
    rw [tot, List.length_cons]
    omega
theorem markSS_go : ∀ (L D : List (List Int)) (c : Nat), c + tot L ≤ 10000000 → D.length + L.length ≤ 2000 → (∀ l ∈ L, l.length ≤ 1000) → Ev (fun k => laws_markIntSS.l0 k (D ++ L) c D.length) (((c + tot L : Nat) : Int), D ++ MK c L) := by
  intro L
  induction L with
  | nil =>
    intro D c hc hD _
    refine Ev.step (fun k => laws_markIntSS.l0.eq_2 ..) (Ev.ite_neg (by simp) (Ev.const ?_))
    simp [tot, MK]
  | cons l L ih =>
    intro D c hc hD hl
    rw [tot] at hc
    rw [List.length_cons] at hD
    have h2 := hl l List.mem_cons_self
    refine Ev.step (fun k => laws_markIntSS.l0.eq_2 ..) (Ev.ite_pos (by simp; omega) (Ev.ite_pos (by omega) ?_))
    have hg : (D ++ l :: L).getD ((D.length : Nat) : Int).toNat [] = l := by
      rw [Int.toNat_natCast, List.getD_eq_getElem?_getD, List.getElem?_append_right (by omega), Nat.sub_self]
      rfl
    rw [hg]
    refine Ev.bind (markIntS_from l c (by omega) (by omega)) ?_
    have h := ih (D ++ [marksF c l.length]) (c + l.length) (by omega) (by rw [List.length_append]; simp; omega) (fun x hx => hl x (List.mem_cons_of_mem _ hx))
    have e1 : (D ++ l :: L).set ((D.length : Nat) : Int).toNat (marksF c l.length) = (D ++ [marksF c l.length]) ++ L := by
      rw [Int.toNat_natCast, List.set_append_right _ _ (by omega), Nat.sub_self, List.set_cons_zero, List.append_assoc]
      rfl
    dsimp only
    rw [e1, wrap_nat D.length (by omega)]
    have e2 : (D ++ [marksF c l.length]).length = D.length + 1 := by simp
    rw [e2] at h
    rw [show c + tot (l :: L) = c + l.length + tot L by rw [tot]; omega, show D ++ MK c (l :: L) = (D ++ [marksF c l.length]) ++ MK (c + l.length) L by rw [MK, List.append_assoc]; rfl]
    exact h
theorem heldSS_go : ∀ (L D : List (List Int)) (c : Nat), c + tot L ≤ 10000000 → D.length + L.length ≤ 2000 → (∀ l ∈ L, l.length ≤ 1000) → Ev (fun k => laws_heldIntSS.l0 k (D ++ MK c L) c D.length) ((c + tot L : Nat) : Int) := by
  intro L
  induction L with
  | nil =>
    intro D c hc hD _
    refine Ev.step (fun k => laws_heldIntSS.l0.eq_2 ..) (Ev.ite_neg (by simp [MK]) (Ev.const ?_))
    simp [tot]
  | cons l L ih =>
    intro D c hc hD hl
    rw [tot] at hc
    rw [List.length_cons] at hD
    have h2 := hl l List.mem_cons_self
    rw [MK]
    refine Ev.step (fun k => laws_heldIntSS.l0.eq_2 ..) (Ev.ite_pos (by simp; omega) (Ev.ite_pos (by omega) ?_))
    have hg : rd_L1 (D ++ marksF c l.length :: MK (c + l.length) L) ((D.length : Nat) : Int) = marksF c l.length := by
      unfold rd_L1
      rw [Int.toNat_natCast, List.getD_eq_getElem?_getD, List.getElem?_append_right (by omega), Nat.sub_self]
      rfl
    rw [hg]
    refine Ev.bind (heldIntS_from c l.length (by omega) (by omega)) (Ev.ite_neg (by omega) ?_)
    have h := ih (D ++ [marksF c l.length]) (c + l.length) (by omega) (by rw [List.length_append]; simp; omega) (fun x hx => hl x (List.mem_cons_of_mem _ hx))
    rw [wrap_nat D.length (by omega)]
    have e2 : (D ++ [marksF c l.length]).length = D.length + 1 := by simp
    rw [e2, List.append_assoc] at h
    rw [show c + tot (l :: L) = c + l.length + tot L by rw [tot]; omega]
    exact h
def smallS2 (L : List (List Int)) : Prop := L.length ≤ 2000 ∧ ∀ l ∈ L, l.length ≤ 1000
theorem eqIntSS_self2 (L : List (List Int)) (hL : smallS2 L) : Ev (fun k => laws_eqIntSS.f k L L) true := by
  have h1 := hL.1
  unfold laws_eqIntSS.f
  refine Ev.ite_pos rfl ?_
  refine Ev.loop (fun i k => laws_eqIntSS.l0 k L L i) L.length true ?_ ?_ 0 (by omega)
  · exact Ev.step (fun k => laws_eqIntSS.l0.eq_2 ..) (Ev.ite_neg (by omega) (Ev.now _))
  · intro i hi ih
    refine Ev.step (fun k => laws_eqIntSS.l0.eq_2 ..) (Ev.ite_pos (by omega) (Ev.ite_pos (by omega) (Ev.ite_pos (by omega) ?_)))
    rw [rdLL L i hi, wrap_nat i (by omega)]
    have h2 := hL.2 _ (List.getElem_mem hi)
    exact Ev.bind (eqIntS_selfZ _ (by omega)) (Ev.ite_pos rfl ih)
theorem grd_len (n : Nat) (hn : n ≤ 7) (far : GSg → Int) (t : GSg) : ∀ (f : Nat) (s : GSg) (out r : List (List Int)), (∀ l ∈ out, l.length ≤ 1000) → grd (adjP n) far t f s out = some r → r.length ≤ out.length + f ∧ ∀ l ∈ r, l.length ≤ 1000
  | 0, _, _, _, _, h => by cases h
  | f + 1, s, out, r, ho, h => by
    rw [grd] at h
    split at h
    · obtain rfl := Option.some.inj h
      exact ⟨by omega, ho⟩
    · split at h
      · cases h
      · rename_i e he
        have hm := List.mem_of_find?_eq_some he
        unfold adjP at hm
        obtain ⟨l, hl, rfl⟩ := List.mem_map.1 hm
        have h2 := (mutR_small true n hn s.f1).1.2 l hl
        obtain ⟨i1, i2⟩ := grd_len n hn far t f _ _ r (fun x hx => by
          rcases List.mem_append.1 hx with hx | hx
          · exact ho x hx
          · rw [List.mem_singleton] at hx
            rw [hx]
            exact h2) h
        rw [List.length_append, List.length_singleton] at i1
        exact ⟨by omega, i2⟩
theorem look_bd {nb : GSg → List GSg} {t : GSg} {es : List (GSg × Int)} (h : Far nb t es) (hl : es.length ≤ 1024) (p : GSg) : -1000000 ≤ lookE es p ∧ lookE es p ≤ 1000000 := by
  rw [lookE_G]
  cases hh : hasG es p with
  | true =>
    obtain ⟨d, hd⟩ := hasG_iff.1 hh
    rw [lookG_mem h.nd hd]
    have := h.pos _ hd
    simp only at this
    omega
  | false =>
    have : lookG es p = 0 := by
      unfold lookG
      have hn : es.find? (fun e => decide (e.1 = p)) = none := by
        rw [List.find?_eq_none]
        intro e he hk
        have : hasG es p = true := hasG_iff.2 ⟨e.2, by
          have h1 : e.1 = p := by simpa using hk
          rw [← h1]
          exact he⟩
        rw [hh] at this
        cases this
      rw [hn]
    omega
theorem path_one (n : Nat) (hn : n ≤ 5) (s t : ByteArray) (hs : isA n s = true) (ht : isA n t = true) (hst : s ≠ t) : ∃ L, smallS2 L ∧
    Ev (fun k => spec_MutationPath.l0 k [(⟨(n : Int), s⟩ : GSg)] [[]] 0 n s n t) L ∧ Ev (fun k => impl_MutationPath.l0 k [(⟨(n : Int), t⟩ : GSg)] n s n t (iniM n t) ByteArray.empty) L := by
  have hsU := mem_allU n s hs
  have htU := mem_allU n t ht
  have hL := allU_length n hn
  obtain ⟨o, h1, h2, h3⟩ := outI_far (nbT n) ⟨(n : Int), t⟩ (allU n) htU (fun u hu v hv => nb_in n hn u hu v hv)
  obtain ⟨L, h4, h5⟩ := same_path (adj := adjP n) (U := allU n) (fun u hu e he => adj_in n hn u hu e he) (fun u hu e he => adj_sym n hn u hu e he) hsU (fun e => hst (congrArg S31.f1 e)) h2 h3 1100 1100 (by omega) (by omega)
  have ho : o.length ≤ 1024 := by
    have := nodup_sub_le (o.map Prod.fst) (allU n) h2.nd (fun x hx => by
      obtain ⟨e, he, rfl⟩ := List.mem_map.1 hx
      exact h3 e he)
    rw [List.length_map] at this
    omega
  have hbd := look_bd h2 ho
  refine ⟨L, ?_, ?_, ?_⟩
  · cases hh : hasG o ⟨(n : Int), s⟩ with
    | false =>
      rw [hh, if_neg (by simp)] at h5
      obtain rfl := Option.some.inj h5
      exact ⟨by simp, by simp⟩
    | true =>
      rw [hh, if_pos rfl] at h5
      have := grd_len n (by omega) _ _ _ _ _ _ (fun l hl => by cases hl) h5
      exact ⟨by have h6 := this.1; rw [List.length_nil] at h6; omega, this.2⟩
  · refine mpS_l0 n hn ⟨(n : Int), t⟩ n s rfl L 1100 0 [((⟨(n : Int), s⟩ : GSg), [])] ⟨⟨by simp, ?_, fun _ _ => trivial⟩, ?_⟩ (by omega) h4
    · intro e he
      rw [List.mem_singleton] at he
      rw [he]
      exact hsU
    · intro e he
      rw [List.mem_singleton] at he
      rw [he]
      exact ⟨Nat.zero_le _, fun l hl => by cases hl⟩
  · refine mpT_l0 n hn n s ⟨(n : Int), t⟩ ByteArray.empty o L ?_ 1100 0 [((⟨(n : Int), t⟩ : GSg), 0)] (inv_start _ _ _ htU) ?_ (h1 1100 (by omega))
    · have hM : metM o (n : Int) s = some (hasG o ⟨(n : Int), s⟩) := by
        unfold metM
        rw [if_pos (okN_U n hn _ hsU), hasE_G]
      refine Ev.bind0 hM ?_
      cases hh : hasG o ⟨(n : Int), s⟩ with
      | false =>
        rw [hh, if_neg (by simp)] at h5
        obtain rfl := Option.some.inj h5
        exact Ev.ite_neg (by simp) (Ev.now _)
      | true =>
        rw [hh, if_pos rfl] at h5
        exact Ev.ite_pos rfl (mpT_l2 n hn ⟨(n : Int), t⟩ ByteArray.empty o hbd L 1100 ⟨(n : Int), s⟩ [] hsU (by rw [List.length_nil]; omega) h5)
    · intro b hb a ha
      simp at hb ha
      subst hb
      subst ha
      simp
theorem mutationPath_both (n : Int) (s : ByteArray) (m : Int) (t : ByteArray) (hok : okN ⟨m, t⟩ = true) : ∃ L, smallS2 L ∧ Ev (fun k => spec_MutationPath.f k n s m t) L ∧ Ev (fun k => impl_MutationPath.f k n s m t) L := by
  have jS : Ev (fun k => spec_MutationPath.j0 k true n s m t) [] := Ev.step (fun k => spec_MutationPath.j0.eq_2 ..) (Ev.ite_pos rfl (Ev.now _))
  have jI : Ev (fun k => impl_MutationPath.j0 k true n s m t) [] := Ev.step (fun k => impl_MutationPath.j0.eq_2 ..) (Ev.ite_pos rfl (Ev.now _))
  have s0 : smallS2 [] := ⟨by simp, by simp⟩
  have hS1 := spec_IsAcyclic_ev n s
  have hI1 := impl_IsAcyclic_ev n s
  have hS2 := spec_IsAcyclic_ev m t
  have hI2 := impl_IsAcyclic_ev m t
  unfold spec_MutationPath.f impl_MutationPath.f impl_MutationPath.f0
  simp only [if_pos hok]
  cases hA : isA n s with
  | false =>
    rw [hA] at hS1 hI1
    exact ⟨[], s0, Ev.bind hS1 (Ev.ite_neg (by simp) jS), Ev.bind hI1 (Ev.ite_neg (by simp) jI)⟩
  | true =>
    rw [hA] at hS1 hI1
    cases hB : isA m t with
    | false =>
      rw [hB] at hS2 hI2
      exact ⟨[], s0, Ev.bind hS1 (Ev.ite_pos rfl (Ev.bind hS2 (Ev.ite_neg (by simp) jS))), Ev.bind hI1 (Ev.ite_pos rfl (Ev.bind hI2 (Ev.ite_neg (by simp) jI)))⟩
    | true =>
      rw [hB] at hS2 hI2
      by_cases hnm : n = m
      case neg => exact ⟨[], s0, Ev.bind hS1 (Ev.ite_pos rfl (Ev.bind hS2 (Ev.ite_pos rfl (Ev.ite_neg hnm jS)))), Ev.bind hI1 (Ev.ite_pos rfl (Ev.bind hI2 (Ev.ite_pos rfl (Ev.ite_neg hnm jI))))⟩
      by_cases h5 : n > 5
      · exact ⟨[], s0, Ev.bind hS1 (Ev.ite_pos rfl (Ev.bind hS2 (Ev.ite_pos rfl (Ev.ite_pos hnm (Ev.ite_pos h5 jS))))), Ev.bind hI1 (Ev.ite_pos rfl (Ev.bind hI2 (Ev.ite_pos rfl (Ev.ite_pos hnm (Ev.ite_pos h5 jI)))))⟩
      have e := gs_eq ⟨n, s⟩ m t
      dsimp only at e
      rw [e]
      subst hnm
      by_cases hst : s = t
      · have e1 : decide ((⟨n, s⟩ : GSg) = ⟨n, t⟩) = true := decide_eq_true (by rw [hst])
        rw [e1]
        exact ⟨[], s0, Ev.bind hS1 (Ev.ite_pos rfl (Ev.bind hS2 (Ev.ite_pos rfl (Ev.ite_pos rfl (Ev.ite_neg h5 jS))))), Ev.bind hI1 (Ev.ite_pos rfl (Ev.bind hI2 (Ev.ite_pos rfl (Ev.ite_pos rfl (Ev.ite_neg h5 jI)))))⟩
      · have e1 : decide ((⟨n, s⟩ : GSg) = ⟨n, t⟩) = false := decide_eq_false (fun h => hst (congrArg S31.f1 h))
        rw [e1]
        obtain ⟨h3, _, _, _⟩ := isS_bounds (isM_S (isAM hA))
        obtain ⟨N, rfl⟩ := Int.eq_ofNat_of_zero_le (show 0 ≤ n by omega)
        obtain ⟨L, hL, g1, g2⟩ := path_one N (by omega) s t hA hB hst
        exact ⟨L, hL, Ev.bind hS1 (Ev.ite_pos rfl (Ev.bind hS2 (Ev.ite_pos rfl (Ev.ite_pos rfl (Ev.ite_neg h5 (Ev.step (fun k => spec_MutationPath.j0.eq_2 ..) (Ev.ite_neg (by simp) g1))))))),
          Ev.bind hI1 (Ev.ite_pos rfl (Ev.bind hI2 (Ev.ite_pos rfl (Ev.ite_pos rfl (Ev.ite_neg h5 (Ev.step (fun k => impl_MutationPath.j0.eq_2 ..) (Ev.ite_neg (by simp) g2)))))))⟩
end Go.Proofs.Ytoajlmlobaccdaa.Pure
namespace Go.Proofs.Ytoajlmlobaccdaa.Pure
set_option linter.unusedSimpArgs false
set_option linter.unusedVariables false
open Go.RowKit Go.Proofs.YtoajlmlobaccdaaW.PrintWords Go.Proofs.Ytoajlmlobaccdaa.P Go.Proofs.Ytoajlmlobaccdaa.Pl Go.Proofs.Ytoajlmlobaccdaa.Rk
theorem szSigns_eqM (n : Int) (s : ByteArray) (a : Int) (h0 : 0 ≤ a) (h1 : a ≤ 1048576) (hl : s.size ≤ 9223372036854775807) : laws_szSigns.f n s a = some (if a < s.size then -1 else a - s.size) := by
  unfold laws_szSigns.f
  rw [wrap_in (by omega) (by omega)]
  by_cases h : a < (s.size : Int)
  · rw [if_pos h, if_pos (by omega)]
  · rw [if_neg h, if_neg (by omega)]
theorem okN_of (n : Int) (s : ByteArray) (h : I64 n) (hs : s.size ≤ 1048576) : okN ⟨n, s⟩ = true := by
  unfold I64 at h
  unfold okN
  rw [Bool.and_eq_true]
  refine ⟨?_, decide_eq_true (by unfold maxLen; show s.size ≤ _; omega)⟩
  show (Lit.int .i64 n).wf = true
  rw [← wrap_in (n := n) (by omega) (by omega)]
  exact RowKit.wrap64_wf _
theorem FnExactMutationPath (s0 : S28) (s1 : S28) (hq : Q28 s0) (hq1 : Q28 s1) : ∃ k, laws_FnExactMutationPath.f k s0.f0 s0.f1 s1.f0 s1.f1 = some true := by
  refine Ev.rounds (g := fun k => laws_FnExactMutationPath.f k s0.f0 s0.f1 s1.f0 s1.f1) ?_
  unfold laws_FnExactMutationPath.f
  refine Ev.bind0 (szSigns_eqM _ _ 1048576 (by omega) (by omega) hq.2) ?_
  by_cases hs : 1048576 < (s0.f1.size : Int)
  · rw [if_pos hs]
    exact Ev.ite_pos (by omega) (Ev.now _)
  rw [if_neg hs]
  refine Ev.ite_neg (by omega) ?_
  refine Ev.bind0 (szSigns_eqM _ _ _ (by omega) (by omega) hq1.2) ?_
  by_cases hs1 : 1048576 - (s0.f1.size : Int) < (s1.f1.size : Int)
  · rw [if_pos hs1]
    exact Ev.ite_pos (by omega) (Ev.now _)
  rw [if_neg hs1]
  refine Ev.ite_neg (by omega) ?_
  obtain ⟨L, hL, h1, h2⟩ := mutationPath_both s0.f0 s0.f1 s1.f0 s1.f1 (okN_of _ _ hq1.1 (by omega))
  have h := tot_le L hL.2
  have g1 := hL.1
  have m1 : Ev (fun k => laws_markIntSS.f k L 1) (((1 + tot L : Nat) : Int), MK 1 L) := by
    unfold laws_markIntSS.f
    exact markSS_go L [] 1 (by omega) (by rw [List.length_nil]; omega) hL.2
  have m2 : Ev (fun k => laws_heldIntSS.f k (MK 1 L) 1) ((1 + tot L : Nat) : Int) := by
    unfold laws_heldIntSS.f
    exact heldSS_go L [] 1 (by omega) (by rw [List.length_nil]; omega) hL.2
  have e := eqIntSS_self2 L hL
  refine Ev.bind0 rfl (Ev.bind0 rfl (Ev.bind h1 (Ev.bind0 rfl (Ev.bind0 rfl (Ev.bind h2 (Ev.bind e (Ev.ite_pos rfl (Ev.bind m1 (Ev.ite_pos (MK_length L 1).symm (Ev.bind m2 (Ev.ite_neg ?_ (Ev.ite_pos rfl ?_))))))))))))
  · omega
  · exact Ev.bind0 rfl (Ev.bind0 rfl (Ev.bind h2 (Ev.bind e (Ev.ite_pos rfl (Ev.bind m2 (Ev.ite_neg (by omega) (Ev.ite_pos rfl (Ev.now _))))))))
end Go.Proofs.Ytoajlmlobaccdaa.Pure
