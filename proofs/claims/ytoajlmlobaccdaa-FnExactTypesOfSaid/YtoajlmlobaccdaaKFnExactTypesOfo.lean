/- What the law FnExactTypesOf reaches, part 15: functions as plain Lean functions with the proofs that their calls come to them, and plain lemmas over these. Put together by a program (wip/pack.py). -/
import Derived.Test.YtoajlmlobaccdaaKFnExactTypesOfn
import Derived.Test.YtoajlmlobaccdaaKFnExactTypesOfm
import Derived.Test.YtoajlmlobaccdaaKFnExactTypesOfg
namespace Go.Proofs.Ytoajlmlobaccdaa.Pure
set_option linter.unusedSimpArgs false
set_option linter.unusedVariables false
set_option maxRecDepth 100000
open Go.RowKit Go.Proofs.YtoajlmlobaccdaaW.PrintWords Go.Proofs.Ytoajlmlobaccdaa.P Go.Proofs.Ytoajlmlobaccdaa.Pl
def LTof (n : Nat) (s : ByteArray) : ByteArray := minL s ((AN n).flatMap fun q => [pickT n s q, pickT n (oppT s) q])
theorem isS_good {n : Nat} {s : ByteArray} (h : isS (n : Int) s = true) : 3 ≤ n ∧ n ≤ 7 ∧ s.size = (tri n).length ∧ s.size ≤ 35 ∧ (List.range s.size).all (isPM s) = true := by
  obtain ⟨m, hm, h3, h7, hs, h35, hp⟩ := isS_nat h
  obtain rfl : n = m := by omega
  exact ⟨h3, h7, hs, h35, hp⟩
theorem orb_mem (n : Nat) (hn : n ≤ 6) (s : ByteArray) (h : isS (n : Int) s = true) (z : ByteArray) : z ∈ s :: ((AN n).flatMap fun q => [pickT n s q, pickT n (oppT s) q]) ↔ ∃ q ∈ AN n, z = pickT n s q ∨ z = pickT n (oppT s) q := by
  obtain ⟨h3, h7, hs, h35, hpm⟩ := isS_good h
  rw [List.mem_cons, List.mem_flatMap]
  constructor
  · rintro (h | ⟨q, hq, h⟩)
    · exact ⟨idL n, id_mem n hn, .inl (by rw [pick_id n hn s hs hpm]; exact h)⟩
    · exact ⟨q, hq, by simpa using h⟩
  · rintro ⟨q, hq, h⟩
    exact .inr ⟨q, hq, by simpa using h⟩
theorem least_ev (n : Nat) (hn : n ≤ 6) (s : ByteArray) (h : isS (n : Int) s = true) : Ev (fun k => spec_LeastSigns.f k (n : Int) s) ((n : Int), LTof n s, true) ∧ Ev (fun k => impl_LeastSigns.f k (n : Int) s) ((n : Int), LTof n s, true) := by
  obtain ⟨h3, h7, hs, h35, hpm⟩ := isS_good h
  have hF := fits_ev (n : Int) s
  rw [h, decide_eq_true (show (n : Int) ≤ 6 by omega)] at hF
  have h1 := spec_least n hn s (oppT s) hs (by rw [oppT_sizeL]; exact hs) (AN n).length 0 (by omega) s
  rw [List.drop_zero] at h1
  have hS : Ev (fun k => spec_LeastSigns.f k (n : Int) s) ((n : Int), LTof n s, true) := by
    unfold spec_LeastSigns.f
    exact Ev.bind hF (Ev.ite_pos rfl (Ev.bind (opp_spec n s h) (Ev.bind (orders_ev n hn) h1)))
  obtain ⟨v, e1, e2⟩ := least_both (n : Int) s (by omega)
  have := Ev.uniq e1 hS
  rw [this] at e2
  exact ⟨hS, e2⟩
theorem pick_good (n : Nat) (h5 : n ≤ 6) (s : ByteArray) (h : isS (n : Int) s = true) (q : List Int) : isS (n : Int) (pickT n s q) = true := by
  obtain ⟨h3, h7, hs, h35, hpm⟩ := isS_good h
  have hz := pick_size n s q
  have hl : (pickC n s q).length = (tri n).length := by unfold pickC; rw [List.length_map]
  unfold isS at h ⊢
  rw [Bool.and_eq_true] at h ⊢
  have hd := of_decide_eq_true h.1
  refine ⟨decide_eq_true ⟨hd.1, hd.2.1, by rw [hz, ← hs]; exact hd.2.2⟩, ?_⟩
  rw [List.all_eq_true]
  intro m hm
  have hm : m < (tri n).length := by rw [hz] at hm; simpa using hm
  have e0 : (pickC n s q)[m]'(by omega) = pm (sg n s (rd q (tri n)[m].f0) (rd q (tri n)[m].f1) (rd q (tri n)[m].f2)) := by simp [pickC]
  have e : bt (pickT n s q) (m : Int) = pm (sg n s (rd q (tri n)[m].f0) (rd q (tri n)[m].f1) (rd q (tri n)[m].f2)) := by
    unfold pickT
    rw [bt_strOf _ _ (by omega) (by rw [e0]; unfold pm; split <;> decide), e0]
  unfold isPM
  rw [e]
  unfold pm
  split <;> rfl
theorem inv_comp (n : Nat) (h5 : n ≤ 6) (q p : List Int) (hq : q ∈ AN n) (hp : p ∈ AN n) : comp q (comp (inv q) p) = p := by
  have hQ := AN_P n h5 q hq
  have hP := AN_P n h5 p hp
  have hl : p.length = n := hP.1
  apply List.ext_getElem
  · unfold comp; rw [List.length_map, List.length_map]
  · intro i h1 h2
    have hi : i < n := by omega
    obtain ⟨a, ha⟩ := Int.eq_ofNat_of_zero_le (hP.2.2 i hi).1.1
    have ha2 : a < n := by have := (hP.2.2 i hi).1.2.1; omega
    have e1 : p[i] = (a : Int) := by rw [← rdIdx p i h2, ha]
    have e2 : (comp (inv q) p)[i]'(by unfold comp; rw [List.length_map]; exact h2) = rd (inv q) (a : Int) := by
      simp only [comp, List.getElem_map, e1]
    have e3 : (comp q (comp (inv q) p))[i] = rd q (rd (inv q) (a : Int)) := by
      have : (comp q (comp (inv q) p))[i] = rd q ((comp (inv q) p)[i]'(by unfold comp; rw [List.length_map]; exact h2)) := by simp only [comp, List.getElem_map]
      rw [this, e2]
    rw [e3, e1]
    obtain ⟨b, hb⟩ := Int.eq_ofNat_of_zero_le (hQ.2.2 a ha2).1.2.2.1
    have hb2 : b < n := by have := (hQ.2.2 a ha2).1.2.2.2; omega
    rw [hb]
    exact (((hQ.2.2 b hb2).2 a ha2).2 hb).symm
theorem LT_pick (n : Nat) (h3 : 3 ≤ n) (h5 : n ≤ 5) (s : ByteArray) (h : isS (n : Int) s = true) (q : List Int) (hq : q ∈ AN n) : LTof n (pickT n s q) = LTof n s := by
  obtain ⟨_, _, hs, h35, hpm⟩ := isS_good h
  have ho : isS (n : Int) (pickT n s q) = true := pick_good n (by omega) s h q
  have hopp : oppT (pickT n s q) = pickT n (oppT s) q := (pick_opp n (by omega) s hs hpm q (AN_P n (by omega) q hq)).symm
  refine minL_unique _ _ _ _ (fun z => ?_)
  rw [orb_mem n (by omega) _ ho, orb_mem n (by omega) _ h, hopp]
  constructor
  · rintro ⟨p, hp, hz⟩
    refine ⟨comp q p, comp_mem n h3 h5 q p hq hp, ?_⟩
    rw [pick_pick n h3 h5 s q p hq hp, pick_pick n h3 h5 (oppT s) q p hq hp] at hz
    exact hz
  · rintro ⟨p, hp, hz⟩
    have hi := inv_mem n (by omega) q hq
    have hc := comp_mem n h3 h5 (inv q) p hi hp
    refine ⟨comp (inv q) p, hc, ?_⟩
    rw [pick_pick n h3 h5 s q _ hq hc, pick_pick n h3 h5 (oppT s) q _ hq hc, inv_comp n (by omega) q p hq hp]
    exact hz
def numOf (b : List UInt8) : Nat := b.foldr (fun x a => 2 * a + (if x = 43 then 1 else 0)) 0
theorem nodes_in : ([3, 4, 5] : List Nat).all (fun n => (nodes n).all fun e => decide (numOf e.s < 2 ^ (tri n).length) && ((txt n (numOf e.s)).data.toList == e.s && isA (n : Int) (txt n (numOf e.s)))) = true := by decide +kernel
theorem node_at (n : Nat) (h3 : 3 ≤ n) (h5 : n ≤ 5) (e : Nd) (he : e ∈ nodes n) : ∃ c, c < 2 ^ (tri n).length ∧ txt n c = ⟨e.s.toArray⟩ ∧ isA (n : Int) (txt n c) = true := by
  have h := List.all_eq_true.1 (List.all_eq_true.1 nodes_in n (by simp; omega)) e he
  rw [Bool.and_eq_true, Bool.and_eq_true] at h
  exact ⟨numOf e.s, of_decide_eq_true h.1, ByteArray.ext (Array.ext' (eq_of_beq h.2.1)), h.2.2⟩
theorem ty_ev (n : Nat) (h3 : 3 ≤ n) (h5 : n ≤ 5) : ∀ (l : List (List Int)) (out : List ByteArray), (∀ w ∈ l, ∃ e ∈ nodes n, e.w = w) → out.length + l.length ≤ 1000000 → ascB out → ∃ o, Ev (fun k => tyF k (n : Int) l out) o ∧ ascB o ∧ (∀ z, z ∈ o ↔ z ∈ out ∨ ∃ e ∈ nodes n, e.w ∈ l ∧ z = LTof n ⟨e.s.toArray⟩) ∧ o.length ≤ out.length + l.length
  | [], out, _, _, ha => ⟨out, Ev.const rfl, ha, fun z => ⟨.inl, fun h => h.elim id (fun ⟨_, _, h, _⟩ => by cases h)⟩, Nat.le_refl _⟩
  | w :: r, out, hw, hl, ha => by
    rw [List.length_cons] at hl
    obtain ⟨e, he, rfl⟩ := hw w List.mem_cons_self
    obtain ⟨c, hc, htx, hA⟩ := node_at n h3 h5 e he
    have hS : isS (n : Int) (⟨e.s.toArray⟩ : ByteArray) = true := by rw [← htx]; exact isM_S (by unfold isA at hA; rw [Bool.and_eq_true] at hA; exact hA.1)
    have h1 := sgT_ev n h3 h5 e he
    have h2 := (least_ev n (by omega) _ hS).1
    have h3' := l19Put_ev out (LTof n ⟨e.s.toArray⟩) (by omega)
    have hpl := putB_len out (LTof n ⟨e.s.toArray⟩)
    obtain ⟨o, ho, hoa, hom, hol⟩ := ty_ev n h3 h5 r (putB out (LTof n ⟨e.s.toArray⟩)) (fun w hw' => hw w (List.mem_cons_of_mem _ hw')) (by omega) (putB_asc _ _ ha)
    refine ⟨o, Ev.bind h1 (Ev.bind h2 (Ev.bind h3' ho)), hoa, fun z => ?_, by rw [List.length_cons]; omega⟩
    rw [hom z, putB_mem]
    constructor
    · rintro ((h | h) | ⟨d, hd, hdw, hz⟩)
      · exact .inr ⟨e, he, List.mem_cons_self, h⟩
      · exact .inl h
      · exact .inr ⟨d, hd, List.mem_cons_of_mem _ hdw, hz⟩
    · rintro (h | ⟨d, hd, hdw, hz⟩)
      · exact .inl (.inr h)
      · rcases List.mem_cons.1 hdw with hew | hdw
        · have hu : d.s = e.s := by
            have g1 := sgT_ev n h3 h5 d hd
            rw [hew] at g1
            have g2 := Ev.uniq g1 h1
            have g3 := congrArg (fun x : Int × ByteArray × Bool => x.2.1.data.toList) g2
            simpa using g3
          rw [hu] at hz
          exact .inl (.inl hz)
        · exact .inr ⟨d, hd, hdw, hz⟩
theorem spec_types (n : Nat) (h3 : 3 ≤ n) (h5 : n ≤ 5) : ∃ o, Ev (fun k => spec_TypesOf.f k (n : Int)) o ∧ ascB o ∧ (∀ z, z ∈ o ↔ ∃ e ∈ nodes n, z = LTof n ⟨e.s.toArray⟩) ∧ o.length ≤ 62 := by
  obtain ⟨r, hr, hp⟩ := normals_ev n h3 h5
  have hs := List.all_eq_true.1 start_all n (by simp; omega)
  rw [Bool.and_eq_true, Bool.and_eq_true, Bool.and_eq_true] at hs
  have hle : (ordT n).length ≤ 62 := of_decide_eq_true hs.2
  have hlen := hp.length_eq
  obtain ⟨o, ho, hoa, hom, hol⟩ := ty_ev n h3 h5 r [] (fun w hw => by
    obtain ⟨e, he, h⟩ := List.mem_map.1 (hp.mem_iff.1 hw)
    exact ⟨e, he, h⟩) (by simp only [List.length_nil]; omega) List.Pairwise.nil
  refine ⟨o, ?_, hoa, fun z => ?_, by simp only [List.length_nil] at hol; omega⟩
  · unfold spec_TypesOf.f
    exact Ev.bind0 (eq_of_beq hs.1.1.2) (Ev.ite_pos rfl (Ev.bind hr (Ev.ite_pos (by omega) ho)))
  · rw [hom z]
    constructor
    · rintro (h | ⟨e, he, _, hz⟩)
      · cases h
      · exact ⟨e, he, hz⟩
    · rintro ⟨e, he, hz⟩
      exact .inr ⟨e, he, hp.mem_iff.2 (List.mem_map.2 ⟨e, he, rfl⟩), hz⟩
set_option maxRecDepth 100000
open Go.RowKit Go.Proofs.YtoajlmlobaccdaaW.PrintWords Go.Proofs.Ytoajlmlobaccdaa.P Go.Proofs.Ytoajlmlobaccdaa.Pl
def bitV (c k : Nat) : Int := if c.testBit k then 1 else -1
theorem all_bit : (List.range 1024).all (fun c => (List.range 10).all fun k => wrap64 (wrap64 (2 * (Go.bits .and .i64 (shr .i64 (c : Int) (k : Int)) 1)) - 1) == bitV c k) = true := by decide +kernel
theorem bit_at (c k : Nat) (hc : c < 1024) (hk : k < 10) : wrap64 (wrap64 (2 * (Go.bits .and .i64 (shr .i64 (c : Int) (k : Int)) 1)) - 1) = bitV c k :=
  eq_of_beq (List.all_eq_true.1 (List.all_eq_true.1 all_bit c (List.mem_range.2 hc)) k (List.mem_range.2 hk))
theorem all_pow : ([3, 4, 5] : List Nat).all (fun n => decide (shl .i64 1 ((tri n).length : Int) = ((2 ^ (tri n).length : Nat) : Int) ∧ (tri n).length ≤ 10 ∧ 2 ^ (tri n).length ≤ 1024)) = true := by decide +kernel
theorem pow_at (n : Nat) (h3 : 3 ≤ n) (h5 : n ≤ 5) : shl .i64 1 ((tri n).length : Int) = ((2 ^ (tri n).length : Nat) : Int) ∧ (tri n).length ≤ 10 ∧ 2 ^ (tri n).length ≤ 1024 :=
  of_decide_eq_true (List.all_eq_true.1 all_pow n (by simp; omega))
def tabV (n c : Nat) : List Int := fill (bitV c) (tri n) 0 (chiNew n)
theorem tabV_codes (n : Nat) (h5 : n ≤ 5) (c : Nat) : strOfNums (codesT (tabV n c) (tri n)) = txt n c := by
  unfold txt
  congr 1
  apply List.ext_getElem
  · simp [codesT]
  · intro m h1 h2
    have hm : m < (tri n).length := by simpa [codesT] using h1
    obtain ⟨x, y, z, hxy, hyz, hzn, e⟩ := tri_nat n (by omega) m hm
    have hsrc := tri_src n (by omega) m hm
    rw [e] at hsrc
    have hch := chiA_fill (bitV c) x y z (by omega) (by omega) (by omega) (tri n) (tri_ok7 n (by omega)) 0 (chiNew n) (chiNew_length _)
    simp only [codesT, List.getElem_map, List.getElem_range, e]
    show pm (chiA (tabV n c) x y z) = _
    unfold tabV
    rw [hch, hsrc]
    show pm (bitV c m) = _
    unfold bitV pm
    cases c.testBit m <;> rfl
def outsI (n c : Nat) : List ByteArray := ((List.range c).filter fun c => isA (n : Int) (txt n c)).map fun c => LTof n (txt n c)
theorem outsI_succ (n c : Nat) : outsI n (c + 1) = outsI n c ++ if isA (n : Int) (txt n c) = true then [LTof n (txt n c)] else [] := by
  unfold outsI
  rw [List.range_succ, List.filter_append, List.map_append]
  congr 1
  cases h : isA (n : Int) (txt n c) with
  | true => simp [h]
  | false => simp [h]
theorem outsI_len (n c : Nat) : (outsI n c).length ≤ c := by
  unfold outsI
  rw [List.length_map]
  have := List.length_filter_le (fun c => isA (n : Int) (txt n c)) (List.range c)
  rw [List.length_range] at this
  exact this
theorem impl_types (n : Nat) (h3 : 3 ≤ n) (h5 : n ≤ 5) : Ev (fun k => impl_TypesOf.f k (n : Int)) (compS (sortS (outsI n (2 ^ (tri n).length)))) := by
  obtain ⟨hp, h10, h1024⟩ := pow_at n h3 h5
  unfold impl_TypesOf.f
  refine Ev.ite_neg (by omega) ?_
  rw [decide_eq_false (show ¬ ((n : Int) > 5) by omega)]
  refine Ev.step (fun k => impl_TypesOf.j0.eq_2 ..) (Ev.ite_neg (by simp) (Ev.bind (triplesOf_ev n (by omega)) ?_))
  refine Ev.loop (fun c k => impl_TypesOf.l0 k (n : Int) (tri n) (outsI n c) (c : Nat)) (2 ^ (tri n).length) _ ?_ ?_ 0 (Nat.zero_le _)
  · refine Ev.step (fun k => impl_TypesOf.l0.eq_2 ..) (Ev.ite_neg (by rw [hp]; omega) ?_)
    have hl := outsI_len n (2 ^ (tri n).length)
    have e1 : slices_Sort_Sstring_string.f (outsI n (2 ^ (tri n).length)) = some (sortS (outsI n (2 ^ (tri n).length))) := by
      unfold slices_Sort_Sstring_string.f
      rw [if_pos (by omega)]
    have hl2 := sortS_length (outsI n (2 ^ (tri n).length))
    have e2 : slices_Compact_Sstring_string.f (sortS (outsI n (2 ^ (tri n).length))) = some (compS (sortS (outsI n (2 ^ (tri n).length)))) := rfl
    exact Ev.bind0 e1 (Ev.bind0 e2 (Ev.now _))
  · intro c hc ih
    refine Ev.step (fun k => impl_TypesOf.l0.eq_2 ..) (Ev.ite_pos (by rw [hp]; omega) ?_)
    have key := Ev.loop (fun j k => impl_TypesOf.l1 k (n : Int) (tri n) (outsI n c) (c : Nat) (fill (bitV c) ((tri n).take j) 0 (chiNew n)) (tri n) ((tri n).length : Int) (j : Nat)) (tri n).length (compS (sortS (outsI n (2 ^ (tri n).length)))) ?_ ?_ 0 (by omega)
    · simpa [fill] using key
    · rw [List.take_length]
      refine Ev.step (fun k => impl_TypesOf.l1.eq_2 ..) (Ev.ite_neg (by omega) ?_)
      have hl : (tabV n c).length = 344 := by unfold tabV; rw [fill_length, chiNew_length]
      have hcN : chiN (tabV n c) = n := by unfold tabV; rw [chiN_fill _ _ _ _ (chiNew_length _)]; rfl
      have hs := signs_ev n (by omega) (tabV n c) hl hcN
      rw [tabV_codes n h5 c] at hs
      refine Ev.bind hs (Ev.bind (impl_IsAcyclic_ev (n : Int) (txt n c)) ?_)
      rw [outsI_succ] at ih
      rw [wrap_nat c (by omega)]
      cases hA : isA (n : Int) (txt n c) with
      | true =>
        rw [hA, if_pos rfl] at ih
        have hS : isS (n : Int) (txt n c) = true := isM_S (by unfold isA at hA; rw [Bool.and_eq_true] at hA; exact hA.1)
        have hle := outsI_len n c
        exact Ev.ite_pos rfl (Ev.bind (least_ev n (by omega) _ hS).2 (Ev.ite_pos (by omega) ih))
      | false =>
        rw [hA, if_neg (by simp), List.append_nil] at ih
        exact Ev.ite_neg (by simp) ih
    · intro j hj ih2
      refine Ev.step (fun k => impl_TypesOf.l1.eq_2 ..) (Ev.ite_pos (by omega) (Ev.ite_pos (by omega) (Ev.ite_pos (by omega) ?_)))
      have ht := tri_at n (by omega) j hj
      rw [wrap_nat j (by omega), rdT_lt _ j hj, bit_at c j (by omega) (by omega)]
      rw [List.take_succ_eq_append_getElem hj, fill_append, Nat.zero_add, List.length_take, Nat.min_eq_left (by omega)] at ih2
      have hl : (fill (bitV c) ((tri n).take j) 0 (chiNew n)).length = 344 := by rw [fill_length, chiNew_length]
      generalize fill (bitV c) ((tri n).take j) 0 (chiNew n) = l at ih2 hl ⊢
      generalize (tri n)[j] = t at ih2 ht ⊢
      unfold okT at ht
      rw [decide_eq_true_eq] at ht
      have hset : impl_chi_set.f l t.f0 t.f1 t.f2 (bitV c j) = some (put3 l t (bitV c j)) := by
        unfold impl_chi_set.f
        rw [if_pos ⟨hl, by omega, by omega, by omega⟩]
        rfl
      exact Ev.bind0 hset ih2
theorem types_same (n : Nat) (h3 : 3 ≤ n) (h5 : n ≤ 5) : ∃ v : List ByteArray, Ev (fun k => spec_TypesOf.f k (n : Int)) v ∧ Ev (fun k => impl_TypesOf.f k (n : Int)) v ∧ v.length ≤ 62 := by
  obtain ⟨o, ho, hoa, hom, hol⟩ := spec_types n h3 h5
  have hi := impl_types n h3 h5
  have e : o = compS (sortS (outsI n (2 ^ (tri n).length))) := by
    refine asc_unique hoa (compS_asc _) (fun z => ?_)
    rw [hom z, (compS_spec _).2 z]
    unfold outsI
    rw [List.mem_map]
    constructor
    · rintro ⟨e, he, rfl⟩
      obtain ⟨c, hc, htx, hA⟩ := node_at n h3 h5 e he
      exact ⟨c, List.mem_filter.2 ⟨List.mem_range.2 hc, hA⟩, by rw [htx]⟩
    · rintro ⟨c, hc, rfl⟩
      obtain ⟨hc1, hA⟩ := List.mem_filter.1 hc
      obtain ⟨q, hq, d, hd, hs⟩ := in_at n h3 h5 c (List.mem_range.1 hc1) hA
      have hS : isS (n : Int) (txt n c) = true := isM_S (by unfold isA at hA; rw [Bool.and_eq_true] at hA; exact hA.1)
      refine ⟨d, hd, ?_⟩
      rw [← LT_pick n h3 h5 _ hS q hq]
      congr 1
      exact ByteArray.ext (Array.ext' hs)
  rw [← e] at hi
  exact ⟨o, ho, hi, hol⟩
theorem types_both (n : Int) : ∃ v : List ByteArray, Ev (fun k => spec_TypesOf.f k n) v ∧ Ev (fun k => impl_TypesOf.f k n) v ∧ v.length ≤ 62 := by
  by_cases h : 3 ≤ n ∧ n ≤ 5
  · obtain ⟨m, rfl⟩ := Int.eq_ofNat_of_zero_le (show 0 ≤ n by omega)
    exact types_same m (by omega) (by omega)
  · refine ⟨[], ?_, ?_, by simp⟩
    · have e : spec_l1In.f n 3 5 = some false := by
        unfold spec_l1In.f
        by_cases h1 : n ≥ 3
        · rw [if_pos h1, decide_eq_false (by omega)]
        · rw [if_neg h1]
      unfold spec_TypesOf.f
      exact Ev.bind0 e (Ev.ite_neg (by simp) (Ev.now _))
    · unfold impl_TypesOf.f
      have hj : Ev (fun k => impl_TypesOf.j0 k n true) ([] : List ByteArray) := Ev.step (fun k => impl_TypesOf.j0.eq_2 ..) (Ev.ite_pos rfl (Ev.now _))
      by_cases h1 : n < 3
      · exact Ev.ite_pos h1 hj
      · refine Ev.ite_neg h1 ?_
        rw [decide_eq_true (show n > 5 by omega)]
        exact hj
end Go.Proofs.Ytoajlmlobaccdaa.Pure
namespace Go.Proofs.Ytoajlmlobaccdaa.Pure
set_option linter.unusedSimpArgs false
set_option linter.unusedVariables false
open Go.RowKit Go.Proofs.YtoajlmlobaccdaaW.PrintWords Go.Proofs.Ytoajlmlobaccdaa.P Go.Proofs.Ytoajlmlobaccdaa.Pl
theorem rdT_ltZ (S : List ByteArray) (i : Nat) (h : i < S.length) : rdOf ByteArray.empty S (i : Int) = S[i] := by
  unfold rdOf
  rw [Int.toNat_natCast, getD_lt _ _ _ h]
theorem eqStringS_self (l : List ByteArray) (hl : l.length ≤ 1048576) : Ev (fun k => laws_eqStringS.f k l l) true := by
  unfold laws_eqStringS.f
  refine Ev.ite_pos rfl ?_
  refine Ev.loop (fun i k => laws_eqStringS.l0 k l l i) l.length true ?_ ?_ 0 (by omega)
  · exact Ev.step (fun k => laws_eqStringS.l0.eq_2 ..) (Ev.ite_neg (by omega) (Ev.now _))
  · intro i hi ih
    refine Ev.step (fun k => laws_eqStringS.l0.eq_2 ..) (Ev.ite_pos (by omega) (Ev.ite_pos (by omega) (Ev.ite_pos (by omega) (Ev.ite_pos rfl ?_))))
    rw [wrap_nat i (by omega)]
    exact ih
theorem digit_ev : ∀ (b m : Nat), m ≤ b → b ≤ 100000000 → ∀ x : ByteArray, x.size + m ≤ 1000000000 → ∃ t, Ev (fun k => laws_markText.l0 k (m : Int) x) t
  | 0, m, hm, _, x, hx => by
    obtain rfl : m = 0 := by omega
    exact ⟨_, Ev.step (fun k => laws_markText.l0.eq_2 ..) (Ev.ite_neg (by simp) (Ev.ite_pos (by omega) (Ev.now _)))⟩
  | b + 1, m, hm, hb, x, hx => by
    by_cases h0 : m = 0
    · subst h0
      exact ⟨_, Ev.step (fun k => laws_markText.l0.eq_2 ..) (Ev.ite_neg (by simp) (Ev.ite_pos (by omega) (Ev.now _)))⟩
    · have hd : wrap64 (Int.tdiv (m : Int) 10) = ((m / 10 : Nat) : Int) := by
        rw [Int.tdiv_eq_ediv_of_nonneg (by omega), wrap_in (by omega) (by omega)]
        omega
      have hs1 : ∀ l : List Int, (strOfNums l).size = l.length := fun l => by simp [strOfNums, ByteArray.size]
      obtain ⟨t, ht⟩ := digit_ev b (m / 10) (by omega) (by omega) (strOfNums [wrap64 (48 + Int.tmod (m : Int) 10) % 256] ++ x) (by rw [ByteArray.size_append, hs1]; simp only [List.length_singleton]; omega)
      refine ⟨t, Ev.step (fun k => laws_markText.l0.eq_2 ..) (Ev.ite_pos (by omega) (Ev.bind0 rfl (Ev.ite_pos (by rw [hs1]; simp only [List.length_singleton]; omega) ?_)))⟩
      rw [hd]
      exact ht
theorem markText_ex (m : Nat) (hm : m ≤ 100000000) : ∃ t, Ev (fun k => laws_markText.f k (m : Int)) t := by
  unfold laws_markText.f
  by_cases h0 : m = 0
  · subst h0
    exact ⟨_, Ev.ite_pos (by simp) (Ev.now _)⟩
  · obtain ⟨t, ht⟩ := digit_ev m m (Nat.le_refl _) hm (⟨#[]⟩ : ByteArray) (by show 0 + m ≤ _; omega)
    exact ⟨t, Ev.ite_neg (by omega) ht⟩
theorem marks_ex : ∃ M : Nat → ByteArray, ∀ m : Nat, m ≤ 100000000 → Ev (fun k => laws_markText.f k (m : Int)) (M m) :=
  ⟨fun m => if h : m ≤ 100000000 then Classical.choose (markText_ex m h) else ByteArray.empty, fun m h => by
    simp only [dif_pos h]
    exact Classical.choose_spec (markText_ex m h)⟩
def marksT (M : Nat → ByteArray) (c n : Nat) : List ByteArray := (List.range n).map fun i => M (c + i)
theorem marksT_length (M : Nat → ByteArray) (c n : Nat) : (marksT M c n).length = n := by simp [marksT]
theorem marksT_set (M : Nat → ByteArray) (l : List ByteArray) (c n i : Nat) (hl : l.length = n) (hi : i < n) : (marksT M c i ++ l.drop i).set i (M (c + i)) = marksT M c (i + 1) ++ l.drop (i + 1) := by
  have h0 : (marksT M c i).length = i := marksT_length M c i
  rw [List.set_append_right _ _ (by omega), h0, Nat.sub_self, List.drop_eq_getElem_cons (by omega), List.set_cons_zero]
  simp [marksT, List.range_succ]
theorem markStringS_from (M : Nat → ByteArray) (hM : ∀ m : Nat, m ≤ 100000000 → Ev (fun k => laws_markText.f k (m : Int)) (M m)) (l : List ByteArray) (c : Nat) (hc : c ≤ 10000000) (hl : l.length ≤ 1048576) : Ev (fun k => laws_markStringS.f k l c) (((c + l.length : Nat) : Int), marksT M c l.length) := by
  have key := Ev.loop (fun i k => laws_markStringS.l0 k (marksT M c i ++ l.drop i) ((c + i : Nat) : Int) i) l.length (((c + l.length : Nat) : Int), marksT M c l.length) ?_ ?_ 0 (by omega)
  · unfold laws_markStringS.f
    simpa [marksT] using key
  · refine Ev.step (fun k => laws_markStringS.l0.eq_2 ..) ?_
    refine Ev.ite_neg (by simp [marksT_length]) (Ev.const ?_)
    simp
  · intro i hi ih
    refine Ev.step (fun k => laws_markStringS.l0.eq_2 ..) ?_
    refine Ev.ite_pos (by simp [marksT_length]; omega) (Ev.bind (hM (c + i) (by omega)) (Ev.ite_pos (by omega) ?_))
    rw [wrap_nat i (by omega), wrap_nat (c + i) (by omega), Int.toNat_natCast, marksT_set M l c l.length i rfl hi]
    exact ih
theorem heldStringS_from (M : Nat → ByteArray) (hM : ∀ m : Nat, m ≤ 100000000 → Ev (fun k => laws_markText.f k (m : Int)) (M m)) (c n : Nat) (hc : c ≤ 10000000) (hl : n ≤ 1048576) : Ev (fun k => laws_heldStringS.f k (marksT M c n) c) ((c + n : Nat) : Int) := by
  have key := Ev.loop (fun i k => laws_heldStringS.l0 k (marksT M c n) ((c + i : Nat) : Int) i) n ((c + n : Nat) : Int) ?_ ?_ 0 (by omega)
  · exact key
  · refine Ev.step (fun k => laws_heldStringS.l0.eq_2 ..) ?_
    exact Ev.ite_neg (by simp [marksT_length]) (Ev.now _)
  · intro i hi ih
    refine Ev.step (fun k => laws_heldStringS.l0.eq_2 ..) ?_
    have hr : rdOf ByteArray.empty (marksT M c n) (i : Int) = M (c + i) := by
      rw [rdT_ltZ _ i (by rw [marksT_length]; exact hi)]
      simp [marksT]
    refine Ev.ite_pos (by simp [marksT_length]; omega) (Ev.ite_pos (by omega) (Ev.bind (hM (c + i) (by omega)) (Ev.ite_pos (by rw [hr]) ?_)))
    rw [wrap_nat i (by omega), wrap_nat (c + i) (by omega)]
    exact ih
end Go.Proofs.Ytoajlmlobaccdaa.Pure
namespace Go.Proofs.Ytoajlmlobaccdaa.Pure
set_option linter.unusedSimpArgs false
set_option linter.unusedVariables false
open Go.RowKit Go.Proofs.YtoajlmlobaccdaaW.PrintWords Go.Proofs.Ytoajlmlobaccdaa.P Go.Proofs.Ytoajlmlobaccdaa.Pl Go.Proofs.Ytoajlmlobaccdaa.Rk
theorem FnExactTypesOf (a0 : Int) (_ : I64 a0) : ∃ k, laws_FnExactTypesOf.f k a0 = some true := by
  refine Ev.rounds (g := fun k => laws_FnExactTypesOf.f k a0) ?_
  unfold laws_FnExactTypesOf.f
  obtain ⟨v, h1, h2, hl⟩ := types_both a0
  obtain ⟨M, hM⟩ := marks_ex
  have heq := eqStringS_self v (by omega)
  have hmk := markStringS_from M hM v 1 (by omega) (by omega)
  have hhd := heldStringS_from M hM 1 v.length (by omega) (by omega)
  refine Ev.bind h1 (Ev.bind h2 (Ev.bind heq (Ev.ite_pos rfl (Ev.bind hmk (Ev.bind hhd (Ev.ite_neg (by omega) (Ev.ite_pos rfl ?_)))))))
  exact Ev.bind h2 (Ev.bind heq (Ev.ite_pos rfl (Ev.bind hhd (Ev.ite_neg (by omega) (Ev.ite_pos rfl (Ev.now _))))))
end Go.Proofs.Ytoajlmlobaccdaa.Pure
