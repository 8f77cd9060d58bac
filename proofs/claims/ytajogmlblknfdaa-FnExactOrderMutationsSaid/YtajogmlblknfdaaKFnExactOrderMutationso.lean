/- What the law FnExactOrderMutations reaches, part 15: functions as plain Lean functions with the proofs that their calls come to them, and plain lemmas over these. Put together by a program (wip/pack.py). -/
import Derived.Test.YtajogmlblknfdaaKFnExactOrderMutationsm
import Derived.Test.YtajogmlblknfdaaKFnExactOrderMutationsf
import Derived.Test.YtajogmlblknfdaaKFnExactOrderMutationsn
import Derived.Test.YtajogmlblknfdaaKFnExactOrderMutationsc
import Derived.Test.YtajogmlblknfdaaKFnExactOrderMutationsj
import Derived.Test.YtajogmlblknfdaaKFnExactOrderMutationse
import Derived.Test.YtajogmlblknfdaaKFnExactOrderMutationsk
import Derived.Test.YtajogmlblknfdaaKFnExactOrderMutationsh
namespace Go.Proofs.Ytajogmlblknfdaa.Pure
set_option linter.unusedSimpArgs false
set_option linter.unusedVariables false
open Go.RowKit Go.Proofs.YtajogmlblknfdaaW.PrintWords Go.Proofs.Ytajogmlblknfdaa.P Go.Proofs.Ytajogmlblknfdaa.Pl
def okEx (n x y z : Nat) : Bool :=
  match src (tri n) 0 x y z with
  | some (q, b) => (List.range (tri n).length).all fun m => (let t := (tri n).getD m ⟨0, 0, 0⟩; par ⟨x, y, z⟩ t.f0 t.f1 t.f2 == if m = q then some b else none)
  | none => false
theorem all_ex : (List.range 8).all (fun n => (List.range n).all fun x => (List.range n).all fun y => (List.range n).all fun z => x == y || y == z || x == z || okEx n x y z) = true := by decide +kernel
theorem ex_ok (n x y z : Nat) (hn : n ≤ 7) (hx : x < n) (hy : y < n) (hz : z < n) (h1 : x ≠ y) (h2 : y ≠ z) (h3 : x ≠ z) : okEx n x y z = true := by
  have h := all_ex
  rw [List.all_eq_true] at h
  have h := h n (by simp; omega)
  rw [List.all_eq_true] at h
  have h := h x (by simpa using hx)
  rw [List.all_eq_true] at h
  have h := h y (by simpa using hy)
  rw [List.all_eq_true] at h
  have h := h z (by simpa using hz)
  simpa [h1, h2, h3] using h
def place (n x y z : Int) : Option Int :=
  (spec_l1Min.f y z).bind fun t => (spec_l1Min.f x t).bind fun lo => (spec_l1Max.f y z).bind fun t' => (spec_l1Max.f x t').bind fun hi => spec_l3Index.f 60 n lo (wrap64 ((wrap64 ((wrap64 ((wrap64 (x + y)) + z)) - lo)) - hi)) hi
def okPl (n x y z : Nat) : Bool :=
  match src (tri n) 0 x y z, place n x y z with
  | some (q, _), some m => m == (q : Int) && decide (q < (tri n).length)
  | _, _ => false
theorem all_pl : (List.range 8).all (fun n => (List.range n).all fun x => (List.range n).all fun y => (List.range n).all fun z => x == y || y == z || x == z || okPl n x y z) = true := by decide +kernel
theorem pl_ok (n x y z : Nat) (hn : n ≤ 7) (hx : x < n) (hy : y < n) (hz : z < n) (h1 : x ≠ y) (h2 : y ≠ z) (h3 : x ≠ z) : okPl n x y z = true := by
  have h := all_pl
  rw [List.all_eq_true] at h
  have h := h n (by simp; omega)
  rw [List.all_eq_true] at h
  have h := h x (by simpa using hx)
  rw [List.all_eq_true] at h
  have h := h y (by simpa using hy)
  rw [List.all_eq_true] at h
  have h := h z (by simpa using hz)
  simpa [h1, h2, h3] using h
theorem src_some (n x y z : Nat) (hn : n ≤ 7) (hx : x < n) (hy : y < n) (hz : z < n) (h1 : x ≠ y) (h2 : y ≠ z) (h3 : x ≠ z) : ∃ q b, src (tri n) 0 x y z = some (q, b) ∧ q < (tri n).length ∧ place n x y z = some (q : Int) := by
  have h := pl_ok n x y z hn hx hy hz h1 h2 h3
  unfold okPl at h
  cases ha : src (tri n) 0 x y z with
  | none => rw [ha] at h; cases h
  | some p =>
    obtain ⟨q, b⟩ := p
    cases hb : place n x y z with
    | none => rw [ha, hb] at h; cases h
    | some m =>
      rw [ha, hb] at h
      simp only [Bool.and_eq_true, beq_iff_eq, decide_eq_true_eq] at h
      exact ⟨q, b, rfl, h.2, by rw [h.1]⟩
def codesX (s : ByteArray) (len q : Nat) : List Int := (List.range len).map fun m : Nat => if m = q then (if bt s (m : Int) = 43 then 45 else 43) else bt s (m : Int)
theorem codes_of_set (n x y z : Nat) (hn : n ≤ 7) (hx : x < n) (hy : y < n) (hz : z < n) (h1 : x ≠ y) (h2 : y ≠ z) (h3 : x ≠ z) (s : ByteArray) (hs : s.size = (tri n).length) (hpm : ∀ m, m < s.size → isPM s m = true) (q : Nat) (b : Bool) (hq : src (tri n) 0 x y z = some (q, b)) :
    codesT (chiSet (tab n s) x y z (wrap64 (-(chiA (tab n s) x y z)))) (tri n) = codesX s (tri n).length q := by
  have h := ex_ok n x y z hn hx hy hz h1 h2 h3
  unfold okEx at h
  rw [hq] at h
  dsimp only at h
  rw [List.all_eq_true] at h
  apply List.ext_getElem
  · simp [codesT, codesX]
  · intro m hm hm'
    have hm1 : m < (tri n).length := by simpa [codesT] using hm
    have g := h m (by simpa using hm1)
    rw [getD_lt _ _ _ hm1] at g
    simp only [codesT, codesX, List.getElem_map, List.getElem_range]
    have hp := hpm m (by omega)
    have ht := tab_tri n hn s m hm1
    obtain ⟨a, b', c, k1, k2, k3, e⟩ := tri_nat n hn m hm1
    rw [e] at g ht ⊢
    dsimp only at g ht ⊢
    rw [chiA_set (tab n s) (tab_length n s) x y z (by omega) (by omega) (by omega) h1 h2 h3 _ a b' c (by omega) (by omega) (by omega)]
    have g' : par ⟨x, y, z⟩ a b' c = if m = q then some b else none := by simpa using g
    rw [g', ht, tab_at n hn s x y z (by omega) (by omega) (by omega)]
    unfold isPM at hp
    simp only [Bool.or_eq_true, beq_iff_eq] at hp
    by_cases hmq : m = q
    · subst hmq
      rw [if_pos rfl, if_pos rfl]
      unfold sg
      rw [hq]
      unfold sval sgAt pm
      cases b <;> rcases hp with hp | hp <;> simp [hp, wrap64]
    · rw [if_neg hmq, if_neg hmq]
      unfold sgAt pm
      rcases hp with hp | hp <;> simp [hp]
theorem bt_get (s : ByteArray) (m : Nat) (h : m < s.size) : UInt8.ofNat (bt s (m : Int)).toNat = s.data[m]'h := by
  unfold bt
  rw [dif_pos (by simpa using h)]
  simp
  rfl
theorem text_of_codes (s : ByteArray) (q : Nat) (hq : q < s.size) (c : Int) (hc : c = if bt s (q : Int) = 43 then 45 else 43) :
    strOfNums (codesX s s.size q) = ((s.extract 0 q) ++ (⟨#[UInt8.ofNat c.toNat]⟩ : ByteArray)) ++ (s.extract (q + 1) s.size) := by
  apply ByteArray.ext
  apply Array.ext'
  have hL : (strOfNums (codesX s s.size q)).data.toList = s.data.toList.set q (UInt8.ofNat c.toNat) := by
    apply List.ext_getElem
    · rw [List.length_set]
      simp [strOfNums, codesX]
    · intro m hm hm'
      have hm1 : m < s.size := by simpa [strOfNums, codesX] using hm
      rw [List.getElem_set]
      simp only [strOfNums, codesX, List.getElem_map, List.getElem_range, List.map_map, Function.comp]
      by_cases e : q = m
      · subst e
        rw [if_pos rfl, if_pos rfl, ← hc]
      · rw [if_neg e, if_neg (fun h => e h.symm), bt_get s m hm1]
        rfl
  rw [hL, List.set_eq_take_append_cons_drop]
  have hq' : q < s.data.toList.length := hq
  rw [if_pos hq']
  rw [ByteArray.data_append, ByteArray.data_append, Array.toList_append, Array.toList_append, ByteArray.data_extract, ByteArray.data_extract, Array.toList_extract, Array.toList_extract]
  simp only [List.extract_eq_take_drop, List.drop_zero, Nat.sub_zero, List.append_assoc, List.singleton_append]
  congr 2
  rw [List.take_of_length_le]
  rw [List.length_drop]
  exact Nat.le_refl _
theorem diff3_of {n x y z : Int} (h : (0 ≤ x ∧ x < n) ∧ (0 ≤ y ∧ y < n) ∧ (0 ≤ z ∧ z < n) ∧ x ≠ y ∧ y ≠ z ∧ x ≠ z) : diffB n [x, y, z] = true := by
  simp [diffB, diffFrom, okD, inE, rd, List.range_succ]
  omega
theorem isS_pm {n : Int} {s : ByteArray} (h : isS n s = true) (m : Nat) (hm : m < s.size) : isPM s m = true := by
  unfold isS at h
  rw [Bool.and_eq_true, List.all_eq_true] at h
  exact h.2 m (by simpa using hm)
theorem l14_eq (n : Int) (s : ByteArray) (q : Nat) (hq : q < s.size) (hs : s.size ≤ 1000) : spec_l14Exchange.f n s q = some (n, strOfNums (codesX s s.size q)) := by
  have hw : wrap64 ((q : Int) + 1) = ((q + 1 : Nat) : Int) := wrap_nat q (by omega)
  have e1 : ∀ c : UInt8, ((s.extract 0 q) ++ (⟨#[c]⟩ : ByteArray)).size = q + 1 := by
    intro c
    rw [ByteArray.size_append, ByteArray.size_extract]
    show min q s.size - 0 + 1 = q + 1
    omega
  have e2 : (s.extract 0 q).size = q := by rw [ByteArray.size_extract]; omega
  have e3 : (s.extract (q + 1) s.size).size ≤ 1000 := by rw [ByteArray.size_extract]; omega
  unfold spec_l14Exchange.f
  rw [if_pos (by omega), if_pos (by omega)]
  simp only [hw, Int.toNat_natCast]
  by_cases h43 : bt s (q : Int) = 43
  · rw [if_pos h43, if_pos (by omega), if_pos (by omega), if_pos (by omega), if_pos (by omega), if_pos (by rw [e1]; omega)]
    rw [text_of_codes s q hq 45 (by rw [if_pos h43])]
    rfl
  · rw [if_neg h43, if_pos (by omega), if_pos (by omega), if_pos (by omega), if_pos (by omega), if_pos (by rw [e1]; omega)]
    rw [text_of_codes s q hq 43 (by rw [if_neg h43])]
    rfl
def exT (n : Nat) (s : ByteArray) (x y z : Int) : ByteArray := strOfNums (codesX s s.size (((src (tri n) 0 x y z).map Prod.fst).getD 0))
def exS (n : Int) (s : ByteArray) (x y z : Int) : Int × ByteArray × Bool := if isS n s = true ∧ diffB n [x, y, z] = true then (n, exT n.toNat s x y z, true) else (0, ⟨#[]⟩, false)
theorem impl_Exchange_ev (n : Int) (s : ByteArray) (x y z : Int) : Ev (fun k => impl_ExchangeSign.f k n s x y z) (exS n s x y z) := by
  have hI := impl_AreSigns_ev n s
  unfold impl_ExchangeSign.f exS
  have none_ : Ev (fun k => impl_ExchangeSign.j0 k x y z true n s) ((0 : Int), (⟨#[]⟩ : ByteArray), false) := Ev.step (fun k => impl_ExchangeSign.j0.eq_2 ..) (Ev.ite_pos rfl (Ev.now _))
  cases hA : isS n s with
  | false =>
    rw [hA] at hI
    rw [if_neg (by simp)]
    exact Ev.bind hI (Ev.ite_neg (by simp) none_)
  | true =>
    rw [hA] at hI
    obtain ⟨h3, h7, hs, hs35⟩ := isS_bounds hA
    have dI := impl_areDifferent_ev n [x, y, z] (by simp)
    cases hD : diffB n [x, y, z] with
    | false =>
      rw [hD] at dI
      rw [if_neg (by simp)]
      exact Ev.bind hI (Ev.ite_pos rfl (Ev.bind dI none_))
    | true =>
      rw [hD] at dI
      rw [if_pos ⟨rfl, rfl⟩]
      have hd := diff3 hD
      have hpm := fun m hm => isS_pm hA m hm
      obtain ⟨n, rfl⟩ := Int.eq_ofNat_of_zero_le (show 0 ≤ n by omega)
      obtain ⟨x, rfl⟩ := Int.eq_ofNat_of_zero_le hd.1.1
      obtain ⟨y, rfl⟩ := Int.eq_ofNat_of_zero_le hd.2.1.1
      obtain ⟨z, rfl⟩ := Int.eq_ofNat_of_zero_le hd.2.2.1.1
      rw [Int.toNat_natCast] at hs ⊢
      obtain ⟨q, b, hq, hq1, _⟩ := src_some n x y z (by omega) (by omega) (by omega) (by omega) (by omega) (by omega) (by omega)
      have hl := tab_length n s
      have hset : impl_chi_set.f (tab n s) x y z (wrap64 (-(chiA (tab n s) x y z))) = some (chiSet (tab n s) x y z (wrap64 (-(chiA (tab n s) x y z)))) := by
        unfold impl_chi_set.f
        rw [if_pos ⟨hl, by omega, by omega, by omega⟩]
      have hcn : chiN (chiSet (tab n s) x y z (wrap64 (-(chiA (tab n s) x y z)))) = n := by
        have := chiN_put3 (tab n s) hl ⟨x, y, z⟩ (wrap64 (-(chiA (tab n s) x y z)))
        rw [tab_n] at this
        exact this
      have hsig := signs_ev n (by omega) _ (by rw [chiSet_length]; exact hl) hcn
      rw [codes_of_set n x y z (by omega) (by omega) (by omega) (by omega) (by omega) (by omega) (by omega) s hs hpm q b hq] at hsig
      refine Ev.bind hI (Ev.ite_pos rfl (Ev.bind dI (Ev.step (fun k => impl_ExchangeSign.j0.eq_2 ..) (Ev.ite_neg (by simp) (Ev.bind (tableOf_ev n (by omega) s hs) ?_)))))
      refine Ev.ite_pos (by omega) (Ev.ite_pos (by omega) (Ev.ite_pos (by omega) (Ev.ite_pos (by omega) (Ev.ite_pos (by omega) (Ev.ite_pos (by omega) (Ev.ite_pos (by omega) ?_))))))
      refine Ev.bind0 hset (Ev.bind hsig (Ev.const ?_))
      unfold exT
      rw [hq, hs]
      rfl
abbrev Q4 := S117
def quad : Nat → List Q4
  | 4 => [⟨0, 1, 2, 3⟩]
  | 5 => [⟨0, 1, 2, 3⟩, ⟨0, 1, 2, 4⟩, ⟨0, 1, 3, 4⟩, ⟨0, 2, 3, 4⟩, ⟨1, 2, 3, 4⟩]
  | 6 => [⟨0, 1, 2, 3⟩, ⟨0, 1, 2, 4⟩, ⟨0, 1, 2, 5⟩, ⟨0, 1, 3, 4⟩, ⟨0, 1, 3, 5⟩, ⟨0, 1, 4, 5⟩, ⟨0, 2, 3, 4⟩, ⟨0, 2, 3, 5⟩, ⟨0, 2, 4, 5⟩, ⟨0, 3, 4, 5⟩, ⟨1, 2, 3, 4⟩, ⟨1, 2, 3, 5⟩, ⟨1, 2, 4, 5⟩, ⟨1, 3, 4, 5⟩, ⟨2, 3, 4, 5⟩]
  | 7 => [⟨0, 1, 2, 3⟩, ⟨0, 1, 2, 4⟩, ⟨0, 1, 2, 5⟩, ⟨0, 1, 2, 6⟩, ⟨0, 1, 3, 4⟩, ⟨0, 1, 3, 5⟩, ⟨0, 1, 3, 6⟩, ⟨0, 1, 4, 5⟩, ⟨0, 1, 4, 6⟩, ⟨0, 1, 5, 6⟩, ⟨0, 2, 3, 4⟩, ⟨0, 2, 3, 5⟩, ⟨0, 2, 3, 6⟩, ⟨0, 2, 4, 5⟩, ⟨0, 2, 4, 6⟩, ⟨0, 2, 5, 6⟩, ⟨0, 3, 4, 5⟩, ⟨0, 3, 4, 6⟩, ⟨0, 3, 5, 6⟩, ⟨0, 4, 5, 6⟩, ⟨1, 2, 3, 4⟩, ⟨1, 2, 3, 5⟩, ⟨1, 2, 3, 6⟩, ⟨1, 2, 4, 5⟩, ⟨1, 2, 4, 6⟩, ⟨1, 2, 5, 6⟩, ⟨1, 3, 4, 5⟩, ⟨1, 3, 4, 6⟩, ⟨1, 3, 5, 6⟩, ⟨1, 4, 5, 6⟩, ⟨2, 3, 4, 5⟩, ⟨2, 3, 4, 6⟩, ⟨2, 3, 5, 6⟩, ⟨2, 4, 5, 6⟩, ⟨3, 4, 5, 6⟩]
  | _ => []
theorem quad_some : ∀ n : Nat, n ≤ 7 → impl_quadsOf.f 700 n = some (quad n)
  | 0, _ => by kernel_rfl
  | 1, _ => by kernel_rfl
  | 2, _ => by kernel_rfl
  | 3, _ => by kernel_rfl
  | 4, _ => by kernel_rfl
  | 5, _ => by kernel_rfl
  | 6, _ => by kernel_rfl
  | 7, _ => by kernel_rfl
  | n + 8, h => absurd h (by omega)
theorem quadsOf_ev (n : Nat) (h : n ≤ 7) : Ev (fun k => impl_quadsOf.f k n) (quad n) := Ev.of (impl_quadsOf.mono _) (quad_some n h)
def okQ (n : Nat) (q : Q4) : Bool := decide (0 ≤ q.f0 ∧ q.f0 < q.f1 ∧ q.f1 < q.f2 ∧ q.f2 < q.f3 ∧ q.f3 < n)
theorem all_q : (List.range 8).all (fun n => (quad n).all (okQ n) && decide ((quad n).length ≤ 1000)) = true := by decide +kernel
theorem quad_ok (n : Nat) (h : n ≤ 7) : (quad n).all (okQ n) = true ∧ (quad n).length ≤ 1000 := by
  have := all_q
  rw [List.all_eq_true] at this
  have := this n (by simp; omega)
  rw [Bool.and_eq_true, decide_eq_true_eq] at this
  exact this
def brk (n : Nat) (s : ByteArray) (a b c d e : Int) : Bool :=
  decide (wrap64 (sg n s a b c * sg n s a d e) = wrap64 (sg n s a b e * sg n s a c d)) && (wrap64 (sg n s a b e * sg n s a c d) == wrap64 ((wrap64 (-(sg n s a b d))) * sg n s a c e))
theorem breaks_eq (n : Nat) (hn : n ≤ 7) (s : ByteArray) (a b c d e : Nat) (ha : a < 7) (hb : b < 7) (hc : c < 7) (hd : d < 7) (he : e < 7) : impl_chi_breaks.f (tab n s) a b c d e = some (brk n s a b c d e) := by
  unfold impl_chi_breaks.f brk
  have hl := tab_length n s
  rw [if_pos (by omega), if_pos (by omega), if_pos (by omega), if_pos (by omega), if_pos (by omega), if_pos (by omega), if_pos (by omega), if_pos (by omega), if_pos (by omega), if_pos (by omega), if_pos (by omega)]
  rw [tab_at n hn s a b c ha hb hc, tab_at n hn s a d e ha hd he, tab_at n hn s a b e ha hb he, tab_at n hn s a c d ha hc hd, tab_at n hn s a b d ha hb hd, tab_at n hn s a c e ha hc he]
  by_cases h : wrap64 (sg n s a b c * sg n s a d e) = wrap64 (sg n s a b e * sg n s a c d)
  · rw [if_pos h, decide_eq_true h, Bool.true_and]
  · rw [if_neg h, decide_eq_false h, Bool.false_and]
theorem l4Breaks_ev (n : Nat) (hn : n ≤ 7) (s : ByteArray) (hs : s.size = (tri n).length) (a b c d e : Nat) (ha : a < n) (hb : b < n) (hc : c < n) (hd : d < n) (he : e < n)
    (hab : a ≠ b) (hac : a ≠ c) (had : a ≠ d) (hae : a ≠ e) (hbc : b < c) (hcd : c < d) (hde : d < e) : Ev (fun k => spec_l4Breaks.f k n s a b c d e) (brk n s a b c d e) := by
  unfold spec_l4Breaks.f brk
  refine Ev.bind (l3At_ev n hn s hs a b c ha hb hc hab (by omega) hac) (Ev.bind (l3At_ev n hn s hs a d e ha hd he had (by omega) hae) (Ev.bind (l3At_ev n hn s hs a b e ha hb he hab (by omega) hae) (Ev.bind (l3At_ev n hn s hs a c d ha hc hd hac (by omega) had) (Ev.bind (l3At_ev n hn s hs a b d ha hb hd hab (by omega) had) (Ev.bind (l3At_ev n hn s hs a c e ha hc he hac (by omega) hae) ?_)))))
  by_cases h : wrap64 (sg n s a b c * sg n s a d e) = wrap64 (sg n s a b e * sg n s a c d)
  · rw [decide_eq_true h, Bool.true_and]
    exact Ev.ite_pos h (Ev.now _)
  · rw [decide_eq_false h, Bool.false_and]
    exact Ev.ite_neg h (Ev.now _)
theorem loopE (g : Nat → Nat → Option (List Int)) (m : Nat) (P : Nat → Bool) (X : Bool) (lo : Nat) (hlo : lo ≤ m) (hend : ∃ r, Ev (g m) r ∧ r.isEmpty = !X)
    (hstep : ∀ i, lo ≤ i → i < m → (∃ r, Ev (g (i + 1)) r ∧ r.isEmpty = !(((List.range m).drop (i + 1)).any P || X)) → ∃ r, Ev (g i) r ∧ r.isEmpty = !(P i || (((List.range m).drop (i + 1)).any P || X))) :
    ∃ r, Ev (g lo) r ∧ r.isEmpty = !(((List.range m).drop lo).any P || X) := by
  have key : ∀ d i, lo ≤ i → i + d = m → ∃ r, Ev (g i) r ∧ r.isEmpty = !(((List.range m).drop i).any P || X) := by
    intro d
    induction d with
    | zero =>
      intro i _ hi
      obtain rfl : i = m := by omega
      rw [List.drop_of_length_le (by simp)]
      simpa using hend
    | succ d ih =>
      intro i hl hi
      rw [range_drop' m i (by omega), List.any_cons, Bool.or_assoc]
      exact hstep i hl (by omega) (ih (i + 1) (by omega) (by omega))
  exact key (m - lo) lo (Nat.le_refl _) (by omega)
def avoid (a : Int) (q : Q4) : Bool := !(q.f0 == a || q.f1 == a || q.f2 == a || q.f3 == a)
def brkQ (n : Nat) (s : ByteArray) (a : Int) (q : Q4) : Bool := brk n s a q.f0 q.f1 q.f2 q.f3
def anyA (n : Nat) (s : ByteArray) (a : Nat) : Bool := (quad n).any fun q => avoid a q && brkQ n s a q
def anyB (n : Nat) (s : ByteArray) : Bool := (List.range n).any (anyA n s)
theorem any_range (l : List Q4) (P : Q4 → Bool) : (List.range l.length).any (fun i => P (rd_T117 l (i : Int))) = l.any P := by
  rw [Bool.eq_iff_iff, List.any_eq_true, List.any_eq_true]
  have hr : ∀ i (h : i < l.length), rd_T117 l (i : Int) = l[i] := by
    intro i h
    unfold rd_T117
    rw [Int.toNat_natCast, getD_lt _ _ _ h]
  constructor
  · rintro ⟨i, hi, hp⟩
    rw [List.mem_range] at hi
    rw [hr i hi] at hp
    exact ⟨_, List.getElem_mem hi, hp⟩
  · rintro ⟨q, hq, hp⟩
    obtain ⟨i, hi, rfl⟩ := List.getElem_of_mem hq
    exact ⟨i, by simpa using hi, by rw [hr i hi]; exact hp⟩
theorem impl_first_ev (n : Nat) (hn : n ≤ 7) (s : ByteArray) : ∃ r, Ev (fun k => impl_chi_firstBreak.f k (tab n s)) r ∧ r.isEmpty = !anyB n s := by
  have hl := tab_length n s
  obtain ⟨hq, hq1⟩ := quad_ok n hn
  unfold impl_chi_firstBreak.f
  have key := loopE (fun a k => impl_chi_firstBreak.l0 k (tab n s) a) n (anyA n s) false 0 (by omega) ?_ ?_
  · simpa [anyB] using key
  · refine ⟨[], Ev.step (fun k => impl_chi_firstBreak.l0.eq_2 ..) (Ev.ite_pos (by omega) (Ev.ite_neg (by rw [tab_n]; omega) (Ev.now _))), rfl⟩
  · intro a _ ha h0
    rw [Bool.or_false] at h0 ⊢
    have key2 := loopE (fun i k => impl_chi_firstBreak.l1 k (tab n s) a (quad n) (quad n).length i) (quad n).length (fun i => avoid a (rd_T117 (quad n) (i : Int)) && brkQ n s a (rd_T117 (quad n) (i : Int))) (((List.range n).drop (a + 1)).any (anyA n s)) 0 (by omega) ?_ ?_
    · obtain ⟨r, h1, h2⟩ := key2
      rw [List.drop_zero, any_range (quad n) (fun q => avoid a q && brkQ n s a q)] at h2
      refine ⟨r, Ev.step (fun k => impl_chi_firstBreak.l0.eq_2 ..) (Ev.ite_pos (by omega) (Ev.ite_pos (by rw [tab_n]; omega) ?_)), h2⟩
      rw [tab_n]
      exact Ev.bind (quadsOf_ev n hn) h1
    · obtain ⟨r, h1, h2⟩ := h0
      refine ⟨r, Ev.step (fun k => impl_chi_firstBreak.l1.eq_2 ..) (Ev.ite_neg (by omega) ?_), h2⟩
      rw [wrap_nat a (by omega)]
      exact h1
    · intro i _ hi h1
      have hr : rd_T117 (quad n) (i : Int) = (quad n)[i] := by
        unfold rd_T117
        rw [Int.toNat_natCast, getD_lt _ _ _ hi]
      rw [List.all_eq_true] at hq
      have ht := hq _ (List.getElem_mem hi)
      rw [← hr] at ht
      obtain ⟨r, h1, h2⟩ := h1
      rw [← wrap_nat i (by omega)] at h1
      by_cases hav : avoid a (rd_T117 (quad n) (i : Int)) = true
      · have hav' := hav
        unfold avoid at hav'
        simp only [Bool.not_eq_true', Bool.or_eq_false_iff, beq_eq_false_iff_ne] at hav'
        obtain ⟨⟨⟨e0, e1⟩, e2⟩, e3⟩ := hav'
        have hb : impl_chi_breaks.f (tab n s) a (rd_T117 (quad n) (i : Int)).f0 (rd_T117 (quad n) (i : Int)).f1 (rd_T117 (quad n) (i : Int)).f2 (rd_T117 (quad n) (i : Int)).f3 = some (brkQ n s a (rd_T117 (quad n) (i : Int))) := by
          generalize rd_T117 (quad n) (i : Int) = q at ht ⊢
          obtain ⟨b, c, d, e⟩ := q
          unfold okQ at ht
          rw [decide_eq_true_eq] at ht
          dsimp only at ht
          obtain ⟨b, rfl⟩ := Int.eq_ofNat_of_zero_le ht.1
          obtain ⟨c, rfl⟩ := Int.eq_ofNat_of_zero_le (show 0 ≤ c by omega)
          obtain ⟨d, rfl⟩ := Int.eq_ofNat_of_zero_le (show 0 ≤ d by omega)
          obtain ⟨e, rfl⟩ := Int.eq_ofNat_of_zero_le (show 0 ≤ e by omega)
          exact breaks_eq n hn s a b c d e (by omega) (by omega) (by omega) (by omega) (by omega)
        rw [hav, Bool.true_and]
        by_cases hbk : brkQ n s a (rd_T117 (quad n) (i : Int)) = true
        · rw [hbk, Bool.true_or]
          exact ⟨_, Ev.step (fun k => impl_chi_firstBreak.l1.eq_2 ..) (Ev.ite_pos (by omega) (Ev.ite_pos (by omega) (Ev.ite_pos (by omega) (Ev.ite_neg e0 (Ev.ite_neg e1 (Ev.ite_neg e2 (Ev.ite_neg e3 (Ev.bind0 hb (Ev.ite_pos hbk (Ev.now _)))))))))), rfl⟩
        · rw [Bool.eq_false_iff.mpr hbk, Bool.false_or]
          exact ⟨r, Ev.step (fun k => impl_chi_firstBreak.l1.eq_2 ..) (Ev.ite_pos (by omega) (Ev.ite_pos (by omega) (Ev.ite_pos (by omega) (Ev.ite_neg e0 (Ev.ite_neg e1 (Ev.ite_neg e2 (Ev.ite_neg e3 (Ev.bind0 hb (Ev.ite_neg hbk h1))))))))), h2⟩
      · rw [Bool.eq_false_iff.mpr hav, Bool.false_and, Bool.false_or]
        refine ⟨r, Ev.step (fun k => impl_chi_firstBreak.l1.eq_2 ..) (Ev.ite_pos (by omega) (Ev.ite_pos (by omega) (Ev.ite_pos (by omega) ?_))), h2⟩
        unfold avoid at hav
        by_cases e0 : (rd_T117 (quad n) (i : Int)).f0 = a
        · exact Ev.ite_pos e0 h1
        refine Ev.ite_neg e0 ?_
        by_cases e1 : (rd_T117 (quad n) (i : Int)).f1 = a
        · exact Ev.ite_pos e1 h1
        refine Ev.ite_neg e1 ?_
        by_cases e2 : (rd_T117 (quad n) (i : Int)).f2 = a
        · exact Ev.ite_pos e2 h1
        refine Ev.ite_neg e2 ?_
        by_cases e3 : (rd_T117 (quad n) (i : Int)).f3 = a
        · exact Ev.ite_pos e3 h1
        · exact absurd (by simp [e0, e1, e2, e3]) hav
def oth (n a : Nat) : List Int := ((List.range n).filter fun x => x != a).map fun x : Nat => (x : Int)
theorem all_oth : (List.range 8).all (fun n => (List.range n).all fun a => spec_l3Others.f 40 n a == some (oth n a)) = true := by decide +kernel
theorem l3Others_ev (n a : Nat) (hn : n ≤ 7) (ha : a < n) : Ev (fun k => spec_l3Others.f k n a) (oth n a) := by
  have h := all_oth
  rw [List.all_eq_true] at h
  have h := h n (by simp; omega)
  rw [List.all_eq_true] at h
  have h := h a (by simpa using ha)
  exact Ev.of (spec_l3Others.mono _ _) (k := 40) (by simpa using h)
theorem all_o : (List.range 8).all (fun n => (List.range n).all fun a => decide ((oth n a).length ≤ 7) && (List.range (oth n a).length).all fun i => decide (0 ≤ rd (oth n a) (i : Int) ∧ rd (oth n a) (i : Int) < n ∧ rd (oth n a) (i : Int) ≠ a) && (List.range i).all fun j => decide (rd (oth n a) (j : Int) < rd (oth n a) (i : Int))) = true := by decide +kernel
theorem oth_ok (n a : Nat) (hn : n ≤ 7) (ha : a < n) : (oth n a).length ≤ 7 ∧ ∀ i, i < (oth n a).length → (∃ u : Nat, rd (oth n a) (i : Int) = u ∧ u < n ∧ u ≠ a) ∧ ∀ j, j < i → rd (oth n a) (j : Int) < rd (oth n a) (i : Int) := by
  have h := all_o
  rw [List.all_eq_true] at h
  have h := h n (by simp; omega)
  rw [List.all_eq_true] at h
  have h := h a (by simpa using ha)
  rw [Bool.and_eq_true, decide_eq_true_eq, List.all_eq_true] at h
  refine ⟨h.1, fun i hi => ?_⟩
  have g := h.2 i (by simpa using hi)
  rw [Bool.and_eq_true, decide_eq_true_eq, List.all_eq_true] at g
  refine ⟨⟨(rd (oth n a) (i : Int)).toNat, by omega, by omega, by omega⟩, fun j hj => ?_⟩
  simpa using g.2 j (by simpa using hj)
def listQ (n a : Nat) : List Q4 :=
  ((List.range (oth n a).length).drop 0).flatMap fun b : Nat => ((List.range (oth n a).length).drop (b + 1)).flatMap fun c : Nat => ((List.range (oth n a).length).drop (c + 1)).flatMap fun d : Nat => ((List.range (oth n a).length).drop (d + 1)).map fun e : Nat =>
    (⟨rd (oth n a) (b : Int), rd (oth n a) (c : Int), rd (oth n a) (d : Int), rd (oth n a) (e : Int)⟩ : Q4)
def tup (q : Q4) : Int × Int × Int × Int := (q.f0, q.f1, q.f2, q.f3)
def untup (q : Int × Int × Int × Int) : Q4 := ⟨q.1, q.2.1, q.2.2.1, q.2.2.2⟩
theorem untup_map (l : List Q4) : (l.map tup).map untup = l := by
  rw [List.map_map]
  exact List.map_id' l
theorem all_list : (List.range 8).all (fun n => (List.range n).all fun a => (listQ n a).map tup == ((quad n).filter (avoid a)).map tup) = true := by decide +kernel
theorem listQ_eq (n a : Nat) (hn : n ≤ 7) (ha : a < n) : listQ n a = (quad n).filter (avoid a) := by
  have h := all_list
  rw [List.all_eq_true] at h
  have h := h n (by simp; omega)
  rw [List.all_eq_true] at h
  have h := h a (by simpa using ha)
  have h := congrArg (List.map untup) (eq_of_beq h)
  rwa [untup_map, untup_map] at h
section
variable (n : Nat) (s : ByteArray) (a : Nat)
def b4 (b c d e : Nat) : Bool := brk n s a (rd (oth n a) (b : Int)) (rd (oth n a) (c : Int)) (rd (oth n a) (d : Int)) (rd (oth n a) (e : Int))
def b3 (b c d : Nat) : Bool := ((List.range (oth n a).length).drop (d + 1)).any (b4 n s a b c d)
def b2 (b c : Nat) : Bool := ((List.range (oth n a).length).drop (c + 1)).any (b3 n s a b c)
def b1 (b : Nat) : Bool := ((List.range (oth n a).length).drop (b + 1)).any (b2 n s a b)
end
theorem b1_eq (n : Nat) (s : ByteArray) (a : Nat) (hn : n ≤ 7) (ha : a < n) : (List.range (oth n a).length).any (b1 n s a) = anyA n s a := by
  unfold anyA
  rw [← List.any_filter, ← listQ_eq n a hn ha]
  unfold listQ
  rw [List.drop_zero, List.any_flatMap]
  simp only [List.any_flatMap, List.any_map]
  rfl
theorem spec_first_ev (n : Nat) (hn : n ≤ 7) (s : ByteArray) (hA : isS n s = true) : ∃ r, Ev (fun k => spec_FirstBreak.f k n s) r ∧ r.isEmpty = !anyB n s := by
  have hS := spec_AreSigns_ev n s
  rw [hA] at hS
  obtain ⟨_, _, hs, _⟩ := isS_bounds hA
  rw [Int.toNat_natCast] at hs
  unfold spec_FirstBreak.f
  have key := loopE (fun a k => spec_FirstBreak.l0 k a n s) n (anyA n s) false 0 (by omega) ?_ ?_
  · simpa [anyB] using key
  · exact ⟨[], Ev.step (fun k => spec_FirstBreak.l0.eq_2 ..) (Ev.ite_neg (by omega) (Ev.step (fun k => spec_FirstBreak.j1.eq_2 ..) (Ev.ite_neg (by simp) (Ev.now _)))), rfl⟩
  · intro a _ ha h0
    rw [Bool.or_false] at h0 ⊢
    obtain ⟨ho, hok⟩ := oth_ok n a hn ha
    rw [← b1_eq n s a hn ha]
    have key1 := loopE (fun b k => spec_FirstBreak.l1 k a (oth n a) b n s) (oth n a).length (b1 n s a) (((List.range n).drop (a + 1)).any (anyA n s)) 0 (by omega) ?_ ?_
    · obtain ⟨r, h1, h2⟩ := key1
      rw [List.drop_zero] at h2
      exact ⟨r, Ev.step (fun k => spec_FirstBreak.l0.eq_2 ..) (Ev.ite_pos (by omega) (Ev.bind hS (Ev.step (fun k => spec_FirstBreak.j1.eq_2 ..) (Ev.ite_pos rfl (Ev.bind (l3Others_ev n a hn ha) h1))))), h2⟩
    · obtain ⟨r, h1, h2⟩ := h0
      refine ⟨r, Ev.step (fun k => spec_FirstBreak.l1.eq_2 ..) (Ev.ite_neg (by omega) ?_), h2⟩
      rw [wrap_nat a (by omega)]
      exact h1
    · intro b _ hb h1
      have key2 := loopE (fun c k => spec_FirstBreak.l2 k a (oth n a) b c n s) (oth n a).length (b2 n s a b) (((List.range (oth n a).length).drop (b + 1)).any (b1 n s a) || ((List.range n).drop (a + 1)).any (anyA n s)) (b + 1) (by omega) ?_ ?_
      · obtain ⟨r, g1, g2⟩ := key2
        refine ⟨r, Ev.step (fun k => spec_FirstBreak.l1.eq_2 ..) (Ev.ite_pos (by omega) ?_), g2⟩
        rw [wrap_nat b (by omega)]
        exact g1
      · obtain ⟨r, g1, g2⟩ := h1
        refine ⟨r, Ev.step (fun k => spec_FirstBreak.l2.eq_2 ..) (Ev.ite_neg (by omega) ?_), g2⟩
        rw [wrap_nat b (by omega)]
        exact g1
      · intro c hbc hc h2
        have key3 := loopE (fun d k => spec_FirstBreak.l3 k a (oth n a) b c d n s) (oth n a).length (b3 n s a b c) (((List.range (oth n a).length).drop (c + 1)).any (b2 n s a b) || (((List.range (oth n a).length).drop (b + 1)).any (b1 n s a) || ((List.range n).drop (a + 1)).any (anyA n s))) (c + 1) (by omega) ?_ ?_
        · obtain ⟨r, g1, g2⟩ := key3
          refine ⟨r, Ev.step (fun k => spec_FirstBreak.l2.eq_2 ..) (Ev.ite_pos (by omega) ?_), g2⟩
          rw [wrap_nat c (by omega)]
          exact g1
        · obtain ⟨r, g1, g2⟩ := h2
          refine ⟨r, Ev.step (fun k => spec_FirstBreak.l3.eq_2 ..) (Ev.ite_neg (by omega) ?_), g2⟩
          rw [wrap_nat c (by omega)]
          exact g1
        · intro d hcd hd h3
          have key4 := loopE (fun e k => spec_FirstBreak.l4 k a (oth n a) b c d e n s) (oth n a).length (b4 n s a b c d) (((List.range (oth n a).length).drop (d + 1)).any (b3 n s a b c) || (((List.range (oth n a).length).drop (c + 1)).any (b2 n s a b) || (((List.range (oth n a).length).drop (b + 1)).any (b1 n s a) || ((List.range n).drop (a + 1)).any (anyA n s)))) (d + 1) (by omega) ?_ ?_
          · obtain ⟨r, g1, g2⟩ := key4
            refine ⟨r, Ev.step (fun k => spec_FirstBreak.l3.eq_2 ..) (Ev.ite_pos (by omega) ?_), g2⟩
            rw [wrap_nat d (by omega)]
            exact g1
          · obtain ⟨r, g1, g2⟩ := h3
            refine ⟨r, Ev.step (fun k => spec_FirstBreak.l4.eq_2 ..) (Ev.ite_neg (by omega) ?_), g2⟩
            rw [wrap_nat d (by omega)]
            exact g1
          · intro e hde he h4
            have hord : b < c ∧ c < d ∧ d < e := ⟨by omega, by omega, by omega⟩
            obtain ⟨⟨ub, eb, lb, nb⟩, _⟩ := hok b hb
            obtain ⟨⟨uc, ec, lc, nc⟩, oc⟩ := hok c hc
            obtain ⟨⟨ud, ed, ld, nd⟩, od⟩ := hok d hd
            obtain ⟨⟨ue, ee, le, ne⟩, oe⟩ := hok e he
            have kb := oc b hord.1
            have kc := od c hord.2.1
            have kd := oe d hord.2.2
            rw [eb, ec] at kb
            rw [ec, ed] at kc
            rw [ed, ee] at kd
            have hbr : Ev (fun k => spec_l4Breaks.f k n s a (rd (oth n a) (b : Int)) (rd (oth n a) (c : Int)) (rd (oth n a) (d : Int)) (rd (oth n a) (e : Int))) (b4 n s a b c d e) := by
              unfold b4
              rw [eb, ec, ed, ee]
              exact l4Breaks_ev n hn s hs a ub uc ud ue ha lb lc ld le (Ne.symm nb) (Ne.symm nc) (Ne.symm nd) (Ne.symm ne) (by omega) (by omega) (by omega)
            obtain ⟨r, g1, g2⟩ := h4
            rw [← wrap_nat e (by omega)] at g1
            by_cases hbk : b4 n s a b c d e = true
            · rw [hbk] at hbr
              rw [hbk, Bool.true_or]
              exact ⟨_, Ev.step (fun k => spec_FirstBreak.l4.eq_2 ..) (Ev.ite_pos (by omega) (Ev.ite_pos (by omega) (Ev.ite_pos (by omega) (Ev.ite_pos (by omega) (Ev.ite_pos (by omega) (Ev.ite_pos (by omega) (Ev.ite_pos (by omega) (Ev.ite_pos (by omega) (Ev.bind hbr (Ev.ite_pos rfl (Ev.now _))))))))))), rfl⟩
            · rw [Bool.eq_false_iff.mpr hbk] at hbr
              rw [Bool.eq_false_iff.mpr hbk, Bool.false_or]
              exact ⟨r, Ev.step (fun k => spec_FirstBreak.l4.eq_2 ..) (Ev.ite_pos (by omega) (Ev.ite_pos (by omega) (Ev.ite_pos (by omega) (Ev.ite_pos (by omega) (Ev.ite_pos (by omega) (Ev.ite_pos (by omega) (Ev.ite_pos (by omega) (Ev.ite_pos (by omega) (Ev.bind hbr (Ev.ite_neg (by simp) g1)))))))))), g2⟩
def isM (n : Int) (s : ByteArray) : Bool := isS n s && !anyB n.toNat s
theorem len_empty (r : List Int) : ((r.length : Int) = 0) ↔ r.isEmpty = true := by
  rw [List.isEmpty_iff, ← List.length_eq_zero_iff]
  omega
theorem spec_IsMatroid_ev (n : Int) (s : ByteArray) : Ev (fun k => spec_IsMatroid.f k n s) (isM n s) := by
  have hS := spec_AreSigns_ev n s
  unfold spec_IsMatroid.f isM
  cases hA : isS n s with
  | false =>
    rw [hA] at hS
    exact Ev.bind hS (Ev.ite_neg (by simp) (Ev.now _))
  | true =>
    rw [hA] at hS
    obtain ⟨h3, h7, _, _⟩ := isS_bounds hA
    obtain ⟨n, rfl⟩ := Int.eq_ofNat_of_zero_le (show 0 ≤ n by omega)
    obtain ⟨r, h1, h2⟩ := spec_first_ev n (by omega) s hA
    rw [Int.toNat_natCast, Bool.true_and, ← h2]
    refine Ev.bind hS (Ev.ite_pos rfl (Ev.bind h1 (Ev.const (congrArg some ?_))))
    rw [Bool.eq_iff_iff, beq_iff_eq]
    exact len_empty r
theorem impl_IsMatroid_ev (n : Int) (s : ByteArray) : Ev (fun k => impl_IsMatroid.f k n s) (isM n s) := by
  have hS := impl_AreSigns_ev n s
  unfold impl_IsMatroid.f isM
  cases hA : isS n s with
  | false =>
    rw [hA] at hS
    exact Ev.bind hS (Ev.ite_neg (by simp) (Ev.now _))
  | true =>
    rw [hA] at hS
    obtain ⟨h3, h7, hs, _⟩ := isS_bounds hA
    obtain ⟨n, rfl⟩ := Int.eq_ofNat_of_zero_le (show 0 ≤ n by omega)
    rw [Int.toNat_natCast] at hs
    obtain ⟨r, h1, h2⟩ := impl_first_ev n (by omega) s
    rw [Int.toNat_natCast, Bool.true_and, ← h2]
    have hF : Ev (fun k => impl_FirstBreak.f k n s) r := by
      unfold impl_FirstBreak.f
      exact Ev.bind hS (Ev.ite_pos rfl (Ev.bind (tableOf_ev n (by omega) s hs) (Ev.bind h1 (Ev.now _))))
    refine Ev.bind hS (Ev.ite_pos rfl (Ev.bind hF ?_))
    cases he : r.isEmpty with
    | true => exact Ev.ite_pos ((len_empty r).mpr he) (Ev.now _)
    | false => exact Ev.ite_neg (fun h => by rw [(len_empty r).mp h] at he; cases he) (Ev.now _)
def byteS (v : Int) : ByteArray := if v > 0 then ⟨#[43]⟩ else ⟨#[45]⟩
def circT (p q r t : Int) : ByteArray := (((⟨#[43]⟩ : ByteArray) ++ byteS (wrap64 ((wrap64 (-p)) * q))) ++ byteS (wrap64 (p * r))) ++ byteS (wrap64 ((wrap64 (-p)) * t))
theorem l3Byte_eq (v : Int) : spec_l3Byte.f v = some (byteS v) := by
  unfold spec_l3Byte.f byteS
  by_cases h : v > 0
  · rw [if_pos h, if_pos h]
  · rw [if_neg h, if_neg h]
theorem byteS_size (v : Int) : (byteS v).size = 1 := by
  unfold byteS
  by_cases h : v > 0
  · rw [if_pos h]; rfl
  · rw [if_neg h]; rfl
def pm1 : List Int := [1, -1]
theorem all_circ : pm1.all (fun p => pm1.all fun q => pm1.all fun r => pm1.all fun t => (impl_chi_circuit.l0 12 [] [p, wrap64 (-q), r, wrap64 (-t)] 4 0).map (fun b => b.data.toList) == some (circT p q r t).data.toList) = true := by decide +kernel
theorem circ_eq (p q r t : Int) (hp : p = 1 ∨ p = -1) (hq : q = 1 ∨ q = -1) (hr : r = 1 ∨ r = -1) (ht : t = 1 ∨ t = -1) : impl_chi_circuit.l0 12 [] [p, wrap64 (-q), r, wrap64 (-t)] 4 0 = some (circT p q r t) := by
  have h := all_circ
  rw [List.all_eq_true] at h
  have h := h p (by rcases hp with rfl | rfl <;> decide)
  rw [List.all_eq_true] at h
  have h := h q (by rcases hq with rfl | rfl <;> decide)
  rw [List.all_eq_true] at h
  have h := h r (by rcases hr with rfl | rfl <;> decide)
  rw [List.all_eq_true] at h
  have h := eq_of_beq (h t (by rcases ht with rfl | rfl <;> decide))
  obtain ⟨b, h1, h2⟩ := Option.map_eq_some_iff.mp h
  rw [h1]
  congr 1
  apply ByteArray.ext
  exact Array.ext' h2
theorem impl_circuit_ev (n : Nat) (hn : n ≤ 7) (s : ByteArray) (a b c d : Nat) (hd : d < n) (hab : a < b) (hbc : b < c) (hcd : c < d) :
    Ev (fun k => impl_chi_circuit.f k (tab n s) a b c d) (circT (sg n s b c d) (sg n s a c d) (sg n s a b d) (sg n s a b c)) := by
  have hl := tab_length n s
  unfold impl_chi_circuit.f
  refine Ev.ite_pos (by omega) (Ev.ite_pos (by omega) (Ev.ite_pos (by omega) (Ev.ite_pos (by omega) (Ev.ite_pos (by omega) (Ev.ite_pos (by omega) (Ev.ite_pos (by omega) (Ev.ite_pos (by omega) (Ev.ite_pos (by omega) (Ev.bind0 rfl ?_)))))))))
  rw [tab_at n hn s b c d (by omega) (by omega) (by omega), tab_at n hn s a c d (by omega) (by omega) (by omega), tab_at n hn s a b d (by omega) (by omega) (by omega), tab_at n hn s a b c (by omega) (by omega) (by omega)]
  exact Ev.of (fun k => (impl_chi_circuit.mono_l k) _ _ _ _) (k := 12) (circ_eq _ _ _ _ (sg_pm n hn s b c d (by omega) (by omega) (by omega) (by omega) (by omega) (by omega)) (sg_pm n hn s a c d (by omega) (by omega) (by omega) (by omega) (by omega) (by omega)) (sg_pm n hn s a b d (by omega) (by omega) (by omega) (by omega) (by omega) (by omega)) (sg_pm n hn s a b c (by omega) (by omega) (by omega) (by omega) (by omega) (by omega)))
theorem spec_circuit_ev (n : Nat) (hn : n ≤ 7) (s : ByteArray) (hs : s.size = (tri n).length) (a b c d : Nat) (hd : d < n) (hab : a < b) (hbc : b < c) (hcd : c < d) :
    Ev (fun k => spec_l4Circuit.f k n s a b c d) (circT (sg n s b c d) (sg n s a c d) (sg n s a b d) (sg n s a b c)) := by
  unfold spec_l4Circuit.f circT
  refine Ev.bind (l3At_ev n hn s hs b c d (by omega) (by omega) (by omega) (by omega) (by omega) (by omega)) (Ev.bind (l3At_ev n hn s hs a c d (by omega) (by omega) (by omega) (by omega) (by omega) (by omega)) (Ev.bind0 (l3Byte_eq _) (Ev.ite_pos (by rw [byteS_size]; omega) ?_)))
  refine Ev.bind (l3At_ev n hn s hs a b d (by omega) (by omega) (by omega) (by omega) (by omega) (by omega)) (Ev.bind0 (l3Byte_eq _) (Ev.ite_pos (by rw [ByteArray.size_append, byteS_size, byteS_size]; decide) ?_))
  exact Ev.bind (l3At_ev n hn s hs a b c (by omega) (by omega) (by omega) (by omega) (by omega) (by omega)) (Ev.bind0 (l3Byte_eq _) (Ev.ite_pos (by rw [ByteArray.size_append, ByteArray.size_append, byteS_size, byteS_size, byteS_size]; decide) (Ev.now _)))
def mixed (n : Nat) (s : ByteArray) (a b c d : Int) : Bool := !decide ((circT (sg n s b c d) (sg n s a c d) (sg n s a b d) (sg n s a b c)).toList = ([43, 43, 43, 43] : List UInt8))
def mixQ (n : Nat) (s : ByteArray) (q : Q4) : Bool := mixed n s q.f0 q.f1 q.f2 q.f3
def acyT (n : Nat) (s : ByteArray) : Bool := (quad n).all (mixQ n s)
theorem impl_acy_ev (n : Nat) (hn : n ≤ 7) (s : ByteArray) : Ev (fun k => impl_chi_isAcyclic.f k (tab n s)) (acyT n s) := by
  have hl := tab_length n s
  obtain ⟨hq, hq1⟩ := quad_ok n hn
  rw [List.all_eq_true] at hq
  unfold impl_chi_isAcyclic.f acyT
  rw [tab_n]
  refine Ev.ite_pos (by omega) (Ev.bind (quadsOf_ev n hn) ?_)
  have key := Ev.loop_to (fun i k => impl_chi_isAcyclic.l0 k (tab n s) (quad n) (quad n).length i) (quad n).length (fun i => ((quad n).drop i).all (mixQ n s)) ?_ ?_ 0 (by omega)
  · simpa using key
  · refine Ev.step (fun k => impl_chi_isAcyclic.l0.eq_2 ..) (Ev.ite_neg (by omega) (Ev.const ?_))
    rw [List.drop_of_length_le (by omega)]
    rfl
  · intro i hi ih
    have hr : rd_T117 (quad n) (i : Int) = (quad n)[i] := by
      unfold rd_T117
      rw [Int.toNat_natCast, getD_lt _ _ _ hi]
    have ht := hq _ (List.getElem_mem hi)
    rw [List.drop_eq_getElem_cons hi, List.all_cons]
    refine Ev.step (fun k => impl_chi_isAcyclic.l0.eq_2 ..) (Ev.ite_pos (by omega) (Ev.ite_pos (by omega) (Ev.ite_pos (by omega) ?_)))
    rw [hr, wrap_nat i (by omega)]
    generalize (quad n)[i] = q at ht ⊢
    obtain ⟨a, b, c, d⟩ := q
    unfold okQ at ht
    rw [decide_eq_true_eq] at ht
    dsimp only at ht
    obtain ⟨a, rfl⟩ := Int.eq_ofNat_of_zero_le ht.1
    obtain ⟨b, rfl⟩ := Int.eq_ofNat_of_zero_le (show 0 ≤ b by omega)
    obtain ⟨c, rfl⟩ := Int.eq_ofNat_of_zero_le (show 0 ≤ c by omega)
    obtain ⟨d, rfl⟩ := Int.eq_ofNat_of_zero_le (show 0 ≤ d by omega)
    refine Ev.bind (impl_circuit_ev n hn s a b c d (by omega) (by omega) (by omega) (by omega)) ?_
    rw [show mixQ n s (⟨a, b, c, d⟩ : Q4) = !decide ((circT (sg n s b c d) (sg n s a c d) (sg n s a b d) (sg n s a b c)).toList = ([43, 43, 43, 43] : List UInt8)) from rfl]
    by_cases h : (circT (sg n s b c d) (sg n s a c d) (sg n s a b d) (sg n s a b c)).toList = ([43, 43, 43, 43] : List UInt8)
    · rw [decide_eq_true h]
      exact Ev.ite_pos h (Ev.now _)
    · rw [decide_eq_false h]
      exact Ev.ite_neg h (by simpa using ih)
def listC (n : Nat) : List Q4 :=
  ((List.range n).drop 0).flatMap fun a : Nat => ((List.range n).drop (a + 1)).flatMap fun b : Nat => ((List.range n).drop (b + 1)).flatMap fun c : Nat => ((List.range n).drop (c + 1)).map fun d : Nat => (⟨a, b, c, d⟩ : Q4)
theorem all_c : (List.range 8).all (fun n => (listC n).map tup == (quad n).map tup) = true := by decide +kernel
theorem listC_eq (n : Nat) (hn : n ≤ 7) : listC n = quad n := by
  have h := all_c
  rw [List.all_eq_true] at h
  have h := congrArg (List.map untup) (eq_of_beq (h n (by simp; omega)))
  rwa [untup_map, untup_map] at h
section
variable (n : Nat) (s : ByteArray)
def m4 (a b c d : Nat) : Bool := mixed n s a b c d
def m3 (a b c : Nat) : Bool := ((List.range n).drop (c + 1)).all (m4 n s a b c)
def m2 (a b : Nat) : Bool := ((List.range n).drop (b + 1)).all (m3 n s a b)
def m1 (a : Nat) : Bool := ((List.range n).drop (a + 1)).all (m2 n s a)
end
theorem acy_eq (n : Nat) (hn : n ≤ 7) (s : ByteArray) : (List.range n).all (m1 n s) = acyT n s := by
  unfold acyT
  rw [← listC_eq n hn]
  unfold listC
  rw [List.drop_zero, List.all_flatMap]
  simp only [List.all_flatMap, List.all_map]
  rfl
theorem loopA (g : Nat → Nat → Option Bool) (m : Nat) (P : Nat → Bool) (X : Bool) (lo : Nat) (hlo : lo ≤ m) (hend : Ev (g m) X)
    (hstep : ∀ i, lo ≤ i → i < m → Ev (g (i + 1)) (((List.range m).drop (i + 1)).all P && X) → Ev (g i) (P i && (((List.range m).drop (i + 1)).all P && X))) : Ev (g lo) (((List.range m).drop lo).all P && X) := by
  have key : ∀ d i, lo ≤ i → i + d = m → Ev (g i) (((List.range m).drop i).all P && X) := by
    intro d
    induction d with
    | zero =>
      intro i _ hi
      obtain rfl : i = m := by omega
      rw [List.drop_of_length_le (by simp)]
      simpa using hend
    | succ d ih =>
      intro i hl hi
      rw [range_drop' m i (by omega), List.all_cons, Bool.and_assoc]
      exact hstep i hl (by omega) (ih (i + 1) (by omega) (by omega))
  exact key (m - lo) lo (Nat.le_refl _) (by omega)
theorem spec_acy_ev (n : Nat) (hn : n ≤ 7) (s : ByteArray) (hs : s.size = (tri n).length) : Ev (fun k => spec_l4Acyclic.f k n s) (acyT n s) := by
  rw [← acy_eq n hn s]
  unfold spec_l4Acyclic.f
  have key := loopA (fun a k => spec_l4Acyclic.l0 k a n s) n (m1 n s) true 0 (by omega) ?_ ?_
  · simpa using key
  · exact Ev.step (fun k => spec_l4Acyclic.l0.eq_2 ..) (Ev.ite_neg (by omega) (Ev.now _))
  · intro a _ ha h0
    have key1 := loopA (fun b k => spec_l4Acyclic.l1 k a b n s) n (m2 n s a) (((List.range n).drop (a + 1)).all (m1 n s) && true) (a + 1) (by omega) ?_ ?_
    · refine Ev.step (fun k => spec_l4Acyclic.l0.eq_2 ..) (Ev.ite_pos (by omega) ?_)
      rw [wrap_nat a (by omega)]
      exact key1
    · refine Ev.step (fun k => spec_l4Acyclic.l1.eq_2 ..) (Ev.ite_neg (by omega) ?_)
      rw [wrap_nat a (by omega)]
      exact h0
    · intro b hab hb h1
      have key2 := loopA (fun c k => spec_l4Acyclic.l2 k a b c n s) n (m3 n s a b) (((List.range n).drop (b + 1)).all (m2 n s a) && (((List.range n).drop (a + 1)).all (m1 n s) && true)) (b + 1) (by omega) ?_ ?_
      · refine Ev.step (fun k => spec_l4Acyclic.l1.eq_2 ..) (Ev.ite_pos (by omega) ?_)
        rw [wrap_nat b (by omega)]
        exact key2
      · refine Ev.step (fun k => spec_l4Acyclic.l2.eq_2 ..) (Ev.ite_neg (by omega) ?_)
        rw [wrap_nat b (by omega)]
        exact h1
      · intro c hbc hc h2
        have key3 := loopA (fun d k => spec_l4Acyclic.l3 k a b c d n s) n (m4 n s a b c) (((List.range n).drop (c + 1)).all (m3 n s a b) && (((List.range n).drop (b + 1)).all (m2 n s a) && (((List.range n).drop (a + 1)).all (m1 n s) && true))) (c + 1) (by omega) ?_ ?_
        · refine Ev.step (fun k => spec_l4Acyclic.l2.eq_2 ..) (Ev.ite_pos (by omega) ?_)
          rw [wrap_nat c (by omega)]
          exact key3
        · refine Ev.step (fun k => spec_l4Acyclic.l3.eq_2 ..) (Ev.ite_neg (by omega) ?_)
          rw [wrap_nat c (by omega)]
          exact h2
        · intro d hcd hd h3
          refine Ev.step (fun k => spec_l4Acyclic.l3.eq_2 ..) (Ev.ite_pos (by omega) (Ev.bind (spec_circuit_ev n hn s hs a b c d (by omega) (by omega) (by omega) (by omega)) ?_))
          rw [show m4 n s a b c d = !decide ((circT (sg n s b c d) (sg n s a c d) (sg n s a b d) (sg n s a b c)).toList = ([43, 43, 43, 43] : List UInt8)) from rfl, wrap_nat d (by omega)]
          by_cases h : (circT (sg n s b c d) (sg n s a c d) (sg n s a b d) (sg n s a b c)).toList = ([43, 43, 43, 43] : List UInt8)
          · rw [decide_eq_true h]
            exact Ev.ite_pos h (Ev.now _)
          · rw [decide_eq_false h]
            exact Ev.ite_neg h (by simpa using h3)
def isA (n : Int) (s : ByteArray) : Bool := isM n s && acyT n.toNat s
theorem isM_S {n : Int} {s : ByteArray} (h : isM n s = true) : isS n s = true := by
  unfold isM at h
  rw [Bool.and_eq_true] at h
  exact h.1
theorem spec_IsAcyclic_ev (n : Int) (s : ByteArray) : Ev (fun k => spec_IsAcyclic.f k n s) (isA n s) := by
  unfold spec_IsAcyclic.f isA
  refine Ev.bind (spec_IsMatroid_ev n s) ?_
  cases hM : isM n s with
  | false => exact Ev.ite_neg (by simp) (Ev.now _)
  | true =>
    obtain ⟨h3, h7, hs, _⟩ := isS_bounds (isM_S hM)
    obtain ⟨n, rfl⟩ := Int.eq_ofNat_of_zero_le (show 0 ≤ n by omega)
    rw [Int.toNat_natCast] at hs ⊢
    exact Ev.ite_pos rfl (Ev.bind (spec_acy_ev n (by omega) s hs) (Ev.now _))
theorem impl_IsAcyclic_ev (n : Int) (s : ByteArray) : Ev (fun k => impl_IsAcyclic.f k n s) (isA n s) := by
  unfold impl_IsAcyclic.f isA
  refine Ev.bind (impl_IsMatroid_ev n s) ?_
  cases hM : isM n s with
  | false => exact Ev.ite_neg (by simp) (Ev.now _)
  | true =>
    obtain ⟨h3, h7, hs, _⟩ := isS_bounds (isM_S hM)
    obtain ⟨n, rfl⟩ := Int.eq_ofNat_of_zero_le (show 0 ≤ n by omega)
    rw [Int.toNat_natCast] at hs ⊢
    exact Ev.ite_pos rfl (Ev.bind (tableOf_ev n (by omega) s hs) (Ev.bind (impl_acy_ev n (by omega) s) (Ev.now _)))
theorem rd_ltZ (l : List Int) (i : Nat) (h : i < l.length) : rd l (i : Int) = l[i] := by
  unfold rd
  rw [Int.toNat_natCast, getD_lt _ _ _ h]
theorem eqIntS_selfZ (l : List Int) (hl : l.length ≤ 1048576) : Ev (fun k => laws_eqIntS.f k l l) true := by
  unfold laws_eqIntS.f
  refine Ev.ite_pos rfl ?_
  refine Ev.loop (fun i k => laws_eqIntS.l0 k l l i) l.length true ?_ ?_ 0 (by omega)
  · refine Ev.step (fun k => laws_eqIntS.l0.eq_2 ..) ?_
    exact Ev.ite_neg (by omega) (Ev.now _)
  · intro i hi ih
    refine Ev.step (fun k => laws_eqIntS.l0.eq_2 ..) ?_
    refine Ev.ite_pos (by omega) (Ev.ite_pos (by omega) (Ev.ite_pos (by omega) (Ev.ite_pos rfl ?_)))
    rw [wrap_nat i (by omega)]
    exact ih
def smallSS (L : List (List Int)) : Prop := L.length ≤ 1000 ∧ ∀ l ∈ L, l.length ≤ 1000
theorem rdLL (L : List (List Int)) (j : Nat) (h : j < L.length) : rd_L3 L (j : Int) = L[j] := by
  unfold rd_L3
  rw [Int.toNat_natCast, getD_lt _ _ _ h]
theorem eqIntSS_self (L : List (List Int)) (hL : smallSS L) : Ev (fun k => laws_eqIntSS.f k L L) true := by
  have h1 := hL.1
  unfold laws_eqIntSS.f
  refine Ev.ite_pos rfl ?_
  refine Ev.loop (fun i k => laws_eqIntSS.l0 k L L i) L.length true ?_ ?_ 0 (by omega)
  · exact Ev.step (fun k => laws_eqIntSS.l0.eq_2 ..) (Ev.ite_neg (by omega) (Ev.now _))
  · intro i hi ih
    refine Ev.step (fun k => laws_eqIntSS.l0.eq_2 ..) (Ev.ite_pos (by omega) (Ev.ite_pos (by omega) (Ev.ite_pos (by omega) ?_)))
    rw [rdLL L i hi, wrap_nat i (by omega)]
    have h2 := hL.2 _ (List.getElem_mem hi)
    exact Ev.bind (eqIntS_selfZ _ (by omega)) (Ev.ite_pos rfl ih)
def marksF (c n : Nat) : List Int := (List.range n).map fun i => ((c + i : Nat) : Int)
theorem marksF_length (c n : Nat) : (marksF c n).length = n := by simp [marksF]
theorem rd_marksF (c n i : Nat) (h : i < n) : rd (marksF c n) (i : Int) = ((c + i : Nat) : Int) := by
  rw [rd_ltZ _ _ (by rw [marksF_length]; exact h)]
  simp [marksF]
theorem marksF_set (l : List Int) (c n i : Nat) (hl : l.length = n) (hi : i < n) : (marksF c i ++ l.drop i).set i ((c + i : Nat) : Int) = marksF c (i + 1) ++ l.drop (i + 1) := by
  have h0 : (marksF c i).length = i := marksF_length c i
  rw [List.set_append_right _ _ (by omega), h0, Nat.sub_self, List.drop_eq_getElem_cons (by omega), List.set_cons_zero]
  simp [marksF, List.range_succ]
theorem markIntS_from (l : List Int) (c : Nat) (hc : c ≤ 100000000) (hl : l.length ≤ 1048576) : Ev (fun k => laws_markIntS.f k l c) (((c + l.length : Nat) : Int), marksF c l.length) := by
  have key := Ev.loop (fun i k => laws_markIntS.l0 k (marksF c i ++ l.drop i) ((c + i : Nat) : Int) i) l.length (((c + l.length : Nat) : Int), marksF c l.length) ?_ ?_ 0 (by omega)
  · unfold laws_markIntS.f
    simpa [marksF] using key
  · refine Ev.step (fun k => laws_markIntS.l0.eq_2 ..) ?_
    refine Ev.ite_neg (by simp [marksF_length]) (Ev.const ?_)
    simp
  · intro i hi ih
    refine Ev.step (fun k => laws_markIntS.l0.eq_2 ..) ?_
    refine Ev.ite_pos (by simp [marksF_length]; omega) (Ev.ite_pos (by omega) ?_)
    rw [wrap_nat i (by omega), wrap_nat (c + i) (by omega), Int.toNat_natCast, marksF_set l c l.length i rfl hi]
    exact ih
theorem heldIntS_from (c n : Nat) (hc : c ≤ 100000000) (hl : n ≤ 1048576) : Ev (fun k => laws_heldIntS.f k (marksF c n) c) ((c + n : Nat) : Int) := by
  have key := Ev.loop (fun i k => laws_heldIntS.l0 k (marksF c n) ((c + i : Nat) : Int) i) n ((c + n : Nat) : Int) ?_ ?_ 0 (by omega)
  · exact key
  · refine Ev.step (fun k => laws_heldIntS.l0.eq_2 ..) ?_
    exact Ev.ite_neg (by simp [marksF_length]) (Ev.now _)
  · intro i hi ih
    refine Ev.step (fun k => laws_heldIntS.l0.eq_2 ..) ?_
    refine Ev.ite_pos (by simp [marksF_length]; omega) (Ev.ite_pos (by omega) (Ev.ite_pos (rd_marksF c n i hi) ?_))
    rw [wrap_nat i (by omega), wrap_nat (c + i) (by omega)]
    exact ih
def MK : Nat → List (List Int) → List (List Int)
  | _, [] => []
  | c, l :: L => marksF c l.length :: MK (c + l.length) L
def tot : List (List Int) → Nat
  | [] => 0
  | l :: L => l.length + tot L
theorem MK_length : ∀ (L : List (List Int)) (c : Nat), (MK c L).length = L.length := by
  intro L
  induction L with
  | nil => intro c; rfl
  | cons l L ih => intro c; rw [MK, List.length_cons, ih, List.length_cons]
theorem tot_le : ∀ (L : List (List Int)), (∀ l ∈ L, l.length ≤ 1000) → tot L ≤ 1000 * L.length := by
  intro L
  induction L with
  | nil => intro _; simp [tot]
  | cons l L ih =>
    intro h
    have h1 := ih (fun x hx => h x (List.mem_cons_of_mem _ hx))
    have h2 := h l List.mem_cons_self
    rw [tot, List.length_cons]
    omega
theorem markSS_go : ∀ (L D : List (List Int)) (c : Nat), c + tot L ≤ 10000000 → D.length + L.length ≤ 1000 → (∀ l ∈ L, l.length ≤ 1000) → Ev (fun k => laws_markIntSS.l0 k (D ++ L) c D.length) (((c + tot L : Nat) : Int), D ++ MK c L) := by
  intro L
  induction L with
  | nil =>
    intro D c hc hD _
    refine Ev.step (fun k => laws_markIntSS.l0.eq_2 ..) (Ev.ite_neg (by simp) (Ev.const ?_))
    simp [tot, MK]
  | cons l L ih =>
    intro D c hc hD hl
    rw [tot] at hc
    rw [List.length_cons] at hD
    have h2 := hl l List.mem_cons_self
    refine Ev.step (fun k => laws_markIntSS.l0.eq_2 ..) (Ev.ite_pos (by simp; omega) (Ev.ite_pos (by omega) ?_))
    have hg : (D ++ l :: L).getD ((D.length : Nat) : Int).toNat [] = l := by
      rw [Int.toNat_natCast, List.getD_eq_getElem?_getD, List.getElem?_append_right (by omega), Nat.sub_self]
      rfl
    rw [hg]
    refine Ev.bind (markIntS_from l c (by omega) (by omega)) ?_
    have h := ih (D ++ [marksF c l.length]) (c + l.length) (by omega) (by rw [List.length_append]; simp; omega) (fun x hx => hl x (List.mem_cons_of_mem _ hx))
    have e1 : (D ++ l :: L).set ((D.length : Nat) : Int).toNat (marksF c l.length) = (D ++ [marksF c l.length]) ++ L := by
      rw [Int.toNat_natCast, List.set_append_right _ _ (by omega), Nat.sub_self, List.set_cons_zero, List.append_assoc]
      rfl
    dsimp only
    rw [e1, wrap_nat D.length (by omega)]
    have e2 : (D ++ [marksF c l.length]).length = D.length + 1 := by simp
    rw [e2] at h
    rw [show c + tot (l :: L) = c + l.length + tot L by rw [tot]; omega, show D ++ MK c (l :: L) = (D ++ [marksF c l.length]) ++ MK (c + l.length) L by rw [MK, List.append_assoc]; rfl]
    exact h
theorem heldSS_go : ∀ (L D : List (List Int)) (c : Nat), c + tot L ≤ 10000000 → D.length + L.length ≤ 1000 → (∀ l ∈ L, l.length ≤ 1000) → Ev (fun k => laws_heldIntSS.l0 k (D ++ MK c L) c D.length) ((c + tot L : Nat) : Int) := by
  intro L
  induction L with
  | nil =>
    intro D c hc hD _
    refine Ev.step (fun k => laws_heldIntSS.l0.eq_2 ..) (Ev.ite_neg (by simp [MK]) (Ev.const ?_))
    simp [tot]
  | cons l L ih =>
    intro D c hc hD hl
    rw [tot] at hc
    rw [List.length_cons] at hD
    have h2 := hl l List.mem_cons_self
    rw [MK]
    refine Ev.step (fun k => laws_heldIntSS.l0.eq_2 ..) (Ev.ite_pos (by simp; omega) (Ev.ite_pos (by omega) ?_))
    have hg : rd_L3 (D ++ marksF c l.length :: MK (c + l.length) L) ((D.length : Nat) : Int) = marksF c l.length := by
      unfold rd_L3
      rw [Int.toNat_natCast, List.getD_eq_getElem?_getD, List.getElem?_append_right (by omega), Nat.sub_self]
      rfl
    rw [hg]
    refine Ev.bind (heldIntS_from c l.length (by omega) (by omega)) (Ev.ite_neg (by omega) ?_)
    have h := ih (D ++ [marksF c l.length]) (c + l.length) (by omega) (by rw [List.length_append]; simp; omega) (fun x hx => hl x (List.mem_cons_of_mem _ hx))
    rw [wrap_nat D.length (by omega)]
    have e2 : (D ++ [marksF c l.length]).length = D.length + 1 := by simp
    rw [e2, List.append_assoc] at h
    rw [show c + tot (l :: L) = c + l.length + tot L by rw [tot]; omega]
    exact h
theorem markSS_ev (L : List (List Int)) (hL : smallSS L) : Ev (fun k => laws_markIntSS.f k L 1) (((1 + tot L : Nat) : Int), MK 1 L) := by
  have h := tot_le L hL.2
  have h1 := hL.1
  unfold laws_markIntSS.f
  exact markSS_go L [] 1 (by omega) (by simpa using h1) hL.2
theorem heldSS_ev (L : List (List Int)) (hL : smallSS L) : Ev (fun k => laws_heldIntSS.f k (MK 1 L) 1) ((1 + tot L : Nat) : Int) := by
  have h := tot_le L hL.2
  have h1 := hL.1
  unfold laws_heldIntSS.f
  exact heldSS_go L [] 1 (by omega) (by simpa using h1) hL.2
theorem Ev.got {α β : Type} [DecidableEq α] {x : Nat → Option α} {a : α} {g f : Nat → Option β} {r : β} (h : Ev x a) (k : Ev g r) : Ev (fun n => if x n = some a then g n else f n) r := by
  obtain ⟨K, h⟩ := h
  obtain ⟨M, k⟩ := k
  refine ⟨max K M, fun n hn => ?_⟩
  dsimp only
  rw [if_pos (h n (by omega))]
  exact k n (by omega)
theorem Ev.gotAnd {α β : Type} [DecidableEq α] {x : Nat → Option α} {a : α} {p : Prop} [Decidable p] {g f : Nat → Option β} {r : β} (h : Ev x a) (hp : p) (k : Ev g r) : Ev (fun n => if x n = some a ∧ p then g n else f n) r := by
  obtain ⟨K, h⟩ := h
  obtain ⟨M, k⟩ := k
  refine ⟨max K M, fun n hn => ?_⟩
  dsimp only
  rw [if_pos ⟨h n (by omega), hp⟩]
  exact k n (by omega)
theorem goodSS (L : List (List Int)) (hL : smallSS L) : Ev (fun k => if laws_eqIntSS.f k L L = some true then (laws_markIntSS.f k L 1).bind fun m => if laws_heldIntSS.f k m.2 1 = some m.1 ∧ 0 ≤ m.1 ∧ L.length = m.2.length then some true else none else none) true := by
  refine Ev.got (eqIntSS_self L hL) (Ev.bind (markSS_ev L hL) ?_)
  dsimp only
  exact Ev.gotAnd (heldSS_ev L hL) ⟨by omega, (MK_length L 1).symm⟩ (Ev.now _)
theorem loopR {β ρ : Type} (g : List β → Nat → Nat → Option ρ) (m : Nat) (item : Nat → List β) (tail R : List β) (r : ρ) (lo : Nat) (hlo : lo ≤ m) (hend : ∀ acc, acc ++ tail = R → Ev (g acc m) r)
    (hstep : ∀ c, lo ≤ c → c < m → ∀ acc X, acc ++ (item c ++ X) = R → (∀ acc', acc' ++ X = R → Ev (g acc' (c + 1)) r) → Ev (g acc c) r) : ∀ acc, acc ++ (((List.range m).drop lo).flatMap item ++ tail) = R → Ev (g acc lo) r := by
  have key : ∀ d c, lo ≤ c → c + d = m → ∀ acc, acc ++ (((List.range m).drop c).flatMap item ++ tail) = R → Ev (g acc c) r := by
    intro d
    induction d with
    | zero =>
      intro c _ hc acc h
      obtain rfl : c = m := by omega
      rw [List.drop_of_length_le (by simp)] at h
      exact hend acc (by simpa using h)
    | succ d ih =>
      intro c hl hc acc h
      rw [range_drop' m c (by omega), List.flatMap_cons, List.append_assoc] at h
      exact hstep c hl (by omega) acc _ h (fun acc' h' => ih (c + 1) (by omega) (by omega) acc' h')
  exact key (m - lo) lo (Nat.le_refl _) (by omega)
theorem flat_range {α β : Type} (d : α) (f : α → List β) (l : List α) : l.flatMap f = (List.range l.length).flatMap fun i => f (l.getD i d) := by
  have h : l = (List.range l.length).map fun i => l.getD i d := by
    apply List.ext_getElem
    · simp
    · intro i h1 h2
      simp [h1]
  conv => lhs; rw [h]
  rw [List.flatMap_map]
end Go.Proofs.Ytajogmlblknfdaa.Pure
namespace Go.Proofs.Ytajogmlblknfdaa.P
open Go.RowKit Go.Proofs.YtajogmlblknfdaaW.PrintWords Go.Proofs.YtajogmlblknfdaaW.PrintLast Go.Proofs.YtajogmlblknfdaaW.PrintMore
attribute [local go_sem] ptrOf_slice
attribute [local go_sem] max2_int min2_int max_two min_two max_three min_three max_four min_four
set_option linter.unusedVariables false
set_option linter.unusedSimpArgs false
def impl_mutations_impl_IsMatroid.l0 : Nat → List (List Int) → List (S60) → Int → Int → Int → ByteArray → Option ((List (List Int)))
 | 0, _, _, _, _, _, _ => none
 | k + 1, x5, x12, x13, x14, x469000, x469001 => if x14 < x13 then (if 0 ≤ x14 then (if x14 < (x12.length : Int) then ((impl_ExchangeSign.f k x469000 x469001 ((rd_T60 x12 x14).f0) ((rd_T60 x12 x14).f1) ((rd_T60 x12 x14).f2)).bind fun bt474 => ((impl_IsMatroid.f k bt474.1 bt474.2.1).bind fun t478 => (if t478 = true then (if x5.length < 5864062014805 then (impl_mutations_impl_IsMatroid.l0 k (x5 ++ [(([(rd_T60 x12 x14).f0, (rd_T60 x12 x14).f1, (rd_T60 x12 x14).f2] : List Int))]) x12 x13 (wrap64 (x14 + 1)) x469000 x469001) else (none)) else (impl_mutations_impl_IsMatroid.l0 k x5 x12 x13 (wrap64 (x14 + 1)) x469000 x469001)))) else (none)) else (none)) else (some x5)
def impl_mutations_impl_IsMatroid.f (k : Nat) (a0_0 : Int) (a0_1 : ByteArray) (a1 : Unit) : Option ((List (List Int))) := (impl_triplesOf.f k a0_0).bind fun t469 => (impl_mutations_impl_IsMatroid.l0 k ([] : List (List Int)) t469 (t469.length : Int) 0 a0_0 a0_1)
theorem impl_mutations_impl_IsMatroid.mono_l : ∀ k, (∀ y0 y1 y2 y3 y4 y5, LeO (impl_mutations_impl_IsMatroid.l0 k y0 y1 y2 y3 y4 y5) (impl_mutations_impl_IsMatroid.l0 (k + 1) y0 y1 y2 y3 y4 y5))
 | 0 => fun _ _ _ _ _ _ r h => by simp [impl_mutations_impl_IsMatroid.l0] at h
 | k + 1 => by
  have ih0 := impl_mutations_impl_IsMatroid.mono_l k
  ·intro y0 y1 y2 y3 y4 y5
   unfold impl_mutations_impl_IsMatroid.l0
   repeat' first
   | (with_reducible exact ih0 _ _ _ _ _ _)
   | (with_reducible exact impl_ExchangeSign.mono _ _ _ _ _ _)
   | (with_reducible exact impl_IsMatroid.mono _ _ _)
   | (with_reducible exact impl_triplesOf.mono _ _)
   | (with_reducible exact LeO.refl _)
   | (with_reducible exact LeO.none _)
   | (with_reducible refine LeO.ite ?_ ?_)
   | (with_reducible refine LeO.bind ?_ (fun _ => ?_))
   | exact ih0 _ _ _ _ _ _
   | exact impl_ExchangeSign.mono _ _ _ _ _ _
   | exact impl_IsMatroid.mono _ _ _
   | exact impl_triplesOf.mono _ _
   | exact LeO.none _
   | refine LeO.ite ?_ ?_
   | refine LeO.bind ?_ (fun _ => ?_)
theorem impl_mutations_impl_IsMatroid.mono : ∀ a0 a1 a2 k, LeO (impl_mutations_impl_IsMatroid.f k a0 a1 a2) (impl_mutations_impl_IsMatroid.f (k + 1) a0 a1 a2) := by
 intro a0 a1 a2 k
 have ih0 := impl_mutations_impl_IsMatroid.mono_l k
 unfold impl_mutations_impl_IsMatroid.f
 repeat' first
   | (with_reducible exact ih0 _ _ _ _ _ _)
   | (with_reducible exact impl_ExchangeSign.mono _ _ _ _ _ _)
   | (with_reducible exact impl_IsMatroid.mono _ _ _)
   | (with_reducible exact impl_triplesOf.mono _ _)
   | (with_reducible exact LeO.refl _)
   | (with_reducible exact LeO.none _)
   | (with_reducible refine LeO.ite ?_ ?_)
   | (with_reducible refine LeO.bind ?_ (fun _ => ?_))
   | exact ih0 _ _ _ _ _ _
   | exact impl_ExchangeSign.mono _ _ _ _ _ _
   | exact impl_IsMatroid.mono _ _ _
   | exact impl_triplesOf.mono _ _
   | exact LeO.none _
   | refine LeO.ite ?_ ?_
   | refine LeO.bind ?_ (fun _ => ?_)
set_option maxHeartbeats 8000000 in
set_option maxRecDepth 100000 in
theorem impl_mutations_impl_IsMatroid.calls (k : Nat) (a0_0 : Int) (a0_1 : ByteArray) (a1 : Unit) (r : List (List Int)) (w : World) (h : impl_mutations_impl_IsMatroid.f k a0_0 a0_1 a1 = some r) :
  Calls Try.prog 50 #[.agg #[.int .i64 a0_0, .string a0_1], .func (.func 49) #[] #[]] w fun e w' => ∃ v0_ : Value, e = .returned (v0_) ∧ Kd.S (Kd.slice 3 (Kd.int .i64)) 50 w' w.heap.size (fun _ => True) v0_ r ∧ Below w.heap.size w w' := by
 have hu41 := Try.underlying41
 have hu60 := Try.underlying60
 have HB := Aside0.mk (Below.refl w.heap.size w)
 have H : ((impl_triplesOf.f k a0_0).bind fun t469 => (impl_mutations_impl_IsMatroid.l0 k ([] : List (List Int)) t469 (t469.length : Int) 0 a0_0 a0_1)) = some r := h
 clear h
 replace H := Option.bind_eq_some_iff.mp H
 obtain ⟨t469, A30, H⟩ := H
 replace H : (impl_mutations_impl_IsMatroid.l0 k ([] : List (List Int)) t469 (t469.length : Int) 0 a0_0 a0_1) = some r := H
 have A3 := Aside0.mk A30
 clear A30
 have H' := Aside0.mk H
 clear H
 go_enter Try.func50, Try.ntmps50
 go_wp2_with (first | ((with_reducible refine gate_dst (N := 2) rfl ?_); refine box_event ?hg (N := 2) ?hd (cs := #[.int .i64 a0_0, .string a0_1]) (t := 41) ?hr ?_; (case hd => rfl); (case hg => rfl); (case hr => first | (go_simp; done) | (go_simp; rfl)); intro gb468 hg w4 hbox hb; have n0_ := Aside0.mk (below_step (by repeat (first | (with_reducible first | exact HB.out | apply below_alloc | apply pw_below_drewN | apply below_drew1) | exact HB.out)) hb); have n1_ := Aside0.mk (hbox); have n2_ := Aside0.mk ((by rw [hg]; exact (below_size (by repeat (first | (with_reducible first | exact HB.out | apply below_alloc | apply pw_below_drewN | apply below_drew1) | exact HB.out))) : w.heap.size ≤ gb468)); have n3_ := Aside0.mk ((by rw [hg]; exact (below_size (by repeat (first | (with_reducible first | exact HB.out | apply below_alloc | apply pw_below_drewN | apply below_drew1) | exact HB.out))) : w.heap.size ≤ gb468)); clear HB; have HB := n0_; have BK468 := n1_; have GW468 := n2_; have GE468 := n3_; clear n0_ n1_ n2_ n3_; clear hb hbox hg; have hcz5_0 : w4.cell? ⟨gb468, 0, none⟩ = some (.int .i64 a0_0) := (blk_cell BK468.out 0).trans rfl; have hcz5_1 : w4.cell? ⟨gb468, 1, none⟩ = some (.string a0_1) := (blk_cell BK468.out 1).trans rfl; have hfz5_0 := blk_frozen BK468.out 0; have hfz5_1 := blk_frozen BK468.out 1) | ((with_reducible refine gate_callee (f := 44) rfl ?_); refine goesL_ (some 12) rfl rfl Try.func44 (by kernel_rfl) rfl #[.int .i64 a0_0] rfl (by (try simp only [List.map_toArray, List.map_cons, List.map_nil]); first | done | rfl | (simp only [List.length_drop, List.length_take]; rfl)) ?_; (with_reducible refine (impl_triplesOf.calls k a0_0 t469 _ A3.out).mono ?_); rintro e w6 ⟨v470, rfl, ho0, hb⟩; refine ⟨_, rfl, ?_⟩; have n0_ := Aside0.mk (Kd.R_lower ho0 (below_size (by repeat (first | (with_reducible first | exact HB.out | apply below_alloc | apply pw_below_drewN | apply below_drew1 | refine below_set ?_ GE468.out) | exact HB.out)))); have n1_ := Aside0.mk (blk_below (g := gb468) (o := .cells #[.int .i64 a0_0, .string a0_1] 41 (0, 0)) (by (with_reducible repeat (first | refine blk_drewN ?_ _ | refine blk_drew ?_ | refine blk_alloc ?_ _)); exact BK468.out) hb); have n2_ := Aside0.mk (below_step (by repeat (first | (with_reducible first | exact HB.out | apply below_alloc | apply pw_below_drewN | apply below_drew1 | refine below_set ?_ GE468.out) | exact HB.out)) hb); clear BK468; clear HB; have HO471 := n0_; have BK468 := n1_; have HB := n2_; clear n0_ n1_ n2_; (try clear hb); (try clear hb2); (try clear hk); (try clear hi); (try clear ho0); obtain ⟨Ao7, co7, eo7⟩ := Kd.R_slice HO471.out; subst eo7))
 go_loopg [5, 14] k (fun kq v5 v14 w' => ∃ (x5_1 : List (List Int)) (x14_1 : Int), v14 = .int .i64 x14_1 ∧ Aside0 (impl_mutations_impl_IsMatroid.l0 kq x5_1 t469 (t469.length : Int) x14_1 a0_0 a0_1 = some r) ∧ Aside0 (kq ≤ k) ∧ Aside0 (Kd.S (Kd.slice 3 (Kd.int .i64)) 50 w' w.heap.size (fun _ => True) v5 x5_1) ∧ Aside0 (Kd.R k60 60 w' w.heap.size (fun _ => True) (.slice Ao7 t469.length co7) t469) ∧ Aside0 (w'.heap[gb468]? = some (.cells #[.int .i64 a0_0, .string a0_1] 41 (0, 0))) ∧ Aside0 (Below w.heap.size w w'))
 case atStart => exact ⟨(([] : List (List Int))), (0), (by first | rfl | (simp; done) | (simp [*]; done)), H', ⟨Nat.le_refl _⟩, ⟨by first | exact Kd.S_nil _ _ _ _ _ | exact Kd.N_nil _ _ _ _ _ | exact Kd.V_nil _ _ _ _ _ | exact Kd.Q_nil _ _ _ _ _ | exact Kd.R_nil _ _ _ _ _⟩, ⟨by (with_reducible repeat (first | apply Kd.R_alloc | apply Kd.R_drewN | apply Kd.R_drew)); exact HO471.out⟩, ⟨by (with_reducible repeat (first | refine blk_drewN ?_ _ | refine blk_drew ?_ | refine blk_alloc ?_ _)); exact BK468.out⟩, ⟨by repeat (first | (with_reducible first | exact HB.out | apply below_alloc | apply pw_below_drewN | apply below_drew1 | refine below_set ?_ GE468.out) | exact HB.out)⟩⟩
 case round =>
  clear H'
  try clear p2
  try clear c4
  try clear c7
  try clear hcz5_0
  try clear hcz5_1
  try clear hfz5_0
  try clear hfz5_1
  obtain ⟨x5_1, x14_1, rfl, HA, HK1, HO_5, HO_12, BK468, HB⟩ := hrel
  cases gk with
  | zero => exact absurd HA.out (by simp [impl_mutations_impl_IsMatroid.l0])
  | succ k1 =>
   have H := HA.out
   clear HA
   simp only [impl_mutations_impl_IsMatroid.l0] at H
   by_cases c8 : x14_1 < (t469.length : Int)
   ·rw [if_pos c8] at H
    have c8b0 : decide (x14_1 < (t469.length : Int)) = true := decide_eq_true c8
    clear c8
    by_cases c9 : 0 ≤ x14_1
    ·rw [if_pos c9] at H
     have c9b0 : decide (0 ≤ x14_1) = true := decide_eq_true c9
     clear c9
     by_cases c10 : x14_1 < (t469.length : Int)
     ·rw [if_pos c10] at H
      have c10b0 : decide (x14_1 < (t469.length : Int)) = true := decide_eq_true c10
      clear c10
      replace H := Option.bind_eq_some_iff.mp H
      obtain ⟨⟨t474, t475, t476⟩, A110, H⟩ := H
      replace H : ((impl_IsMatroid.f k1 t474 t475).bind fun t478 => (if t478 = true then (if x5_1.length < 5864062014805 then (impl_mutations_impl_IsMatroid.l0 k1 (x5_1 ++ [(([(rd_T60 t469 x14_1).f0, (rd_T60 t469 x14_1).f1, (rd_T60 t469 x14_1).f2] : List Int))]) t469 (t469.length : Int) (wrap64 (x14_1 + 1)) a0_0 a0_1) else (none)) else (impl_mutations_impl_IsMatroid.l0 k1 x5_1 t469 (t469.length : Int) (wrap64 (x14_1 + 1)) a0_0 a0_1))) = some r := H
      have A11 := Aside0.mk A110
      clear A110
      replace H := Option.bind_eq_some_iff.mp H
      obtain ⟨t478, A120, H⟩ := H
      replace H : (if t478 = true then (if x5_1.length < 5864062014805 then (impl_mutations_impl_IsMatroid.l0 k1 (x5_1 ++ [(([(rd_T60 t469 x14_1).f0, (rd_T60 t469 x14_1).f1, (rd_T60 t469 x14_1).f2] : List Int))]) t469 (t469.length : Int) (wrap64 (x14_1 + 1)) a0_0 a0_1) else (none)) else (impl_mutations_impl_IsMatroid.l0 k1 x5_1 t469 (t469.length : Int) (wrap64 (x14_1 + 1)) a0_0 a0_1)) = some r := H
      have A12 := Aside0.mk A120
      clear A120
      by_cases c13 : t478 = true
      ·subst c13
       have H1 : (if x5_1.length < 5864062014805 then (impl_mutations_impl_IsMatroid.l0 k1 (x5_1 ++ [(([(rd_T60 t469 x14_1).f0, (rd_T60 t469 x14_1).f1, (rd_T60 t469 x14_1).f2] : List Int))]) t469 (t469.length : Int) (wrap64 (x14_1 + 1)) a0_0 a0_1) else (none)) = some r := by rw [if_pos rfl] at H; exact H
       clear H
       have H := H1
       clear H1
       obtain ⟨y479, hy479⟩ : ∃ y_ : List Int, y_ = (([(rd_T60 t469 x14_1).f0, (rd_T60 t469 x14_1).f1, (rd_T60 t469 x14_1).f2] : List Int)) := ⟨_, rfl⟩
       replace H : (if x5_1.length < 5864062014805 then (impl_mutations_impl_IsMatroid.l0 k1 (x5_1 ++ [y479]) t469 (t469.length : Int) (wrap64 (x14_1 + 1)) a0_0 a0_1) else (none)) = some r := by first | (rw [hy479]; with_reducible exact H) | (have H2_ := (Option.bind_some _ _).symm.trans H; rw [hy479]; with_reducible exact H2_) | (have H2_ := (Option.bind_some _ _).symm.trans H; with_reducible exact H2_) | with_reducible exact H | (rw [hy479]; exact H) | exact H
       have Ny479 := Aside0.mk hy479
       clear hy479
       by_cases c14 : x5_1.length < 5864062014805
       ·rw [if_pos c14] at H
        have LMc14 := Aside0.mk c14
        clear c14
        obtain ⟨y482, hy482⟩ : ∃ y_ : List (List Int), y_ = (x5_1 ++ [y479]) := ⟨_, rfl⟩
        replace H : (impl_mutations_impl_IsMatroid.l0 k1 y482 t469 (t469.length : Int) (wrap64 (x14_1 + 1)) a0_0 a0_1) = some r := by first | (rw [hy482]; with_reducible exact H) | (have H2_ := (Option.bind_some _ _).symm.trans H; rw [hy482]; with_reducible exact H2_) | (have H2_ := (Option.bind_some _ _).symm.trans H; with_reducible exact H2_) | with_reducible exact H | (rw [hy482]; exact H) | exact H
        have Ny482 := Aside0.mk hy482
        clear hy482
        have H' := Aside0.mk H
        clear H
        have p472 : 0 ≤ (x14_1 : Int) := of_decide_eq_true (by first | (with_reducible assumption) | assumption)
        have q472 : x14_1 < (t469.length : Int) := of_decide_eq_true (by first | (with_reducible assumption) | assumption)
        obtain ⟨ad472, e472, hx472_0, hx472_1, hx472_2⟩ := at_T60 (Kd.R_reads' HO_12.out).2.2 x14_1 p472 q472
        cases e472
        replace p472 := eq_true p472
        replace q472 := eq_true q472
        go_wp2_with (first | ((with_reducible refine gate_dst (N := 7) rfl ?_); refine box_event ?hg (N := 7) ?hd (cs := #[.int .i64 0, .int .i64 0, .int .i64 0]) (t := 60) ?hr ?_; (case hd => rfl); (case hg => rfl); (case hr => first | (go_simp; done) | (go_simp; rfl)); intro gb473 hg w15 hbox hb; have n0_ := Aside0.mk (Kd.S_below (by (with_reducible repeat (first | apply Kd.S_alloc | apply Kd.S_drewN | apply Kd.S_drew)); exact HO_5.out) hb); have n1_ := Aside0.mk (Kd.R_below (Kd.R_elderB (by (with_reducible repeat (first | apply Kd.R_alloc | apply Kd.R_drewN | apply Kd.R_drew)); exact HO_12.out) gb473 (Nat.le_of_eq hg.symm)) hb); have n2_ := Aside0.mk (blk_below (g := gb468) (o := .cells #[.int .i64 a0_0, .string a0_1] 41 (0, 0)) (by (with_reducible repeat (first | refine blk_drewN ?_ _ | refine blk_drew ?_ | refine blk_alloc ?_ _)); exact BK468.out) hb); have n3_ := Aside0.mk (below_step (by repeat (first | (with_reducible first | exact HB.out | apply below_alloc | apply pw_below_drewN | apply below_drew1 | refine below_set ?_ GE468.out) | exact HB.out)) hb); have n4_ := Aside0.mk (hbox); have n5_ := Aside0.mk ((by rw [hg]; exact (below_size (by repeat (first | (with_reducible first | exact HB.out | apply below_alloc | apply pw_below_drewN | apply below_drew1 | refine below_set ?_ GE468.out) | exact HB.out))) : w.heap.size ≤ gb473)); have n6_ := Aside0.mk ((by rw [hg]; exact (below_size (by repeat (first | (with_reducible first | exact HB.out | apply below_alloc | apply pw_below_drewN | apply below_drew1 | refine below_set ?_ GE468.out) | exact HB.out))) : w.heap.size ≤ gb473)); have n7_ := Aside0.mk ((by rw [hg]; exact Nat.ne_of_lt (blk_lt (g := gb468) (o := .cells #[.int .i64 a0_0, .string a0_1] 41 (0, 0)) (by (with_reducible repeat (first | refine blk_drewN ?_ _ | refine blk_drew ?_ | refine blk_alloc ?_ _)); exact BK468.out)) : gb468 ≠ gb473)); have n8_ := Aside0.mk ((by rw [hg]; exact Nat.ne_of_gt (blk_lt (g := gb468) (o := .cells #[.int .i64 a0_0, .string a0_1] 41 (0, 0)) (by (with_reducible repeat (first | refine blk_drewN ?_ _ | refine blk_drew ?_ | refine blk_alloc ?_ _)); exact BK468.out)) : gb473 ≠ gb468)); clear HO_5; clear HO_12; clear BK468; clear HB; have HO_5 := n0_; have HO_12 := n1_; have BK468 := n2_; have HB := n3_; have BK473 := n4_; have GW473 := n5_; have GE473 := n6_; have NB468_473 := n7_; have NB473_468 := n8_; clear n0_ n1_ n2_ n3_ n4_ n5_ n6_ n7_ n8_; clear hb hbox hg; have hnb16 := NB473_468.out; have hnc16 := NB468_473.out; have hcz17_0 : w15.cell? ⟨gb473, 0, none⟩ = some (.int .i64 0) := (blk_cell BK473.out 0).trans rfl; have hcz17_1 : w15.cell? ⟨gb473, 1, none⟩ = some (.int .i64 0) := (blk_cell BK473.out 1).trans rfl; have hcz17_2 : w15.cell? ⟨gb473, 2, none⟩ = some (.int .i64 0) := (blk_cell BK473.out 2).trans rfl; have hfz17_0 := blk_frozen BK473.out 0; have hfz17_1 := blk_frozen BK473.out 1; have hfz17_2 := blk_frozen BK473.out 2; have hcz18_0 : w15.cell? ⟨gb468, 0, none⟩ = some (.int .i64 a0_0) := (blk_cell BK468.out 0).trans rfl; have hcz18_1 : w15.cell? ⟨gb468, 1, none⟩ = some (.string a0_1) := (blk_cell BK468.out 1).trans rfl; have hfz18_0 := blk_frozen BK468.out 0; have hfz18_1 := blk_frozen BK468.out 1) | ((with_reducible refine gate_callee (f := 83) rfl ?_); refine goesL_ (some 26) rfl rfl Try.func83 (by kernel_rfl) rfl #[.agg #[.int .i64 a0_0, .string a0_1], .int .i64 ((rd_T60 t469 x14_1).f0), .int .i64 ((rd_T60 t469 x14_1).f1), .int .i64 ((rd_T60 t469 x14_1).f2)] rfl (by (try simp only [List.map_toArray, List.map_cons, List.map_nil]); first | done | rfl | (simp only [List.length_drop, List.length_take]; rfl)) ?_; (with_reducible refine (impl_ExchangeSign.calls k1 a0_0 a0_1 ((rd_T60 t469 x14_1).f0) ((rd_T60 t469 x14_1).f1) ((rd_T60 t469 x14_1).f2) t474 t475 t476 _ A11.out).mono ?_); rintro e w19 ⟨rfl, hb⟩; refine ⟨_, rfl, ?_⟩; have n0_ := Aside0.mk (Kd.S_below (by (with_reducible repeat (first | apply Kd.S_alloc | apply Kd.S_drewN | apply Kd.S_drew)); exact (Kd.S_mono (Kd.S_far (p := ⟨gb473, 2, none⟩) (Kd.S_far (p := ⟨gb473, 1, none⟩) (Kd.S_far (p := ⟨gb473, 0, none⟩) (Kd.S_types HO_5.out BK473.out (by decide)) (fun _ hk => hk.2) (.int .i64 ((rd_T60 t469 x14_1).f0))) (fun _ hk => hk.2) (.int .i64 ((rd_T60 t469 x14_1).f1))) (fun _ hk => hk.2) (.int .i64 ((rd_T60 t469 x14_1).f2))) (fun _ h_ => h_.1))) hb); have n1_ := Aside0.mk (Kd.R_below (by (with_reducible repeat (first | apply Kd.R_alloc | apply Kd.R_drewN | apply Kd.R_drew)); exact (Kd.R_mono (Kd.R_far (p := ⟨gb473, 2, none⟩) (Kd.R_far (p := ⟨gb473, 1, none⟩) (Kd.R_far (p := ⟨gb473, 0, none⟩) (Kd.R_mono HO_12.out (fun k_ hk => (⟨hk, hk.2⟩ : _ ∧ k_ ≠ gb473))) (fun _ hk => hk.2) (.int .i64 ((rd_T60 t469 x14_1).f0))) (fun _ hk => hk.2) (.int .i64 ((rd_T60 t469 x14_1).f1))) (fun _ hk => hk.2) (.int .i64 ((rd_T60 t469 x14_1).f2))) (fun _ h_ => h_.1))) hb); have n2_ := Aside0.mk (blk_below (g := gb468) (o := .cells #[.int .i64 a0_0, .string a0_1] 41 (0, 0)) (by (with_reducible repeat (first | refine blk_drewN ?_ _ | refine blk_drew ?_ | refine blk_alloc ?_ _)); refine blk_far ?_ NB468_473.out _; (with_reducible repeat (first | refine blk_drewN ?_ _ | refine blk_drew ?_ | refine blk_alloc ?_ _)); refine blk_far ?_ NB468_473.out _; (with_reducible repeat (first | refine blk_drewN ?_ _ | refine blk_drew ?_ | refine blk_alloc ?_ _)); refine blk_far ?_ NB468_473.out _; (with_reducible repeat (first | refine blk_drewN ?_ _ | refine blk_drew ?_ | refine blk_alloc ?_ _)); exact BK468.out) hb); have n3_ := Aside0.mk (blk_below (g := gb473) (o := .cells #[.int .i64 ((rd_T60 t469 x14_1).f0), .int .i64 ((rd_T60 t469 x14_1).f1), .int .i64 ((rd_T60 t469 x14_1).f2)] 60 (0, 0)) (by (with_reducible repeat (first | refine blk_drewN ?_ _ | refine blk_drew ?_ | refine blk_alloc ?_ _)); refine blk_put (cs := #[.int .i64 ((rd_T60 t469 x14_1).f0), .int .i64 ((rd_T60 t469 x14_1).f1), .int .i64 0]) ?_ 2 _ rfl; (with_reducible repeat (first | refine blk_drewN ?_ _ | refine blk_drew ?_ | refine blk_alloc ?_ _)); refine blk_put (cs := #[.int .i64 ((rd_T60 t469 x14_1).f0), .int .i64 0, .int .i64 0]) ?_ 1 _ rfl; (with_reducible repeat (first | refine blk_drewN ?_ _ | refine blk_drew ?_ | refine blk_alloc ?_ _)); refine blk_put (cs := #[.int .i64 0, .int .i64 0, .int .i64 0]) ?_ 0 _ rfl; (with_reducible repeat (first | refine blk_drewN ?_ _ | refine blk_drew ?_ | refine blk_alloc ?_ _)); exact BK473.out) hb); have n4_ := Aside0.mk (below_step (by repeat (first | (with_reducible first | exact HB.out | apply below_alloc | apply pw_below_drewN | apply below_drew1 | refine below_set ?_ GE468.out | refine below_set ?_ GE473.out) | exact HB.out)) hb); clear HO_5; clear HO_12; clear BK468; clear BK473; clear HB; have HO_5 := n0_; have HO_12 := n1_; have BK468 := n2_; have BK473 := n3_; have HB := n4_; clear n0_ n1_ n2_ n3_ n4_; (try clear hb); (try clear hb2); (try clear hk); (try clear hi)) | ((with_reducible refine gate_dst (N := 8) rfl ?_); refine box_event ?hg (N := 8) ?hd (cs := #[.int .i64 0, .string (⟨#[]⟩ : ByteArray)]) (t := 41) ?hr ?_; (case hd => rfl); (case hg => rfl); (case hr => first | (go_simp; done) | (go_simp; rfl)); intro gb477 hg w20 hbox hb; have n0_ := Aside0.mk (Kd.S_below (by (with_reducible repeat (first | apply Kd.S_alloc | apply Kd.S_drewN | apply Kd.S_drew)); exact HO_5.out) hb); have n1_ := Aside0.mk (Kd.R_below (by (with_reducible repeat (first | apply Kd.R_alloc | apply Kd.R_drewN | apply Kd.R_drew)); exact HO_12.out) hb); have n2_ := Aside0.mk (blk_below (g := gb468) (o := .cells #[.int .i64 a0_0, .string a0_1] 41 (0, 0)) (by (with_reducible repeat (first | refine blk_drewN ?_ _ | refine blk_drew ?_ | refine blk_alloc ?_ _)); exact BK468.out) hb); have n3_ := Aside0.mk (blk_below (g := gb473) (o := .cells #[.int .i64 ((rd_T60 t469 x14_1).f0), .int .i64 ((rd_T60 t469 x14_1).f1), .int .i64 ((rd_T60 t469 x14_1).f2)] 60 (0, 0)) (by (with_reducible repeat (first | refine blk_drewN ?_ _ | refine blk_drew ?_ | refine blk_alloc ?_ _)); exact BK473.out) hb); have n4_ := Aside0.mk (below_step (by repeat (first | (with_reducible first | exact HB.out | apply below_alloc | apply pw_below_drewN | apply below_drew1 | refine below_set ?_ GE468.out | refine below_set ?_ GE473.out) | exact HB.out)) hb); have n5_ := Aside0.mk (hbox); have n6_ := Aside0.mk ((by rw [hg]; exact (below_size (by repeat (first | (with_reducible first | exact HB.out | apply below_alloc | apply pw_below_drewN | apply below_drew1 | refine below_set ?_ GE468.out | refine below_set ?_ GE473.out) | exact HB.out))) : w.heap.size ≤ gb477)); have n7_ := Aside0.mk ((by rw [hg]; exact (below_size (by repeat (first | (with_reducible first | exact HB.out | apply below_alloc | apply pw_below_drewN | apply below_drew1 | refine below_set ?_ GE468.out | refine below_set ?_ GE473.out) | exact HB.out))) : w.heap.size ≤ gb477)); have n8_ := Aside0.mk ((by rw [hg]; exact Nat.ne_of_lt (blk_lt (g := gb468) (o := .cells #[.int .i64 a0_0, .string a0_1] 41 (0, 0)) (by (with_reducible repeat (first | refine blk_drewN ?_ _ | refine blk_drew ?_ | refine blk_alloc ?_ _)); exact BK468.out)) : gb468 ≠ gb477)); have n9_ := Aside0.mk ((by rw [hg]; exact Nat.ne_of_gt (blk_lt (g := gb468) (o := .cells #[.int .i64 a0_0, .string a0_1] 41 (0, 0)) (by (with_reducible repeat (first | refine blk_drewN ?_ _ | refine blk_drew ?_ | refine blk_alloc ?_ _)); exact BK468.out)) : gb477 ≠ gb468)); have n10_ := Aside0.mk ((by rw [hg]; exact Nat.ne_of_lt (blk_lt (g := gb473) (o := .cells #[.int .i64 ((rd_T60 t469 x14_1).f0), .int .i64 ((rd_T60 t469 x14_1).f1), .int .i64 ((rd_T60 t469 x14_1).f2)] 60 (0, 0)) (by (with_reducible repeat (first | refine blk_drewN ?_ _ | refine blk_drew ?_ | refine blk_alloc ?_ _)); exact BK473.out)) : gb473 ≠ gb477)); have n11_ := Aside0.mk ((by rw [hg]; exact Nat.ne_of_gt (blk_lt (g := gb473) (o := .cells #[.int .i64 ((rd_T60 t469 x14_1).f0), .int .i64 ((rd_T60 t469 x14_1).f1), .int .i64 ((rd_T60 t469 x14_1).f2)] 60 (0, 0)) (by (with_reducible repeat (first | refine blk_drewN ?_ _ | refine blk_drew ?_ | refine blk_alloc ?_ _)); exact BK473.out)) : gb477 ≠ gb473)); clear HO_5; clear HO_12; clear BK468; clear BK473; clear HB; have HO_5 := n0_; have HO_12 := n1_; have BK468 := n2_; have BK473 := n3_; have HB := n4_; have BK477 := n5_; have GW477 := n6_; have GE477 := n7_; have NB468_477 := n8_; have NB477_468 := n9_; have NB473_477 := n10_; have NB477_473 := n11_; clear n0_ n1_ n2_ n3_ n4_ n5_ n6_ n7_ n8_ n9_ n10_ n11_; clear hb hbox hg; have hnb21 := NB477_468.out; have hnc21 := NB468_477.out; have hnb22 := NB477_473.out; have hnc22 := NB473_477.out; have hcz23_0 : w20.cell? ⟨gb477, 0, none⟩ = some (.int .i64 0) := (blk_cell BK477.out 0).trans rfl; have hcz23_1 : w20.cell? ⟨gb477, 1, none⟩ = some (.string (⟨#[]⟩ : ByteArray)) := (blk_cell BK477.out 1).trans rfl; have hfz23_0 := blk_frozen BK477.out 0; have hfz23_1 := blk_frozen BK477.out 1) | (go_at_call 49; (with_reducible refine (impl_IsMatroid.calls k1 t474 t475 true _ A12.out).mono ?_); rintro e w24 ⟨rfl, hb⟩; have n0_ := Aside0.mk (Kd.S_below (by (with_reducible repeat (first | apply Kd.S_alloc | apply Kd.S_drewN | apply Kd.S_drew)); exact (Kd.S_mono (Kd.S_far (p := ⟨gb477, 1, none⟩) (Kd.S_far (p := ⟨gb477, 0, none⟩) (Kd.S_types HO_5.out BK477.out (by decide)) (fun _ hk => hk.2) (.int .i64 t474)) (fun _ hk => hk.2) (.string t475)) (fun _ h_ => h_.1))) hb); have n1_ := Aside0.mk (Kd.R_below (by (with_reducible repeat (first | apply Kd.R_alloc | apply Kd.R_drewN | apply Kd.R_drew)); exact (Kd.R_mono (Kd.R_far (p := ⟨gb477, 1, none⟩) (Kd.R_far (p := ⟨gb477, 0, none⟩) (Kd.R_types HO_12.out BK477.out (by decide)) (fun _ hk => hk.2) (.int .i64 t474)) (fun _ hk => hk.2) (.string t475)) (fun _ h_ => h_.1))) hb); have n2_ := Aside0.mk (blk_below (g := gb468) (o := .cells #[.int .i64 a0_0, .string a0_1] 41 (0, 0)) (by (with_reducible repeat (first | refine blk_drewN ?_ _ | refine blk_drew ?_ | refine blk_alloc ?_ _)); refine blk_far ?_ NB468_477.out _; (with_reducible repeat (first | refine blk_drewN ?_ _ | refine blk_drew ?_ | refine blk_alloc ?_ _)); refine blk_far ?_ NB468_477.out _; (with_reducible repeat (first | refine blk_drewN ?_ _ | refine blk_drew ?_ | refine blk_alloc ?_ _)); exact BK468.out) hb); have n3_ := Aside0.mk (blk_below (g := gb473) (o := .cells #[.int .i64 ((rd_T60 t469 x14_1).f0), .int .i64 ((rd_T60 t469 x14_1).f1), .int .i64 ((rd_T60 t469 x14_1).f2)] 60 (0, 0)) (by (with_reducible repeat (first | refine blk_drewN ?_ _ | refine blk_drew ?_ | refine blk_alloc ?_ _)); refine blk_far ?_ NB473_477.out _; (with_reducible repeat (first | refine blk_drewN ?_ _ | refine blk_drew ?_ | refine blk_alloc ?_ _)); refine blk_far ?_ NB473_477.out _; (with_reducible repeat (first | refine blk_drewN ?_ _ | refine blk_drew ?_ | refine blk_alloc ?_ _)); exact BK473.out) hb); have n4_ := Aside0.mk (blk_below (g := gb477) (o := .cells #[.int .i64 t474, .string t475] 41 (0, 0)) (by (with_reducible repeat (first | refine blk_drewN ?_ _ | refine blk_drew ?_ | refine blk_alloc ?_ _)); refine blk_put (cs := #[.int .i64 t474, .string (⟨#[]⟩ : ByteArray)]) ?_ 1 _ rfl; (with_reducible repeat (first | refine blk_drewN ?_ _ | refine blk_drew ?_ | refine blk_alloc ?_ _)); refine blk_put (cs := #[.int .i64 0, .string (⟨#[]⟩ : ByteArray)]) ?_ 0 _ rfl; (with_reducible repeat (first | refine blk_drewN ?_ _ | refine blk_drew ?_ | refine blk_alloc ?_ _)); exact BK477.out) hb); have n5_ := Aside0.mk (below_step (by repeat (first | (with_reducible first | exact HB.out | apply below_alloc | apply pw_below_drewN | apply below_drew1 | refine below_set ?_ GE468.out | refine below_set ?_ GE473.out | refine below_set ?_ GE477.out) | exact HB.out)) hb); clear HO_5; clear HO_12; clear BK468; clear BK473; clear BK477; clear HB; have HO_5 := n0_; have HO_12 := n1_; have BK468 := n2_; have BK473 := n3_; have BK477 := n4_; have HB := n5_; clear n0_ n1_ n2_ n3_ n4_ n5_; (try clear hb); (try clear hb2); (try clear hk); (try clear hi); have hcz25_0 : w24.cell? ⟨gb473, 0, none⟩ = some (.int .i64 ((rd_T60 t469 x14_1).f0)) := (blk_cell BK473.out 0).trans rfl; have hcz25_1 : w24.cell? ⟨gb473, 1, none⟩ = some (.int .i64 ((rd_T60 t469 x14_1).f1)) := (blk_cell BK473.out 1).trans rfl; have hcz25_2 : w24.cell? ⟨gb473, 2, none⟩ = some (.int .i64 ((rd_T60 t469 x14_1).f2)) := (blk_cell BK473.out 2).trans rfl; have hfz25_0 := blk_frozen BK473.out 0; have hfz25_1 := blk_frozen BK473.out 1; have hfz25_2 := blk_frozen BK473.out 2) | ((with_reducible refine gate_dst (N := 39) rfl ?_); refine Kd.R_lit (Kd.int .i64) _ 3 ?hg (N := 39) ?hd (xs := ([(rd_T60 t469 x14_1).f0, (rd_T60 t469 x14_1).f1, (rd_T60 t469 x14_1).f2] : List Int)) (inner := [.int .i64 ((rd_T60 t469 x14_1).f0), .int .i64 ((rd_T60 t469 x14_1).f1), .int .i64 ((rd_T60 t469 x14_1).f2)]) (ok := fun _ => True) (okp := fun _ => True) ?hr ?hp (fun _ hk => hk) trivial (Below.refl _ _) (Nat.le_refl _) (by simp) ?_; (case hd => rfl); (case hg => rfl); (case hr => first | (go_simp; done) | (go_simp; rfl)); (case hp => exact (Reps.one (show Kd.M (Kd.int .i64) _ _ _ ((rd_T60 t469 x14_1).f0) [.int .i64 ((rd_T60 t469 x14_1).f0)] from rfl) (Reps.one (show Kd.M (Kd.int .i64) _ _ _ ((rd_T60 t469 x14_1).f1) [.int .i64 ((rd_T60 t469 x14_1).f1)] from rfl) (Reps.one (show Kd.M (Kd.int .i64) _ _ _ ((rd_T60 t469 x14_1).f2) [.int .i64 ((rd_T60 t469 x14_1).f2)] from rfl) (Reps.none _ _))))); intro v480 w26 ho27 hb hg_ hnew_; clear hg_ hnew_; (first | rw [← Ny479.out] at ho27 | (simp only [Int.reduceToNat] at ho27; rw [← Ny479.out] at ho27)); have n0_ := Aside0.mk (Kd.S_elder' (by (with_reducible repeat (first | apply Kd.S_alloc | apply Kd.S_drewN | apply Kd.S_drew)); exact HO_5.out) (Kd.R_base ho27) hb); have n1_ := Aside0.mk (Kd.R_below (by (with_reducible repeat (first | apply Kd.R_alloc | apply Kd.R_drewN | apply Kd.R_drew)); exact HO_12.out) hb); have n2_ := Aside0.mk (Kd.R_lower ho27 (below_size (by repeat (first | (with_reducible first | exact HB.out | apply below_alloc | apply pw_below_drewN | apply below_drew1 | refine below_set ?_ GE468.out | refine below_set ?_ GE473.out | refine below_set ?_ GE477.out) | exact HB.out)))); have n3_ := Aside0.mk (blk_below (g := gb468) (o := .cells #[.int .i64 a0_0, .string a0_1] 41 (0, 0)) (by (with_reducible repeat (first | refine blk_drewN ?_ _ | refine blk_drew ?_ | refine blk_alloc ?_ _)); exact BK468.out) hb); have n4_ := Aside0.mk (blk_below (g := gb473) (o := .cells #[.int .i64 ((rd_T60 t469 x14_1).f0), .int .i64 ((rd_T60 t469 x14_1).f1), .int .i64 ((rd_T60 t469 x14_1).f2)] 60 (0, 0)) (by (with_reducible repeat (first | refine blk_drewN ?_ _ | refine blk_drew ?_ | refine blk_alloc ?_ _)); exact BK473.out) hb); have n5_ := Aside0.mk (blk_below (g := gb477) (o := .cells #[.int .i64 t474, .string t475] 41 (0, 0)) (by (with_reducible repeat (first | refine blk_drewN ?_ _ | refine blk_drew ?_ | refine blk_alloc ?_ _)); exact BK477.out) hb); have n6_ := Aside0.mk (below_step (by repeat (first | (with_reducible first | exact HB.out | apply below_alloc | apply pw_below_drewN | apply below_drew1 | refine below_set ?_ GE468.out | refine below_set ?_ GE473.out | refine below_set ?_ GE477.out) | exact HB.out)) hb); clear HO_5; clear HO_12; clear BK468; clear BK473; clear BK477; clear HB; have HO_5 := n0_; have HO_12 := n1_; have HO481 := n2_; have BK468 := n3_; have BK473 := n4_; have BK477 := n5_; have HB := n6_; clear n0_ n1_ n2_ n3_ n4_ n5_ n6_; clear hb ho27; obtain ⟨Ao29, co29, eo29⟩ := Kd.R_slice HO481.out; subst eo29) | ((with_reducible refine gate_builtin (b := .append) (xs := #[.tmp 32, .tmp 40]) rfl ?_); at_builtin; refine Kd.S_append (Kd.slice 3 (Kd.int .i64)) (w0 := w) w.heap.size rfl (.tmp 32) (.tmp 40) 26 50 (.slice none 0 0) 24 rfl Try.underlying26 info50 rfl (by decide) (by omega) u5 x5_1 y479 [.slice Ao29 y479.length co29] (fun _ => True) (fun k_ => some k_ = (.slice Ao29 y479.length co29 : Value).ownBlock) rfl rfl ?aP (fun k_ hk_ => ((Kd.R_mono (ok' := fun k_ => ((fun _ => True)) k_ ∧ some k_ ≠ (u5 : Value).ownBlock) (Kd.R_apart' (HO481.out) (Kd.S_typed HO_5.out) (by decide)) (fun k_ hk => ⟨trivial, hk.2⟩))).1 k_ hk_.symm) ?aF ?aO ?aB ?aS ?aL ?_; (case aP => exact Kd.M_row (Kd.R_mono (Kd.R_tight rfl (Kd.R_mono (ok' := fun k_ => ((fun _ => True)) k_ ∧ some k_ ≠ (u5 : Value).ownBlock) (Kd.R_apart' (HO481.out) (Kd.S_typed HO_5.out) (by decide)) (fun k_ hk => ⟨trivial, hk.2⟩))) (fun _ h_ => h_))); (case aB => exact (by repeat (first | (with_reducible first | exact HB.out | apply below_alloc | apply pw_below_drewN | apply below_drew1 | refine below_set ?_ GE468.out | refine below_set ?_ GE473.out | refine below_set ?_ GE477.out) | exact HB.out))); (case aF => exact (fun _ _ => trivial)); (case aO => exact (by (with_reducible repeat (first | apply Kd.S_alloc | apply Kd.S_drewN | apply Kd.S_drew)); exact Kd.S_mono HO_5.out (fun k_ hk => ⟨trivial, fun e_ => hk.2 e_⟩))); (case aS => exact (below_size (by repeat (first | (with_reducible first | exact HB.out | apply below_alloc | apply pw_below_drewN | apply below_drew1 | refine below_set ?_ GE468.out | refine below_set ?_ GE473.out | refine below_set ?_ GE477.out) | exact HB.out)))); (case aL => have := LMc14.out; omega); intro v483 w28 ho hb hg hat; rw [← Ny482.out] at ho; have n0_ := Aside0.mk (Kd.R_over' (by (with_reducible repeat (first | apply Kd.R_alloc | apply Kd.R_drewN | apply Kd.R_drew)); exact HO_12.out) (Kd.S_typed (by (with_reducible repeat (first | apply Kd.S_alloc | apply Kd.S_drewN | apply Kd.S_drew)); exact HO_5.out)) (by decide) hg); have n1_ := Aside0.mk (blk_grown (g := gb468) (o := .cells #[.int .i64 a0_0, .string a0_1] 41 (0, 0)) (by (with_reducible repeat (first | refine blk_drewN ?_ _ | refine blk_drew ?_ | refine blk_alloc ?_ _)); exact BK468.out) hg (Kd.S_ne HO_5.out BK468.out (by decide))); have n2_ := Aside0.mk (blk_grown (g := gb473) (o := .cells #[.int .i64 ((rd_T60 t469 x14_1).f0), .int .i64 ((rd_T60 t469 x14_1).f1), .int .i64 ((rd_T60 t469 x14_1).f2)] 60 (0, 0)) (by (with_reducible repeat (first | refine blk_drewN ?_ _ | refine blk_drew ?_ | refine blk_alloc ?_ _)); exact BK473.out) hg (Kd.S_ne HO_5.out BK473.out (by decide))); have n3_ := Aside0.mk (blk_grown (g := gb477) (o := .cells #[.int .i64 t474, .string t475] 41 (0, 0)) (by (with_reducible repeat (first | refine blk_drewN ?_ _ | refine blk_drew ?_ | refine blk_alloc ?_ _)); exact BK477.out) hg (Kd.S_ne HO_5.out BK477.out (by decide))); have n4_ := Aside0.mk (hb); have n5_ := Aside0.mk (ho); clear HO_12; clear BK468; clear BK473; clear BK477; clear HB; clear HO_5; clear HO481; have HO_12 := n0_; have BK468 := n1_; have BK473 := n2_; have BK477 := n3_; have HB := n4_; have HO484 := n5_; clear n0_ n1_ n2_ n3_ n4_ n5_; clear ho hb hg hat))
        go_roundg k1
        case measure => have := HK1.out; omega
        case rel => exact ⟨(y482), (wrap64 (x14_1 + 1)), (by first | rfl | (simp; done) | (simp [*]; done)), H', ⟨by have := HK1.out; omega⟩, ⟨by (with_reducible repeat (first | apply Kd.S_alloc | apply Kd.S_drewN | apply Kd.S_drew)); exact HO484.out⟩, ⟨by (with_reducible repeat (first | apply Kd.R_alloc | apply Kd.R_drewN | apply Kd.R_drew)); exact Kd.R_mono HO_12.out (fun _ hk => trivial)⟩, ⟨by (with_reducible repeat (first | refine blk_drewN ?_ _ | refine blk_drew ?_ | refine blk_alloc ?_ _)); exact BK468.out⟩, ⟨by repeat (first | (with_reducible first | exact HB.out | apply below_alloc | apply pw_below_drewN | apply below_drew1 | refine below_set ?_ GE468.out | refine below_set ?_ GE473.out | refine below_set ?_ GE477.out) | exact HB.out)⟩⟩
       ·rw [if_neg c14] at H
        exact absurd H (by simp)
      ·replace c13 := Bool.eq_false_iff.mpr c13
       subst c13
       have H1 : (impl_mutations_impl_IsMatroid.l0 k1 x5_1 t469 (t469.length : Int) (wrap64 (x14_1 + 1)) a0_0 a0_1) = some r := by rw [if_neg (show ¬ (false = true) by decide)] at H; exact H
       clear H
       have H := H1
       clear H1
       have H' := Aside0.mk H
       clear H
       have p472 : 0 ≤ (x14_1 : Int) := of_decide_eq_true (by first | (with_reducible assumption) | assumption)
       have q472 : x14_1 < (t469.length : Int) := of_decide_eq_true (by first | (with_reducible assumption) | assumption)
       obtain ⟨ad472, e472, hx472_0, hx472_1, hx472_2⟩ := at_T60 (Kd.R_reads' HO_12.out).2.2 x14_1 p472 q472
       cases e472
       replace p472 := eq_true p472
       replace q472 := eq_true q472
       go_wp2_with (first | ((with_reducible refine gate_dst (N := 7) rfl ?_); refine box_event ?hg (N := 7) ?hd (cs := #[.int .i64 0, .int .i64 0, .int .i64 0]) (t := 60) ?hr ?_; (case hd => rfl); (case hg => rfl); (case hr => first | (go_simp; done) | (go_simp; rfl)); intro gb473 hg w30 hbox hb; have n0_ := Aside0.mk (Kd.S_below (by (with_reducible repeat (first | apply Kd.S_alloc | apply Kd.S_drewN | apply Kd.S_drew)); exact HO_5.out) hb); have n1_ := Aside0.mk (Kd.R_below (Kd.R_elderB (by (with_reducible repeat (first | apply Kd.R_alloc | apply Kd.R_drewN | apply Kd.R_drew)); exact HO_12.out) gb473 (Nat.le_of_eq hg.symm)) hb); have n2_ := Aside0.mk (blk_below (g := gb468) (o := .cells #[.int .i64 a0_0, .string a0_1] 41 (0, 0)) (by (with_reducible repeat (first | refine blk_drewN ?_ _ | refine blk_drew ?_ | refine blk_alloc ?_ _)); exact BK468.out) hb); have n3_ := Aside0.mk (below_step (by repeat (first | (with_reducible first | exact HB.out | apply below_alloc | apply pw_below_drewN | apply below_drew1 | refine below_set ?_ GE468.out) | exact HB.out)) hb); have n4_ := Aside0.mk (hbox); have n5_ := Aside0.mk ((by rw [hg]; exact (below_size (by repeat (first | (with_reducible first | exact HB.out | apply below_alloc | apply pw_below_drewN | apply below_drew1 | refine below_set ?_ GE468.out) | exact HB.out))) : w.heap.size ≤ gb473)); have n6_ := Aside0.mk ((by rw [hg]; exact (below_size (by repeat (first | (with_reducible first | exact HB.out | apply below_alloc | apply pw_below_drewN | apply below_drew1 | refine below_set ?_ GE468.out) | exact HB.out))) : w.heap.size ≤ gb473)); have n7_ := Aside0.mk ((by rw [hg]; exact Nat.ne_of_lt (blk_lt (g := gb468) (o := .cells #[.int .i64 a0_0, .string a0_1] 41 (0, 0)) (by (with_reducible repeat (first | refine blk_drewN ?_ _ | refine blk_drew ?_ | refine blk_alloc ?_ _)); exact BK468.out)) : gb468 ≠ gb473)); have n8_ := Aside0.mk ((by rw [hg]; exact Nat.ne_of_gt (blk_lt (g := gb468) (o := .cells #[.int .i64 a0_0, .string a0_1] 41 (0, 0)) (by (with_reducible repeat (first | refine blk_drewN ?_ _ | refine blk_drew ?_ | refine blk_alloc ?_ _)); exact BK468.out)) : gb473 ≠ gb468)); clear HO_5; clear HO_12; clear BK468; clear HB; have HO_5 := n0_; have HO_12 := n1_; have BK468 := n2_; have HB := n3_; have BK473 := n4_; have GW473 := n5_; have GE473 := n6_; have NB468_473 := n7_; have NB473_468 := n8_; clear n0_ n1_ n2_ n3_ n4_ n5_ n6_ n7_ n8_; clear hb hbox hg; have hnb31 := NB473_468.out; have hnc31 := NB468_473.out; have hcz32_0 : w30.cell? ⟨gb473, 0, none⟩ = some (.int .i64 0) := (blk_cell BK473.out 0).trans rfl; have hcz32_1 : w30.cell? ⟨gb473, 1, none⟩ = some (.int .i64 0) := (blk_cell BK473.out 1).trans rfl; have hcz32_2 : w30.cell? ⟨gb473, 2, none⟩ = some (.int .i64 0) := (blk_cell BK473.out 2).trans rfl; have hfz32_0 := blk_frozen BK473.out 0; have hfz32_1 := blk_frozen BK473.out 1; have hfz32_2 := blk_frozen BK473.out 2; have hcz33_0 : w30.cell? ⟨gb468, 0, none⟩ = some (.int .i64 a0_0) := (blk_cell BK468.out 0).trans rfl; have hcz33_1 : w30.cell? ⟨gb468, 1, none⟩ = some (.string a0_1) := (blk_cell BK468.out 1).trans rfl; have hfz33_0 := blk_frozen BK468.out 0; have hfz33_1 := blk_frozen BK468.out 1) | ((with_reducible refine gate_callee (f := 83) rfl ?_); refine goesL_ (some 26) rfl rfl Try.func83 (by kernel_rfl) rfl #[.agg #[.int .i64 a0_0, .string a0_1], .int .i64 ((rd_T60 t469 x14_1).f0), .int .i64 ((rd_T60 t469 x14_1).f1), .int .i64 ((rd_T60 t469 x14_1).f2)] rfl (by (try simp only [List.map_toArray, List.map_cons, List.map_nil]); first | done | rfl | (simp only [List.length_drop, List.length_take]; rfl)) ?_; (with_reducible refine (impl_ExchangeSign.calls k1 a0_0 a0_1 ((rd_T60 t469 x14_1).f0) ((rd_T60 t469 x14_1).f1) ((rd_T60 t469 x14_1).f2) t474 t475 t476 _ A11.out).mono ?_); rintro e w34 ⟨rfl, hb⟩; refine ⟨_, rfl, ?_⟩; have n0_ := Aside0.mk (Kd.S_below (by (with_reducible repeat (first | apply Kd.S_alloc | apply Kd.S_drewN | apply Kd.S_drew)); exact (Kd.S_mono (Kd.S_far (p := ⟨gb473, 2, none⟩) (Kd.S_far (p := ⟨gb473, 1, none⟩) (Kd.S_far (p := ⟨gb473, 0, none⟩) (Kd.S_types HO_5.out BK473.out (by decide)) (fun _ hk => hk.2) (.int .i64 ((rd_T60 t469 x14_1).f0))) (fun _ hk => hk.2) (.int .i64 ((rd_T60 t469 x14_1).f1))) (fun _ hk => hk.2) (.int .i64 ((rd_T60 t469 x14_1).f2))) (fun _ h_ => h_.1))) hb); have n1_ := Aside0.mk (Kd.R_below (by (with_reducible repeat (first | apply Kd.R_alloc | apply Kd.R_drewN | apply Kd.R_drew)); exact (Kd.R_mono (Kd.R_far (p := ⟨gb473, 2, none⟩) (Kd.R_far (p := ⟨gb473, 1, none⟩) (Kd.R_far (p := ⟨gb473, 0, none⟩) (Kd.R_mono HO_12.out (fun k_ hk => (⟨hk, hk.2⟩ : _ ∧ k_ ≠ gb473))) (fun _ hk => hk.2) (.int .i64 ((rd_T60 t469 x14_1).f0))) (fun _ hk => hk.2) (.int .i64 ((rd_T60 t469 x14_1).f1))) (fun _ hk => hk.2) (.int .i64 ((rd_T60 t469 x14_1).f2))) (fun _ h_ => h_.1))) hb); have n2_ := Aside0.mk (blk_below (g := gb468) (o := .cells #[.int .i64 a0_0, .string a0_1] 41 (0, 0)) (by (with_reducible repeat (first | refine blk_drewN ?_ _ | refine blk_drew ?_ | refine blk_alloc ?_ _)); refine blk_far ?_ NB468_473.out _; (with_reducible repeat (first | refine blk_drewN ?_ _ | refine blk_drew ?_ | refine blk_alloc ?_ _)); refine blk_far ?_ NB468_473.out _; (with_reducible repeat (first | refine blk_drewN ?_ _ | refine blk_drew ?_ | refine blk_alloc ?_ _)); refine blk_far ?_ NB468_473.out _; (with_reducible repeat (first | refine blk_drewN ?_ _ | refine blk_drew ?_ | refine blk_alloc ?_ _)); exact BK468.out) hb); have n3_ := Aside0.mk (blk_below (g := gb473) (o := .cells #[.int .i64 ((rd_T60 t469 x14_1).f0), .int .i64 ((rd_T60 t469 x14_1).f1), .int .i64 ((rd_T60 t469 x14_1).f2)] 60 (0, 0)) (by (with_reducible repeat (first | refine blk_drewN ?_ _ | refine blk_drew ?_ | refine blk_alloc ?_ _)); refine blk_put (cs := #[.int .i64 ((rd_T60 t469 x14_1).f0), .int .i64 ((rd_T60 t469 x14_1).f1), .int .i64 0]) ?_ 2 _ rfl; (with_reducible repeat (first | refine blk_drewN ?_ _ | refine blk_drew ?_ | refine blk_alloc ?_ _)); refine blk_put (cs := #[.int .i64 ((rd_T60 t469 x14_1).f0), .int .i64 0, .int .i64 0]) ?_ 1 _ rfl; (with_reducible repeat (first | refine blk_drewN ?_ _ | refine blk_drew ?_ | refine blk_alloc ?_ _)); refine blk_put (cs := #[.int .i64 0, .int .i64 0, .int .i64 0]) ?_ 0 _ rfl; (with_reducible repeat (first | refine blk_drewN ?_ _ | refine blk_drew ?_ | refine blk_alloc ?_ _)); exact BK473.out) hb); have n4_ := Aside0.mk (below_step (by repeat (first | (with_reducible first | exact HB.out | apply below_alloc | apply pw_below_drewN | apply below_drew1 | refine below_set ?_ GE468.out | refine below_set ?_ GE473.out) | exact HB.out)) hb); clear HO_5; clear HO_12; clear BK468; clear BK473; clear HB; have HO_5 := n0_; have HO_12 := n1_; have BK468 := n2_; have BK473 := n3_; have HB := n4_; clear n0_ n1_ n2_ n3_ n4_; (try clear hb); (try clear hb2); (try clear hk); (try clear hi)) | ((with_reducible refine gate_dst (N := 8) rfl ?_); refine box_event ?hg (N := 8) ?hd (cs := #[.int .i64 0, .string (⟨#[]⟩ : ByteArray)]) (t := 41) ?hr ?_; (case hd => rfl); (case hg => rfl); (case hr => first | (go_simp; done) | (go_simp; rfl)); intro gb477 hg w35 hbox hb; have n0_ := Aside0.mk (Kd.S_below (by (with_reducible repeat (first | apply Kd.S_alloc | apply Kd.S_drewN | apply Kd.S_drew)); exact HO_5.out) hb); have n1_ := Aside0.mk (Kd.R_below (by (with_reducible repeat (first | apply Kd.R_alloc | apply Kd.R_drewN | apply Kd.R_drew)); exact HO_12.out) hb); have n2_ := Aside0.mk (blk_below (g := gb468) (o := .cells #[.int .i64 a0_0, .string a0_1] 41 (0, 0)) (by (with_reducible repeat (first | refine blk_drewN ?_ _ | refine blk_drew ?_ | refine blk_alloc ?_ _)); exact BK468.out) hb); have n3_ := Aside0.mk (blk_below (g := gb473) (o := .cells #[.int .i64 ((rd_T60 t469 x14_1).f0), .int .i64 ((rd_T60 t469 x14_1).f1), .int .i64 ((rd_T60 t469 x14_1).f2)] 60 (0, 0)) (by (with_reducible repeat (first | refine blk_drewN ?_ _ | refine blk_drew ?_ | refine blk_alloc ?_ _)); exact BK473.out) hb); have n4_ := Aside0.mk (below_step (by repeat (first | (with_reducible first | exact HB.out | apply below_alloc | apply pw_below_drewN | apply below_drew1 | refine below_set ?_ GE468.out | refine below_set ?_ GE473.out) | exact HB.out)) hb); have n5_ := Aside0.mk (hbox); have n6_ := Aside0.mk ((by rw [hg]; exact (below_size (by repeat (first | (with_reducible first | exact HB.out | apply below_alloc | apply pw_below_drewN | apply below_drew1 | refine below_set ?_ GE468.out | refine below_set ?_ GE473.out) | exact HB.out))) : w.heap.size ≤ gb477)); have n7_ := Aside0.mk ((by rw [hg]; exact (below_size (by repeat (first | (with_reducible first | exact HB.out | apply below_alloc | apply pw_below_drewN | apply below_drew1 | refine below_set ?_ GE468.out | refine below_set ?_ GE473.out) | exact HB.out))) : w.heap.size ≤ gb477)); have n8_ := Aside0.mk ((by rw [hg]; exact Nat.ne_of_lt (blk_lt (g := gb468) (o := .cells #[.int .i64 a0_0, .string a0_1] 41 (0, 0)) (by (with_reducible repeat (first | refine blk_drewN ?_ _ | refine blk_drew ?_ | refine blk_alloc ?_ _)); exact BK468.out)) : gb468 ≠ gb477)); have n9_ := Aside0.mk ((by rw [hg]; exact Nat.ne_of_gt (blk_lt (g := gb468) (o := .cells #[.int .i64 a0_0, .string a0_1] 41 (0, 0)) (by (with_reducible repeat (first | refine blk_drewN ?_ _ | refine blk_drew ?_ | refine blk_alloc ?_ _)); exact BK468.out)) : gb477 ≠ gb468)); have n10_ := Aside0.mk ((by rw [hg]; exact Nat.ne_of_lt (blk_lt (g := gb473) (o := .cells #[.int .i64 ((rd_T60 t469 x14_1).f0), .int .i64 ((rd_T60 t469 x14_1).f1), .int .i64 ((rd_T60 t469 x14_1).f2)] 60 (0, 0)) (by (with_reducible repeat (first | refine blk_drewN ?_ _ | refine blk_drew ?_ | refine blk_alloc ?_ _)); exact BK473.out)) : gb473 ≠ gb477)); have n11_ := Aside0.mk ((by rw [hg]; exact Nat.ne_of_gt (blk_lt (g := gb473) (o := .cells #[.int .i64 ((rd_T60 t469 x14_1).f0), .int .i64 ((rd_T60 t469 x14_1).f1), .int .i64 ((rd_T60 t469 x14_1).f2)] 60 (0, 0)) (by (with_reducible repeat (first | refine blk_drewN ?_ _ | refine blk_drew ?_ | refine blk_alloc ?_ _)); exact BK473.out)) : gb477 ≠ gb473)); clear HO_5; clear HO_12; clear BK468; clear BK473; clear HB; have HO_5 := n0_; have HO_12 := n1_; have BK468 := n2_; have BK473 := n3_; have HB := n4_; have BK477 := n5_; have GW477 := n6_; have GE477 := n7_; have NB468_477 := n8_; have NB477_468 := n9_; have NB473_477 := n10_; have NB477_473 := n11_; clear n0_ n1_ n2_ n3_ n4_ n5_ n6_ n7_ n8_ n9_ n10_ n11_; clear hb hbox hg; have hnb36 := NB477_468.out; have hnc36 := NB468_477.out; have hnb37 := NB477_473.out; have hnc37 := NB473_477.out; have hcz38_0 : w35.cell? ⟨gb477, 0, none⟩ = some (.int .i64 0) := (blk_cell BK477.out 0).trans rfl; have hcz38_1 : w35.cell? ⟨gb477, 1, none⟩ = some (.string (⟨#[]⟩ : ByteArray)) := (blk_cell BK477.out 1).trans rfl; have hfz38_0 := blk_frozen BK477.out 0; have hfz38_1 := blk_frozen BK477.out 1) | (go_at_call 49; (with_reducible refine (impl_IsMatroid.calls k1 t474 t475 false _ A12.out).mono ?_); rintro e w39 ⟨rfl, hb⟩; have n0_ := Aside0.mk (Kd.S_below (by (with_reducible repeat (first | apply Kd.S_alloc | apply Kd.S_drewN | apply Kd.S_drew)); exact (Kd.S_mono (Kd.S_far (p := ⟨gb477, 1, none⟩) (Kd.S_far (p := ⟨gb477, 0, none⟩) (Kd.S_types HO_5.out BK477.out (by decide)) (fun _ hk => hk.2) (.int .i64 t474)) (fun _ hk => hk.2) (.string t475)) (fun _ h_ => h_.1))) hb); have n1_ := Aside0.mk (Kd.R_below (by (with_reducible repeat (first | apply Kd.R_alloc | apply Kd.R_drewN | apply Kd.R_drew)); exact (Kd.R_mono (Kd.R_far (p := ⟨gb477, 1, none⟩) (Kd.R_far (p := ⟨gb477, 0, none⟩) (Kd.R_types HO_12.out BK477.out (by decide)) (fun _ hk => hk.2) (.int .i64 t474)) (fun _ hk => hk.2) (.string t475)) (fun _ h_ => h_.1))) hb); have n2_ := Aside0.mk (blk_below (g := gb468) (o := .cells #[.int .i64 a0_0, .string a0_1] 41 (0, 0)) (by (with_reducible repeat (first | refine blk_drewN ?_ _ | refine blk_drew ?_ | refine blk_alloc ?_ _)); refine blk_far ?_ NB468_477.out _; (with_reducible repeat (first | refine blk_drewN ?_ _ | refine blk_drew ?_ | refine blk_alloc ?_ _)); refine blk_far ?_ NB468_477.out _; (with_reducible repeat (first | refine blk_drewN ?_ _ | refine blk_drew ?_ | refine blk_alloc ?_ _)); exact BK468.out) hb); have n3_ := Aside0.mk (blk_below (g := gb473) (o := .cells #[.int .i64 ((rd_T60 t469 x14_1).f0), .int .i64 ((rd_T60 t469 x14_1).f1), .int .i64 ((rd_T60 t469 x14_1).f2)] 60 (0, 0)) (by (with_reducible repeat (first | refine blk_drewN ?_ _ | refine blk_drew ?_ | refine blk_alloc ?_ _)); refine blk_far ?_ NB473_477.out _; (with_reducible repeat (first | refine blk_drewN ?_ _ | refine blk_drew ?_ | refine blk_alloc ?_ _)); refine blk_far ?_ NB473_477.out _; (with_reducible repeat (first | refine blk_drewN ?_ _ | refine blk_drew ?_ | refine blk_alloc ?_ _)); exact BK473.out) hb); have n4_ := Aside0.mk (blk_below (g := gb477) (o := .cells #[.int .i64 t474, .string t475] 41 (0, 0)) (by (with_reducible repeat (first | refine blk_drewN ?_ _ | refine blk_drew ?_ | refine blk_alloc ?_ _)); refine blk_put (cs := #[.int .i64 t474, .string (⟨#[]⟩ : ByteArray)]) ?_ 1 _ rfl; (with_reducible repeat (first | refine blk_drewN ?_ _ | refine blk_drew ?_ | refine blk_alloc ?_ _)); refine blk_put (cs := #[.int .i64 0, .string (⟨#[]⟩ : ByteArray)]) ?_ 0 _ rfl; (with_reducible repeat (first | refine blk_drewN ?_ _ | refine blk_drew ?_ | refine blk_alloc ?_ _)); exact BK477.out) hb); have n5_ := Aside0.mk (below_step (by repeat (first | (with_reducible first | exact HB.out | apply below_alloc | apply pw_below_drewN | apply below_drew1 | refine below_set ?_ GE468.out | refine below_set ?_ GE473.out | refine below_set ?_ GE477.out) | exact HB.out)) hb); clear HO_5; clear HO_12; clear BK468; clear BK473; clear BK477; clear HB; have HO_5 := n0_; have HO_12 := n1_; have BK468 := n2_; have BK473 := n3_; have BK477 := n4_; have HB := n5_; clear n0_ n1_ n2_ n3_ n4_ n5_; (try clear hb); (try clear hb2); (try clear hk); (try clear hi)))
       go_roundg k1
       case measure => have := HK1.out; omega
       case rel => exact ⟨(x5_1), (wrap64 (x14_1 + 1)), (by first | rfl | (simp; done) | (simp [*]; done)), H', ⟨by have := HK1.out; omega⟩, ⟨by (with_reducible repeat (first | apply Kd.S_alloc | apply Kd.S_drewN | apply Kd.S_drew)); exact HO_5.out⟩, ⟨by (with_reducible repeat (first | apply Kd.R_alloc | apply Kd.R_drewN | apply Kd.R_drew)); exact Kd.R_mono HO_12.out (fun _ hk => trivial)⟩, ⟨by (with_reducible repeat (first | refine blk_drewN ?_ _ | refine blk_drew ?_ | refine blk_alloc ?_ _)); exact BK468.out⟩, ⟨by repeat (first | (with_reducible first | exact HB.out | apply below_alloc | apply pw_below_drewN | apply below_drew1 | refine below_set ?_ GE468.out | refine below_set ?_ GE473.out | refine below_set ?_ GE477.out) | exact HB.out)⟩⟩
     ·rw [if_neg c10] at H
      exact absurd H (by simp)
    ·rw [if_neg c9] at H
     exact absurd H (by simp)
   ·rw [if_neg c8] at H
    have c8b0 : decide (x14_1 < (t469.length : Int)) = false := decide_eq_false c8
    clear c8
    obtain rfl := Option.some.inj H
    go_wp2
    go_ret
    exact ⟨_, by first | rfl | (simp [errW_none, errW_some] <;> rfl) | (simp [*, errW_none, errW_some] <;> rfl), by (with_reducible repeat (first | apply Kd.S_alloc | apply Kd.S_drewN | apply Kd.S_drew)); exact HO_5.out, by repeat (first | (with_reducible first | exact HB.out | apply below_alloc | apply pw_below_drewN | apply below_drew1 | refine below_set ?_ GE468.out) | exact HB.out)⟩
end Go.Proofs.Ytajogmlblknfdaa.P
