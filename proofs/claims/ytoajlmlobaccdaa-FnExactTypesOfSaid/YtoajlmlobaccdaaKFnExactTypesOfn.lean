/- What the law FnExactTypesOf reaches, part 14: functions as plain Lean functions with the proofs that their calls come to them, and plain lemmas over these. Put together by a program (wip/pack.py). -/
import Derived.Test.YtoajlmlobaccdaaKFnExactTypesOfd
import Derived.Test.YtoajlmlobaccdaaKFnExactTypesOfm
import Derived.Test.YtoajlmlobaccdaaKFnExactTypesOff
import Derived.Test.YtoajlmlobaccdaaKFnExactTypesOfk
import Derived.Test.YtoajlmlobaccdaaKFnExactTypesOfj
import Derived.Test.YtoajlmlobaccdaaKFnExactTypesOfl
import Derived.Sort.Walk0
import Derived.Lib.Bytes
import Derived.Test.YtoajlmlobaccdaaKFnExactTypesOfc
import Derived.Test.YtoajlmlobaccdaaKFnExactTypesOfe
namespace Go.Proofs.Ytoajlmlobaccdaa.Pure
set_option linter.unusedSimpArgs false
set_option linter.unusedVariables false
open Go.RowKit Go.Proofs.YtoajlmlobaccdaaW.PrintWords Go.Proofs.Ytoajlmlobaccdaa.P Go.Proofs.Ytoajlmlobaccdaa.Pl
def pm (v : Int) : Int := if v > 0 then 43 else 45
def codesT (l : List Int) (ts : List T3) : List Int := ts.map fun t => pm (chiA l t.f0 t.f1 t.f2)
theorem signs_ev (n : Nat) (hn : n ≤ 7) (l : List Int) (hl : l.length = 344) (hc : chiN l = n) : Ev (fun k => impl_chi_signs.f k l) ((n : Int), strOfNums (codesT l (tri n))) := by
  unfold impl_chi_signs.f
  rw [hc]
  refine Ev.ite_pos (by omega) (Ev.bind (triplesOf_ev n hn) ?_)
  have h35 : (tri n).length ≤ 1000 := by
    have : (List.range 8).all (fun n => decide ((tri n).length ≤ 1000)) = true := by decide +kernel
    rw [List.all_eq_true] at this
    simpa using this n (by simp; omega)
  have key := Ev.loop (fun i k => impl_chi_signs.l0 k l (codesT l ((tri n).take i)) (tri n) (tri n).length i) (tri n).length ((n : Int), strOfNums (codesT l (tri n))) ?_ ?_ 0 (by omega)
  · simpa [codesT] using key
  · refine Ev.step (fun k => impl_chi_signs.l0.eq_2 ..) (Ev.ite_neg (by omega) (Ev.ite_pos (by omega) (Ev.const ?_)))
    rw [List.take_length, hc]
  · intro i hi ih
    have ht := tri_at n hn i hi
    have hlen : (codesT l ((tri n).take i)).length < 140737488355328 := by unfold codesT; simp; omega
    refine Ev.step (fun k => impl_chi_signs.l0.eq_2 ..) (Ev.ite_pos (by omega) (Ev.ite_pos (by omega) (Ev.ite_pos (by omega) (Ev.ite_pos (by omega) ?_))))
    rw [wrap_nat i (by omega), rdT_lt _ i hi]
    have hcod : codesT l ((tri n).take (i + 1)) = codesT l ((tri n).take i) ++ [pm (chiA l (tri n)[i].f0 (tri n)[i].f1 (tri n)[i].f2)] := by
      unfold codesT
      rw [List.take_succ_eq_append_getElem hi, List.map_append]
      rfl
    rw [hcod] at ih
    generalize (tri n)[i] = t at ih ht ⊢
    unfold okT at ht
    rw [decide_eq_true_eq] at ht
    refine Ev.ite_pos (by omega) (Ev.ite_pos (by omega) (Ev.ite_pos (by omega) (Ev.ite_pos (by omega) (Ev.ite_pos (by omega) (Ev.ite_pos (by omega) ?_)))))
    unfold pm at ih
    by_cases h : chiA l t.f0 t.f1 t.f2 > 0
    · rw [if_pos h] at ih
      exact Ev.ite_pos h (Ev.ite_pos hlen ih)
    · rw [if_neg h] at ih
      exact Ev.ite_neg h (Ev.ite_pos hlen ih)
theorem all_tri : (List.range 8).all (fun n => (List.range (tri n).length).all fun m => (let t := (tri n).getD m ⟨0, 0, 0⟩; src (tri n) 0 t.f0 t.f1 t.f2 == some (m, true))) = true := by decide +kernel
theorem tri_src (n : Nat) (hn : n ≤ 7) (m : Nat) (hm : m < (tri n).length) : src (tri n) 0 (tri n)[m].f0 (tri n)[m].f1 (tri n)[m].f2 = some (m, true) := by
  have g := all_tri
  rw [List.all_eq_true] at g
  have g := g n (by simp; omega)
  rw [List.all_eq_true] at g
  have g := g m (by simpa using hm)
  rw [getD_lt _ _ _ hm] at g
  simpa using g
theorem tri_nat (n : Nat) (hn : n ≤ 7) (m : Nat) (hm : m < (tri n).length) : ∃ a b c : Nat, a < b ∧ b < c ∧ c < n ∧ (tri n)[m] = ⟨a, b, c⟩ := by
  have h := tri_ok n hn
  rw [List.all_eq_true] at h
  have h := h _ (List.getElem_mem hm)
  generalize (tri n)[m] = t at h ⊢
  obtain ⟨a, b, c⟩ := t
  unfold okT at h
  rw [decide_eq_true_eq] at h
  dsimp only at h
  obtain ⟨a, rfl⟩ := Int.eq_ofNat_of_zero_le h.1
  obtain ⟨b, rfl⟩ := Int.eq_ofNat_of_zero_le (show 0 ≤ b by omega)
  obtain ⟨c, rfl⟩ := Int.eq_ofNat_of_zero_le (show 0 ≤ c by omega)
  exact ⟨a, b, c, by omega, by omega, by omega, rfl⟩
theorem tab_tri (n : Nat) (hn : n ≤ 7) (s : ByteArray) (m : Nat) (hm : m < (tri n).length) : chiA (tab n s) (tri n)[m].f0 (tri n)[m].f1 (tri n)[m].f2 = sgAt s m := by
  obtain ⟨a, b, c, h1, h2, h3, e⟩ := tri_nat n hn m hm
  have hs := tri_src n hn m hm
  rw [e] at hs ⊢
  dsimp only at hs ⊢
  rw [tab_at n hn s a b c (by omega) (by omega) (by omega)]
  unfold sg
  rw [hs]
  rfl
def okD3 (t : T3) : Prop := ∃ a b c : Nat, t = ⟨a, b, c⟩ ∧ a < 7 ∧ b < 7 ∧ c < 7 ∧ a ≠ b ∧ b ≠ c ∧ a ≠ c
theorem chiA_put3d (l : List Int) (hl : l.length = 344) (t : T3) (ht : okD3 t) (v : Int) (x y z : Nat) (hx : x < 7) (hy : y < 7) (hz : z < 7) :
    chiA (put3 l t v) x y z = match par t x y z with | some true => v | some false => wrap64 (-v) | none => chiA l x y z := by
  obtain ⟨a, b, c, rfl, ha, hb, hc, h1, h2, h3⟩ := ht
  exact chiA_set l hl a b c ha hb hc h1 h2 h3 v x y z hx hy hz
theorem chiA_filld (v : Nat → Int) (x y z : Nat) (hx : x < 7) (hy : y < 7) (hz : z < 7) : ∀ (ts : List T3), (∀ t ∈ ts, okD3 t) → ∀ m l, l.length = 344 → chiA (fill v ts m l) x y z = sval v (chiA l x y z) (src ts m x y z) := by
  intro ts
  induction ts with
  | nil => intro _ m l _; rfl
  | cons t ts ih =>
    intro h m l hl
    rw [fill, ih (fun u hu => h u (List.mem_cons_of_mem _ hu)) (m + 1) _ (by unfold put3; rw [chiSet_length]; exact hl), chiA_put3d l hl t (h t List.mem_cons_self) (v m) x y z hx hy hz, src]
    cases hs : src ts (m + 1) x y z with
    | some p => obtain ⟨q, b⟩ := p; cases b <;> rfl
    | none =>
      cases hp : par t x y z with
      | none => rfl
      | some b => cases b <;> rfl
def permT (p : List Int) (t : T3) : T3 := ⟨rd p t.f0, rd p t.f1, rd p t.f2⟩
def isP (n : Nat) (p : List Int) : Prop := p.length = n ∧ (inv p).length = n ∧ ∀ a, a < n → (0 ≤ rd p (a : Int) ∧ rd p (a : Int) < n ∧ 0 ≤ rd (inv p) (a : Int) ∧ rd (inv p) (a : Int) < n) ∧ ∀ x, x < n → ((x : Int) = rd p (a : Int) ↔ rd (inv p) (x : Int) = (a : Int))
theorem par_perm (n : Nat) (p : List Int) (hp : isP n p) (a b c x y z : Nat) (ha : a < n) (hb : b < n) (hc : c < n) (hx : x < n) (hy : y < n) (hz : z < n) :
    par (permT p ⟨a, b, c⟩) x y z = par ⟨a, b, c⟩ (rd (inv p) (x : Int)) (rd (inv p) (y : Int)) (rd (inv p) (z : Int)) := by
  have h : ∀ u v : Nat, u < n → v < n → ((u : Int) = rd p (v : Int) ↔ rd (inv p) (u : Int) = (v : Int)) := fun u v hu hv => (hp.2.2 v hv).2 u hu
  unfold par permT
  simp only [h x a hx ha, h x b hx hb, h x c hx hc, h y a hy ha, h y b hy hb, h y c hy hc, h z a hz ha, h z b hz hb, h z c hz hc]
theorem src_perm (n : Nat) (p : List Int) (hp : isP n p) (x y z : Nat) (hx : x < n) (hy : y < n) (hz : z < n) : ∀ (ts : List T3), (∀ t ∈ ts, ∃ a b c : Nat, t = ⟨a, b, c⟩ ∧ a < n ∧ b < n ∧ c < n) → ∀ m,
    src (ts.map (permT p)) m x y z = src ts m (rd (inv p) (x : Int)) (rd (inv p) (y : Int)) (rd (inv p) (z : Int)) := by
  intro ts
  induction ts with
  | nil => intro _ m; rfl
  | cons t ts ih =>
    intro h m
    obtain ⟨a, b, c, rfl, ha, hb, hc⟩ := h t List.mem_cons_self
    rw [List.map_cons, src, src, ih (fun u hu => h u (List.mem_cons_of_mem _ hu)), par_perm n p hp a b c x y z ha hb hc hx hy hz]
theorem tri_mem (n : Nat) (hn : n ≤ 7) (t : T3) (h : t ∈ tri n) : ∃ a b c : Nat, t = ⟨a, b, c⟩ ∧ a < b ∧ b < c ∧ c < n := by
  obtain ⟨m, hm, rfl⟩ := List.getElem_of_mem h
  obtain ⟨a, b, c, h1, h2, h3, e⟩ := tri_nat n hn m hm
  exact ⟨a, b, c, e, h1, h2, h3⟩
theorem perm_ne (n : Nat) (p : List Int) (hp : isP n p) (a b : Nat) (ha : a < n) (hb : b < n) (h : a ≠ b) : rd p (a : Int) ≠ rd p (b : Int) := by
  intro e
  have h1 := hp.2.2 a ha
  have h2 := hp.2.2 b hb
  obtain ⟨u, hu⟩ := Int.eq_ofNat_of_zero_le h1.1.1
  have hun : u < n := by omega
  have k1 := (h1.2 u hun).mp hu.symm
  have k2 := (h2.2 u hun).mp (by rw [← e]; exact hu.symm)
  omega
theorem permT_ok (n : Nat) (hn : n ≤ 7) (p : List Int) (hp : isP n p) (t : T3) (h : t ∈ tri n) : okD3 (permT p t) := by
  obtain ⟨a, b, c, rfl, h1, h2, h3⟩ := tri_mem n hn t h
  have ka := (hp.2.2 a (by omega)).1
  have kb := (hp.2.2 b (by omega)).1
  have kc := (hp.2.2 c (by omega)).1
  have n1 := perm_ne n p hp a b (by omega) (by omega) (by omega)
  have n2 := perm_ne n p hp b c (by omega) (by omega) (by omega)
  have n3 := perm_ne n p hp a c (by omega) (by omega) (by omega)
  exact ⟨(rd p (a : Int)).toNat, (rd p (b : Int)).toNat, (rd p (c : Int)).toNat, by unfold permT; congr 1 <;> dsimp only <;> omega, by omega, by omega, by omega, by omega, by omega, by omega⟩
def pickC (n : Nat) (s : ByteArray) (q : List Int) : List Int := (tri n).map fun t => pm (sg n s (rd q t.f0) (rd q t.f1) (rd q t.f2))
def pickT (n : Nat) (s : ByteArray) (q : List Int) : ByteArray := strOfNums (pickC n s q)
theorem rename_ev (n : Nat) (hn : n ≤ 7) (s : ByteArray) (p : List Int) (hp : isP n p) : Ev (fun k => impl_chi_rename.f k (tab n s) p) ((n : Int), pickT n s (inv p)) := by
  have hl := tab_length n s
  have h35 : (tri n).length ≤ 1000 := by
    have : (List.range 8).all (fun n => decide ((tri n).length ≤ 1000)) = true := by decide +kernel
    rw [List.all_eq_true] at this
    simpa using this n (by simp; omega)
  unfold impl_chi_rename.f
  rw [tab_n]
  refine Ev.ite_pos (by omega) (Ev.bind (triplesOf_ev n hn) ?_)
  have key := Ev.loop (fun i k => impl_chi_rename.l0 k (tab n s) p (fill (sgAt s) (((tri n).take i).map (permT p)) 0 (chiNew n)) (tri n) (tri n).length i) (tri n).length ((n : Int), pickT n s (inv p)) ?_ ?_ 0 (by omega)
  · simpa [fill] using key
  · have hY : (fill (sgAt s) ((tri n).map (permT p)) 0 (chiNew n)).length = 344 := by rw [fill_length, chiNew_length]
    have hN : chiN (fill (sgAt s) ((tri n).map (permT p)) 0 (chiNew n)) = n := by rw [chiN_fill _ _ _ _ (chiNew_length _)]; rfl
    rw [List.take_length]
    refine Ev.step (fun k => impl_chi_rename.l0.eq_2 ..) (Ev.ite_neg (by omega) (Ev.bind (signs_ev n hn _ hY hN) (Ev.const ?_)))
    have e : codesT (fill (sgAt s) ((tri n).map (permT p)) 0 (chiNew n)) (tri n) = pickC n s (inv p) := by
      unfold codesT pickC
      apply List.map_congr_left
      intro t ht
      obtain ⟨a, b, c, rfl, h1, h2, h3⟩ := tri_mem n hn t ht
      dsimp only
      rw [chiA_filld (sgAt s) a b c (by omega) (by omega) (by omega) _ (fun u hu => by obtain ⟨w, hw, rfl⟩ := List.mem_map.mp hu; exact permT_ok n hn p hp w hw) 0 _ (chiNew_length _), chiA_new _ a b c (by omega) (by omega) (by omega)]
      rw [src_perm n p hp a b c (by omega) (by omega) (by omega) (tri n) (fun u hu => by obtain ⟨x, y, z, e, g1, g2, g3⟩ := tri_mem n hn u hu; exact ⟨x, y, z, e, by omega, by omega, by omega⟩) 0]
      rfl
    rw [e]
    rfl
  · intro i hi ih
    have hm := List.getElem_mem hi
    obtain ⟨a, b, c, hab, hbc, hcn, e⟩ := tri_nat n hn i hi
    have hok := permT_ok n hn p hp _ hm
    have htab := tab_tri n hn s i hi
    refine Ev.step (fun k => impl_chi_rename.l0.eq_2 ..) (Ev.ite_pos (by omega) (Ev.ite_pos (by omega) (Ev.ite_pos (by omega) ?_)))
    rw [rdT_lt _ i hi, wrap_nat i (by omega)]
    rw [List.take_succ_eq_append_getElem hi, List.map_append, fill_append, Nat.zero_add, List.length_map, List.length_take, Nat.min_eq_left (by omega)] at ih
    have hlY : (fill (sgAt s) (((tri n).take i).map (permT p)) 0 (chiNew n)).length = 344 := by rw [fill_length, chiNew_length]
    rw [e] at hok htab ih ⊢
    generalize fill (sgAt s) (((tri n).take i).map (permT p)) 0 (chiNew n) = Y at ih hlY ⊢
    dsimp only at htab ⊢
    have hpl := hp.1
    refine Ev.ite_pos (by omega) (Ev.ite_pos (by omega) (Ev.ite_pos (by omega) (Ev.ite_pos (by omega) (Ev.ite_pos (by omega) (Ev.ite_pos (by omega) (Ev.ite_pos (by omega) (Ev.ite_pos (by omega) (Ev.ite_pos (by omega) (Ev.ite_pos (by omega) ?_)))))))))
    rw [htab]
    refine Ev.bind0 (a := put3 Y (permT p ⟨a, b, c⟩) (sgAt s i)) ?_ ih
    obtain ⟨u, v, w, eu, hu, hv, hw, n1, n2, n3⟩ := hok
    have e1 : rd p (a : Int) = u := congrArg S89.f0 eu
    have e2 : rd p (b : Int) = v := congrArg S89.f1 eu
    have e3 : rd p (c : Int) = w := congrArg S89.f2 eu
    rw [eu, e1, e2, e3]
    unfold impl_chi_set.f
    rw [if_pos ⟨hlY, by omega, by omega, by omega⟩]
    rfl
theorem Ev.loopS {σ ρ : Type} (g : σ → Nat → Nat → Option ρ) (m : Nat) (I : σ → Nat → Prop) (R : σ → Nat → ρ) (hend : ∀ S, I S m → Ev (g S m) (R S m))
    (hstep : ∀ S i, i < m → I S i → (∀ S', I S' (i + 1) → Ev (g S' (i + 1)) (R S' (i + 1))) → Ev (g S i) (R S i)) : ∀ i, i ≤ m → ∀ S, I S i → Ev (g S i) (R S i) := by
  have key : ∀ d i, i + d = m → ∀ S, I S i → Ev (g S i) (R S i) := by
    intro d
    induction d with
    | zero => intro i hi S hS; obtain rfl : i = m := by omega
              exact hend S hS
    | succ d ih => intro i hi S hS; exact hstep S i (by omega) hS (fun S' hS' => ih (i + 1) (by omega) S' hS')
  intro i hi
  exact key (m - i) i (by omega)
def rem2 (n i j k : Nat) : List T3 := ((List.range n).drop k).map fun c : Nat => (⟨i, j, c⟩ : T3)
def rem1 (n i j : Nat) : List T3 := ((List.range n).drop j).flatMap fun b : Nat => rem2 n i b (b + 1)
def rem0 (n i : Nat) : List T3 := ((List.range n).drop i).flatMap fun a : Nat => rem1 n a (a + 1)
theorem rem0_all (n : Nat) (hn : n ≤ 7) : rem0 n 0 = tri n := listT_eq n hn
def strP (n : Nat) (s : ByteArray) (q : List Int) (ts : List T3) : ByteArray := strOfNums (ts.map fun t => pm (sg n s (rd q t.f0) (rd q t.f1) (rd q t.f2)))
theorem strOfNums_append (a b : List Int) : strOfNums (a ++ b) = strOfNums a ++ strOfNums b := by
  unfold strOfNums
  apply ByteArray.ext
  apply Array.ext'
  simp [ByteArray.data_append]
theorem strOfNums_size (a : List Int) : (strOfNums a).size = a.length := by
  unfold strOfNums
  show (Array.size _) = _
  simp
theorem strP_cons (n : Nat) (s : ByteArray) (q : List Int) (t : T3) (ts : List T3) : strP n s q (t :: ts) = byteS (sg n s (rd q t.f0) (rd q t.f1) (rd q t.f2)) ++ strP n s q ts := by
  unfold strP
  rw [List.map_cons, show ∀ (x : Int) (l : List Int), x :: l = [x] ++ l from fun _ _ => rfl, strOfNums_append]
  congr 1
  unfold pm byteS
  by_cases h : sg n s (rd q t.f0) (rd q t.f1) (rd q t.f2) > 0
  · rw [if_pos h, if_pos h]
    rfl
  · rw [if_neg h, if_neg h]
    rfl
theorem strP_append (n : Nat) (s : ByteArray) (q : List Int) (a b : List T3) : strP n s q (a ++ b) = strP n s q a ++ strP n s q b := by
  unfold strP
  rw [List.map_append, strOfNums_append]
theorem pick_ev (n : Nat) (hn : n ≤ 7) (s : ByteArray) (hs : s.size = (tri n).length) (q : List Int) (hq : isP n q) : Ev (fun k => spec_l3Pick.f k n s q) ((n : Int), pickT n s q) := by
  have hql := hq.1
  unfold spec_l3Pick.f
  have hnil : (⟨#[]⟩ : ByteArray).size = 0 := rfl
  have key := Ev.loopS (fun (S : ByteArray) i k => spec_l3Pick.l0 k q i n s (q.length : Int) S) n (fun S i => S.size ≤ 1000 * i) (fun S i => ((n : Int), S ++ strP n s q (rem0 n i))) ?_ ?_ 0 (by omega) (⟨#[]⟩ : ByteArray) (by omega)
  · rw [rem0_all n hn] at key
    rw [show pickT n s q = (⟨#[]⟩ : ByteArray) ++ strP n s q (tri n) by unfold pickT strP pickC; exact (ByteArray.empty_append).symm]
    exact key
  · intro S hS
    refine Ev.step (fun k => spec_l3Pick.l0.eq_2 ..) (Ev.ite_neg (by omega) (Ev.const ?_))
    unfold rem0
    rw [List.drop_of_length_le (by simp), hql]
    show some ((n : Int), S) = some ((n : Int), S ++ (⟨#[]⟩ : ByteArray))
    rw [show S ++ (⟨#[]⟩ : ByteArray) = S from ByteArray.append_empty]
  · intro S i hi hS ih
    refine Ev.step (fun k => spec_l3Pick.l0.eq_2 ..) (Ev.ite_pos (by omega) ?_)
    rw [wrap_nat i (by omega)]
    rw [show rem0 n i = rem1 n i (i + 1) ++ rem0 n (i + 1) by unfold rem0; rw [range_drop' n i hi, List.flatMap_cons], strP_append, ← ByteArray.append_assoc]
    refine Ev.loopS (fun (S : ByteArray) j k => spec_l3Pick.l1 k q i j n s (q.length : Int) S) n (fun S j => i < j ∧ S.size ≤ 1000 * i + 100 * j) (fun S j => ((n : Int), (S ++ strP n s q (rem1 n i j)) ++ strP n s q (rem0 n (i + 1)))) ?_ ?_ (i + 1) (by omega) S ⟨by omega, by omega⟩
    · intro S hS
      refine Ev.step (fun k => spec_l3Pick.l1.eq_2 ..) (Ev.ite_neg (by omega) ?_)
      rw [wrap_nat i (by omega)]
      have h := ih S (by omega)
      rw [show S ++ strP n s q (rem1 n i n) = S by unfold rem1; rw [List.drop_of_length_le (by simp)]; exact ByteArray.append_empty]
      exact h
    · intro S j hj hS ihj
      refine Ev.step (fun k => spec_l3Pick.l1.eq_2 ..) (Ev.ite_pos (by omega) ?_)
      rw [wrap_nat j (by omega)]
      rw [show rem1 n i j = rem2 n i j (j + 1) ++ rem1 n i (j + 1) by unfold rem1; rw [range_drop' n j hj, List.flatMap_cons], strP_append, ← ByteArray.append_assoc]
      have hij := hS.1
      · refine Ev.loopS (fun (S : ByteArray) m k => spec_l3Pick.l2 k q i j m n s (q.length : Int) S) n (fun S m => j < m ∧ S.size ≤ 1000 * i + 100 * j + m) (fun S m => ((n : Int), ((S ++ strP n s q (rem2 n i j m)) ++ strP n s q (rem1 n i (j + 1))) ++ strP n s q (rem0 n (i + 1)))) ?_ ?_ (j + 1) (by omega) S (by omega)
        · intro S hS
          refine Ev.step (fun k => spec_l3Pick.l2.eq_2 ..) (Ev.ite_neg (by omega) ?_)
          rw [wrap_nat j (by omega)]
          have h := ihj S ⟨by omega, by omega⟩
          rw [show S ++ strP n s q (rem2 n i j n) = S by unfold rem2; rw [List.drop_of_length_le (by simp)]; exact ByteArray.append_empty]
          exact h
        · intro S m hm hS ihm
          have ki := (hq.2.2 i hi).1
          have kj := (hq.2.2 j hj).1
          have km := (hq.2.2 m hm).1
          have n1 := perm_ne n q hq i j hi hj (by omega)
          have n2 := perm_ne n q hq j m hj hm (by omega)
          have n3 := perm_ne n q hq i m hi hm (by omega)
          refine Ev.step (fun k => spec_l3Pick.l2.eq_2 ..) (Ev.ite_pos (by omega) (Ev.ite_pos (by omega) (Ev.ite_pos (by omega) (Ev.ite_pos (by omega) (Ev.ite_pos (by omega) (Ev.ite_pos (by omega) ?_))))))
          rw [wrap_nat m (by omega)]
          have hb := byteS_size (sg n s (rd q (i : Int)) (rd q (j : Int)) (rd q (m : Int)))
          have h := ihm (S ++ byteS (sg n s (rd q (i : Int)) (rd q (j : Int)) (rd q (m : Int)))) (by rw [ByteArray.size_append, hb]; omega)
          rw [show rem2 n i j m = (⟨i, j, m⟩ : T3) :: rem2 n i j (m + 1) by unfold rem2; rw [range_drop' n m hm, List.map_cons], strP_cons, ← ByteArray.append_assoc]
          have hAt : Ev (fun k => spec_l3At.f k n s (rd q (i : Int)) (rd q (j : Int)) (rd q (m : Int))) (sg n s (rd q (i : Int)) (rd q (j : Int)) (rd q (m : Int))) := by
            obtain ⟨a, ha⟩ := Int.eq_ofNat_of_zero_le ki.1
            obtain ⟨b, hb⟩ := Int.eq_ofNat_of_zero_le kj.1
            obtain ⟨c, hc⟩ := Int.eq_ofNat_of_zero_le km.1
            rw [ha] at n1 n3 ki ⊢
            rw [hb] at n1 n2 kj ⊢
            rw [hc] at n2 n3 km ⊢
            exact l3At_ev n hn s hs a b c (by omega) (by omega) (by omega) (by omega) (by omega) (by omega)
          exact Ev.bind hAt (Ev.bind0 (l3Byte_eq _) (Ev.ite_pos (by rw [hb]; omega) h))
theorem AN_len (n : Nat) (hn : n ≤ 6) : (AN n).length ≤ 46656 := lev_len2 n hn n hn
theorem AN_P (n : Nat) (hn : n ≤ 6) (p : List Int) (h : p ∈ AN n) : isP n p := P_at n hn p h
theorem isS_nat {n : Int} {s : ByteArray} (h : isS n s = true) : ∃ m : Nat, n = m ∧ 3 ≤ m ∧ m ≤ 7 ∧ s.size = (tri m).length ∧ s.size ≤ 35 ∧ (List.range s.size).all (isPM s) = true := by
  obtain ⟨h3, h7, hs, h35⟩ := isS_bounds h
  obtain ⟨m, rfl⟩ := Int.eq_ofNat_of_zero_le (show 0 ≤ n by omega)
  rw [Int.toNat_natCast] at hs
  unfold isS at h
  rw [Bool.and_eq_true] at h
  exact ⟨m, rfl, by omega, by omega, hs, h35, h.2⟩
def texts (n : Nat) (s : ByteArray) : List ByteArray := (AN n).map fun p => pickT n s (inv p)
theorem renamed_yes (n : Nat) (hn : n ≤ 6) (s : ByteArray) (hs : s.size = (tri n).length) (hA : isS n s = true) : Ev (fun k => impl_renamed.f k n s) (texts n s, true) := by
  have hS := impl_AreSigns_ev n s
  rw [hA] at hS
  have hlen := AN_len n hn
  unfold impl_renamed.f
  refine Ev.bind hS (Ev.ite_pos rfl (Ev.step (fun k => impl_renamed.j0.eq_2 ..) (Ev.ite_neg (by simp; omega) (Ev.bind (tableOf_ev n (by omega) s hs) (Ev.bind (allNames_ev n hn) ?_)))))
  have key := Ev.loop (fun i k => impl_renamed.l0 k (tab n s) (((AN n).take i).map fun p => pickT n s (inv p)) (AN n) (AN n).length i) (AN n).length (texts n s, true) ?_ ?_ 0 (by omega)
  · simpa using key
  · refine Ev.step (fun k => impl_renamed.l0.eq_2 ..) (Ev.ite_neg (by omega) (Ev.const ?_))
    rw [List.take_length]
    rfl
  · intro i hi ih
    refine Ev.step (fun k => impl_renamed.l0.eq_2 ..) (Ev.ite_pos (by omega) (Ev.ite_pos (by omega) (Ev.ite_pos (by omega) ?_)))
    rw [rdL _ i hi, wrap_nat i (by omega)]
    rw [List.take_succ_eq_append_getElem hi, List.map_append] at ih
    exact Ev.bind (rename_ev n (by omega) s _ (AN_P n hn _ (List.getElem_mem hi))) (Ev.ite_pos (by simp; omega) ih)
theorem renamed_no (n : Int) (s : ByteArray) (h : isS n s = false ∨ n > 6) : Ev (fun k => impl_renamed.f k n s) ([], false) := by
  have hS := impl_AreSigns_ev n s
  unfold impl_renamed.f
  refine Ev.bind hS ?_
  cases hA : isS n s with
  | false => exact Ev.ite_neg (by simp) (Ev.step (fun k => impl_renamed.j0.eq_2 ..) (Ev.ite_pos rfl (Ev.now _)))
  | true =>
    have h6 : n > 6 := by
      rcases h with h | h
      · rw [hA] at h
        cases h
      · exact h
    exact Ev.ite_pos rfl (Ev.step (fun k => impl_renamed.j0.eq_2 ..) (Ev.ite_pos (by simpa using h6) (Ev.now _)))
theorem fits_ev (n : Int) (s : ByteArray) : Ev (fun k => spec_l19Fits.f k n s) (isS n s && decide (n ≤ 6)) := by
  have hS := spec_AreSigns_ev n s
  unfold spec_l19Fits.f
  refine Ev.bind hS ?_
  cases isS n s with
  | false => exact Ev.ite_neg (by simp) (Ev.now _)
  | true => exact Ev.ite_pos rfl (Ev.now _)
def oppT (s : ByteArray) : ByteArray := strOfNums (oppL s)
theorem opp_impl (s : ByteArray) (h : s.size ≤ 9223372036854775807) : impl_opposite.f s = some (oppT s) := by
  unfold impl_opposite.f oppT
  rw [if_pos h]
theorem oppL_take (s : ByteArray) (i : Nat) : (List.range (i + 1)).map (fun j : Nat => oppI (bt s (j : Int))) = (List.range i).map (fun j : Nat => oppI (bt s (j : Int))) ++ [oppI (bt s (i : Int))] := by
  rw [List.range_succ, List.map_append]
  rfl
theorem opp_spec (n : Nat) (s : ByteArray) (hA : isS n s = true) : Ev (fun k => spec_OppositeSigns.f k n s) ((n : Int), oppT s, true) := by
  have hS := spec_AreSigns_ev n s
  rw [hA] at hS
  obtain ⟨m, hm, h3, h7, hs, h35, hpm⟩ := isS_nat hA
  unfold spec_OppositeSigns.f
  refine Ev.bind hS (Ev.ite_pos rfl ?_)
  have key := Ev.loop (fun i k => spec_OppositeSigns.l0 k i n s n (strOfNums ((List.range i).map fun j : Nat => oppI (bt s (j : Int))))) s.size ((n : Int), oppT s, true) ?_ ?_ 0 (by omega)
  · exact key
  · exact Ev.step (fun k => spec_OppositeSigns.l0.eq_2 ..) (Ev.ite_neg (by omega) (Ev.now _))
  · intro i hi ih
    rw [oppL_take, strOfNums_append] at ih
    rw [List.all_eq_true] at hpm
    have hp := hpm i (by simpa using hi)
    unfold isPM at hp
    rw [Bool.or_eq_true, beq_iff_eq, beq_iff_eq] at hp
    have hsz : (strOfNums ((List.range i).map fun j : Nat => oppI (bt s (j : Int)))).size = i := by rw [strOfNums_size]; simp
    refine Ev.step (fun k => spec_OppositeSigns.l0.eq_2 ..) (Ev.ite_pos (by omega) (Ev.ite_pos (by omega) ?_))
    rw [wrap_nat i (by omega)]
    rcases hp with hp | hp
    · rw [hp] at ih ⊢
      exact Ev.bind0 (a := 0) rfl (Ev.bind0 (l3Byte_eq _) (Ev.ite_pos (by rw [hsz, byteS_size]; omega) ih))
    · rw [hp] at ih ⊢
      exact Ev.bind0 (a := 1) rfl (Ev.bind0 (l3Byte_eq _) (Ev.ite_pos (by rw [hsz, byteS_size]; omega) ih))
theorem bt_strOf (L : List Int) (j : Nat) (hj : j < L.length) (h : 0 ≤ L[j] ∧ L[j] < 256) : bt (strOfNums L) (j : Int) = L[j] := by
  unfold bt
  have hs : (strOfNums L).size = L.length := strOfNums_size L
  rw [dif_pos (by rw [Int.toNat_natCast, hs]; exact hj)]
  simp only [Int.toNat_natCast]
  have e : (strOfNums L)[j]'(by rw [hs]; exact hj) = UInt8.ofNat (L[j]).toNat := by
    show (strOfNums L).data[j]'_ = _
    simp [strOfNums]
  rw [e, UInt8.toNat_ofNat']
  omega
theorem src_lt : ∀ (ts : List T3) (m : Nat) (x y z : Int) (q : Nat) (b : Bool), src ts m x y z = some (q, b) → q < m + ts.length
  | [], m, x, y, z, q, b, h => by simp [src] at h
  | t :: ts, m, x, y, z, q, b, h => by
    rw [src] at h
    rw [List.length_cons]
    cases hs : src ts (m + 1) x y z with
    | some p =>
      rw [hs] at h
      obtain ⟨q', b'⟩ := p
      have := src_lt ts (m + 1) x y z q' b' hs
      simp at h
      omega
    | none =>
      rw [hs] at h
      cases hp : par t x y z with
      | none => rw [hp] at h; simp at h
      | some c =>
        rw [hp] at h
        simp at h
        omega
theorem sgAt_opp (s : ByteArray) (h : (List.range s.size).all (isPM s) = true) (m : Nat) (hm : m < s.size) : sgAt (oppT s) m = -sgAt s m := by
  have hl : (oppL s).length = s.size := by simp [oppL]
  have e0 : (oppL s)[m]'(by omega) = oppI (bt s (m : Int)) := by simp [oppL]
  rw [List.all_eq_true] at h
  have hp := h m (by simpa using hm)
  unfold isPM at hp
  rw [Bool.or_eq_true, beq_iff_eq, beq_iff_eq] at hp
  have e : bt (oppT s) (m : Int) = oppI (bt s (m : Int)) := by
    unfold oppT
    rw [bt_strOf _ _ (by omega) (by rw [e0]; rcases hp with hp | hp <;> rw [hp] <;> decide), e0]
  unfold sgAt
  rw [e]
  rcases hp with hp | hp <;> rw [hp] <;> decide
theorem sgAt_pm (s : ByteArray) (m : Nat) : sgAt s m = 1 ∨ sgAt s m = -1 := by
  unfold sgAt
  split
  · exact .inr rfl
  · exact .inl rfl
theorem sg_opp (n : Nat) (s : ByteArray) (hs : s.size = (tri n).length) (h : (List.range s.size).all (isPM s) = true) (x y z : Int) : sg n (oppT s) x y z = -sg n s x y z := by
  unfold sg
  cases hr : src (tri n) 0 x y z with
  | none => rfl
  | some p =>
    obtain ⟨q, b⟩ := p
    have hq := src_lt _ _ _ _ _ _ _ hr
    have e := sgAt_opp s h q (by omega)
    cases b with
    | true => exact e
    | false =>
      show wrap64 (-sgAt (oppT s) q) = -wrap64 (-sgAt s q)
      rw [e]
      rcases sgAt_pm s q with h | h <;> rw [h] <;> decide +kernel
theorem oppL_str (L : List Int) (h : ∀ x ∈ L, 0 ≤ x ∧ x < 256) : oppL (strOfNums L) = L.map oppI := by
  unfold oppL
  rw [strOfNums_size]
  apply List.ext_getElem
  · simp
  · intro i h1 h2
    have hi : i < L.length := by simpa using h2
    simp only [List.getElem_map, List.getElem_range]
    rw [bt_strOf L i hi (h _ (List.getElem_mem hi))]
theorem pick_opp (n : Nat) (hn : n ≤ 7) (s : ByteArray) (hs : s.size = (tri n).length) (h : (List.range s.size).all (isPM s) = true) (q : List Int) (hq : isP n q) : pickT n (oppT s) q = oppT (pickT n s q) := by
  unfold oppT
  rw [show pickT n s q = strOfNums (pickC n s q) from rfl, oppL_str _ (fun x hx => by
    unfold pickC at hx
    obtain ⟨t, _, rfl⟩ := List.mem_map.1 hx
    unfold pm
    split <;> decide)]
  show strOfNums (pickC n (oppT s) q) = _
  congr 1
  unfold pickC
  rw [List.map_map]
  apply List.map_congr_left
  intro t ht
  obtain ⟨a, b, c, rfl, hab, hbc, hcn⟩ := tri_mem n hn t ht
  show pm (sg n (oppT s) _ _ _) = oppI (pm (sg n s _ _ _))
  rw [sg_opp n s hs h]
  obtain ⟨_, _, hp⟩ := hq
  obtain ⟨⟨a0, a1, _, _⟩, _⟩ := hp a (by omega)
  obtain ⟨⟨b0, b1, _, _⟩, _⟩ := hp b (by omega)
  obtain ⟨⟨c0, c1, _, _⟩, _⟩ := hp c (by omega)
  have n1 := perm_ne n q ⟨‹_›, ‹_›, hp⟩ a b (by omega) (by omega) (by omega)
  have n2 := perm_ne n q ⟨‹_›, ‹_›, hp⟩ b c (by omega) (by omega) (by omega)
  have n3 := perm_ne n q ⟨‹_›, ‹_›, hp⟩ a c (by omega) (by omega) (by omega)
  dsimp only
  obtain ⟨a', ea⟩ := Int.eq_ofNat_of_zero_le a0
  obtain ⟨b', eb⟩ := Int.eq_ofNat_of_zero_le b0
  obtain ⟨c', ec⟩ := Int.eq_ofNat_of_zero_le c0
  rw [ea, eb] at n1
  rw [eb, ec] at n2
  rw [ea, ec] at n3
  rw [ea, eb, ec]
  rcases sg_pm n hn s a' b' c' (by omega) (by omega) (by omega) (by omega) (by omega) (by omega) with h | h <;> rw [h] <;> decide
theorem toS_list (s : ByteArray) : s.toList = toS s := Lib.toList_data s
theorem toS_inj {a b : ByteArray} (h : toS a = toS b) : a = b := by
  have := congrArg ofS h
  rwa [ofS_toS, ofS_toS] at this
theorem less_toS (a b : ByteArray) : Op.bytesLess a.toList b.toList = decide (toS a < toS b) := by
  rw [bytesLess_eq, toS_list, toS_list]
def putB : List ByteArray → ByteArray → List ByteArray
  | [], x => [x]
  | y :: r, x => if toS y < toS x then y :: putB r x else if toS y = toS x then y :: r else x :: y :: r
theorem putB_len : ∀ (S : List ByteArray) (x : ByteArray), (putB S x).length ≤ S.length + 1
  | [], x => by simp [putB]
  | y :: r, x => by
    unfold putB
    have := putB_len r x
    split
    · simp only [List.length_cons]; omega
    · split <;> simp only [List.length_cons] <;> omega
theorem putB_mem : ∀ (S : List ByteArray) (x z : ByteArray), z ∈ putB S x ↔ z = x ∨ z ∈ S
  | [], x, z => by simp [putB]
  | y :: r, x, z => by
    unfold putB
    split
    · rw [List.mem_cons, putB_mem r x z, List.mem_cons]
      constructor
      · rintro (h | h | h) <;> simp [h]
      · rintro (h | h | h) <;> simp [h]
    · split
      · rename_i _ h2
        have e := toS_inj h2
        subst e
        simp
      · simp
def ascB (S : List ByteArray) : Prop := S.Pairwise fun a b => toS a < toS b
theorem putB_asc : ∀ (S : List ByteArray) (x : ByteArray), ascB S → ascB (putB S x)
  | [], x, h => by simp [putB, ascB]
  | y :: r, x, h => by
    obtain ⟨h1, h2⟩ := List.pairwise_cons.1 h
    unfold putB
    split
    · rename_i hlt
      refine List.pairwise_cons.2 ⟨fun z hz => ?_, putB_asc r x h2⟩
      rcases (putB_mem r x z).1 hz with rfl | hz
      · exact hlt
      · exact h1 z hz
    · rename_i hlt
      split
      · exact h
      · rename_i hne
        have hx : toS x < toS y := by
          rcases Decidable.em (toS x < toS y) with h | h
          · exact h
          · exact absurd (List.le_antisymm (List.not_lt.1 h) (List.not_lt.1 hlt)) hne
        refine List.pairwise_cons.2 ⟨fun z hz => ?_, h⟩
        rcases List.mem_cons.1 hz with rfl | hz
        · exact hx
        · exact List.lt_trans hx (h1 z hz)
theorem rdB (S : List ByteArray) (i : Nat) (h : i < S.length) : rdOf ByteArray.empty S (i : Int) = S[i] := by
  unfold rdOf
  rw [Int.toNat_natCast, getD_lt _ _ _ h]
theorem l19Put_from (S : List ByteArray) (x : ByteArray) (hS : S.length ≤ 1000000) : ∀ d i, i + d = S.length → Ev (fun k => spec_l19Put.l0 k S x (i : Nat)) (S.take i ++ putB (S.drop i) x)
  | 0, i, hi => by
    refine Ev.step (fun k => spec_l19Put.l0.eq_2 ..) (Ev.ite_neg (by omega) (Ev.bind0 rfl (Ev.ite_pos (by omega) (Ev.ite_pos (by omega) (Ev.bind0 rfl (Ev.ite_pos (by simp; omega) (Ev.bind0 rfl ?_)))))))
    refine Ev.bind0 rfl (Ev.ite_pos (by simp; omega) (Ev.bind0 rfl (Ev.ite_pos (by simp; omega) (Ev.const ?_))))
    rw [Int.toNat_natCast, List.drop_of_length_le (by omega)]
    simp [putB]
  | d + 1, i, hi => by
    have hil : i < S.length := by omega
    refine Ev.step (fun k => spec_l19Put.l0.eq_2 ..) (Ev.ite_pos (by omega) (Ev.ite_pos (by omega) ?_))
    rw [rdB S i hil, less_toS, toS_list, toS_list, List.drop_eq_getElem_cons hil, putB]
    by_cases h1 : toS S[i] < toS x
    · rw [if_pos h1]
      refine Ev.ite_pos (decide_eq_true h1) ?_
      rw [wrap_nat i (by omega)]
      have h := l19Put_from S x hS d (i + 1) (by omega)
      rw [List.take_succ_eq_append_getElem hil, List.append_assoc] at h
      exact h
    · rw [if_neg h1]
      refine Ev.ite_neg (by simpa using h1) ?_
      by_cases h2 : toS S[i] = toS x
      · rw [if_pos h2, if_pos h2]
        refine Ev.const ?_
        rw [← List.drop_eq_getElem_cons hil, List.take_append_drop]
      · rw [if_neg h2, if_neg h2]
        refine (Ev.bind0 rfl (Ev.ite_pos (by omega) (Ev.bind0 rfl (Ev.ite_pos (by simp; omega) (Ev.bind0 rfl ?_)))))
        refine Ev.bind0 rfl (Ev.ite_pos (by simp; omega) (Ev.bind0 rfl (Ev.ite_pos (by simp; omega) (Ev.const ?_))))
        rw [Int.toNat_natCast, ← List.drop_eq_getElem_cons hil]
        simp
theorem l19Put_ev (S : List ByteArray) (x : ByteArray) (hS : S.length ≤ 1000000) : Ev (fun k => spec_l19Put.f k S x) (putB S x) := l19Put_from S x hS S.length 0 (by omega)
theorem sortS_toS (l : List ByteArray) : (sortS l).map toS = (l.map toS).mergeSort fun x y => decide (x ≤ y) := by
  unfold sortS
  rw [List.map_map]
  exact List.map_id _
theorem sorted_le (l : List (List UInt8)) : (l.mergeSort fun x y => decide (x ≤ y)).Pairwise (· ≤ ·) := by
  have := List.pairwise_mergeSort (le := fun x y : List UInt8 => decide (x ≤ y)) (fun a b c h1 h2 => by simp at *; exact List.le_trans h1 h2) (fun a b => by simp; exact List.le_total a b) l
  exact this.imp (fun h => of_decide_eq_true h)
theorem asc_unique {A B : List ByteArray} (hA : ascB A) (hB : ascB B) (h : ∀ z, z ∈ A ↔ z ∈ B) : A = B := by
  have nA : A.Nodup := by
    refine hA.imp ?_
    intro a b hlt e
    subst e
    exact List.lt_irrefl _ hlt
  have nB : B.Nodup := by
    refine hB.imp ?_
    intro a b hlt e
    subst e
    exact List.lt_irrefl _ hlt
  have hp : A.Perm B := (List.perm_ext_iff_of_nodup nA nB).2 h
  exact List.Perm.eq_of_pairwise (le := fun a b => toS a < toS b) (fun a b _ _ h1 h2 => absurd h2 (List.lt_asymm h1)) hA hB hp
theorem compact_spec (zs : List (List UInt8)) (hz : zs.Pairwise (· ≤ ·)) : ∀ m, m ≤ zs.length → (∀ z, z ∈ Lib.compactUpTo zs.toArray m ↔ z ∈ zs.take m) ∧ (Lib.compactUpTo zs.toArray m).Pairwise (· < ·) ∧ (∀ z ∈ Lib.compactUpTo zs.toArray m, ∀ h : 0 < m, z ≤ zs[m - 1]!)
  | 0, _ => ⟨fun z => by simp [Lib.compactUpTo], by simp [Lib.compactUpTo], fun z hz h => absurd h (Nat.lt_irrefl _)⟩
  | m + 1, hm => by
    obtain ⟨h1, h2, h3⟩ := compact_spec zs hz m (by omega)
    have hml : m < zs.length := by omega
    have e0 : zs.toArray[m]! = zs[m] := by rw [getElem!_pos _ _ (by simpa using hml)]; simp
    rw [Lib.compactUpTo_succ, List.take_succ_eq_append_getElem hml, Nat.add_sub_cancel, getElem!_pos zs m hml]
    have hprev : ∀ h : 0 < m, zs[m - 1]! ≤ zs[m] := fun h => by
      rw [getElem!_pos zs (m - 1) (by omega)]
      exact List.pairwise_iff_getElem.1 hz (m - 1) m (by omega) hml (by omega)
    by_cases hk : m = 0 ∨ zs.toArray[m]! ≠ zs.toArray[m - 1]!
    · have hkt : Lib.keeps zs.toArray m = true := decide_eq_true hk
      rw [if_pos hkt, e0]
      refine ⟨fun z => by rw [List.mem_append, List.mem_append, h1 z], ?_, ?_⟩
      · rw [List.pairwise_append]
        refine ⟨h2, List.pairwise_singleton _ _, fun a ha b hb => ?_⟩
        rw [List.mem_singleton.1 hb]
        rcases hk with hk | hk
        · subst hk
          simp [Lib.compactUpTo] at ha
        · have hm0 : 0 < m := by
            rcases Nat.eq_zero_or_pos m with h | h
            · subst h; exact absurd rfl hk
            · exact h
          have e1 : zs.toArray[m - 1]! = zs[m - 1]! := by simp
          rw [e0, e1] at hk
          have ha2 := h3 a ha hm0
          rcases Decidable.em (a < zs[m]) with h | h
          · exact h
          · have h4 := List.not_lt.1 h
            exact absurd (List.le_antisymm (List.le_trans h4 ha2) (hprev hm0)) hk
      · intro z hz2 _
        rcases List.mem_append.1 hz2 with h | h
        · rcases Nat.eq_zero_or_pos m with h0 | h0
          · subst h0
            simp [Lib.compactUpTo] at h
          · exact List.le_trans (h3 z h h0) (hprev h0)
        · rw [List.mem_singleton.1 h]
          exact List.le_refl _
    · have hkf : Lib.keeps zs.toArray m = false := decide_eq_false hk
      have hm0 : 0 < m := Nat.pos_of_ne_zero fun h => hk (.inl h)
      have he : zs.toArray[m]! = zs.toArray[m - 1]! := Decidable.not_not.1 fun h => hk (.inr h)
      have e1 : zs.toArray[m - 1]! = zs[m - 1]! := by simp
      rw [e0, e1] at he
      rw [if_neg (by rw [hkf]; simp), List.append_nil]
      refine ⟨fun z => ?_, h2, fun z hz2 _ => List.le_trans (h3 z hz2 hm0) (hprev hm0)⟩
      rw [List.mem_append, h1 z, List.mem_singleton]
      constructor
      · exact .inl
      · rintro (h | h)
        · exact h
        · rw [h, he, getElem!_pos zs (m - 1) (by omega)]
          exact List.mem_iff_getElem.2 ⟨m - 1, by rw [List.length_take]; omega, by rw [List.getElem_take]⟩
theorem compS_spec (l : List ByteArray) : ((compS (sortS l)).map toS).Pairwise (· < ·) ∧ ∀ z, z ∈ compS (sortS l) ↔ z ∈ l := by
  have e : (compS (sortS l)).map toS = Lib.compact ((l.map toS).mergeSort fun x y => decide (x ≤ y)) := by
    unfold compS
    rw [List.map_map, sortS_toS]
    exact List.map_id _
  obtain ⟨h1, h2, _⟩ := compact_spec _ (sorted_le (l.map toS)) _ (Nat.le_refl _)
  refine ⟨by rw [e]; exact h2, fun z => ?_⟩
  have hz : z ∈ compS (sortS l) ↔ toS z ∈ (compS (sortS l)).map toS := by
    rw [List.mem_map]
    constructor
    · intro h; exact ⟨z, h, rfl⟩
    · rintro ⟨y, hy, e⟩
      rw [← toS_inj e]
      exact hy
  rw [hz, e]
  have h3 := h1 (toS z)
  rw [List.take_length, List.mem_mergeSort] at h3
  refine h3.trans ?_
  rw [List.mem_map]
  constructor
  · rintro ⟨y, hy, e⟩
    rw [← toS_inj e]
    exact hy
  · intro h; exact ⟨z, h, rfl⟩
theorem compS_asc (l : List ByteArray) : ascB (compS (sortS l)) := List.pairwise_map.1 (compS_spec l).1
theorem mnT_eq (x y : ByteArray) : mnT x y = if toS y < toS x then y else x := by
  unfold mnT
  rw [less_toS, toS_list, toS_list]
  by_cases h : toS y < toS x
  · rw [if_pos h, if_neg]
    rw [Bool.or_eq_true, decide_eq_true_eq, beq_iff_eq]
    rintro (h2 | h2)
    · exact List.lt_asymm h h2
    · rw [h2] at h
      exact List.lt_irrefl _ h
  · rw [if_neg h, if_pos]
    rw [Bool.or_eq_true, decide_eq_true_eq, beq_iff_eq]
    rcases Decidable.em (toS x < toS y) with h2 | h2
    · exact .inl h2
    · exact .inr (List.le_antisymm (List.not_lt.1 h) (List.not_lt.1 h2))
def minL : ByteArray → List ByteArray → ByteArray
  | b, [] => b
  | b, x :: r => minL (mnT b x) r
theorem mnT_or (x y : ByteArray) : mnT x y = x ∨ mnT x y = y := by
  rw [mnT_eq]
  split
  · exact .inr rfl
  · exact .inl rfl
theorem mnT_le (x y : ByteArray) : toS (mnT x y) ≤ toS x ∧ toS (mnT x y) ≤ toS y := by
  rw [mnT_eq]
  by_cases h : toS y < toS x
  · rw [if_pos h]
    exact ⟨List.le_of_lt h, List.le_refl _⟩
  · rw [if_neg h]
    exact ⟨List.le_refl _, List.not_lt.1 h⟩
theorem minL_spec : ∀ (l : List ByteArray) (b : ByteArray), minL b l ∈ b :: l ∧ ∀ z ∈ b :: l, toS (minL b l) ≤ toS z
  | [], b => ⟨List.mem_cons_self, fun z hz => by simp at hz; subst hz; exact List.le_refl _⟩
  | x :: r, b => by
    obtain ⟨h1, h2⟩ := minL_spec r (mnT b x)
    obtain ⟨l1, l2⟩ := mnT_le b x
    have h3 := h2 _ List.mem_cons_self
    refine ⟨?_, fun z hz => ?_⟩
    · rw [minL]
      rcases List.mem_cons.1 h1 with h | h
      · rw [h]
        rcases mnT_or b x with e | e <;> rw [e] <;> simp
      · exact List.mem_cons_of_mem _ (List.mem_cons_of_mem _ h)
    · rw [minL]
      rcases List.mem_cons.1 hz with rfl | hz
      · exact List.le_trans h3 l1
      · rcases List.mem_cons.1 hz with rfl | hz
        · exact List.le_trans h3 l2
        · exact h2 z (List.mem_cons_of_mem _ hz)
theorem minL_unique (b c : ByteArray) (l m : List ByteArray) (h : ∀ z, z ∈ b :: l ↔ z ∈ c :: m) : minL b l = minL c m := by
  obtain ⟨h1, h2⟩ := minL_spec l b
  obtain ⟨k1, k2⟩ := minL_spec m c
  exact toS_inj (List.le_antisymm (h2 _ ((h _).2 k1)) (k2 _ ((h _).1 h1)))
def idL (n : Nat) : List Int := (List.range n).map fun i : Nat => (i : Int)
theorem id_all : (List.range 7).all (fun n => (AN n).contains (idL n)) = true := by decide +kernel
theorem id_mem (n : Nat) (hn : n ≤ 6) : idL n ∈ AN n := by
  have h := id_all
  rw [List.all_eq_true] at h
  have h := h n (by simp; omega)
  simpa using h
theorem rd_idL (n a : Nat) (ha : a < n) : rd (idL n) (a : Int) = a := by
  unfold rd idL
  rw [Int.toNat_natCast, getD_lt _ _ _ (by simpa using ha)]
  simp
theorem bt_get (s : ByteArray) (m : Nat) (hm : m < s.size) : bt s (m : Int) = ((s.data.toList[m]'hm).toNat : Int) := by
  unfold bt
  rw [dif_pos (by simpa using hm)]
  rfl
theorem pick_id (n : Nat) (hn : n ≤ 6) (s : ByteArray) (hs : s.size = (tri n).length) (h : (List.range s.size).all (isPM s) = true) : pickT n s (idL n) = s := by
  have hL : pickC n s (idL n) = (List.range s.size).map fun m : Nat => bt s (m : Int) := by
    apply List.ext_getElem
    · simp [pickC, hs]
    · intro m h1 h2
      have hm : m < (tri n).length := by simpa [pickC] using h1
      simp only [pickC, List.getElem_map, List.getElem_range]
      obtain ⟨a, b, c, e, hab, hbc, hcn⟩ := tri_mem n (by omega) _ (List.getElem_mem hm)
      have ht := tab_tri n (by omega) s m hm
      rw [e] at ht ⊢
      dsimp only at ht ⊢
      rw [rd_idL n a (by omega), rd_idL n b (by omega), rd_idL n c (by omega), ← tab_at n (by omega) s a b c (by omega) (by omega) (by omega), ht]
      rw [List.all_eq_true] at h
      have hp := h m (by simpa using (by omega : m < s.size))
      unfold isPM at hp
      rw [Bool.or_eq_true, beq_iff_eq, beq_iff_eq] at hp
      unfold sgAt
      rcases hp with hp | hp <;> rw [hp] <;> decide
  unfold pickT
  rw [hL]
  apply toS_inj
  unfold toS strOfNums
  rw [List.map_map]
  show List.map _ _ = _
  apply List.ext_getElem
  · rw [List.length_map, List.length_range]
    rfl
  · intro m h1 h2
    have hm : m < s.size := by simpa using h1
    simp only [List.getElem_map, List.getElem_range, Function.comp]
    rw [bt_get s m hm, Int.toNat_natCast]
    exact UInt8.ofNat_toNat
theorem spec_least (n : Nat) (hn : n ≤ 6) (s t : ByteArray) (hs : s.size = (tri n).length) (ht : t.size = (tri n).length) : ∀ d i, i + d = (AN n).length → ∀ b : ByteArray,
    Ev (fun k => spec_LeastSigns.l0 k (AN n) (i : Nat) n s n t n b) ((n : Int), minL b (((AN n).drop i).flatMap fun q => [pickT n s q, pickT n t q]), true)
  | 0, i, hi, b => by
    rw [List.drop_of_length_le (by omega)]
    exact Ev.step (fun k => spec_LeastSigns.l0.eq_2 ..) (Ev.ite_neg (by omega) (Ev.now _))
  | d + 1, i, hi, b => by
    have hl := AN_len n hn
    have hil : i < (AN n).length := by omega
    have hp := AN_P n hn _ (List.getElem_mem hil)
    have ih := spec_least n hn s t hs ht d (i + 1) (by omega) (mnT (mnT b (pickT n s (AN n)[i])) (pickT n t (AN n)[i]))
    have hj : ∀ c : ByteArray, mnT b (pickT n s (AN n)[i]) = c → Ev (fun k => spec_LeastSigns.j1 k (AN n) (i : Nat) n s n t n c n (pickT n t (AN n)[i])) ((n : Int), minL b (((AN n).drop i).flatMap fun q => [pickT n s q, pickT n t q]), true) := fun c hc => by
      rw [hc] at ih
      rw [List.drop_eq_getElem_cons hil, List.flatMap_cons]
      show Ev _ ((n : Int), minL (mnT (mnT b (pickT n s (AN n)[i])) (pickT n t (AN n)[i])) _, true)
      rw [hc]
      refine Ev.step (fun k => spec_LeastSigns.j1.eq_2 ..) ?_
      rw [wrap_nat i (by omega), less_toS]
      by_cases h : toS (pickT n t (AN n)[i]) < toS c
      · have e : mnT c (pickT n t (AN n)[i]) = pickT n t (AN n)[i] := by rw [mnT_eq, if_pos h]
        rw [e] at ih ⊢
        exact Ev.ite_pos (decide_eq_true h) ih
      · have e : mnT c (pickT n t (AN n)[i]) = c := by rw [mnT_eq, if_neg h]
        rw [e] at ih ⊢
        exact Ev.ite_neg (by simpa using h) ih
    refine Ev.step (fun k => spec_LeastSigns.l0.eq_2 ..) (Ev.ite_pos (by omega) (Ev.ite_pos (by omega) ?_))
    rw [rdL _ i hil]
    refine Ev.bind (pick_ev n (by omega) s hs _ hp) (Ev.bind (pick_ev n (by omega) t ht _ hp) ?_)
    dsimp only
    rw [less_toS]
    by_cases h : toS (pickT n s (AN n)[i]) < toS b
    · exact Ev.ite_pos (decide_eq_true h) (hj _ (by rw [mnT_eq, if_pos h]))
    · exact Ev.ite_neg (by simpa using h) (hj _ (by rw [mnT_eq, if_neg h]))
theorem impl_least (L : List ByteArray) (hL : L.length ≤ 100000) (hz : ∀ x ∈ L, x.size ≤ 9223372036854775807) (n : Int) (s : ByteArray) : ∀ d i, i + d = L.length → ∀ b : ByteArray,
    Ev (fun k => impl_LeastSigns.l0 k b L (L.length : Int) (i : Nat) n s) (n, minL b ((L.drop i).flatMap fun x => [x, oppT x]), true)
  | 0, i, hi, b => by
    rw [List.drop_of_length_le (by omega)]
    exact Ev.step (fun k => impl_LeastSigns.l0.eq_2 ..) (Ev.ite_neg (by omega) (Ev.now _))
  | d + 1, i, hi, b => by
    have hil : i < L.length := by omega
    rw [List.drop_eq_getElem_cons hil, List.flatMap_cons]
    refine Ev.step (fun k => impl_LeastSigns.l0.eq_2 ..) (Ev.ite_pos (by omega) (Ev.ite_pos (by omega) (Ev.ite_pos (by omega) ?_)))
    rw [rdB L i hil, wrap_nat i (by omega)]
    exact Ev.bind0 (opp_impl _ (hz _ (List.getElem_mem hil))) (impl_least L hL hz n s d (i + 1) (by omega) _)
theorem oppT_sizeL (s : ByteArray) : (oppT s).size = s.size := by
  unfold oppT
  rw [strOfNums_size]
  simp [oppL]
theorem least_both (n : Int) (s : ByteArray) (hz : s.size ≤ 9223372036854775807) : ∃ v : Int × ByteArray × Bool, Ev (fun k => spec_LeastSigns.f k n s) v ∧ Ev (fun k => impl_LeastSigns.f k n s) v := by
  unfold spec_LeastSigns.f impl_LeastSigns.f
  have hF := fits_ev n s
  by_cases hA : isS n s = true ∧ n ≤ 6
  · obtain ⟨m, rfl, h3, h7, hs, h35, hpm⟩ := isS_nat hA.1
    have hn : m ≤ 6 := by omega
    rw [hA.1, decide_eq_true hA.2] at hF
    have hl := AN_len m hn
    have hlt : (texts m s).length = (AN m).length := by unfold texts; rw [List.length_map]
    have hpos : 0 < (AN m).length := List.length_pos_of_mem (id_mem m hn)
    have h1 := spec_least m hn s (oppT s) hs (by rw [oppT_sizeL]; exact hs) (AN m).length 0 (by omega) s
    have hsz : ∀ x ∈ texts m s, x.size ≤ 9223372036854775807 := fun x hx => by
      obtain ⟨p, _, rfl⟩ := List.mem_map.1 hx
      show (strOfNums (pickC m s (inv p))).size ≤ _
      rw [strOfNums_size, pickC, List.length_map]
      omega
    have h2 := impl_least (texts m s) (by omega) hsz m s (texts m s).length 0 (by omega) (rdOf ByteArray.empty (texts m s) 0)
    have e0 : rdOf ByteArray.empty (texts m s) 0 ∈ texts m s := by
      have := rdB (texts m s) 0 (by omega)
      rw [show ((0 : Nat) : Int) = 0 from rfl] at this
      rw [this]
      exact List.getElem_mem _
    have e : minL s ((AN m).flatMap fun q => [pickT m s q, pickT m (oppT s) q]) = minL (rdOf ByteArray.empty (texts m s) 0) ((texts m s).flatMap fun x => [x, oppT x]) := by
      refine minL_unique _ _ _ _ (fun z => ?_)
      have hL : z ∈ s :: ((AN m).flatMap fun q => [pickT m s q, pickT m (oppT s) q]) ↔ ∃ q ∈ AN m, z = pickT m s q ∨ z = pickT m (oppT s) q := by
        rw [List.mem_cons, List.mem_flatMap]
        constructor
        · rintro (h | ⟨q, hq, h⟩)
          · exact ⟨idL m, id_mem m hn, .inl (by rw [pick_id m hn s hs hpm]; exact h)⟩
          · exact ⟨q, hq, by simpa using h⟩
        · rintro ⟨q, hq, h⟩
          exact .inr ⟨q, hq, by simpa using h⟩
      have hR : z ∈ rdOf ByteArray.empty (texts m s) 0 :: ((texts m s).flatMap fun x => [x, oppT x]) ↔ ∃ x ∈ texts m s, z = x ∨ z = oppT x := by
        rw [List.mem_cons, List.mem_flatMap]
        constructor
        · rintro (h | ⟨q, hq, h⟩)
          · exact ⟨_, e0, .inl h⟩
          · exact ⟨q, hq, by simpa using h⟩
        · rintro ⟨q, hq, h⟩
          exact .inr ⟨q, hq, by simpa using h⟩
      rw [hL, hR]
      constructor
      · rintro ⟨q, hq, h⟩
        obtain ⟨p, hp, e⟩ := List.mem_map.1 ((inv_all m hn).mem_iff.2 hq)
        refine ⟨pickT m s q, List.mem_map.2 ⟨p, hp, by rw [e]⟩, ?_⟩
        rw [pick_opp m (by omega) s hs hpm q (AN_P m hn q hq)] at h
        exact h
      · rintro ⟨x, hx, h⟩
        obtain ⟨p, hp, rfl⟩ := List.mem_map.1 hx
        refine ⟨inv p, inv_mem m hn p hp, ?_⟩
        rw [pick_opp m (by omega) s hs hpm _ (AN_P m hn _ (inv_mem m hn p hp))]
        exact h
    rw [List.drop_zero, e] at h1
    rw [List.drop_zero] at h2
    exact ⟨_, Ev.bind hF (Ev.ite_pos rfl (Ev.bind (opp_spec m s hA.1) (Ev.bind (orders_ev m hn) h1))), Ev.bind (renamed_yes m hn s hs hA.1) (Ev.ite_pos rfl (Ev.ite_pos (by dsimp only; omega) h2))⟩
  · have hb : (isS n s && decide (n ≤ 6)) = false := by
      cases h1 : isS n s with
      | false => rfl
      | true => rw [Bool.true_and, decide_eq_false_iff_not]; exact fun h => hA ⟨h1, h⟩
    rw [hb] at hF
    exact ⟨(0, (⟨#[]⟩ : ByteArray), false), Ev.bind hF (Ev.ite_neg (by simp) (Ev.now _)), Ev.bind (renamed_no n s (by cases h1 : isS n s with | false => exact .inl rfl | true => exact .inr (Int.not_le.mp fun h => hA ⟨h1, h⟩))) (Ev.ite_neg (by simp) (Ev.now _))⟩
end Go.Proofs.Ytoajlmlobaccdaa.Pure
namespace Go.Proofs.Ytoajlmlobaccdaa.Pure
set_option linter.unusedSimpArgs false
set_option linter.unusedVariables false
set_option maxRecDepth 100000
open Go.RowKit Go.Proofs.YtoajlmlobaccdaaW.PrintWords Go.Proofs.Ytoajlmlobaccdaa.P Go.Proofs.Ytoajlmlobaccdaa.Pl
def comp (q p : List Int) : List Int := p.map fun a => rd q a
theorem rd_comp (q p : List Int) (i : Nat) (h : i < p.length) : rd (comp q p) (i : Int) = rd q (rd p (i : Int)) := by
  unfold comp
  have e : ∀ l : List Int, ∀ (h : i < l.length), rd l (i : Int) = l[i] := fun l h => by
    unfold rd
    rw [Int.toNat_natCast, getD_lt _ _ _ h]
  rw [e _ (by rw [List.length_map]; exact h), e p h]
  simp
theorem rdIdx (l : List Int) (i : Nat) (h : i < l.length) : rd l (i : Int) = l[i] := by
  unfold rd
  rw [Int.toNat_natCast, getD_lt _ _ _ h]
theorem lev_of (n : Nat) : ∀ (k : Nat) (l : List Int), l.length = k → (∀ x ∈ l, 0 ≤ x ∧ x < (n : Int)) → l.Nodup → l ∈ lev n k
  | 0, l, hl, _, _ => by
    obtain rfl := List.eq_nil_of_length_eq_zero hl
    exact List.mem_singleton.2 rfl
  | k + 1, l, hl, hr, hn => by
    have hne : l ≠ [] := fun e => by rw [e] at hl; cases hl
    have e := (List.dropLast_concat_getLast hne).symm
    obtain ⟨l', hl'⟩ : ∃ l', l' = l.dropLast := ⟨_, rfl⟩
    obtain ⟨x, hx⟩ : ∃ x, x = l.getLast hne := ⟨_, rfl⟩
    rw [← hl', ← hx] at e
    subst e
    have hlen : l'.length = k := by rw [List.length_append, List.length_singleton] at hl; omega
    obtain ⟨n1, n2, n3⟩ := List.nodup_append.1 hn
    have ih := lev_of n k l' hlen (fun y hy => hr y (List.mem_append_left _ hy)) n1
    have hx2 := hr x (List.mem_append_right _ List.mem_cons_self)
    rw [lev, List.mem_flatMap]
    refine ⟨l', ih, ?_⟩
    unfold nxt
    refine List.mem_map.2 ⟨x.toNat, List.mem_filter.2 ⟨List.mem_range.2 (by omega), ?_⟩, by rw [Int.toNat_of_nonneg hx2.1]⟩
    rw [Int.toNat_of_nonneg hx2.1, Bool.not_eq_true']
    unfold inL
    rw [List.any_eq_false]
    intro j hj
    have hj : j < l'.length := by simpa using hj
    rw [rdIdx l' j hj, beq_iff_eq]
    intro e2
    exact n3 _ (List.getElem_mem hj) x List.mem_cons_self e2.symm
theorem comp_mem (n : Nat) (h3 : 3 ≤ n) (h5 : n ≤ 5) (q p : List Int) (hq : q ∈ AN n) (hp : p ∈ AN n) : comp q p ∈ AN n := by
  have hP := AN_P n (by omega) p hp
  have hQ := AN_P n (by omega) q hq
  have hl : p.length = n := hP.1
  have el : (comp q p).length = n := by unfold comp; rw [List.length_map, hl]
  have at_ : ∀ i (hi : i < n), ∃ a : Nat, rd p (i : Int) = a ∧ a < n ∧ (comp q p)[i]'(by omega) = rd q (a : Int) := fun i hi => by
    have h1 := (hP.2.2 i hi).1
    obtain ⟨a, ha⟩ := Int.eq_ofNat_of_zero_le h1.1
    refine ⟨a, ha, by omega, ?_⟩
    rw [← rdIdx (comp q p) i (by omega), rd_comp q p i (by omega), ha]
  refine lev_of n n (comp q p) el (fun x hx => ?_) (List.pairwise_iff_getElem.2 (fun i j hi hj hij e => ?_))
  · obtain ⟨i, hi, rfl⟩ := List.mem_iff_getElem.1 hx
    obtain ⟨a, _, ha, e⟩ := at_ i (by omega)
    rw [e]
    have := (hQ.2.2 a ha).1
    exact ⟨this.1, this.2.1⟩
  · obtain ⟨a, ha, ha2, ea⟩ := at_ i (by omega)
    obtain ⟨b, hb, hb2, eb⟩ := at_ j (by omega)
    rw [ea, eb] at e
    have hab : a ≠ b := fun h => by
      have h1 := perm_ne n p hP i j (by omega) (by omega) (by omega)
      rw [ha, hb, h] at h1
      exact h1 rfl
    exact perm_ne n q hQ a b ha2 hb2 hab e
def okC (n : Nat) (q : List Int) (x y z : Nat) : Bool := match src (tri n) 0 (x : Int) (y : Int) (z : Int) with
  | some (m, b) => match src (tri n) 0 (rd q ((tri n).getD m ⟨0, 0, 0⟩).f0) (rd q ((tri n).getD m ⟨0, 0, 0⟩).f1) (rd q ((tri n).getD m ⟨0, 0, 0⟩).f2), src (tri n) 0 (rd q (x : Int)) (rd q (y : Int)) (rd q (z : Int)) with
    | some (m1, b1), some (m2, b2) => m1 == m2 && ((b1 == b) == b2) && decide (m < (tri n).length)
    | _, _ => false
  | none => false
theorem all_okC : ([3, 4, 5] : List Nat).all (fun n => (AN n).all fun q => (List.range n).all fun x => (List.range n).all fun y => (List.range n).all fun z => x == y || (y == z || (x == z || okC n q x y z))) = true := by decide +kernel
theorem okC_at (n : Nat) (h3 : 3 ≤ n) (h5 : n ≤ 5) (q : List Int) (hq : q ∈ AN n) (x y z : Nat) (hx : x < n) (hy : y < n) (hz : z < n) (hxy : x ≠ y) (hyz : y ≠ z) (hxz : x ≠ z) : okC n q x y z = true := by
  have h := List.all_eq_true.1 (List.all_eq_true.1 (List.all_eq_true.1 (List.all_eq_true.1 (List.all_eq_true.1 all_okC n (by simp; omega)) q hq) x (by simpa using hx)) y (by simpa using hy)) z (by simpa using hz)
  rw [Bool.or_eq_true, Bool.or_eq_true, Bool.or_eq_true, beq_iff_eq, beq_iff_eq, beq_iff_eq] at h
  rcases h with h | h | h | h
  · exact absurd h hxy
  · exact absurd h hyz
  · exact absurd h hxz
  · exact h
theorem pick_size (n : Nat) (s : ByteArray) (q : List Int) : (pickT n s q).size = (tri n).length := by
  unfold pickT
  rw [strOfNums_size, pickC, List.length_map]
theorem sgAt_pick (n : Nat) (s : ByteArray) (q : List Int) (m : Nat) (hm : m < (tri n).length) : sgAt (pickT n s q) m = if sg n s (rd q (tri n)[m].f0) (rd q (tri n)[m].f1) (rd q (tri n)[m].f2) > 0 then 1 else -1 := by
  have hl : (pickC n s q).length = (tri n).length := by unfold pickC; rw [List.length_map]
  have e0 : (pickC n s q)[m]'(by omega) = pm (sg n s (rd q (tri n)[m].f0) (rd q (tri n)[m].f1) (rd q (tri n)[m].f2)) := by simp [pickC]
  have e : bt (pickT n s q) (m : Int) = pm (sg n s (rd q (tri n)[m].f0) (rd q (tri n)[m].f1) (rd q (tri n)[m].f2)) := by
    unfold pickT
    rw [bt_strOf _ _ (by omega) (by rw [e0]; unfold pm; split <;> decide), e0]
  unfold sgAt
  rw [e]
  unfold pm
  by_cases h : sg n s (rd q (tri n)[m].f0) (rd q (tri n)[m].f1) (rd q (tri n)[m].f2) > 0
  · rw [if_pos h, if_pos h]; rfl
  · rw [if_neg h, if_neg h]; rfl
theorem sg_pick (n : Nat) (h3 : 3 ≤ n) (h5 : n ≤ 5) (s : ByteArray) (q : List Int) (hq : q ∈ AN n) (x y z : Nat) (hx : x < n) (hy : y < n) (hz : z < n) (hxy : x ≠ y) (hyz : y ≠ z) (hxz : x ≠ z) : sg n (pickT n s q) x y z = sg n s (rd q (x : Int)) (rd q (y : Int)) (rd q (z : Int)) := by
  have h := okC_at n h3 h5 q hq x y z hx hy hz hxy hyz hxz
  unfold okC at h
  unfold sg
  cases h1 : src (tri n) 0 (x : Int) (y : Int) (z : Int) with
  | none => rw [h1] at h; cases h
  | some p =>
    obtain ⟨m, b⟩ := p
    rw [h1] at h
    try dsimp only at h
    cases h2 : src (tri n) 0 (rd q ((tri n).getD m ⟨0, 0, 0⟩).f0) (rd q ((tri n).getD m ⟨0, 0, 0⟩).f1) (rd q ((tri n).getD m ⟨0, 0, 0⟩).f2) with
    | none => rw [h2] at h; cases h
    | some p1 =>
      obtain ⟨m1, b1⟩ := p1
      rw [h2] at h
      try dsimp only at h
      cases h3' : src (tri n) 0 (rd q (x : Int)) (rd q (y : Int)) (rd q (z : Int)) with
      | none => rw [h3'] at h; cases h
      | some p2 =>
        obtain ⟨m2, b2⟩ := p2
        rw [h3'] at h
        try dsimp only at h
        rw [Bool.and_eq_true, Bool.and_eq_true, beq_iff_eq, beq_iff_eq, decide_eq_true_eq] at h
        obtain ⟨⟨rfl, hb⟩, hm⟩ := h
        rw [getD_lt _ _ _ hm] at h2
        have hs := sgAt_pick n s q m hm
        unfold sg at hs
        rw [h2] at hs
        subst hb
        rcases sgAt_pm s m1 with e | e <;> cases b <;> cases b1 <;> (simp only [sval, hs, e, show (false == false) = true from rfl, show (true == false) = false from rfl, show (false == true) = false from rfl, show (true == true) = true from rfl]; try decide +kernel)
theorem pick_pick (n : Nat) (h3 : 3 ≤ n) (h5 : n ≤ 5) (s : ByteArray) (q p : List Int) (hq : q ∈ AN n) (hp : p ∈ AN n) : pickT n (pickT n s q) p = pickT n s (comp q p) := by
  have hP := AN_P n (by omega) p hp
  unfold pickT
  congr 1
  unfold pickC
  refine List.map_congr_left (fun t ht => ?_)
  obtain ⟨a, b, c, rfl, hab, hbc, hcn⟩ := tri_mem n (by omega) t ht
  dsimp only
  obtain ⟨hl, hl2, hr⟩ := hP
  have ra := (hr a (by omega)).1
  have rb := (hr b (by omega)).1
  have rc := (hr c (by omega)).1
  have nab := perm_ne n p ⟨hl, hl2, hr⟩ a b (by omega) (by omega) (by omega)
  have nbc := perm_ne n p ⟨hl, hl2, hr⟩ b c (by omega) (by omega) (by omega)
  have nac := perm_ne n p ⟨hl, hl2, hr⟩ a c (by omega) (by omega) (by omega)
  rw [rd_comp q p a (by omega), rd_comp q p b (by omega), rd_comp q p c (by omega)]
  obtain ⟨x, hx⟩ := Int.eq_ofNat_of_zero_le ra.1
  obtain ⟨y, hy⟩ := Int.eq_ofNat_of_zero_le rb.1
  obtain ⟨z, hz⟩ := Int.eq_ofNat_of_zero_le rc.1
  rw [hx, hy, hz]
  congr 1
  exact sg_pick n h3 h5 s q hq x y z (by omega) (by omega) (by omega) (by omega) (by omega) (by omega)
end Go.Proofs.Ytoajlmlobaccdaa.Pure
namespace Go.Proofs.Ytoajlmlobaccdaa.Pure
set_option linter.unusedSimpArgs false
set_option linter.unusedVariables false
open Go.RowKit Go.Proofs.YtoajlmlobaccdaaW.PrintWords Go.Proofs.Ytoajlmlobaccdaa.P Go.Proofs.Ytoajlmlobaccdaa.Pl
theorem rdIx (l : List Int) (i : Nat) (h : i < l.length) : rd l (i : Int) = l[i] := by
  unfold rd
  rw [Int.toNat_natCast, getD_lt _ _ _ h]
theorem same_from (a b : List Int) (hl : a.length = b.length) (hz : a.length ≤ 1000000) : ∀ d i, i + d = a.length → Ev (fun k => spec_l15Same.l0 k a b (i : Nat)) (decide (a.drop i = b.drop i))
  | 0, i, hi => by
    rw [List.drop_of_length_le (by omega), List.drop_of_length_le (by omega)]
    exact Ev.step (fun k => spec_l15Same.l0.eq_2 ..) (Ev.ite_neg (by omega) (Ev.now _))
  | d + 1, i, hi => by
    have ha : i < a.length := by omega
    have hb : i < b.length := by omega
    have ih := same_from a b hl hz d (i + 1) (by omega)
    refine Ev.step (fun k => spec_l15Same.l0.eq_2 ..) (Ev.ite_pos (by omega) (Ev.ite_pos (by omega) (Ev.ite_pos (by omega) ?_)))
    rw [rdIx a i ha, rdIx b i hb, wrap_nat i (by omega), List.drop_eq_getElem_cons ha, List.drop_eq_getElem_cons hb]
    by_cases e : a[i] = b[i]
    · rw [show decide (a[i] :: a.drop (i + 1) = b[i] :: b.drop (i + 1)) = decide (a.drop (i + 1) = b.drop (i + 1)) from by rw [e]; exact decide_eq_decide.2 ⟨fun h => (List.cons.inj h).2, fun h => by rw [h]⟩]
      exact Ev.ite_pos e ih
    · rw [decide_eq_false (fun h => e (List.cons.inj h).1)]
      exact Ev.ite_neg e (Ev.now _)
theorem same_ev (a b : List Int) (hz : a.length ≤ 1000000) : Ev (fun k => spec_l15Same.f k a b) (decide (a = b)) := by
  unfold spec_l15Same.f
  by_cases hl : a.length = b.length
  · have h := same_from a b hl hz a.length 0 (by omega)
    rw [List.drop_zero, List.drop_zero] at h
    exact Ev.ite_pos (by omega) h
  · rw [decide_eq_false (fun h => hl (by rw [h]))]
    exact Ev.ite_neg (by omega) (Ev.now _)
theorem less_ex (a b : List Int) (hl : a.length = b.length) (hz : a.length ≤ 1000000) : ∃ v, Ev (fun k => spec_l14Less.f k a b) v := by
  unfold spec_l14Less.f
  have key : ∀ d i, i + d = a.length → ∃ v, Ev (fun k => spec_l14Less.l0 k a b (i : Nat)) v := by
    intro d
    induction d with
    | zero =>
      intro i hi
      exact ⟨_, Ev.step (fun k => spec_l14Less.l0.eq_2 ..) (Ev.ite_neg (by omega) (Ev.now _))⟩
    | succ d ih =>
      intro i hi
      obtain ⟨v, hv⟩ := ih (i + 1) (by omega)
      by_cases e : rd a (i : Int) = rd b (i : Int)
      · refine ⟨v, Ev.step (fun k => spec_l14Less.l0.eq_2 ..) (Ev.ite_pos (by omega) (Ev.ite_pos (by omega) (Ev.ite_pos (by omega) (Ev.ite_pos e ?_))))⟩
        rw [wrap_nat i (by omega)]
        exact hv
      · exact ⟨_, Ev.step (fun k => spec_l14Less.l0.eq_2 ..) (Ev.ite_pos (by omega) (Ev.ite_pos (by omega) (Ev.ite_pos (by omega) (Ev.ite_neg e (Ev.now _)))))⟩
  exact key a.length 0 (by omega)
theorem scan_ex (m : Nat) (hm : m ≤ 1000000) (x : List Int) (hx : x.length = m) (xs : List (List Int)) (hs : ∀ y ∈ xs, y.length = m) : ∀ i, i ≤ xs.length → ∃ a, a ≤ i ∧ Ev (fun k => scanL k x xs i) a
  | 0, _ => ⟨0, Nat.le_refl _, Ev.const rfl⟩
  | i + 1, hi => by
    obtain ⟨a, ha, hv⟩ := scan_ex m hm x hx xs hs i (by omega)
    have hy : (xs.getD i []).length = m := by
      rw [List.getD_eq_getElem?_getD, List.getElem?_eq_getElem (by omega)]
      exact hs _ (List.getElem_mem _)
    obtain ⟨b, hb⟩ := less_ex x (xs.getD i []) (by rw [hx, hy]) (by omega)
    cases b with
    | true => exact ⟨a, by omega, Ev.bind hb (Ev.ite_pos rfl hv)⟩
    | false => exact ⟨i + 1, Nat.le_refl _, Ev.bind hb (Ev.ite_neg (by simp) (Ev.now _))⟩
theorem put_ex (m : Nat) (hm : m ≤ 1000000) (x : List Int) (hx : x.length = m) (xs : List (List Int)) (hs : ∀ y ∈ xs, y.length = m) (hl : xs.length ≤ 1000000) : ∃ r, Ev (fun k => spec_l14Put.f k xs x) r ∧ r.Perm (x :: xs) := by
  obtain ⟨a, ha, hv⟩ := scan_ex m hm x hx xs hs xs.length (Nat.le_refl _)
  refine ⟨xs.take a ++ x :: xs.drop a, ?_, ?_⟩
  · unfold spec_l14Put.f
    exact Ev.ite_pos hl (Ev.bind hv (Ev.now _))
  · refine List.perm_middle.trans ?_
    rw [List.take_append_drop]
theorem putAll_ex (m : Nat) (hm : m ≤ 1000000) : ∀ (l out : List (List Int)), (∀ y ∈ l, y.length = m) → (∀ y ∈ out, y.length = m) → l.length + out.length ≤ 1000000 → ∃ r, Ev (fun k => putRest k l out) r ∧ r.Perm (l ++ out)
  | [], out, _, _, _ => ⟨out, Ev.const rfl, List.Perm.refl _⟩
  | x :: l, out, hl, ho, hz => by
    have hx := hl x List.mem_cons_self
    rw [List.length_cons] at hz
    obtain ⟨o, h1, p1⟩ := put_ex m hm x hx out ho (by omega)
    obtain ⟨r, h2, p2⟩ := putAll_ex m hm l o (fun y hy => hl y (List.mem_cons_of_mem _ hy)) (fun y hy => by
      rcases List.mem_cons.1 (p1.mem_iff.1 hy) with rfl | h
      · exact hx
      · exact ho y h) (by rw [p1.length_eq, List.length_cons]; omega)
    refine ⟨r, Ev.bind h1 h2, p2.trans ?_⟩
    refine (List.Perm.append_left l p1).trans ?_
    exact List.perm_middle
def knownP (x : List Int) (out : List (List Int)) : Bool := out.any fun y => decide (y = x)
theorem known_ev (x : List Int) : ∀ out : List (List Int), (∀ y ∈ out, y.length ≤ 1000000) → Ev (fun k => knownF k x out) (knownP x out)
  | [], _ => Ev.const rfl
  | y :: r, h => by
    have h1 := same_ev y x (h y List.mem_cons_self)
    have h2 := known_ev x r (fun z hz => h z (List.mem_cons_of_mem _ hz))
    unfold knownP at h2 ⊢
    rw [List.any_cons]
    by_cases e : y = x
    · rw [decide_eq_true e] at h1 ⊢
      exact Ev.bind h1 (Ev.ite_pos rfl (Ev.now _))
    · rw [decide_eq_false e] at h1 ⊢
      rw [Bool.false_or]
      exact Ev.bind h1 (Ev.ite_neg (by simp) h2)
def addP : List (List Int) → List (List Int) → Option (List (List Int))
  | [], out => some out
  | x :: r, out => if out.length < 1000000 ∧ out.all (fun y => decide (y.length ≤ 1000000)) = true then addP r (if knownP x out = true then out else out ++ [x]) else none
theorem add_ev : ∀ (l out o : List (List Int)), addP l out = some o → Ev (fun k => addAll k l out) o
  | [], out, o, h => by
    obtain rfl := Option.some.inj h
    exact Ev.const rfl
  | x :: r, out, o, h => by
    rw [addP] at h
    by_cases c : out.length < 1000000 ∧ out.all (fun y => decide (y.length ≤ 1000000)) = true
    case neg => rw [if_neg c] at h; cases h
    rw [if_pos c] at h
    have hk := known_ev x out (fun y hy => of_decide_eq_true (List.all_eq_true.1 c.2 y hy))
    exact Ev.ite_pos c.1 (Ev.bind hk (add_ev r _ o h))
def rchP (br : List Int → Option (List (List Int))) : Nat → Nat → List (List Int) → Option (List (List Int))
  | 0, _, _ => none
  | f + 1, p, out => if p < out.length ∧ p < 1000000 then (br (out.getD p [])).bind fun l => if l.length < 1000000 then (addP l out).bind fun o => rchP br f (p + 1) o else none else if p < 1000000 then some out else none
theorem rch_ev (n : Int) (br : List Int → Option (List (List Int))) (hbr : ∀ w l, br w = some l → Ev (fun k => spec_BraidsFrom.f k n w) l) : ∀ f p out o, rchP br f p out = some o → ∃ K, ∀ k, K ≤ k → ∀ d, f ≤ d → rchF k n d p out = some o
  | 0, _, _, _, h => by cases h
  | f + 1, p, out, o, h => by
    rw [rchP] at h
    by_cases c : p < out.length ∧ p < 1000000
    · rw [if_pos c] at h
      obtain ⟨l, hl, h⟩ := Option.bind_eq_some_iff.mp h
      by_cases c2 : l.length < 1000000
      case neg => rw [if_neg c2] at h; cases h
      rw [if_pos c2] at h
      obtain ⟨o2, ho, h⟩ := Option.bind_eq_some_iff.mp h
      obtain ⟨K1, h1⟩ := hbr _ _ hl
      obtain ⟨K2, h2⟩ := add_ev l out o2 ho
      obtain ⟨K3, h3⟩ := rch_ev n br hbr f (p + 1) o2 o h
      refine ⟨max K1 (max K2 K3), fun k hk d hd => ?_⟩
      obtain ⟨d, rfl⟩ : ∃ e, d = e + 1 := ⟨d - 1, by omega⟩
      have e1 := h1 k (by omega)
      have e2 := h2 k (by omega)
      simp only at e1 e2
      rw [rchF, if_pos c, e1, Option.bind_some, if_pos c2, e2, Option.bind_some]
      exact h3 k (by omega) d (by omega)
    · rw [if_neg c] at h
      by_cases c2 : p < 1000000
      case neg => rw [if_neg c2] at h; cases h
      rw [if_pos c2] at h
      obtain rfl := Option.some.inj h
      refine ⟨0, fun k _ d hd => ?_⟩
      obtain ⟨d, rfl⟩ : ∃ e, d = e + 1 := ⟨d - 1, by omega⟩
      rw [rchF, if_neg c, if_pos c2]
theorem reach_ev (n : Int) (br : List Int → Option (List (List Int))) (hbr : ∀ w l, br w = some l → Ev (fun k => spec_BraidsFrom.f k n w) l) (f : Nat) (w : List Int) (o : List (List Int)) (h : rchP br f 0 [w] = some o) : Ev (fun k => spec_l15Reach.f k n w) o := by
  obtain ⟨K, hK⟩ := rch_ev n br hbr f 0 [w] o h
  exact ⟨max K f, fun k hk => hK k (by omega) k (by omega)⟩
end Go.Proofs.Ytoajlmlobaccdaa.Pure
namespace Go.Proofs.Ytoajlmlobaccdaa.Pure
set_option linter.unusedSimpArgs false
set_option linter.unusedVariables false
set_option maxRecDepth 100000
open Go.RowKit Go.Proofs.YtoajlmlobaccdaaW.PrintWords Go.Proofs.Ytoajlmlobaccdaa.P Go.Proofs.Ytoajlmlobaccdaa.Pl
structure Nd where
  w : List Int
  s : List UInt8
  b : List (List Int)
def ndOk (n : Nat) (e : Nd) : Bool := (spec_BraidsFrom.f 150 (n : Int) e.w == some e.b) && ((spec_SignsOfWiring.f 150 (n : Int) e.w).map (fun r => (r.1, r.2.1.data.toList, r.2.2)) == some ((n : Int), e.s, true))
def nodes3_0 : List Nd := [⟨[0, 1, 0], [43], [[1, 0, 1]]⟩, ⟨[1, 0, 1], [45], [[0, 1, 0]]⟩]
theorem nodes3_0_ok : (nodes3_0).all (ndOk 3) = true := by decide +kernel
def nodes3 : List Nd := nodes3_0
def nodes4_0 : List Nd := [⟨[0, 1, 0, 2, 1, 0], [43, 43, 43, 43], [[0, 1, 2, 1, 0, 1], [1, 0, 1, 2, 1, 0]]⟩, ⟨[0, 1, 2, 1, 0, 1], [43, 43, 43, 45], [[0, 1, 0, 2, 1, 0], [0, 2, 1, 0, 2, 1]]⟩, ⟨[1, 0, 1, 2, 1, 0], [45, 43, 43, 43], [[0, 1, 0, 2, 1, 0], [1, 0, 2, 1, 0, 2]]⟩, ⟨[0, 2, 1, 0, 2, 1], [43, 43, 45, 45], [[0, 1, 2, 1, 0, 1], [2, 1, 0, 1, 2, 1]]⟩, ⟨[1, 0, 2, 1, 0, 2], [45, 45, 43, 43], [[1, 0, 1, 2, 1, 0], [1, 2, 1, 0, 1, 2]]⟩, ⟨[2, 1, 0, 1, 2, 1], [43, 45, 45, 45], [[0, 2, 1, 0, 2, 1], [2, 1, 0, 2, 1, 2]]⟩, ⟨[1, 2, 1, 0, 1, 2], [45, 45, 45, 43], [[1, 0, 2, 1, 0, 2], [2, 1, 0, 2, 1, 2]]⟩, ⟨[2, 1, 0, 2, 1, 2], [45, 45, 45, 45], [[1, 2, 1, 0, 1, 2], [2, 1, 0, 1, 2, 1]]⟩]
theorem nodes4_0_ok : (nodes4_0).all (ndOk 4) = true := by decide +kernel
def nodes4 : List Nd := nodes4_0
def nodes5_0 : List Nd := [⟨[0, 1, 0, 2, 1, 0, 3, 2, 1, 0], [43, 43, 43, 43, 43, 43, 43, 43, 43, 43], [[0, 1, 0, 2, 1, 3, 2, 1, 0, 1], [0, 1, 2, 1, 0, 1, 3, 2, 1, 0], [1, 0, 1, 2, 1, 0, 3, 2, 1, 0]]⟩, ⟨[0, 1, 0, 2, 1, 3, 2, 1, 0, 1], [43, 43, 43, 43, 43, 43, 43, 43, 43, 45], [[0, 1, 0, 2, 1, 0, 3, 2, 1, 0], [0, 1, 0, 2, 3, 2, 1, 0, 2, 1], [1, 0, 1, 2, 1, 3, 2, 1, 0, 1]]⟩, ⟨[0, 1, 2, 1, 0, 1, 3, 2, 1, 0], [43, 43, 43, 43, 43, 43, 45, 43, 43, 43], [[0, 1, 0, 2, 1, 0, 3, 2, 1, 0], [0, 1, 2, 1, 0, 3, 2, 1, 0, 2], [0, 2, 1, 0, 2, 1, 3, 2, 1, 0]]⟩, ⟨[1, 0, 1, 2, 1, 0, 3, 2, 1, 0], [45, 43, 43, 43, 43, 43, 43, 43, 43, 43], [[0, 1, 0, 2, 1, 0, 3, 2, 1, 0], [1, 0, 1, 2, 1, 3, 2, 1, 0, 1], [1, 0, 2, 1, 0, 2, 3, 2, 1, 0]]⟩, ⟨[0, 1, 0, 2, 3, 2, 1, 0, 2, 1], [43, 43, 43, 43, 43, 43, 43, 43, 45, 45], [[0, 1, 0, 2, 1, 3, 2, 1, 0, 1], [0, 1, 0, 3, 2, 1, 0, 3, 2, 1], [0, 1, 2, 3, 2, 1, 0, 1, 2, 1], [1, 0, 1, 2, 3, 2, 1, 0, 2, 1]]⟩, ⟨[1, 0, 1, 2, 1, 3, 2, 1, 0, 1], [45, 43, 43, 43, 43, 43, 43, 43, 43, 45], [[0, 1, 0, 2, 1, 3, 2, 1, 0, 1], [1, 0, 1, 2, 1, 0, 3, 2, 1, 0], [1, 0, 1, 2, 3, 2, 1, 0, 2, 1], [1, 0, 2, 1, 2, 3, 2, 1, 0, 1]]⟩, ⟨[0, 1, 2, 1, 0, 3, 2, 1, 0, 2], [43, 43, 43, 43, 43, 43, 45, 45, 43, 43], [[0, 1, 2, 1, 0, 1, 3, 2, 1, 0], [0, 1, 2, 1, 3, 2, 1, 0, 1, 2], [0, 2, 1, 0, 2, 3, 2, 1, 0, 2]]⟩, ⟨[0, 2, 1, 0, 2, 1, 3, 2, 1, 0], [43, 43, 43, 45, 43, 43, 45, 43, 43, 43], [[0, 1, 2, 1, 0, 1, 3, 2, 1, 0], [0, 2, 1, 0, 2, 3, 2, 1, 0, 2], [2, 1, 0, 1, 2, 1, 3, 2, 1, 0]]⟩, ⟨[1, 0, 2, 1, 0, 2, 3, 2, 1, 0], [45, 45, 43, 43, 43, 43, 43, 43, 43, 43], [[1, 0, 1, 2, 1, 0, 3, 2, 1, 0], [1, 0, 2, 1, 0, 3, 2, 1, 0, 3], [1, 0, 2, 1, 2, 3, 2, 1, 0, 1], [1, 2, 1, 0, 1, 2, 3, 2, 1, 0]]⟩, ⟨[0, 1, 0, 3, 2, 1, 0, 3, 2, 1], [43, 43, 43, 43, 43, 45, 43, 43, 45, 45], [[0, 1, 0, 2, 3, 2, 1, 0, 2, 1], [0, 1, 3, 2, 1, 0, 1, 3, 2, 1], [1, 0, 1, 3, 2, 1, 0, 3, 2, 1]]⟩, ⟨[0, 1, 2, 3, 2, 1, 0, 1, 2, 1], [43, 43, 43, 43, 43, 43, 43, 45, 45, 45], [[0, 1, 0, 2, 3, 2, 1, 0, 2, 1], [0, 1, 2, 3, 2, 1, 0, 2, 1, 2], [0, 1, 3, 2, 1, 0, 1, 3, 2, 1]]⟩]
theorem nodes5_0_ok : (nodes5_0).all (ndOk 5) = true := by decide +kernel
def nodes5_1 : List Nd := [⟨[1, 0, 1, 2, 3, 2, 1, 0, 2, 1], [45, 43, 43, 43, 43, 43, 43, 43, 45, 45], [[0, 1, 0, 2, 3, 2, 1, 0, 2, 1], [1, 0, 1, 2, 1, 3, 2, 1, 0, 1], [1, 0, 1, 3, 2, 1, 0, 3, 2, 1]]⟩, ⟨[1, 0, 2, 1, 2, 3, 2, 1, 0, 1], [45, 45, 43, 43, 43, 43, 43, 43, 43, 45], [[1, 0, 1, 2, 1, 3, 2, 1, 0, 1], [1, 0, 2, 1, 0, 2, 3, 2, 1, 0], [1, 0, 2, 1, 3, 2, 1, 0, 1, 3]]⟩, ⟨[0, 1, 2, 1, 3, 2, 1, 0, 1, 2], [43, 43, 43, 43, 43, 43, 45, 45, 45, 43], [[0, 1, 2, 1, 0, 3, 2, 1, 0, 2], [0, 1, 2, 3, 2, 1, 0, 2, 1, 2], [0, 2, 1, 2, 3, 2, 1, 0, 1, 2]]⟩, ⟨[0, 2, 1, 0, 2, 3, 2, 1, 0, 2], [43, 43, 43, 45, 43, 43, 45, 45, 43, 43], [[0, 1, 2, 1, 0, 3, 2, 1, 0, 2], [0, 2, 1, 0, 2, 1, 3, 2, 1, 0], [0, 2, 1, 0, 3, 2, 1, 0, 3, 2], [0, 2, 1, 2, 3, 2, 1, 0, 1, 2], [2, 1, 0, 1, 2, 3, 2, 1, 0, 2]]⟩, ⟨[2, 1, 0, 1, 2, 1, 3, 2, 1, 0], [43, 45, 43, 45, 43, 43, 45, 43, 43, 43], [[0, 2, 1, 0, 2, 1, 3, 2, 1, 0], [2, 1, 0, 1, 2, 3, 2, 1, 0, 2], [2, 1, 0, 2, 1, 2, 3, 2, 1, 0]]⟩, ⟨[1, 0, 2, 1, 0, 3, 2, 1, 0, 3], [45, 45, 45, 43, 43, 43, 43, 43, 43, 43], [[1, 0, 2, 1, 0, 2, 3, 2, 1, 0], [1, 0, 2, 1, 3, 2, 1, 0, 1, 3], [1, 2, 1, 0, 1, 3, 2, 1, 0, 3]]⟩, ⟨[1, 2, 1, 0, 1, 2, 3, 2, 1, 0], [45, 45, 43, 45, 43, 43, 43, 43, 43, 43], [[1, 0, 2, 1, 0, 2, 3, 2, 1, 0], [1, 2, 1, 0, 1, 3, 2, 1, 0, 3], [2, 1, 0, 2, 1, 2, 3, 2, 1, 0]]⟩, ⟨[0, 1, 3, 2, 1, 0, 1, 3, 2, 1], [43, 43, 43, 43, 43, 45, 43, 45, 45, 45], [[0, 1, 0, 3, 2, 1, 0, 3, 2, 1], [0, 1, 2, 3, 2, 1, 0, 1, 2, 1], [0, 1, 3, 2, 1, 0, 3, 2, 1, 2], [0, 3, 2, 1, 0, 2, 1, 3, 2, 1]]⟩, ⟨[1, 0, 1, 3, 2, 1, 0, 3, 2, 1], [45, 43, 43, 43, 43, 45, 43, 43, 45, 45], [[0, 1, 0, 3, 2, 1, 0, 3, 2, 1], [1, 0, 1, 2, 3, 2, 1, 0, 2, 1], [1, 0, 3, 2, 1, 0, 2, 3, 2, 1]]⟩, ⟨[0, 1, 2, 3, 2, 1, 0, 2, 1, 2], [43, 43, 43, 43, 43, 43, 45, 45, 45, 45], [[0, 1, 2, 1, 3, 2, 1, 0, 1, 2], [0, 1, 2, 3, 2, 1, 0, 1, 2, 1], [0, 1, 3, 2, 1, 0, 3, 2, 1, 2]]⟩, ⟨[1, 0, 2, 1, 3, 2, 1, 0, 1, 3], [45, 45, 45, 43, 43, 43, 43, 43, 43, 45], [[1, 0, 2, 1, 0, 3, 2, 1, 0, 3], [1, 0, 2, 1, 2, 3, 2, 1, 0, 1], [1, 0, 2, 3, 2, 1, 0, 2, 1, 3]]⟩]
theorem nodes5_1_ok : (nodes5_1).all (ndOk 5) = true := by decide +kernel
def nodes5_2 : List Nd := [⟨[0, 2, 1, 2, 3, 2, 1, 0, 1, 2], [43, 43, 43, 45, 43, 43, 45, 45, 45, 43], [[0, 1, 2, 1, 3, 2, 1, 0, 1, 2], [0, 2, 1, 0, 2, 3, 2, 1, 0, 2], [0, 2, 1, 3, 2, 1, 0, 1, 3, 2]]⟩, ⟨[0, 2, 1, 0, 3, 2, 1, 0, 3, 2], [43, 43, 43, 45, 45, 43, 45, 45, 43, 43], [[0, 2, 1, 0, 2, 3, 2, 1, 0, 2], [0, 2, 1, 3, 2, 1, 0, 1, 3, 2], [2, 1, 0, 1, 3, 2, 1, 0, 3, 2]]⟩, ⟨[2, 1, 0, 1, 2, 3, 2, 1, 0, 2], [43, 45, 43, 45, 43, 43, 45, 45, 43, 43], [[0, 2, 1, 0, 2, 3, 2, 1, 0, 2], [2, 1, 0, 1, 2, 1, 3, 2, 1, 0], [2, 1, 0, 1, 3, 2, 1, 0, 3, 2]]⟩, ⟨[2, 1, 0, 2, 1, 2, 3, 2, 1, 0], [45, 45, 43, 45, 43, 43, 45, 43, 43, 43], [[1, 2, 1, 0, 1, 2, 3, 2, 1, 0], [2, 1, 0, 1, 2, 1, 3, 2, 1, 0], [2, 1, 0, 2, 1, 3, 2, 1, 0, 3]]⟩, ⟨[1, 2, 1, 0, 1, 3, 2, 1, 0, 3], [45, 45, 45, 45, 43, 43, 43, 43, 43, 43], [[1, 0, 2, 1, 0, 3, 2, 1, 0, 3], [1, 2, 1, 0, 1, 2, 3, 2, 1, 0], [1, 2, 1, 0, 3, 2, 1, 0, 2, 3], [2, 1, 0, 2, 1, 3, 2, 1, 0, 3]]⟩, ⟨[0, 1, 3, 2, 1, 0, 3, 2, 1, 2], [43, 43, 43, 43, 43, 45, 45, 45, 45, 45], [[0, 1, 2, 3, 2, 1, 0, 2, 1, 2], [0, 1, 3, 2, 1, 0, 1, 3, 2, 1], [0, 3, 2, 1, 0, 2, 3, 2, 1, 2]]⟩, ⟨[0, 3, 2, 1, 0, 2, 1, 3, 2, 1], [43, 43, 43, 43, 45, 45, 43, 45, 45, 45], [[0, 1, 3, 2, 1, 0, 1, 3, 2, 1], [0, 3, 2, 1, 0, 2, 3, 2, 1, 2], [3, 2, 1, 0, 1, 2, 1, 3, 2, 1]]⟩, ⟨[1, 0, 3, 2, 1, 0, 2, 3, 2, 1], [45, 43, 45, 43, 43, 45, 43, 43, 45, 45], [[1, 0, 1, 3, 2, 1, 0, 3, 2, 1], [1, 0, 3, 2, 1, 0, 3, 2, 1, 3], [1, 3, 2, 1, 0, 1, 2, 3, 2, 1]]⟩, ⟨[1, 0, 2, 3, 2, 1, 0, 2, 1, 3], [45, 45, 45, 43, 43, 45, 43, 43, 43, 45], [[1, 0, 2, 1, 3, 2, 1, 0, 1, 3], [1, 0, 3, 2, 1, 0, 3, 2, 1, 3], [1, 2, 3, 2, 1, 0, 1, 2, 1, 3]]⟩, ⟨[0, 2, 1, 3, 2, 1, 0, 1, 3, 2], [43, 43, 43, 45, 45, 43, 45, 45, 45, 43], [[0, 2, 1, 0, 3, 2, 1, 0, 3, 2], [0, 2, 1, 2, 3, 2, 1, 0, 1, 2], [0, 2, 3, 2, 1, 0, 2, 1, 3, 2]]⟩, ⟨[2, 1, 0, 1, 3, 2, 1, 0, 3, 2], [43, 45, 43, 45, 45, 43, 45, 45, 43, 43], [[0, 2, 1, 0, 3, 2, 1, 0, 3, 2], [2, 1, 0, 1, 2, 3, 2, 1, 0, 2], [2, 1, 0, 3, 2, 1, 0, 2, 3, 2]]⟩]
theorem nodes5_2_ok : (nodes5_2).all (ndOk 5) = true := by decide +kernel
def nodes5_3 : List Nd := [⟨[2, 1, 0, 2, 1, 3, 2, 1, 0, 3], [45, 45, 45, 45, 43, 43, 45, 43, 43, 43], [[1, 2, 1, 0, 1, 3, 2, 1, 0, 3], [2, 1, 0, 2, 1, 2, 3, 2, 1, 0], [2, 1, 0, 2, 3, 2, 1, 0, 2, 3]]⟩, ⟨[1, 2, 1, 0, 3, 2, 1, 0, 2, 3], [45, 45, 45, 45, 45, 43, 43, 43, 43, 43], [[1, 2, 1, 0, 1, 3, 2, 1, 0, 3], [1, 2, 1, 3, 2, 1, 0, 1, 2, 3], [2, 1, 0, 2, 3, 2, 1, 0, 2, 3]]⟩, ⟨[0, 3, 2, 1, 0, 2, 3, 2, 1, 2], [43, 43, 43, 43, 45, 45, 45, 45, 45, 45], [[0, 1, 3, 2, 1, 0, 3, 2, 1, 2], [0, 3, 2, 1, 0, 2, 1, 3, 2, 1], [0, 3, 2, 1, 0, 3, 2, 1, 3, 2], [3, 2, 1, 0, 1, 2, 3, 2, 1, 2]]⟩, ⟨[3, 2, 1, 0, 1, 2, 1, 3, 2, 1], [43, 43, 45, 43, 45, 45, 43, 45, 45, 45], [[0, 3, 2, 1, 0, 2, 1, 3, 2, 1], [3, 2, 1, 0, 1, 2, 3, 2, 1, 2], [3, 2, 1, 0, 2, 1, 2, 3, 2, 1]]⟩, ⟨[1, 0, 3, 2, 1, 0, 3, 2, 1, 3], [45, 45, 45, 43, 43, 45, 43, 43, 45, 45], [[1, 0, 2, 3, 2, 1, 0, 2, 1, 3], [1, 0, 3, 2, 1, 0, 2, 3, 2, 1], [1, 3, 2, 1, 0, 1, 3, 2, 1, 3]]⟩, ⟨[1, 3, 2, 1, 0, 1, 2, 3, 2, 1], [45, 43, 45, 43, 45, 45, 43, 43, 45, 45], [[1, 0, 3, 2, 1, 0, 2, 3, 2, 1], [1, 3, 2, 1, 0, 1, 3, 2, 1, 3], [3, 2, 1, 0, 2, 1, 2, 3, 2, 1]]⟩, ⟨[1, 2, 3, 2, 1, 0, 1, 2, 1, 3], [45, 45, 45, 43, 45, 45, 43, 43, 43, 45], [[1, 0, 2, 3, 2, 1, 0, 2, 1, 3], [1, 2, 3, 2, 1, 0, 2, 1, 2, 3], [1, 3, 2, 1, 0, 1, 3, 2, 1, 3]]⟩, ⟨[0, 2, 3, 2, 1, 0, 2, 1, 3, 2], [43, 43, 43, 45, 45, 45, 45, 45, 45, 43], [[0, 2, 1, 3, 2, 1, 0, 1, 3, 2], [0, 3, 2, 1, 0, 3, 2, 1, 3, 2], [2, 3, 2, 1, 0, 1, 2, 1, 3, 2]]⟩, ⟨[2, 1, 0, 3, 2, 1, 0, 2, 3, 2], [43, 45, 45, 45, 45, 43, 45, 45, 43, 43], [[2, 1, 0, 1, 3, 2, 1, 0, 3, 2], [2, 1, 0, 3, 2, 1, 0, 3, 2, 3], [2, 1, 3, 2, 1, 0, 1, 2, 3, 2]]⟩, ⟨[2, 1, 0, 2, 3, 2, 1, 0, 2, 3], [45, 45, 45, 45, 45, 43, 45, 43, 43, 43], [[1, 2, 1, 0, 3, 2, 1, 0, 2, 3], [2, 1, 0, 2, 1, 3, 2, 1, 0, 3], [2, 1, 0, 3, 2, 1, 0, 3, 2, 3], [2, 1, 2, 3, 2, 1, 0, 1, 2, 3]]⟩, ⟨[1, 2, 1, 3, 2, 1, 0, 1, 2, 3], [45, 45, 45, 45, 45, 45, 43, 43, 43, 43], [[1, 2, 1, 0, 3, 2, 1, 0, 2, 3], [1, 2, 3, 2, 1, 0, 2, 1, 2, 3], [2, 1, 2, 3, 2, 1, 0, 1, 2, 3]]⟩]
theorem nodes5_3_ok : (nodes5_3).all (ndOk 5) = true := by decide +kernel
def nodes5_4 : List Nd := [⟨[0, 3, 2, 1, 0, 3, 2, 1, 3, 2], [43, 43, 43, 45, 45, 45, 45, 45, 45, 45], [[0, 2, 3, 2, 1, 0, 2, 1, 3, 2], [0, 3, 2, 1, 0, 2, 3, 2, 1, 2], [3, 2, 1, 0, 1, 3, 2, 1, 3, 2]]⟩, ⟨[3, 2, 1, 0, 1, 2, 3, 2, 1, 2], [43, 43, 45, 43, 45, 45, 45, 45, 45, 45], [[0, 3, 2, 1, 0, 2, 3, 2, 1, 2], [3, 2, 1, 0, 1, 2, 1, 3, 2, 1], [3, 2, 1, 0, 1, 3, 2, 1, 3, 2]]⟩, ⟨[3, 2, 1, 0, 2, 1, 2, 3, 2, 1], [45, 43, 45, 43, 45, 45, 43, 45, 45, 45], [[1, 3, 2, 1, 0, 1, 2, 3, 2, 1], [3, 2, 1, 0, 1, 2, 1, 3, 2, 1], [3, 2, 1, 0, 2, 1, 3, 2, 1, 3]]⟩, ⟨[1, 3, 2, 1, 0, 1, 3, 2, 1, 3], [45, 45, 45, 43, 45, 45, 43, 43, 45, 45], [[1, 0, 3, 2, 1, 0, 3, 2, 1, 3], [1, 2, 3, 2, 1, 0, 1, 2, 1, 3], [1, 3, 2, 1, 0, 1, 2, 3, 2, 1], [1, 3, 2, 1, 0, 3, 2, 1, 2, 3], [3, 2, 1, 0, 2, 1, 3, 2, 1, 3]]⟩, ⟨[1, 2, 3, 2, 1, 0, 2, 1, 2, 3], [45, 45, 45, 45, 45, 45, 43, 43, 43, 45], [[1, 2, 1, 3, 2, 1, 0, 1, 2, 3], [1, 2, 3, 2, 1, 0, 1, 2, 1, 3], [1, 3, 2, 1, 0, 3, 2, 1, 2, 3]]⟩, ⟨[2, 3, 2, 1, 0, 1, 2, 1, 3, 2], [43, 43, 45, 45, 45, 45, 45, 45, 45, 43], [[0, 2, 3, 2, 1, 0, 2, 1, 3, 2], [2, 3, 2, 1, 0, 2, 1, 2, 3, 2], [3, 2, 1, 0, 1, 3, 2, 1, 3, 2]]⟩, ⟨[2, 1, 0, 3, 2, 1, 0, 3, 2, 3], [45, 45, 45, 45, 45, 43, 45, 45, 43, 43], [[2, 1, 0, 2, 3, 2, 1, 0, 2, 3], [2, 1, 0, 3, 2, 1, 0, 2, 3, 2], [2, 1, 3, 2, 1, 0, 1, 3, 2, 3]]⟩, ⟨[2, 1, 3, 2, 1, 0, 1, 2, 3, 2], [43, 45, 45, 45, 45, 45, 45, 45, 43, 43], [[2, 1, 0, 3, 2, 1, 0, 2, 3, 2], [2, 1, 3, 2, 1, 0, 1, 3, 2, 3], [2, 3, 2, 1, 0, 2, 1, 2, 3, 2]]⟩, ⟨[2, 1, 2, 3, 2, 1, 0, 1, 2, 3], [45, 45, 45, 45, 45, 45, 45, 43, 43, 43], [[1, 2, 1, 3, 2, 1, 0, 1, 2, 3], [2, 1, 0, 2, 3, 2, 1, 0, 2, 3], [2, 1, 3, 2, 1, 0, 1, 3, 2, 3]]⟩, ⟨[3, 2, 1, 0, 1, 3, 2, 1, 3, 2], [43, 43, 45, 45, 45, 45, 45, 45, 45, 45], [[0, 3, 2, 1, 0, 3, 2, 1, 3, 2], [2, 3, 2, 1, 0, 1, 2, 1, 3, 2], [3, 2, 1, 0, 1, 2, 3, 2, 1, 2], [3, 2, 1, 0, 3, 2, 1, 2, 3, 2]]⟩, ⟨[3, 2, 1, 0, 2, 1, 3, 2, 1, 3], [45, 45, 45, 43, 45, 45, 43, 45, 45, 45], [[1, 3, 2, 1, 0, 1, 3, 2, 1, 3], [3, 2, 1, 0, 2, 1, 2, 3, 2, 1], [3, 2, 1, 0, 2, 3, 2, 1, 2, 3]]⟩]
theorem nodes5_4_ok : (nodes5_4).all (ndOk 5) = true := by decide +kernel
def nodes5_5 : List Nd := [⟨[1, 3, 2, 1, 0, 3, 2, 1, 2, 3], [45, 45, 45, 45, 45, 45, 43, 43, 45, 45], [[1, 2, 3, 2, 1, 0, 2, 1, 2, 3], [1, 3, 2, 1, 0, 1, 3, 2, 1, 3], [3, 2, 1, 0, 2, 3, 2, 1, 2, 3]]⟩, ⟨[2, 3, 2, 1, 0, 2, 1, 2, 3, 2], [43, 45, 45, 45, 45, 45, 45, 45, 45, 43], [[2, 1, 3, 2, 1, 0, 1, 2, 3, 2], [2, 3, 2, 1, 0, 1, 2, 1, 3, 2], [2, 3, 2, 1, 0, 2, 1, 3, 2, 3], [3, 2, 1, 0, 3, 2, 1, 2, 3, 2]]⟩, ⟨[2, 1, 3, 2, 1, 0, 1, 3, 2, 3], [45, 45, 45, 45, 45, 45, 45, 45, 43, 43], [[2, 1, 0, 3, 2, 1, 0, 3, 2, 3], [2, 1, 2, 3, 2, 1, 0, 1, 2, 3], [2, 1, 3, 2, 1, 0, 1, 2, 3, 2], [2, 3, 2, 1, 0, 2, 1, 3, 2, 3]]⟩, ⟨[3, 2, 1, 0, 3, 2, 1, 2, 3, 2], [43, 45, 45, 45, 45, 45, 45, 45, 45, 45], [[2, 3, 2, 1, 0, 2, 1, 2, 3, 2], [3, 2, 1, 0, 1, 3, 2, 1, 3, 2], [3, 2, 1, 0, 3, 2, 1, 3, 2, 3]]⟩, ⟨[3, 2, 1, 0, 2, 3, 2, 1, 2, 3], [45, 45, 45, 45, 45, 45, 43, 45, 45, 45], [[1, 3, 2, 1, 0, 3, 2, 1, 2, 3], [3, 2, 1, 0, 2, 1, 3, 2, 1, 3], [3, 2, 1, 0, 3, 2, 1, 3, 2, 3]]⟩, ⟨[2, 3, 2, 1, 0, 2, 1, 3, 2, 3], [45, 45, 45, 45, 45, 45, 45, 45, 45, 43], [[2, 1, 3, 2, 1, 0, 1, 3, 2, 3], [2, 3, 2, 1, 0, 2, 1, 2, 3, 2], [3, 2, 1, 0, 3, 2, 1, 3, 2, 3]]⟩, ⟨[3, 2, 1, 0, 3, 2, 1, 3, 2, 3], [45, 45, 45, 45, 45, 45, 45, 45, 45, 45], [[2, 3, 2, 1, 0, 2, 1, 3, 2, 3], [3, 2, 1, 0, 2, 3, 2, 1, 2, 3], [3, 2, 1, 0, 3, 2, 1, 2, 3, 2]]⟩]
theorem nodes5_5_ok : (nodes5_5).all (ndOk 5) = true := by decide +kernel
def nodes5 : List Nd := nodes5_0 ++ nodes5_1 ++ nodes5_2 ++ nodes5_3 ++ nodes5_4 ++ nodes5_5
def nodes (n : Nat) : List Nd := if n = 3 then nodes3 else if n = 4 then nodes4 else nodes5
theorem nodes_ok (n : Nat) (h3 : 3 ≤ n) (h5 : n ≤ 5) : (nodes n).all (ndOk n) = true := by
  have : n = 3 ∨ n = 4 ∨ n = 5 := by omega
  rcases this with rfl | rfl | rfl
  · exact nodes3_0_ok
  · exact nodes4_0_ok
  · show (nodes5_0 ++ nodes5_1 ++ nodes5_2 ++ nodes5_3 ++ nodes5_4 ++ nodes5_5).all (ndOk 5) = true
    simp only [List.all_append, nodes5_0_ok, nodes5_1_ok, nodes5_2_ok, nodes5_3_ok, nodes5_4_ok, nodes5_5_ok, Bool.and_true]
def brT (n : Nat) (w : List Int) : Option (List (List Int)) := ((nodes n).find? fun e => decide (e.w = w)).map Nd.b
theorem brT_ev (n : Nat) (h3 : 3 ≤ n) (h5 : n ≤ 5) (w : List Int) (l : List (List Int)) (h : brT n w = some l) : Ev (fun k => spec_BraidsFrom.f k (n : Int) w) l := by
  unfold brT at h
  obtain ⟨e, he, hb⟩ := Option.map_eq_some_iff.1 h
  subst hb
  have hm := List.mem_of_find?_eq_some he
  have hw : e.w = w := by
    have h0 := List.find?_some he
    exact of_decide_eq_true h0
  have hk := List.all_eq_true.1 (nodes_ok n h3 h5) e hm
  unfold ndOk at hk
  rw [Bool.and_eq_true] at hk
  have h1 := eq_of_beq hk.1
  rw [hw] at h1
  exact Ev.of (spec_BraidsFrom.mono _ _) h1
theorem sgT_ev (n : Nat) (h3 : 3 ≤ n) (h5 : n ≤ 5) (e : Nd) (hm : e ∈ nodes n) : Ev (fun k => spec_SignsOfWiring.f k (n : Int) e.w) ((n : Int), (⟨e.s.toArray⟩ : ByteArray), true) := by
  have hk := List.all_eq_true.1 (nodes_ok n h3 h5) e hm
  unfold ndOk at hk
  rw [Bool.and_eq_true] at hk
  obtain ⟨⟨a, b, c⟩, h1, h2⟩ := Option.map_eq_some_iff.1 (eq_of_beq hk.2)
  simp only [Prod.mk.injEq] at h2
  obtain ⟨rfl, h3, rfl⟩ := h2
  have e2 : b = (⟨e.s.toArray⟩ : ByteArray) := ByteArray.ext (Array.ext' h3)
  rw [e2] at h1
  exact Ev.of (spec_SignsOfWiring.mono _ _) h1
def ordT (n : Nat) : List (List Int) := (nodes n).map Nd.w
def stT (n : Nat) : List Int := ((nodes n).map Nd.w).headD []
theorem reachT3 : rchP (brT 3) 70 0 [stT 3] = some (ordT 3) := by decide +kernel
theorem reachT4 : rchP (brT 4) 70 0 [stT 4] = some (ordT 4) := by decide +kernel
theorem reachT5 : rchP (brT 5) 70 0 [stT 5] = some (ordT 5) := by decide +kernel
theorem start_all : ([3, 4, 5] : List Nat).all (fun n => (spec_l15First.f 150 (n : Int)).bind (fun a => (spec_NormalWiring.f 150 (n : Int) a)) == some (stT n, true) && (spec_l1In.f (n : Int) 3 5 == some true) && (ordT n).all (fun w => decide (w.length = n * (n - 1) / 2)) && decide ((ordT n).length ≤ 62)) = true := by decide +kernel
theorem normals_ev (n : Nat) (h3 : 3 ≤ n) (h5 : n ≤ 5) : ∃ r, Ev (fun k => spec_NormalsOf.f k (n : Int)) r ∧ r.Perm (ordT n) := by
  have hs := List.all_eq_true.1 start_all n (by simp; omega)
  rw [Bool.and_eq_true, Bool.and_eq_true, Bool.and_eq_true] at hs
  obtain ⟨⟨⟨hs1, hs2⟩, hs3⟩, hs4⟩ := hs
  obtain ⟨a, ha, hw⟩ := Option.bind_eq_some_iff.1 (eq_of_beq hs1)
  have hl : ∀ y ∈ ordT n, y.length = n * (n - 1) / 2 := fun y hy => of_decide_eq_true (List.all_eq_true.1 hs3 y hy)
  have hle : (ordT n).length ≤ 62 := of_decide_eq_true hs4
  have hr : rchP (brT n) 70 0 [stT n] = some (ordT n) := by
    have : n = 3 ∨ n = 4 ∨ n = 5 := by omega
    rcases this with rfl | rfl | rfl
    · exact reachT3
    · exact reachT4
    · exact reachT5
  have hm : n * (n - 1) / 2 ≤ 1000000 := by
    have : n = 3 ∨ n = 4 ∨ n = 5 := by omega
    rcases this with rfl | rfl | rfl <;> decide
  obtain ⟨r, h1, hp⟩ := putAll_ex _ hm (ordT n) [] hl (fun _ h => by cases h) (by simp only [List.length_nil]; omega)
  rw [List.append_nil] at hp
  refine ⟨r, ?_, hp⟩
  unfold spec_NormalsOf.f
  exact Ev.bind0 (eq_of_beq hs2) (Ev.ite_pos rfl (Ev.bind (Ev.of (spec_l15First.mono _) ha) (Ev.bind (Ev.of (spec_NormalWiring.mono _ _) hw) (Ev.bind (reach_ev n (brT n) (brT_ev n h3 h5) 70 (stT n) (ordT n) hr) (Ev.ite_pos (by omega) h1)))))
end Go.Proofs.Ytoajlmlobaccdaa.Pure
namespace Go.Proofs.Ytoajlmlobaccdaa.Pure
set_option linter.unusedSimpArgs false
set_option linter.unusedVariables false
open Go.RowKit Go.Proofs.YtoajlmlobaccdaaW.PrintWords Go.Proofs.Ytoajlmlobaccdaa.P Go.Proofs.Ytoajlmlobaccdaa.Pl
def mixed (n : Nat) (s : ByteArray) (a b c d : Int) : Bool := !decide ((circT (sg n s b c d) (sg n s a c d) (sg n s a b d) (sg n s a b c)).toList = ([43, 43, 43, 43] : List UInt8))
def mixQ (n : Nat) (s : ByteArray) (q : Q4) : Bool := mixed n s q.f0 q.f1 q.f2 q.f3
def acyT (n : Nat) (s : ByteArray) : Bool := (quad n).all (mixQ n s)
theorem impl_acy_ev (n : Nat) (hn : n ≤ 7) (s : ByteArray) : Ev (fun k => impl_chi_isAcyclic.f k (tab n s)) (acyT n s) := by
  have hl := tab_length n s
  obtain ⟨hq, hq1⟩ := quad_ok n hn
  rw [List.all_eq_true] at hq
  unfold impl_chi_isAcyclic.f acyT
  rw [tab_n]
  refine Ev.ite_pos (by omega) (Ev.bind (quadsOf_ev n hn) ?_)
  have key := Ev.loop_to (fun i k => impl_chi_isAcyclic.l0 k (tab n s) (quad n) (quad n).length i) (quad n).length (fun i => ((quad n).drop i).all (mixQ n s)) ?_ ?_ 0 (by omega)
  · simpa using key
  · refine Ev.step (fun k => impl_chi_isAcyclic.l0.eq_2 ..) (Ev.ite_neg (by omega) (Ev.const ?_))
    rw [List.drop_of_length_le (by omega)]
    rfl
  · intro i hi ih
    have hr : rd_T180 (quad n) (i : Int) = (quad n)[i] := by
      unfold rd_T180
      rw [Int.toNat_natCast, getD_lt _ _ _ hi]
    have ht := hq _ (List.getElem_mem hi)
    rw [List.drop_eq_getElem_cons hi, List.all_cons]
    refine Ev.step (fun k => impl_chi_isAcyclic.l0.eq_2 ..) (Ev.ite_pos (by omega) (Ev.ite_pos (by omega) (Ev.ite_pos (by omega) ?_)))
    rw [hr, wrap_nat i (by omega)]
    generalize (quad n)[i] = q at ht ⊢
    obtain ⟨a, b, c, d⟩ := q
    unfold okQ at ht
    rw [decide_eq_true_eq] at ht
    dsimp only at ht
    obtain ⟨a, rfl⟩ := Int.eq_ofNat_of_zero_le ht.1
    obtain ⟨b, rfl⟩ := Int.eq_ofNat_of_zero_le (show 0 ≤ b by omega)
    obtain ⟨c, rfl⟩ := Int.eq_ofNat_of_zero_le (show 0 ≤ c by omega)
    obtain ⟨d, rfl⟩ := Int.eq_ofNat_of_zero_le (show 0 ≤ d by omega)
    refine Ev.bind (impl_circuit_ev n hn s a b c d (by omega) (by omega) (by omega) (by omega)) ?_
    rw [show mixQ n s (⟨a, b, c, d⟩ : Q4) = !decide ((circT (sg n s b c d) (sg n s a c d) (sg n s a b d) (sg n s a b c)).toList = ([43, 43, 43, 43] : List UInt8)) from rfl]
    by_cases h : (circT (sg n s b c d) (sg n s a c d) (sg n s a b d) (sg n s a b c)).toList = ([43, 43, 43, 43] : List UInt8)
    · rw [decide_eq_true h]
      exact Ev.ite_pos h (Ev.now _)
    · rw [decide_eq_false h]
      exact Ev.ite_neg h (by simpa using ih)
section
variable (n : Nat) (s : ByteArray)
def m4 (a b c d : Nat) : Bool := mixed n s a b c d
def m3 (a b c : Nat) : Bool := ((List.range n).drop (c + 1)).all (m4 n s a b c)
def m2 (a b : Nat) : Bool := ((List.range n).drop (b + 1)).all (m3 n s a b)
def m1 (a : Nat) : Bool := ((List.range n).drop (a + 1)).all (m2 n s a)
end
def isA (n : Int) (s : ByteArray) : Bool := isM n s && acyT n.toNat s
theorem isM_S {n : Int} {s : ByteArray} (h : isM n s = true) : isS n s = true := by
  unfold isM at h
  rw [Bool.and_eq_true] at h
  exact h.1
theorem impl_IsAcyclic_ev (n : Int) (s : ByteArray) : Ev (fun k => impl_IsAcyclic.f k n s) (isA n s) := by
  unfold impl_IsAcyclic.f isA
  refine Ev.bind (impl_IsMatroid_ev n s) ?_
  cases hM : isM n s with
  | false => exact Ev.ite_neg (by simp) (Ev.now _)
  | true =>
    obtain ⟨h3, h7, hs, _⟩ := isS_bounds (isM_S hM)
    obtain ⟨n, rfl⟩ := Int.eq_ofNat_of_zero_le (show 0 ≤ n by omega)
    rw [Int.toNat_natCast] at hs ⊢
    exact Ev.ite_pos rfl (Ev.bind (tableOf_ev n (by omega) s hs) (Ev.bind (impl_acy_ev n (by omega) s) (Ev.now _)))
end Go.Proofs.Ytoajlmlobaccdaa.Pure
namespace Go.Proofs.Ytoajlmlobaccdaa.Pure
set_option linter.unusedSimpArgs false
set_option linter.unusedVariables false
set_option maxRecDepth 100000
open Go.RowKit Go.Proofs.YtoajlmlobaccdaaW.PrintWords Go.Proofs.Ytoajlmlobaccdaa.P Go.Proofs.Ytoajlmlobaccdaa.Pl
def txt (n c : Nat) : ByteArray := strOfNums ((List.range (tri n).length).map fun m => if c.testBit m then (43 : Int) else 45)
def okNm (n : Nat) (q : List Int) : Bool := decide (q.length = n) && (q.all (fun x => decide (0 ≤ x ∧ x < (n : Int))) && decide q.Nodup)
theorem okNm_mem (n : Nat) (q : List Int) (h : okNm n q = true) : q ∈ AN n := by
  unfold okNm at h
  rw [Bool.and_eq_true, Bool.and_eq_true, decide_eq_true_eq, decide_eq_true_eq, List.all_eq_true] at h
  exact lev_of n n q h.1 (fun x hx => of_decide_eq_true (h.2.1 x hx)) h.2.2
def ceOk (n : Nat) (e : Nat × List Int) : Bool := okNm n e.2 && ((nodes n).map Nd.s).contains (pickT n (txt n e.1) e.2).data.toList
def cert3_0 : List (Nat × List Int) := [(0, [0, 1, 2]), (1, [0, 1, 2])]
theorem cert3_0_ok : cert3_0.all (ceOk 3) = true := by decide +kernel
def cert4_0 : List (Nat × List Int) := [(0, [0, 1, 2, 3]), (1, [0, 1, 2, 3]), (2, [1, 0, 2, 3]), (3, [0, 1, 2, 3]), (4, [0, 1, 3, 2]), (6, [0, 2, 1, 3]), (7, [0, 1, 2, 3]), (8, [0, 1, 2, 3]), (9, [0, 2, 1, 3]), (11, [0, 1, 3, 2]), (12, [0, 1, 2, 3]), (13, [1, 0, 2, 3]), (14, [0, 1, 2, 3]), (15, [0, 1, 2, 3])]
theorem cert4_0_ok : cert4_0.all (ceOk 4) = true := by decide +kernel
def cert5_0 : List (Nat × List Int) := [(0, [0, 1, 2, 3, 4]), (1, [0, 1, 2, 3, 4]), (3, [0, 1, 2, 3, 4]), (4, [1, 0, 2, 3, 4]), (6, [1, 0, 2, 3, 4]), (7, [0, 1, 2, 3, 4]), (11, [0, 1, 2, 3, 4]), (15, [0, 1, 2, 3, 4]), (20, [1, 2, 0, 3, 4]), (22, [1, 2, 0, 3, 4]), (30, [0, 2, 1, 3, 4]), (31, [0, 1, 2, 3, 4]), (32, [0, 1, 2, 4, 3]), (33, [0, 1, 2, 4, 3]), (48, [0, 1, 4, 2, 3]), (52, [0, 3, 2, 1, 4]), (56, [0, 1, 4, 3, 2]), (60, [0, 2, 3, 1, 4]), (62, [0, 2, 1, 3, 4]), (63, [0, 1, 2, 3, 4]), (64, [0, 1, 2, 3, 4]), (68, [1, 0, 2, 3, 4]), (72, [0, 1, 2, 3, 4]), (74, [0, 1, 2, 3, 4]), (75, [0, 1, 2, 3, 4]), (76, [1, 0, 2, 3, 4]), (77, [1, 0, 2, 3, 4]), (79, [0, 1, 2, 3, 4]), (84, [1, 2, 0, 3, 4]), (85, [1, 2, 0, 3, 4]), (93, [1, 0, 2, 3, 4]), (95, [0, 1, 2, 3, 4]), (96, [0, 1, 2, 4, 3])]
theorem cert5_0_ok : cert5_0.all (ceOk 5) = true := by decide +kernel
def cert5_1 : List (Nat × List Int) := [(112, [0, 1, 4, 2, 3]), (116, [0, 3, 2, 1, 4]), (117, [0, 3, 1, 2, 4]), (119, [0, 1, 3, 2, 4]), (127, [0, 1, 2, 3, 4]), (129, [0, 2, 1, 3, 4]), (131, [0, 2, 1, 3, 4]), (138, [0, 2, 1, 3, 4]), (139, [0, 2, 1, 3, 4]), (145, [2, 0, 1, 3, 4]), (146, [2, 0, 1, 3, 4]), (147, [2, 0, 1, 3, 4]), (148, [2, 1, 0, 3, 4]), (149, [2, 1, 0, 3, 4]), (150, [2, 0, 1, 3, 4]), (154, [0, 2, 1, 3, 4]), (158, [0, 2, 1, 3, 4]), (161, [0, 2, 1, 4, 3]), (165, [0, 2, 4, 1, 3]), (180, [0, 3, 1, 2, 4]), (181, [0, 3, 1, 2, 4]), (188, [0, 2, 3, 1, 4]), (190, [0, 2, 1, 3, 4]), (192, [0, 1, 2, 3, 4]), (193, [0, 2, 1, 3, 4]), (200, [0, 1, 2, 3, 4]), (202, [0, 1, 2, 3, 4]), (209, [1, 2, 0, 3, 4]), (213, [1, 2, 0, 3, 4]), (216, [0, 1, 2, 3, 4]), (217, [1, 0, 2, 3, 4]), (218, [0, 1, 2, 3, 4]), (221, [1, 0, 2, 3, 4])]
theorem cert5_1_ok : cert5_1.all (ceOk 5) = true := by decide +kernel
def cert5_2 : List (Nat × List Int) := [(222, [0, 1, 2, 3, 4]), (223, [0, 1, 2, 3, 4]), (224, [0, 1, 2, 4, 3]), (225, [0, 2, 1, 4, 3]), (229, [0, 2, 4, 1, 3]), (231, [0, 1, 3, 4, 2]), (245, [0, 3, 1, 2, 4]), (247, [0, 1, 3, 2, 4]), (254, [0, 1, 2, 3, 4]), (255, [0, 1, 2, 3, 4]), (262, [1, 0, 2, 4, 3]), (263, [0, 1, 2, 4, 3]), (271, [0, 1, 2, 4, 3]), (274, [1, 2, 4, 0, 3]), (278, [1, 2, 0, 4, 3]), (280, [0, 1, 3, 4, 2]), (282, [0, 2, 3, 4, 1]), (286, [0, 2, 1, 4, 3]), (287, [0, 1, 2, 4, 3]), (288, [0, 1, 2, 4, 3]), (289, [0, 1, 2, 4, 3]), (290, [1, 0, 2, 4, 3]), (293, [0, 1, 2, 4, 3]), (294, [1, 0, 2, 4, 3]), (295, [0, 1, 2, 4, 3]), (304, [0, 1, 3, 4, 2]), (306, [1, 0, 3, 4, 2]), (312, [0, 1, 3, 4, 2]), (387, [0, 2, 3, 1, 4]), (391, [0, 1, 4, 2, 3]), (392, [0, 1, 3, 2, 4]), (394, [0, 2, 3, 1, 4]), (395, [0, 2, 3, 1, 4])]
theorem cert5_2_ok : cert5_2.all (ceOk 5) = true := by decide +kernel
def cert5_3 : List (Nat × List Int) := [(399, [0, 1, 4, 2, 3]), (402, [1, 3, 0, 2, 4]), (403, [1, 3, 0, 2, 4]), (408, [0, 1, 3, 2, 4]), (410, [0, 2, 3, 1, 4]), (421, [0, 1, 3, 4, 2]), (423, [0, 1, 3, 4, 2]), (432, [0, 1, 3, 2, 4]), (434, [1, 0, 3, 2, 4]), (435, [1, 0, 3, 2, 4]), (436, [0, 1, 3, 2, 4]), (437, [0, 1, 3, 2, 4]), (439, [0, 1, 3, 2, 4]), (440, [0, 1, 3, 2, 4]), (444, [0, 1, 3, 2, 4]), (448, [0, 1, 2, 3, 4]), (449, [0, 2, 1, 3, 4]), (451, [0, 2, 3, 1, 4]), (455, [0, 1, 4, 3, 2]), (456, [0, 1, 2, 3, 4]), (465, [1, 2, 0, 3, 4]), (467, [1, 2, 3, 0, 4]), (472, [0, 1, 2, 3, 4]), (473, [1, 0, 2, 3, 4]), (487, [0, 1, 3, 4, 2]), (499, [1, 0, 3, 2, 4]), (503, [0, 1, 3, 2, 4]), (504, [0, 1, 2, 3, 4]), (505, [1, 0, 2, 3, 4]), (507, [1, 0, 2, 3, 4]), (508, [0, 1, 2, 3, 4]), (510, [0, 1, 2, 3, 4]), (511, [0, 1, 2, 3, 4])]
theorem cert5_3_ok : cert5_3.all (ceOk 5) = true := by decide +kernel
def cert5_4 : List (Nat × List Int) := [(512, [0, 1, 2, 3, 4]), (513, [0, 1, 2, 3, 4]), (515, [0, 1, 2, 3, 4]), (516, [1, 0, 2, 3, 4]), (518, [1, 0, 2, 3, 4]), (519, [0, 1, 2, 3, 4]), (520, [0, 1, 3, 2, 4]), (524, [1, 0, 3, 2, 4]), (536, [0, 1, 3, 4, 2]), (550, [1, 0, 2, 3, 4]), (551, [0, 1, 2, 3, 4]), (556, [1, 2, 3, 0, 4]), (558, [1, 2, 0, 3, 4]), (567, [0, 1, 2, 3, 4]), (568, [0, 1, 4, 3, 2]), (572, [0, 2, 3, 1, 4]), (574, [0, 2, 1, 3, 4]), (575, [0, 1, 2, 3, 4]), (579, [0, 1, 3, 2, 4]), (583, [0, 1, 3, 2, 4]), (584, [0, 1, 3, 2, 4]), (586, [0, 1, 3, 2, 4]), (587, [0, 1, 3, 2, 4]), (588, [1, 0, 3, 2, 4]), (589, [1, 0, 3, 2, 4]), (591, [0, 1, 3, 2, 4]), (600, [0, 1, 3, 4, 2]), (602, [0, 1, 3, 4, 2]), (613, [0, 2, 3, 1, 4]), (615, [0, 1, 3, 2, 4]), (620, [1, 3, 0, 2, 4]), (621, [1, 3, 0, 2, 4]), (624, [0, 1, 4, 2, 3])]
theorem cert5_4_ok : cert5_4.all (ceOk 5) = true := by decide +kernel
def cert5_5 : List (Nat × List Int) := [(628, [0, 2, 3, 1, 4]), (629, [0, 2, 3, 1, 4]), (631, [0, 1, 3, 2, 4]), (632, [0, 1, 4, 2, 3]), (636, [0, 2, 3, 1, 4]), (711, [0, 1, 3, 4, 2]), (717, [1, 0, 3, 4, 2]), (719, [0, 1, 3, 4, 2]), (728, [0, 1, 2, 4, 3]), (729, [1, 0, 2, 4, 3]), (730, [0, 1, 2, 4, 3]), (733, [1, 0, 2, 4, 3]), (734, [0, 1, 2, 4, 3]), (735, [0, 1, 2, 4, 3]), (736, [0, 1, 2, 4, 3]), (737, [0, 2, 1, 4, 3]), (741, [0, 2, 3, 4, 1]), (743, [0, 1, 3, 4, 2]), (745, [1, 2, 0, 4, 3]), (749, [1, 2, 4, 0, 3]), (752, [0, 1, 2, 4, 3]), (760, [0, 1, 2, 4, 3]), (761, [1, 0, 2, 4, 3]), (768, [0, 1, 2, 3, 4]), (769, [0, 1, 2, 3, 4]), (776, [0, 1, 3, 2, 4]), (778, [0, 3, 1, 2, 4]), (792, [0, 1, 3, 4, 2]), (794, [0, 2, 4, 1, 3]), (798, [0, 2, 1, 4, 3]), (799, [0, 1, 2, 4, 3]), (800, [0, 1, 2, 3, 4]), (801, [0, 1, 2, 3, 4])]
theorem cert5_5_ok : cert5_5.all (ceOk 5) = true := by decide +kernel
def cert5_6 : List (Nat × List Int) := [(802, [1, 0, 2, 3, 4]), (805, [0, 1, 2, 3, 4]), (806, [1, 0, 2, 3, 4]), (807, [0, 1, 2, 3, 4]), (810, [1, 2, 0, 3, 4]), (814, [1, 2, 0, 3, 4]), (821, [0, 1, 2, 3, 4]), (823, [0, 1, 2, 3, 4]), (830, [0, 2, 1, 3, 4]), (831, [0, 1, 2, 3, 4]), (833, [0, 2, 1, 3, 4]), (835, [0, 2, 3, 1, 4]), (842, [0, 3, 1, 2, 4]), (843, [0, 3, 1, 2, 4]), (858, [0, 2, 4, 1, 3]), (862, [0, 2, 1, 4, 3]), (865, [0, 2, 1, 3, 4]), (869, [0, 2, 1, 3, 4]), (873, [2, 0, 1, 3, 4]), (874, [2, 1, 0, 3, 4]), (875, [2, 1, 0, 3, 4]), (876, [2, 0, 1, 3, 4]), (877, [2, 0, 1, 3, 4]), (878, [2, 0, 1, 3, 4]), (884, [0, 2, 1, 3, 4]), (885, [0, 2, 1, 3, 4]), (892, [0, 2, 1, 3, 4]), (894, [0, 2, 1, 3, 4]), (896, [0, 1, 2, 3, 4]), (904, [0, 1, 3, 2, 4]), (906, [0, 3, 1, 2, 4]), (907, [0, 3, 2, 1, 4]), (911, [0, 1, 4, 2, 3])]
theorem cert5_6_ok : cert5_6.all (ceOk 5) = true := by decide +kernel
def cert5_7 : List (Nat × List Int) := [(927, [0, 1, 2, 4, 3]), (928, [0, 1, 2, 3, 4]), (930, [1, 0, 2, 3, 4]), (938, [1, 2, 0, 3, 4]), (939, [1, 2, 0, 3, 4]), (944, [0, 1, 2, 3, 4]), (946, [1, 0, 2, 3, 4]), (947, [1, 0, 2, 3, 4]), (948, [0, 1, 2, 3, 4]), (949, [0, 1, 2, 3, 4]), (951, [0, 1, 2, 3, 4]), (955, [1, 0, 2, 3, 4]), (959, [0, 1, 2, 3, 4]), (960, [0, 1, 2, 3, 4]), (961, [0, 2, 1, 3, 4]), (963, [0, 2, 3, 1, 4]), (967, [0, 1, 4, 3, 2]), (971, [0, 3, 2, 1, 4]), (975, [0, 1, 4, 2, 3]), (990, [0, 1, 2, 4, 3]), (991, [0, 1, 2, 4, 3]), (992, [0, 1, 2, 3, 4]), (993, [0, 2, 1, 3, 4]), (1001, [1, 2, 0, 3, 4]), (1003, [1, 2, 0, 3, 4]), (1008, [0, 1, 2, 3, 4]), (1012, [0, 1, 2, 3, 4]), (1016, [0, 1, 2, 3, 4]), (1017, [1, 0, 2, 3, 4]), (1019, [1, 0, 2, 3, 4]), (1020, [0, 1, 2, 3, 4]), (1022, [0, 1, 2, 3, 4]), (1023, [0, 1, 2, 3, 4])]
theorem cert5_7_ok : cert5_7.all (ceOk 5) = true := by decide +kernel
def cert (n : Nat) : List (Nat × List Int) := if n = 3 then cert3_0 else if n = 4 then cert4_0 else cert5_0 ++ cert5_1 ++ cert5_2 ++ cert5_3 ++ cert5_4 ++ cert5_5 ++ cert5_6 ++ cert5_7
theorem cert_ok (n : Nat) (h3 : 3 ≤ n) (h5 : n ≤ 5) : (cert n).all (ceOk n) = true := by
  have : n = 3 ∨ n = 4 ∨ n = 5 := by omega
  rcases this with rfl | rfl | rfl
  · exact cert3_0_ok
  · exact cert4_0_ok
  · show (cert5_0 ++ cert5_1 ++ cert5_2 ++ cert5_3 ++ cert5_4 ++ cert5_5 ++ cert5_6 ++ cert5_7).all (ceOk 5) = true
    simp only [List.all_append, cert5_0_ok, cert5_1_ok, cert5_2_ok, cert5_3_ok, cert5_4_ok, cert5_5_ok, cert5_6_ok, cert5_7_ok, Bool.and_true]
def inC5 (n c : Nat) : Bool := !isA (n : Int) (txt n c) || (cert n).any fun e => e.1 == c
theorem in3 : (List.range 2).all (inC5 3) = true := by decide +kernel
theorem in4 : (List.range 16).all (inC5 4) = true := by decide +kernel
theorem in5_0 : (List.range 128).all (fun i => inC5 5 (0 + i)) = true := by decide +kernel
theorem in5_1 : (List.range 128).all (fun i => inC5 5 (128 + i)) = true := by decide +kernel
theorem in5_2 : (List.range 128).all (fun i => inC5 5 (256 + i)) = true := by decide +kernel
theorem in5_3 : (List.range 128).all (fun i => inC5 5 (384 + i)) = true := by decide +kernel
theorem in5_4 : (List.range 128).all (fun i => inC5 5 (512 + i)) = true := by decide +kernel
theorem in5_5 : (List.range 128).all (fun i => inC5 5 (640 + i)) = true := by decide +kernel
theorem in5_6 : (List.range 128).all (fun i => inC5 5 (768 + i)) = true := by decide +kernel
theorem in5_7 : (List.range 128).all (fun i => inC5 5 (896 + i)) = true := by decide +kernel
theorem in_at (n : Nat) (h3 : 3 ≤ n) (h5 : n ≤ 5) (c : Nat) (hc : c < 2 ^ (tri n).length) (hA : isA (n : Int) (txt n c) = true) : ∃ q ∈ AN n, ∃ e ∈ nodes n, (pickT n (txt n c) q).data.toList = e.s := by
  have hin : inC5 n c = true := by
    have : n = 3 ∨ n = 4 ∨ n = 5 := by omega
    rcases this with rfl | rfl | rfl
    · exact List.all_eq_true.1 in3 c (List.mem_range.2 hc)
    · exact List.all_eq_true.1 in4 c (List.mem_range.2 hc)
    · have hc : c < 1024 := hc
      have key : ∀ j, j < 8 → (List.range 128).all (fun i => inC5 5 (128 * j + i)) = true := by
        intro j hj
        have : j = 0 ∨ j = 1 ∨ j = 2 ∨ j = 3 ∨ j = 4 ∨ j = 5 ∨ j = 6 ∨ j = 7 := by omega
        rcases this with rfl | rfl | rfl | rfl | rfl | rfl | rfl | rfl
        · exact in5_0
        · exact in5_1
        · exact in5_2
        · exact in5_3
        · exact in5_4
        · exact in5_5
        · exact in5_6
        · exact in5_7
      have h := List.all_eq_true.1 (key (c / 128) (by omega)) (c % 128) (List.mem_range.2 (by omega))
      rw [show 128 * (c / 128) + c % 128 = c by omega] at h
      exact h
  unfold inC5 at hin
  rw [hA, Bool.not_true, Bool.false_or, List.any_eq_true] at hin
  obtain ⟨e, he, hec⟩ := hin
  have hk := List.all_eq_true.1 (cert_ok n h3 h5) e he
  unfold ceOk at hk
  rw [Bool.and_eq_true] at hk
  have e1 : e.1 = c := by simpa using hec
  rw [e1] at hk
  have h2 : (pickT n (txt n c) e.2).data.toList ∈ (nodes n).map Nd.s := by simpa using hk.2
  obtain ⟨d, hd, hs⟩ := List.mem_map.1 h2
  exact ⟨e.2, okNm_mem n e.2 hk.1, d, hd, hs.symm⟩
end Go.Proofs.Ytoajlmlobaccdaa.Pure
