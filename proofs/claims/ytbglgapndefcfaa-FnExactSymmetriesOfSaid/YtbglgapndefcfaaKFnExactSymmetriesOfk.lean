/- What the law FnExactSymmetriesOf reaches, part 11: functions as plain Lean functions with the proofs that their calls come to them, and plain lemmas over these. Put together by a program (wip/pack.py). -/
import Derived.Test.YtbglgapndefcfaaKFnExactSymmetriesOfj
import Derived.Test.YtbglgapndefcfaaKFnExactSymmetriesOfh
import Derived.Test.YtbglgapndefcfaaKFnExactSymmetriesOfi
import Derived.Test.YtbglgapndefcfaaKFnExactSymmetriesOfe
import Derived.Test.YtbglgapndefcfaaKFnExactSymmetriesOfc
import Derived.Test.YtbglgapndefcfaaKFnExactSymmetriesOfg
import Derived.Test.YtbglgapndefcfaaKFnExactSymmetriesOfd
namespace Go.Proofs.Ytbglgapndefcfaa.Pure
set_option linter.unusedSimpArgs false
set_option linter.unusedVariables false
open Go.RowKit Go.Proofs.YtbglgapndefcfaaW.PrintWords Go.Proofs.Ytbglgapndefcfaa.P Go.Proofs.Ytbglgapndefcfaa.Pl
def has (set : Int) (i : Nat) : Bool := (Go.bits .and .i64 (shr .i64 set (i : Int)) 1) == 1
def listT (n : Nat) : List T3 :=
  ((List.range n).drop 0).flatMap fun a : Nat => ((List.range n).drop (a + 1)).flatMap fun b : Nat => ((List.range n).drop (b + 1)).map fun c : Nat => (⟨a, b, c⟩ : T3)
def tupT (q : T3) : Int × Int × Int := (q.f0, q.f1, q.f2)
def untupT (q : Int × Int × Int) : T3 := ⟨q.1, q.2.1, q.2.2⟩
theorem untupT_map (l : List T3) : (l.map tupT).map untupT = l := by
  rw [List.map_map]
  exact List.map_id' l
theorem all_t : (List.range 8).all (fun n => (listT n).map tupT == (tri n).map tupT) = true := by decide +kernel
theorem listT_eq (n : Nat) (hn : n ≤ 7) : listT n = tri n := by
  have h := all_t
  rw [List.all_eq_true] at h
  have h := congrArg (List.map untupT) (eq_of_beq (h n (by simp; omega)))
  rwa [untupT_map, untupT_map] at h
def okMask (set a b c : Nat) : Bool := decide (Go.bits .and .i64 (set : Int) (Go.bits .or .i64 (Go.bits .or .i64 (shl .i64 1 (a : Int)) (shl .i64 1 (b : Int))) (shl .i64 1 (c : Int))) = Go.bits .or .i64 (Go.bits .or .i64 (shl .i64 1 (a : Int)) (shl .i64 1 (b : Int))) (shl .i64 1 (c : Int))) == (has set a && has set b && has set c)
def hulT (n : Nat) (s : ByteArray) (set : Int) (p : Nat) (a b c : Nat) : Bool := has set a && has set b && has set c && (inn n s p a b c == p)
def hul (n : Nat) (s : ByteArray) (set : Int) (p : Nat) : Bool := (tri n).any fun t => hulT n s set p t.f0.toNat t.f1.toNat t.f2.toNat
def pm (v : Int) : Int := if v > 0 then 43 else 45
def codesT (l : List Int) (ts : List T3) : List Int := ts.map fun t => pm (chiA l t.f0 t.f1 t.f2)
theorem signs_ev (n : Nat) (hn : n ≤ 7) (l : List Int) (hl : l.length = 344) (hc : chiN l = n) : Ev (fun k => impl_chi_signs.f k l) ((n : Int), strOfNums (codesT l (tri n))) := by
  unfold impl_chi_signs.f
  rw [hc]
  refine Ev.ite_pos (by omega) (Ev.bind (triplesOf_ev n hn) ?_)
  have h35 : (tri n).length ≤ 1000 := by
    have : (List.range 8).all (fun n => decide ((tri n).length ≤ 1000)) = true := by decide +kernel
    rw [List.all_eq_true] at this
    simpa using this n (by simp; omega)
  have key := Ev.loop (fun i k => impl_chi_signs.l0 k l (codesT l ((tri n).take i)) (tri n) (tri n).length i) (tri n).length ((n : Int), strOfNums (codesT l (tri n))) ?_ ?_ 0 (by omega)
  · simpa [codesT] using key
  · refine Ev.step (fun k => impl_chi_signs.l0.eq_2 ..) (Ev.ite_neg (by omega) (Ev.ite_pos (by omega) (Ev.const ?_)))
    rw [List.take_length, hc]
  · intro i hi ih
    have ht := tri_at n hn i hi
    have hlen : (codesT l ((tri n).take i)).length < 140737488355328 := by unfold codesT; simp; omega
    refine Ev.step (fun k => impl_chi_signs.l0.eq_2 ..) (Ev.ite_pos (by omega) (Ev.ite_pos (by omega) (Ev.ite_pos (by omega) (Ev.ite_pos (by omega) ?_))))
    rw [wrap_nat i (by omega), rdT_lt _ i hi]
    have hcod : codesT l ((tri n).take (i + 1)) = codesT l ((tri n).take i) ++ [pm (chiA l (tri n)[i].f0 (tri n)[i].f1 (tri n)[i].f2)] := by
      unfold codesT
      rw [List.take_succ_eq_append_getElem hi, List.map_append]
      rfl
    rw [hcod] at ih
    generalize (tri n)[i] = t at ih ht ⊢
    unfold okT at ht
    rw [decide_eq_true_eq] at ht
    refine Ev.ite_pos (by omega) (Ev.ite_pos (by omega) (Ev.ite_pos (by omega) (Ev.ite_pos (by omega) (Ev.ite_pos (by omega) (Ev.ite_pos (by omega) ?_)))))
    unfold pm at ih
    by_cases h : chiA l t.f0 t.f1 t.f2 > 0
    · rw [if_pos h] at ih
      exact Ev.ite_pos h (Ev.ite_pos hlen ih)
    · rw [if_neg h] at ih
      exact Ev.ite_neg h (Ev.ite_pos hlen ih)
theorem all_tri : (List.range 8).all (fun n => (List.range (tri n).length).all fun m => (let t := (tri n).getD m ⟨0, 0, 0⟩; src (tri n) 0 t.f0 t.f1 t.f2 == some (m, true))) = true := by decide +kernel
theorem tri_src (n : Nat) (hn : n ≤ 7) (m : Nat) (hm : m < (tri n).length) : src (tri n) 0 (tri n)[m].f0 (tri n)[m].f1 (tri n)[m].f2 = some (m, true) := by
  have g := all_tri
  rw [List.all_eq_true] at g
  have g := g n (by simp; omega)
  rw [List.all_eq_true] at g
  have g := g m (by simpa using hm)
  rw [getD_lt _ _ _ hm] at g
  simpa using g
theorem tri_nat (n : Nat) (hn : n ≤ 7) (m : Nat) (hm : m < (tri n).length) : ∃ a b c : Nat, a < b ∧ b < c ∧ c < n ∧ (tri n)[m] = ⟨a, b, c⟩ := by
  have h := tri_ok n hn
  rw [List.all_eq_true] at h
  have h := h _ (List.getElem_mem hm)
  generalize (tri n)[m] = t at h ⊢
  obtain ⟨a, b, c⟩ := t
  unfold okT at h
  rw [decide_eq_true_eq] at h
  dsimp only at h
  obtain ⟨a, rfl⟩ := Int.eq_ofNat_of_zero_le h.1
  obtain ⟨b, rfl⟩ := Int.eq_ofNat_of_zero_le (show 0 ≤ b by omega)
  obtain ⟨c, rfl⟩ := Int.eq_ofNat_of_zero_le (show 0 ≤ c by omega)
  exact ⟨a, b, c, by omega, by omega, by omega, rfl⟩
theorem tab_tri (n : Nat) (hn : n ≤ 7) (s : ByteArray) (m : Nat) (hm : m < (tri n).length) : chiA (tab n s) (tri n)[m].f0 (tri n)[m].f1 (tri n)[m].f2 = sgAt s m := by
  obtain ⟨a, b, c, h1, h2, h3, e⟩ := tri_nat n hn m hm
  have hs := tri_src n hn m hm
  rw [e] at hs ⊢
  dsimp only at hs ⊢
  rw [tab_at n hn s a b c (by omega) (by omega) (by omega)]
  unfold sg
  rw [hs]
  rfl
def okD3 (t : T3) : Prop := ∃ a b c : Nat, t = ⟨a, b, c⟩ ∧ a < 7 ∧ b < 7 ∧ c < 7 ∧ a ≠ b ∧ b ≠ c ∧ a ≠ c
theorem chiA_put3d (l : List Int) (hl : l.length = 344) (t : T3) (ht : okD3 t) (v : Int) (x y z : Nat) (hx : x < 7) (hy : y < 7) (hz : z < 7) :
    chiA (put3 l t v) x y z = match par t x y z with | some true => v | some false => wrap64 (-v) | none => chiA l x y z := by
  obtain ⟨a, b, c, rfl, ha, hb, hc, h1, h2, h3⟩ := ht
  exact chiA_set l hl a b c ha hb hc h1 h2 h3 v x y z hx hy hz
theorem chiA_filld (v : Nat → Int) (x y z : Nat) (hx : x < 7) (hy : y < 7) (hz : z < 7) : ∀ (ts : List T3), (∀ t ∈ ts, okD3 t) → ∀ m l, l.length = 344 → chiA (fill v ts m l) x y z = sval v (chiA l x y z) (src ts m x y z) := by
  intro ts
  induction ts with
  | nil => intro _ m l _; rfl
  | cons t ts ih =>
    intro h m l hl
    rw [fill, ih (fun u hu => h u (List.mem_cons_of_mem _ hu)) (m + 1) _ (by unfold put3; rw [chiSet_length]; exact hl), chiA_put3d l hl t (h t List.mem_cons_self) (v m) x y z hx hy hz, src]
    cases hs : src ts (m + 1) x y z with
    | some p => obtain ⟨q, b⟩ := p; cases b <;> rfl
    | none =>
      cases hp : par t x y z with
      | none => rfl
      | some b => cases b <;> rfl
def permT (p : List Int) (t : T3) : T3 := ⟨rd p t.f0, rd p t.f1, rd p t.f2⟩
def isP (n : Nat) (p : List Int) : Prop := p.length = n ∧ (inv p).length = n ∧ ∀ a, a < n → (0 ≤ rd p (a : Int) ∧ rd p (a : Int) < n ∧ 0 ≤ rd (inv p) (a : Int) ∧ rd (inv p) (a : Int) < n) ∧ ∀ x, x < n → ((x : Int) = rd p (a : Int) ↔ rd (inv p) (x : Int) = (a : Int))
theorem par_perm (n : Nat) (p : List Int) (hp : isP n p) (a b c x y z : Nat) (ha : a < n) (hb : b < n) (hc : c < n) (hx : x < n) (hy : y < n) (hz : z < n) :
    par (permT p ⟨a, b, c⟩) x y z = par ⟨a, b, c⟩ (rd (inv p) (x : Int)) (rd (inv p) (y : Int)) (rd (inv p) (z : Int)) := by
  have h : ∀ u v : Nat, u < n → v < n → ((u : Int) = rd p (v : Int) ↔ rd (inv p) (u : Int) = (v : Int)) := fun u v hu hv => (hp.2.2 v hv).2 u hu
  unfold par permT
  simp only [h x a hx ha, h x b hx hb, h x c hx hc, h y a hy ha, h y b hy hb, h y c hy hc, h z a hz ha, h z b hz hb, h z c hz hc]
theorem src_perm (n : Nat) (p : List Int) (hp : isP n p) (x y z : Nat) (hx : x < n) (hy : y < n) (hz : z < n) : ∀ (ts : List T3), (∀ t ∈ ts, ∃ a b c : Nat, t = ⟨a, b, c⟩ ∧ a < n ∧ b < n ∧ c < n) → ∀ m,
    src (ts.map (permT p)) m x y z = src ts m (rd (inv p) (x : Int)) (rd (inv p) (y : Int)) (rd (inv p) (z : Int)) := by
  intro ts
  induction ts with
  | nil => intro _ m; rfl
  | cons t ts ih =>
    intro h m
    obtain ⟨a, b, c, rfl, ha, hb, hc⟩ := h t List.mem_cons_self
    rw [List.map_cons, src, src, ih (fun u hu => h u (List.mem_cons_of_mem _ hu)), par_perm n p hp a b c x y z ha hb hc hx hy hz]
theorem tri_mem (n : Nat) (hn : n ≤ 7) (t : T3) (h : t ∈ tri n) : ∃ a b c : Nat, t = ⟨a, b, c⟩ ∧ a < b ∧ b < c ∧ c < n := by
  obtain ⟨m, hm, rfl⟩ := List.getElem_of_mem h
  obtain ⟨a, b, c, h1, h2, h3, e⟩ := tri_nat n hn m hm
  exact ⟨a, b, c, e, h1, h2, h3⟩
theorem perm_ne (n : Nat) (p : List Int) (hp : isP n p) (a b : Nat) (ha : a < n) (hb : b < n) (h : a ≠ b) : rd p (a : Int) ≠ rd p (b : Int) := by
  intro e
  have h1 := hp.2.2 a ha
  have h2 := hp.2.2 b hb
  obtain ⟨u, hu⟩ := Int.eq_ofNat_of_zero_le h1.1.1
  have hun : u < n := by omega
  have k1 := (h1.2 u hun).mp hu.symm
  have k2 := (h2.2 u hun).mp (by rw [← e]; exact hu.symm)
  omega
theorem permT_ok (n : Nat) (hn : n ≤ 7) (p : List Int) (hp : isP n p) (t : T3) (h : t ∈ tri n) : okD3 (permT p t) := by
  obtain ⟨a, b, c, rfl, h1, h2, h3⟩ := tri_mem n hn t h
  have ka := (hp.2.2 a (by omega)).1
  have kb := (hp.2.2 b (by omega)).1
  have kc := (hp.2.2 c (by omega)).1
  have n1 := perm_ne n p hp a b (by omega) (by omega) (by omega)
  have n2 := perm_ne n p hp b c (by omega) (by omega) (by omega)
  have n3 := perm_ne n p hp a c (by omega) (by omega) (by omega)
  exact ⟨(rd p (a : Int)).toNat, (rd p (b : Int)).toNat, (rd p (c : Int)).toNat, by unfold permT; congr 1 <;> dsimp only <;> omega, by omega, by omega, by omega, by omega, by omega, by omega⟩
def pickC (n : Nat) (s : ByteArray) (q : List Int) : List Int := (tri n).map fun t => pm (sg n s (rd q t.f0) (rd q t.f1) (rd q t.f2))
def pickT (n : Nat) (s : ByteArray) (q : List Int) : ByteArray := strOfNums (pickC n s q)
theorem rename_ev (n : Nat) (hn : n ≤ 7) (s : ByteArray) (p : List Int) (hp : isP n p) : Ev (fun k => impl_chi_rename.f k (tab n s) p) ((n : Int), pickT n s (inv p)) := by
  have hl := tab_length n s
  have h35 : (tri n).length ≤ 1000 := by
    have : (List.range 8).all (fun n => decide ((tri n).length ≤ 1000)) = true := by decide +kernel
    rw [List.all_eq_true] at this
    simpa using this n (by simp; omega)
  unfold impl_chi_rename.f
  rw [tab_n]
  refine Ev.ite_pos (by omega) (Ev.bind (triplesOf_ev n hn) ?_)
  have key := Ev.loop (fun i k => impl_chi_rename.l0 k (tab n s) p (fill (sgAt s) (((tri n).take i).map (permT p)) 0 (chiNew n)) (tri n) (tri n).length i) (tri n).length ((n : Int), pickT n s (inv p)) ?_ ?_ 0 (by omega)
  · simpa [fill] using key
  · have hY : (fill (sgAt s) ((tri n).map (permT p)) 0 (chiNew n)).length = 344 := by rw [fill_length, chiNew_length]
    have hN : chiN (fill (sgAt s) ((tri n).map (permT p)) 0 (chiNew n)) = n := by rw [chiN_fill _ _ _ _ (chiNew_length _)]; rfl
    rw [List.take_length]
    refine Ev.step (fun k => impl_chi_rename.l0.eq_2 ..) (Ev.ite_neg (by omega) (Ev.bind (signs_ev n hn _ hY hN) (Ev.const ?_)))
    have e : codesT (fill (sgAt s) ((tri n).map (permT p)) 0 (chiNew n)) (tri n) = pickC n s (inv p) := by
      unfold codesT pickC
      apply List.map_congr_left
      intro t ht
      obtain ⟨a, b, c, rfl, h1, h2, h3⟩ := tri_mem n hn t ht
      dsimp only
      rw [chiA_filld (sgAt s) a b c (by omega) (by omega) (by omega) _ (fun u hu => by obtain ⟨w, hw, rfl⟩ := List.mem_map.mp hu; exact permT_ok n hn p hp w hw) 0 _ (chiNew_length _), chiA_new _ a b c (by omega) (by omega) (by omega)]
      rw [src_perm n p hp a b c (by omega) (by omega) (by omega) (tri n) (fun u hu => by obtain ⟨x, y, z, e, g1, g2, g3⟩ := tri_mem n hn u hu; exact ⟨x, y, z, e, by omega, by omega, by omega⟩) 0]
      rfl
    rw [e]
    rfl
  · intro i hi ih
    have hm := List.getElem_mem hi
    obtain ⟨a, b, c, hab, hbc, hcn, e⟩ := tri_nat n hn i hi
    have hok := permT_ok n hn p hp _ hm
    have htab := tab_tri n hn s i hi
    refine Ev.step (fun k => impl_chi_rename.l0.eq_2 ..) (Ev.ite_pos (by omega) (Ev.ite_pos (by omega) (Ev.ite_pos (by omega) ?_)))
    rw [rdT_lt _ i hi, wrap_nat i (by omega)]
    rw [List.take_succ_eq_append_getElem hi, List.map_append, fill_append, Nat.zero_add, List.length_map, List.length_take, Nat.min_eq_left (by omega)] at ih
    have hlY : (fill (sgAt s) (((tri n).take i).map (permT p)) 0 (chiNew n)).length = 344 := by rw [fill_length, chiNew_length]
    rw [e] at hok htab ih ⊢
    generalize fill (sgAt s) (((tri n).take i).map (permT p)) 0 (chiNew n) = Y at ih hlY ⊢
    dsimp only at htab ⊢
    have hpl := hp.1
    refine Ev.ite_pos (by omega) (Ev.ite_pos (by omega) (Ev.ite_pos (by omega) (Ev.ite_pos (by omega) (Ev.ite_pos (by omega) (Ev.ite_pos (by omega) (Ev.ite_pos (by omega) (Ev.ite_pos (by omega) (Ev.ite_pos (by omega) (Ev.ite_pos (by omega) ?_)))))))))
    rw [htab]
    refine Ev.bind0 (a := put3 Y (permT p ⟨a, b, c⟩) (sgAt s i)) ?_ ih
    obtain ⟨u, v, w, eu, hu, hv, hw, n1, n2, n3⟩ := hok
    have e1 : rd p (a : Int) = u := congrArg S107.f0 eu
    have e2 : rd p (b : Int) = v := congrArg S107.f1 eu
    have e3 : rd p (c : Int) = w := congrArg S107.f2 eu
    rw [eu, e1, e2, e3]
    unfold impl_chi_set.f
    rw [if_pos ⟨hlY, by omega, by omega, by omega⟩]
    rfl
theorem Ev.loopS {σ ρ : Type} (g : σ → Nat → Nat → Option ρ) (m : Nat) (I : σ → Nat → Prop) (R : σ → Nat → ρ) (hend : ∀ S, I S m → Ev (g S m) (R S m))
    (hstep : ∀ S i, i < m → I S i → (∀ S', I S' (i + 1) → Ev (g S' (i + 1)) (R S' (i + 1))) → Ev (g S i) (R S i)) : ∀ i, i ≤ m → ∀ S, I S i → Ev (g S i) (R S i) := by
  have key : ∀ d i, i + d = m → ∀ S, I S i → Ev (g S i) (R S i) := by
    intro d
    induction d with
    | zero => intro i hi S hS; obtain rfl : i = m := by omega
              exact hend S hS
    | succ d ih => intro i hi S hS; exact hstep S i (by omega) hS (fun S' hS' => ih (i + 1) (by omega) S' hS')
  intro i hi
  exact key (m - i) i (by omega)
def rem2 (n i j k : Nat) : List T3 := ((List.range n).drop k).map fun c : Nat => (⟨i, j, c⟩ : T3)
def rem1 (n i j : Nat) : List T3 := ((List.range n).drop j).flatMap fun b : Nat => rem2 n i b (b + 1)
def rem0 (n i : Nat) : List T3 := ((List.range n).drop i).flatMap fun a : Nat => rem1 n a (a + 1)
theorem rem0_all (n : Nat) (hn : n ≤ 7) : rem0 n 0 = tri n := listT_eq n hn
def strP (n : Nat) (s : ByteArray) (q : List Int) (ts : List T3) : ByteArray := strOfNums (ts.map fun t => pm (sg n s (rd q t.f0) (rd q t.f1) (rd q t.f2)))
theorem strOfNums_append (a b : List Int) : strOfNums (a ++ b) = strOfNums a ++ strOfNums b := by
  unfold strOfNums
  apply ByteArray.ext
  apply Array.ext'
  simp [ByteArray.data_append]
theorem strOfNums_size (a : List Int) : (strOfNums a).size = a.length := by
  unfold strOfNums
  show (Array.size _) = _
  simp
theorem strP_cons (n : Nat) (s : ByteArray) (q : List Int) (t : T3) (ts : List T3) : strP n s q (t :: ts) = byteS (sg n s (rd q t.f0) (rd q t.f1) (rd q t.f2)) ++ strP n s q ts := by
  unfold strP
  rw [List.map_cons, show ∀ (x : Int) (l : List Int), x :: l = [x] ++ l from fun _ _ => rfl, strOfNums_append]
  congr 1
  unfold pm byteS
  by_cases h : sg n s (rd q t.f0) (rd q t.f1) (rd q t.f2) > 0
  · rw [if_pos h, if_pos h]
    rfl
  · rw [if_neg h, if_neg h]
    rfl
theorem strP_append (n : Nat) (s : ByteArray) (q : List Int) (a b : List T3) : strP n s q (a ++ b) = strP n s q a ++ strP n s q b := by
  unfold strP
  rw [List.map_append, strOfNums_append]
theorem pick_ev (n : Nat) (hn : n ≤ 7) (s : ByteArray) (hs : s.size = (tri n).length) (q : List Int) (hq : isP n q) : Ev (fun k => spec_l3Pick.f k n s q) ((n : Int), pickT n s q) := by
  have hql := hq.1
  unfold spec_l3Pick.f
  have hnil : (⟨#[]⟩ : ByteArray).size = 0 := rfl
  have key := Ev.loopS (fun (S : ByteArray) i k => spec_l3Pick.l0 k q i n s (q.length : Int) S) n (fun S i => S.size ≤ 1000 * i) (fun S i => ((n : Int), S ++ strP n s q (rem0 n i))) ?_ ?_ 0 (by omega) (⟨#[]⟩ : ByteArray) (by omega)
  · rw [rem0_all n hn] at key
    rw [show pickT n s q = (⟨#[]⟩ : ByteArray) ++ strP n s q (tri n) by unfold pickT strP pickC; exact (ByteArray.empty_append).symm]
    exact key
  · intro S hS
    refine Ev.step (fun k => spec_l3Pick.l0.eq_2 ..) (Ev.ite_neg (by omega) (Ev.const ?_))
    unfold rem0
    rw [List.drop_of_length_le (by simp), hql]
    show some ((n : Int), S) = some ((n : Int), S ++ (⟨#[]⟩ : ByteArray))
    rw [show S ++ (⟨#[]⟩ : ByteArray) = S from ByteArray.append_empty]
  · intro S i hi hS ih
    refine Ev.step (fun k => spec_l3Pick.l0.eq_2 ..) (Ev.ite_pos (by omega) ?_)
    rw [wrap_nat i (by omega)]
    rw [show rem0 n i = rem1 n i (i + 1) ++ rem0 n (i + 1) by unfold rem0; rw [range_drop' n i hi, List.flatMap_cons], strP_append, ← ByteArray.append_assoc]
    refine Ev.loopS (fun (S : ByteArray) j k => spec_l3Pick.l1 k q i j n s (q.length : Int) S) n (fun S j => i < j ∧ S.size ≤ 1000 * i + 100 * j) (fun S j => ((n : Int), (S ++ strP n s q (rem1 n i j)) ++ strP n s q (rem0 n (i + 1)))) ?_ ?_ (i + 1) (by omega) S ⟨by omega, by omega⟩
    · intro S hS
      refine Ev.step (fun k => spec_l3Pick.l1.eq_2 ..) (Ev.ite_neg (by omega) ?_)
      rw [wrap_nat i (by omega)]
      have h := ih S (by omega)
      rw [show S ++ strP n s q (rem1 n i n) = S by unfold rem1; rw [List.drop_of_length_le (by simp)]; exact ByteArray.append_empty]
      exact h
    · intro S j hj hS ihj
      refine Ev.step (fun k => spec_l3Pick.l1.eq_2 ..) (Ev.ite_pos (by omega) ?_)
      rw [wrap_nat j (by omega)]
      rw [show rem1 n i j = rem2 n i j (j + 1) ++ rem1 n i (j + 1) by unfold rem1; rw [range_drop' n j hj, List.flatMap_cons], strP_append, ← ByteArray.append_assoc]
      have hij := hS.1
      · refine Ev.loopS (fun (S : ByteArray) m k => spec_l3Pick.l2 k q i j m n s (q.length : Int) S) n (fun S m => j < m ∧ S.size ≤ 1000 * i + 100 * j + m) (fun S m => ((n : Int), ((S ++ strP n s q (rem2 n i j m)) ++ strP n s q (rem1 n i (j + 1))) ++ strP n s q (rem0 n (i + 1)))) ?_ ?_ (j + 1) (by omega) S (by omega)
        · intro S hS
          refine Ev.step (fun k => spec_l3Pick.l2.eq_2 ..) (Ev.ite_neg (by omega) ?_)
          rw [wrap_nat j (by omega)]
          have h := ihj S ⟨by omega, by omega⟩
          rw [show S ++ strP n s q (rem2 n i j n) = S by unfold rem2; rw [List.drop_of_length_le (by simp)]; exact ByteArray.append_empty]
          exact h
        · intro S m hm hS ihm
          have ki := (hq.2.2 i hi).1
          have kj := (hq.2.2 j hj).1
          have km := (hq.2.2 m hm).1
          have n1 := perm_ne n q hq i j hi hj (by omega)
          have n2 := perm_ne n q hq j m hj hm (by omega)
          have n3 := perm_ne n q hq i m hi hm (by omega)
          refine Ev.step (fun k => spec_l3Pick.l2.eq_2 ..) (Ev.ite_pos (by omega) (Ev.ite_pos (by omega) (Ev.ite_pos (by omega) (Ev.ite_pos (by omega) (Ev.ite_pos (by omega) (Ev.ite_pos (by omega) ?_))))))
          rw [wrap_nat m (by omega)]
          have hb := byteS_size (sg n s (rd q (i : Int)) (rd q (j : Int)) (rd q (m : Int)))
          have h := ihm (S ++ byteS (sg n s (rd q (i : Int)) (rd q (j : Int)) (rd q (m : Int)))) (by rw [ByteArray.size_append, hb]; omega)
          rw [show rem2 n i j m = (⟨i, j, m⟩ : T3) :: rem2 n i j (m + 1) by unfold rem2; rw [range_drop' n m hm, List.map_cons], strP_cons, ← ByteArray.append_assoc]
          have hAt : Ev (fun k => spec_l3At.f k n s (rd q (i : Int)) (rd q (j : Int)) (rd q (m : Int))) (sg n s (rd q (i : Int)) (rd q (j : Int)) (rd q (m : Int))) := by
            obtain ⟨a, ha⟩ := Int.eq_ofNat_of_zero_le ki.1
            obtain ⟨b, hb⟩ := Int.eq_ofNat_of_zero_le kj.1
            obtain ⟨c, hc⟩ := Int.eq_ofNat_of_zero_le km.1
            rw [ha] at n1 n3 ki ⊢
            rw [hb] at n1 n2 kj ⊢
            rw [hc] at n2 n3 km ⊢
            exact l3At_ev n hn s hs a b c (by omega) (by omega) (by omega) (by omega) (by omega) (by omega)
          exact Ev.bind hAt (Ev.bind0 (l3Byte_eq _) (Ev.ite_pos (by rw [hb]; omega) h))
theorem szSigns_eqO (n : Int) (s : ByteArray) (a : Int) (h0 : 0 ≤ a) (h1 : a ≤ 1048576) (hl : s.size ≤ 9223372036854775807) : laws_szSigns.f n s a = some (if a < s.size then -1 else a - s.size) := by
  unfold laws_szSigns.f
  rw [wrap_in (by omega) (by omega)]
  by_cases h : a < (s.size : Int)
  · rw [if_pos h, if_pos (by omega)]
  · rw [if_neg h, if_neg (by omega)]
theorem AN_len (n : Nat) (hn : n ≤ 6) : (AN n).length ≤ 46656 := lev_len2 n hn n hn
theorem AN_P (n : Nat) (hn : n ≤ 6) (p : List Int) (h : p ∈ AN n) : isP n p := P_at n hn p h
theorem isS_nat {n : Int} {s : ByteArray} (h : isS n s = true) : ∃ m : Nat, n = m ∧ 3 ≤ m ∧ m ≤ 7 ∧ s.size = (tri m).length ∧ s.size ≤ 35 ∧ (List.range s.size).all (isPM s) = true := by
  obtain ⟨h3, h7, hs, h35⟩ := isS_bounds h
  obtain ⟨m, rfl⟩ := Int.eq_ofNat_of_zero_le (show 0 ≤ n by omega)
  rw [Int.toNat_natCast] at hs
  unfold isS at h
  rw [Bool.and_eq_true] at h
  exact ⟨m, rfl, by omega, by omega, hs, h35, h.2⟩
def texts (n : Nat) (s : ByteArray) : List ByteArray := (AN n).map fun p => pickT n s (inv p)
theorem renamed_yes (n : Nat) (hn : n ≤ 6) (s : ByteArray) (hs : s.size = (tri n).length) (hA : isS n s = true) : Ev (fun k => impl_renamed.f k n s) (texts n s, true) := by
  have hS := impl_AreSigns_ev n s
  rw [hA] at hS
  have hlen := AN_len n hn
  unfold impl_renamed.f
  refine Ev.bind hS (Ev.ite_pos rfl (Ev.step (fun k => impl_renamed.j0.eq_2 ..) (Ev.ite_neg (by simp; omega) (Ev.bind (tableOf_ev n (by omega) s hs) (Ev.bind (allNames_ev n hn) ?_)))))
  have key := Ev.loop (fun i k => impl_renamed.l0 k (tab n s) (((AN n).take i).map fun p => pickT n s (inv p)) (AN n) (AN n).length i) (AN n).length (texts n s, true) ?_ ?_ 0 (by omega)
  · simpa using key
  · refine Ev.step (fun k => impl_renamed.l0.eq_2 ..) (Ev.ite_neg (by omega) (Ev.const ?_))
    rw [List.take_length]
    rfl
  · intro i hi ih
    refine Ev.step (fun k => impl_renamed.l0.eq_2 ..) (Ev.ite_pos (by omega) (Ev.ite_pos (by omega) (Ev.ite_pos (by omega) ?_)))
    rw [rdL _ i hi, wrap_nat i (by omega)]
    rw [List.take_succ_eq_append_getElem hi, List.map_append] at ih
    exact Ev.bind (rename_ev n (by omega) s _ (AN_P n hn _ (List.getElem_mem hi))) (Ev.ite_pos (by simp; omega) ih)
theorem renamed_no (n : Int) (s : ByteArray) (h : isS n s = false ∨ n > 6) : Ev (fun k => impl_renamed.f k n s) ([], false) := by
  have hS := impl_AreSigns_ev n s
  unfold impl_renamed.f
  refine Ev.bind hS ?_
  cases hA : isS n s with
  | false => exact Ev.ite_neg (by simp) (Ev.step (fun k => impl_renamed.j0.eq_2 ..) (Ev.ite_pos rfl (Ev.now _)))
  | true =>
    have h6 : n > 6 := by
      rcases h with h | h
      · rw [hA] at h
        cases h
      · exact h
    exact Ev.ite_pos rfl (Ev.step (fun k => impl_renamed.j0.eq_2 ..) (Ev.ite_pos (by simpa using h6) (Ev.now _)))
theorem fits_ev (n : Int) (s : ByteArray) : Ev (fun k => spec_l19Fits.f k n s) (isS n s && decide (n ≤ 6)) := by
  have hS := spec_AreSigns_ev n s
  unfold spec_l19Fits.f
  refine Ev.bind hS ?_
  cases isS n s with
  | false => exact Ev.ite_neg (by simp) (Ev.now _)
  | true => exact Ev.ite_pos rfl (Ev.now _)
def inT (l : List ByteArray) (x : ByteArray) : Bool := (List.range l.length).any fun j : Nat => decide (x.toList = (rdOf ByteArray.empty l (j : Int)).toList)
theorem containsT_ev (l : List ByteArray) (hl : l.length ≤ 1000000) (x : ByteArray) : Ev (fun k => slices_Contains_Sstring_string.f k l x) (inT l x) := by
  have key : ∀ d i, i + d = l.length → ∃ r, Ev (fun k => slices_Index_Sstring_string.l0 k l x l.length i) r ∧ decide (r ≥ 0) = ((List.range l.length).drop i).any fun j : Nat => decide (x.toList = (rdOf ByteArray.empty l (j : Int)).toList) := by
    intro d
    induction d with
    | zero =>
      intro i hi
      refine ⟨-1, Ev.step (fun k => slices_Index_Sstring_string.l0.eq_2 ..) (Ev.ite_neg (by omega) (Ev.now _)), ?_⟩
      rw [List.drop_of_length_le (by simp; omega)]
      rfl
    | succ d ih =>
      intro i hi
      obtain ⟨r, hr, he⟩ := ih (i + 1) (by omega)
      rw [range_drop' _ i (by omega), List.any_cons]
      by_cases hb : x.toList = (rdOf ByteArray.empty l (i : Int)).toList
      · refine ⟨i, Ev.step (fun k => slices_Index_Sstring_string.l0.eq_2 ..) (Ev.ite_pos (by omega) (Ev.ite_pos (by omega) (Ev.ite_pos (by omega) (Ev.ite_pos hb (Ev.now _))))), ?_⟩
        rw [decide_eq_true hb]
        simp
      · refine ⟨r, Ev.step (fun k => slices_Index_Sstring_string.l0.eq_2 ..) (Ev.ite_pos (by omega) (Ev.ite_pos (by omega) (Ev.ite_pos (by omega) (Ev.ite_neg hb ?_)))), ?_⟩
        · rw [wrap_nat i (by omega)]
          exact hr
        · rw [he, decide_eq_false hb, Bool.false_or]
  obtain ⟨r, hr, he⟩ := key l.length 0 (by omega)
  unfold slices_Contains_Sstring_string.f slices_Index_Sstring_string.f inT
  refine Ev.bind hr (Ev.const ?_)
  rw [he, List.drop_zero]
theorem countOf_ev (L some : List ByteArray) (hL : L.length ≤ 1000000) (hs : some.length ≤ 10) : Ev (fun k => impl_countOf.f k L some) ((L.countP (inT some) : Nat) : Int) := by
  unfold impl_countOf.f
  have key := Ev.loop (fun i k => impl_countOf.l0 k some (((L.take i).countP (inT some) : Nat) : Int) L L.length i) L.length ((L.countP (inT some) : Nat) : Int) ?_ ?_ 0 (by omega)
  · simpa using key
  · refine Ev.step (fun k => impl_countOf.l0.eq_2 ..) (Ev.ite_neg (by omega) (Ev.const ?_))
    rw [List.take_length]
  · intro i hi ih
    have hc := List.countP_le_length (p := inT some) (l := L.take i)
    have hc2 : (L.take i).length ≤ 1000000 := by rw [List.length_take]; omega
    refine Ev.step (fun k => impl_countOf.l0.eq_2 ..) (Ev.ite_pos (by omega) (Ev.ite_pos (by omega) (Ev.ite_pos (by omega) (Ev.bind (containsT_ev some (by omega) _) ?_))))
    have hr : rdOf ByteArray.empty L (i : Int) = L[i] := by
      unfold rdOf
      rw [Int.toNat_natCast, getD_lt _ _ _ hi]
    rw [hr, wrap_nat i (by omega)]
    rw [List.take_succ_eq_append_getElem hi, List.countP_append] at ih
    cases hb : inT some L[i] with
    | true =>
      rw [show [L[i]].countP (inT some) = 1 by simp [hb]] at ih
      rw [wrap_nat _ (by omega)]
      exact Ev.ite_pos rfl ih
    | false =>
      rw [show [L[i]].countP (inT some) = 0 by simp [hb], Nat.add_zero] at ih
      exact Ev.ite_neg (by simp) ih
def isT (n : Nat) (s t : ByteArray) (q : List Int) : Bool := (pickT n s q).toList == t.toList
theorem l19Count_ev (n : Nat) (hn : n ≤ 6) (s t : ByteArray) (hs : s.size = (tri n).length) : Ev (fun k => spec_l19Count.f k n s n t) (((AN n).countP (isT n s t) : Nat) : Int) := by
  have hlen := AN_len n hn
  unfold spec_l19Count.f
  refine Ev.bind (orders_ev n hn) ?_
  have key := Ev.loop (fun i k => spec_l19Count.l0 k ((((AN n).take i).countP (isT n s t) : Nat) : Int) (AN n) i n s n t) (AN n).length (((AN n).countP (isT n s t) : Nat) : Int) ?_ ?_ 0 (by omega)
  · simpa using key
  · refine Ev.step (fun k => spec_l19Count.l0.eq_2 ..) (Ev.ite_neg (by omega) (Ev.const ?_))
    rw [List.take_length]
  · intro i hi ih
    have hc := List.countP_le_length (p := isT n s t) (l := (AN n).take i)
    have hc2 : ((AN n).take i).length ≤ 46656 := by rw [List.length_take]; omega
    refine Ev.step (fun k => spec_l19Count.l0.eq_2 ..) (Ev.ite_pos (by omega) (Ev.ite_pos (by omega) ?_))
    rw [rdL _ i hi, wrap_nat i (by omega)]
    refine Ev.bind (pick_ev n (by omega) s hs _ (AN_P n hn _ (List.getElem_mem hi))) ?_
    dsimp only
    rw [BEq.rfl, Bool.true_and]
    rw [List.take_succ_eq_append_getElem hi, List.countP_append] at ih
    cases hb : isT n s t (AN n)[i] with
    | true =>
      rw [show [(AN n)[i]].countP (isT n s t) = 1 by simp [hb]] at ih
      unfold isT at hb
      rw [hb]
      refine Ev.bind0 (a := 1) rfl ?_
      rw [wrap_nat _ (by omega)]
      exact ih
    | false =>
      rw [show [(AN n)[i]].countP (isT n s t) = 0 by simp [hb], Nat.add_zero] at ih
      unfold isT at hb
      rw [hb]
      refine Ev.bind0 (a := 0) rfl ?_
      rw [Int.add_zero, wrap_in (by omega) (by omega)]
      exact ih
theorem count_same (n : Nat) (hn : n ≤ 6) (s : ByteArray) (P : ByteArray → Bool) : (texts n s).countP P = (AN n).countP fun q => P (pickT n s q) := by
  unfold texts
  rw [List.countP_map, ← (inv_all n hn).countP_eq (fun q => P (pickT n s q)), List.countP_map]
  rfl
def oppT (s : ByteArray) : ByteArray := strOfNums (oppL s)
theorem opp_impl (s : ByteArray) (h : s.size ≤ 9223372036854775807) : impl_opposite.f s = some (oppT s) := by
  unfold impl_opposite.f oppT
  rw [if_pos h]
theorem oppL_take (s : ByteArray) (i : Nat) : (List.range (i + 1)).map (fun j : Nat => oppI (bt s (j : Int))) = (List.range i).map (fun j : Nat => oppI (bt s (j : Int))) ++ [oppI (bt s (i : Int))] := by
  rw [List.range_succ, List.map_append]
  rfl
theorem opp_spec (n : Nat) (s : ByteArray) (hA : isS n s = true) : Ev (fun k => spec_OppositeSigns.f k n s) ((n : Int), oppT s, true) := by
  have hS := spec_AreSigns_ev n s
  rw [hA] at hS
  obtain ⟨m, hm, h3, h7, hs, h35, hpm⟩ := isS_nat hA
  unfold spec_OppositeSigns.f
  refine Ev.bind hS (Ev.ite_pos rfl ?_)
  have key := Ev.loop (fun i k => spec_OppositeSigns.l0 k i n s n (strOfNums ((List.range i).map fun j : Nat => oppI (bt s (j : Int))))) s.size ((n : Int), oppT s, true) ?_ ?_ 0 (by omega)
  · exact key
  · exact Ev.step (fun k => spec_OppositeSigns.l0.eq_2 ..) (Ev.ite_neg (by omega) (Ev.now _))
  · intro i hi ih
    rw [oppL_take, strOfNums_append] at ih
    rw [List.all_eq_true] at hpm
    have hp := hpm i (by simpa using hi)
    unfold isPM at hp
    rw [Bool.or_eq_true, beq_iff_eq, beq_iff_eq] at hp
    have hsz : (strOfNums ((List.range i).map fun j : Nat => oppI (bt s (j : Int)))).size = i := by rw [strOfNums_size]; simp
    refine Ev.step (fun k => spec_OppositeSigns.l0.eq_2 ..) (Ev.ite_pos (by omega) (Ev.ite_pos (by omega) ?_))
    rw [wrap_nat i (by omega)]
    rcases hp with hp | hp
    · rw [hp] at ih ⊢
      exact Ev.bind0 (a := 0) rfl (Ev.bind0 (l3Byte_eq _) (Ev.ite_pos (by rw [hsz, byteS_size]; omega) ih))
    · rw [hp] at ih ⊢
      exact Ev.bind0 (a := 1) rfl (Ev.bind0 (l3Byte_eq _) (Ev.ite_pos (by rw [hsz, byteS_size]; omega) ih))
theorem inT2 (a b x : ByteArray) : inT [a, b] x = ((x.toList == a.toList) || (x.toList == b.toList)) := by
  unfold inT
  simp [rdOf, List.range_succ]
  rw [Bool.eq_iff_iff]
  simp
end Go.Proofs.Ytbglgapndefcfaa.Pure
namespace Go.Proofs.Ytbglgapndefcfaa.Pure
set_option linter.unusedSimpArgs false
set_option linter.unusedVariables false
open Go.RowKit Go.Proofs.YtbglgapndefcfaaW.PrintWords Go.Proofs.Ytbglgapndefcfaa.P Go.Proofs.Ytbglgapndefcfaa.Pl Go.Proofs.Ytbglgapndefcfaa.Rk
theorem countP_or {α : Type} (P Q : α → Bool) (h : ∀ x, P x = true → Q x = true → False) : ∀ l : List α, l.countP (fun x => P x || Q x) = l.countP P + l.countP Q := by
  intro l
  induction l with
  | nil => rfl
  | cons x l ih =>
    rw [List.countP_cons, List.countP_cons, List.countP_cons, ih]
    cases hp : P x <;> cases hq : Q x
    · simp
    · simp; omega
    · simp; omega
    · exact absurd (h x hp hq) (by simp)
theorem opp_ne (n : Int) (s : ByteArray) (hA : isS n s = true) : s.toList ≠ (oppT s).toList := by
  obtain ⟨m, rfl, h3, h7, hs, h35, hpm⟩ := isS_nat hA
  have h1 : 0 < s.size := by
    have : m = 3 ∨ m = 4 ∨ m = 5 ∨ m = 6 ∨ m = 7 := by omega
    rcases this with rfl | rfl | rfl | rfl | rfl <;> rw [hs] <;> decide
  intro e
  rw [ByteArray.toList_eq, ByteArray.toList_eq] at e
  have e0 := congrArg (fun l => l[0]?) e
  rw [List.all_eq_true] at hpm
  have hp := hpm 0 (by simpa using h1)
  unfold isPM bt at hp
  rw [dif_pos (by simpa using h1)] at hp
  have l1 : 0 < s.data.toList.length := h1
  have e1 : s.data.toList[0]? = some s[0] := by rw [List.getElem?_eq_getElem l1]; rfl
  have e2 : (oppT s).data.toList[0]? = some (UInt8.ofNat (oppI (bt s ((0 : Nat) : Int))).toNat) := by
    unfold oppT strOfNums oppL
    simp
    exact ⟨0, by rw [List.getElem?_range h1], rfl⟩
  simp only [e1, e2, Option.some.injEq] at e0
  have hb : bt s ((0 : Nat) : Int) = (s[0].toNat : Int) := by
    unfold bt
    rw [dif_pos (by simpa using h1)]
    rfl
  rw [hb] at e0
  have hp' : (s[0].toNat : Int) = 43 ∨ (s[0].toNat : Int) = 45 := by simpa using hp
  rcases hp' with k | k
  · rw [k] at e0
    have := congrArg UInt8.toNat e0
    have k' : s[0].toNat = 43 := by omega
    rw [k'] at this
    exact absurd this (by decide)
  · rw [k] at e0
    have := congrArg UInt8.toNat e0
    have k' : s[0].toNat = 45 := by omega
    rw [k'] at this
    exact absurd this (by decide)
theorem symm_both (n : Int) (s : ByteArray) (hz : s.size ≤ 9223372036854775807) : ∃ v, Ev (fun k => spec_SymmetriesOf.f k n s) v ∧ Ev (fun k => impl_SymmetriesOf.f k n s) v := by
  unfold spec_SymmetriesOf.f impl_SymmetriesOf.f spec_CountOpposite.f
  have hF := fits_ev n s
  by_cases hA : isS n s = true ∧ n ≤ 6
  · obtain ⟨m, rfl, h3, h7, hs, h35, _⟩ := isS_nat hA.1
    have hn : m ≤ 6 := by omega
    have hl := AN_len m hn
    have c1 := List.countP_le_length (p := isT m s s) (l := AN m)
    have c2 := List.countP_le_length (p := isT m s (oppT s)) (l := AN m)
    rw [hA.1, decide_eq_true hA.2] at hF
    refine ⟨_, Ev.bind hF (Ev.ite_pos rfl (Ev.bind (l19Count_ev m hn s s hs) (Ev.bind (Ev.bind hF (Ev.ite_pos rfl (Ev.bind (opp_spec m s hA.1) (Ev.bind (l19Count_ev m hn s (oppT s) hs) (Ev.now _))))) (Ev.now _)))), Ev.bind (renamed_yes m hn s hs hA.1) (Ev.ite_pos rfl (Ev.bind0 (opp_impl s hz) (Ev.bind (countOf_ev (texts m s) [s, oppT s] (by unfold texts; rw [List.length_map]; omega) (by simp)) (Ev.const ?_))))⟩
    rw [count_same m hn s, wrap_in (by omega) (by omega), ← Int.natCast_add]
    congr 2
    rw [← countP_or (isT m s s) (isT m s (oppT s))]
    · apply List.countP_congr
      intro q _
      rw [inT2]
      exact Iff.rfl
    · intro q h1 h2
      unfold isT at h1 h2
      rw [beq_iff_eq] at h1 h2
      exact opp_ne m s hA.1 (h1.symm.trans h2)
  · have hb : (isS n s && decide (n ≤ 6)) = false := by
      cases h1 : isS n s with
      | false => rfl
      | true => rw [Bool.true_and, decide_eq_false_iff_not]; exact fun h => hA ⟨h1, h⟩
    rw [hb] at hF
    exact ⟨-1, Ev.bind hF (Ev.ite_neg (by simp) (Ev.now _)), Ev.bind (renamed_no n s (by cases h1 : isS n s with | false => exact .inl rfl | true => exact .inr (Int.not_le.mp fun h => hA ⟨h1, h⟩))) (Ev.ite_neg (by simp) (Ev.now _))⟩
theorem FnExactSymmetriesOf (s0 : S23) (hq : Q23 s0) : ∃ k, laws_FnExactSymmetriesOf.f k s0.f0 s0.f1 = some true := by
  refine Ev.rounds (g := fun k => laws_FnExactSymmetriesOf.f k s0.f0 s0.f1) ?_
  unfold laws_FnExactSymmetriesOf.f
  refine Ev.bind0 (szSigns_eqO _ _ 1048576 (by omega) (by omega) hq.2) ?_
  by_cases hs : 1048576 < (s0.f1.size : Int)
  · rw [if_pos hs]
    exact Ev.ite_pos (by omega) (Ev.now _)
  rw [if_neg hs]
  refine Ev.ite_neg (by omega) ?_
  obtain ⟨v, h1, h2⟩ := symm_both s0.f0 s0.f1 (by omega)
  exact Ev.bind0 rfl (Ev.bind h1 (Ev.bind0 rfl (Ev.bind h2 (Ev.ite_pos rfl (Ev.now _)))))
end Go.Proofs.Ytbglgapndefcfaa.Pure
