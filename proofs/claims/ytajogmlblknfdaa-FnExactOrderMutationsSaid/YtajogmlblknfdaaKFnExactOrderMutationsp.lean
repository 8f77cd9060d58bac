/- What the law FnExactOrderMutations reaches, part 16: functions as plain Lean functions with the proofs that their calls come to them, and plain lemmas over these. Put together by a program (wip/pack.py). -/
import Derived.Test.YtajogmlblknfdaaKFnExactOrderMutationso
import Derived.Test.YtajogmlblknfdaaKFnExactOrderMutationsg
import Derived.Test.YtajogmlblknfdaaKFnExactOrderMutationsm
import Derived.Test.YtajogmlblknfdaaKFnExactOrderMutationsc
import Derived.Test.YtajogmlblknfdaaKFnExactOrderMutationsi
import Derived.Test.YtajogmlblknfdaaKFnExactOrderMutationsk
import Derived.Test.YtajogmlblknfdaaKFnExactOrderMutationsn
namespace Go.Proofs.Ytajogmlblknfdaa.Pure
set_option linter.unusedSimpArgs false
set_option linter.unusedVariables false
open Go.RowKit Go.Proofs.YtajogmlblknfdaaW.PrintWords Go.Proofs.Ytajogmlblknfdaa.P Go.Proofs.Ytajogmlblknfdaa.Pl
def tup3 (q : T3) : Int × Int × Int := (q.f0, q.f1, q.f2)
def untup3 (q : Int × Int × Int) : T3 := ⟨q.1, q.2.1, q.2.2⟩
theorem untup3_map (l : List T3) : (l.map tup3).map untup3 = l := by
  rw [List.map_map]
  exact (List.map_congr_left (fun a _ => rfl)).trans (List.map_id l)
def list3 (n : Nat) : List T3 :=
  ((List.range n).drop 0).flatMap fun a : Nat => ((List.range n).drop (a + 1)).flatMap fun b : Nat => ((List.range n).drop (b + 1)).map fun c : Nat => (⟨a, b, c⟩ : T3)
theorem all_3 : (List.range 8).all (fun n => (list3 n).map tup3 == (tri n).map tup3) = true := by decide +kernel
theorem list3_eq (n : Nat) (hn : n ≤ 7) : list3 n = tri n := by
  have h := all_3
  rw [List.all_eq_true] at h
  have h := congrArg (List.map untup3) (eq_of_beq (h n (by simp; omega)))
  rwa [untup3_map, untup3_map] at h
def okIdx (n a b c : Nat) : Bool :=
  match src (tri n) 0 a b c, spec_l3Index.f 60 n a b c with
  | some (q, _), some m => m == (q : Int) && decide (q < (tri n).length)
  | _, _ => false
theorem all_idx : (List.range 8).all (fun n => (List.range n).all fun a => (List.range n).all fun b => (List.range n).all fun c => !(decide (a < b ∧ b < c)) || okIdx n a b c) = true := by decide +kernel
theorem idx_some (n a b c : Nat) (hn : n ≤ 7) (hab : a < b) (hbc : b < c) (hc : c < n) : ∃ q b', src (tri n) 0 a b c = some (q, b') ∧ q < (tri n).length ∧ Ev (fun k => spec_l3Index.f k n a b c) (q : Int) := by
  have h := all_idx
  rw [List.all_eq_true] at h
  have h := h n (by simp; omega)
  rw [List.all_eq_true] at h
  have h := h a (by simp; omega)
  rw [List.all_eq_true] at h
  have h := h b (by simp; omega)
  rw [List.all_eq_true] at h
  have h := h c (by simp; omega)
  simp only [hab, hbc, and_self, decide_true, Bool.not_true, Bool.false_or] at h
  unfold okIdx at h
  cases ha : src (tri n) 0 a b c with
  | none => rw [ha] at h; cases h
  | some p =>
    obtain ⟨q, b'⟩ := p
    cases hb : spec_l3Index.f 60 n a b c with
    | none => rw [ha, hb] at h; cases h
    | some m =>
      rw [ha, hb] at h
      simp only [Bool.and_eq_true, beq_iff_eq, decide_eq_true_eq] at h
      exact ⟨q, b', rfl, h.2, l3Index_ev (by rw [hb, h.1])⟩
def pass (fl : Bool) (n : Nat) (T : ByteArray) : Bool := isM n T && (!fl || acyT n T)
def itemT (fl : Bool) (n : Nat) (s : ByteArray) (t : T3) : List (List Int) := if pass fl n (exT n s t.f0 t.f1 t.f2) = true then [[t.f0, t.f1, t.f2]] else []
def item (fl : Bool) (n : Nat) (s : ByteArray) (a b c : Nat) : List (List Int) := itemT fl n s ⟨a, b, c⟩
def mutR (fl : Bool) (n : Nat) (s : ByteArray) : List (List Int) := (tri n).flatMap (itemT fl n s)
theorem mutR_eq (fl : Bool) (n : Nat) (hn : n ≤ 7) (s : ByteArray) : mutR fl n s = ((List.range n).drop 0).flatMap fun a => ((List.range n).drop (a + 1)).flatMap fun b => ((List.range n).drop (b + 1)).flatMap (item fl n s a b) := by
  unfold mutR
  rw [← list3_eq n hn]
  unfold list3
  simp only [List.flatMap_assoc, List.flatMap_map]
  rfl
theorem itemT_len (fl : Bool) (n : Nat) (s : ByteArray) (t : T3) : (itemT fl n s t).length ≤ 1 ∧ ∀ l ∈ itemT fl n s t, l.length ≤ 1000 := by
  unfold itemT
  split
  · exact ⟨by simp, by simp⟩
  · exact ⟨by simp, by simp⟩
theorem flat_len {α β : Type} (f : α → List β) (h : ∀ x, (f x).length ≤ 1) : ∀ l : List α, (l.flatMap f).length ≤ l.length := by
  intro l
  induction l with
  | nil => simp
  | cons x l ih =>
    have := h x
    rw [List.flatMap_cons, List.length_append, List.length_cons]
    omega
theorem tri_small (n : Nat) (hn : n ≤ 7) : (tri n).length ≤ 35 := by
  have h := tri_length n hn
  have : n = 0 ∨ n = 1 ∨ n = 2 ∨ n = 3 ∨ n = 4 ∨ n = 5 ∨ n = 6 ∨ n = 7 := by omega
  rcases this with rfl | rfl | rfl | rfl | rfl | rfl | rfl | rfl <;> simp [tri]
theorem mutR_small (fl : Bool) (n : Nat) (hn : n ≤ 7) (s : ByteArray) : smallSS (mutR fl n s) ∧ (mutR fl n s).length ≤ 35 := by
  have h1 := flat_len _ (fun t => (itemT_len fl n s t).1) (tri n)
  have h2 := tri_small n hn
  refine ⟨⟨by unfold mutR; omega, ?_⟩, by unfold mutR; omega⟩
  intro l hl
  unfold mutR at hl
  rw [List.mem_flatMap] at hl
  obtain ⟨t, _, hl⟩ := hl
  exact (itemT_len fl n s t).2 l hl
theorem acc_small {β : Type} {acc X R : List β} (h : acc ++ X = R) (hR : R.length ≤ 35) : acc.length ≤ 35 := by
  have := congrArg List.length h
  rw [List.length_append] at this
  omega
theorem exT_eq {n : Nat} {s : ByteArray} {x y z : Int} {q : Nat} {b : Bool} (h : src (tri n) 0 x y z = some (q, b)) : exT n s x y z = strOfNums (codesX s s.size q) := by
  unfold exT
  rw [h]
  rfl
theorem spec_l18_ev (n : Nat) (h7 : n ≤ 7) (s : ByteArray) (hs : s.size = (tri n).length) (fl : Bool) : Ev (fun k => spec_l18All.f k n s fl) (mutR fl n s) := by
  unfold spec_l18All.f
  have hR := (mutR_small fl n h7 s).2
  have ht := tri_small n h7
  have key := loopR (fun acc a k => spec_l18All.l0 k fl acc (a : Nat) n s) n (fun a => ((List.range n).drop (a + 1)).flatMap fun b => ((List.range n).drop (b + 1)).flatMap (item fl n s a b)) [] (mutR fl n s) (mutR fl n s) 0 (by omega) ?_ ?_ [] (by rw [mutR_eq fl n h7 s]; simp)
  · exact key
  · intro acc h
    rw [List.append_nil] at h
    exact Ev.step (fun k => spec_l18All.l0.eq_2 ..) (Ev.ite_neg (by omega) (Ev.const (by rw [h])))
  intro a _ ha acc X h ih
  refine Ev.step (fun k => spec_l18All.l0.eq_2 ..) (Ev.ite_pos (by omega) ?_)
  rw [wrap_nat a (by omega)]
  refine loopR (fun acc b k => spec_l18All.l1 k fl acc a (b : Nat) n s) n (fun b => ((List.range n).drop (b + 1)).flatMap (item fl n s a b)) X (mutR fl n s) (mutR fl n s) (a + 1) (by omega) ?_ ?_ acc h
  · intro acc h
    refine Ev.step (fun k => spec_l18All.l1.eq_2 ..) (Ev.ite_neg (by omega) ?_)
    rw [wrap_nat a (by omega)]
    exact ih acc h
  intro b hab hb acc X' h ih'
  refine Ev.step (fun k => spec_l18All.l1.eq_2 ..) (Ev.ite_pos (by omega) ?_)
  rw [wrap_nat b (by omega)]
  refine loopR (fun acc c k => spec_l18All.l2 k fl acc a b (c : Nat) n s) n (item fl n s a b) X' (mutR fl n s) (mutR fl n s) (b + 1) (by omega) ?_ ?_ acc h
  · intro acc h
    refine Ev.step (fun k => spec_l18All.l2.eq_2 ..) (Ev.ite_neg (by omega) ?_)
    rw [wrap_nat b (by omega)]
    exact ih' acc h
  intro c hbc hc acc X'' h ih''
  have hacc := acc_small h hR
  obtain ⟨q, b', e1, e2, e3⟩ := idx_some n a b c h7 (by omega) (by omega) hc
  have eX := exT_eq (s := s) e1
  refine Ev.step (fun k => spec_l18All.l2.eq_2 ..) (Ev.ite_pos (by omega) (Ev.bind e3 (Ev.bind0 (l14_eq n s q (by omega) (by omega)) ?_)))
  dsimp only
  rw [← eX, wrap_nat c (by omega)]
  have hM := spec_IsMatroid_ev n (exT n s a b c)
  have hit : item fl n s a b c = if pass fl n (exT n s a b c) = true then [[(a : Int), b, c]] else [] := rfl
  rw [hit] at h
  cases m : isM n (exT n s a b c) with
  | false =>
    rw [m] at hM
    rw [if_neg (by simp [pass, m])] at h
    exact Ev.bind hM (Ev.ite_neg (by simp) (ih'' acc h))
  | true =>
    rw [m] at hM
    refine Ev.bind hM (Ev.ite_pos rfl ?_)
    cases fl with
    | false =>
      rw [if_pos (by simp [pass, m])] at h
      exact Ev.ite_neg (by simp) (Ev.ite_pos (by omega) (ih'' _ (by rw [List.append_assoc]; exact h)))
    | true =>
      obtain ⟨_, _, hsz, _⟩ := isS_bounds (isM_S m)
      rw [Int.toNat_natCast] at hsz
      have hA := spec_acy_ev n h7 _ hsz
      refine Ev.ite_pos rfl (Ev.bind hA ?_)
      cases y : acyT n (exT n s a b c) with
      | false =>
        rw [if_neg (by simp [pass, m, y])] at h
        exact Ev.ite_neg (by simp) (ih'' acc h)
      | true =>
        rw [if_pos (by simp [pass, m, y])] at h
        exact Ev.ite_pos rfl (Ev.ite_pos (by omega) (ih'' _ (by rw [List.append_assoc]; exact h)))
theorem exS_good (n : Nat) (s : ByteArray) (hS : isS n s = true) (a b c : Nat) (hab : a < b) (hbc : b < c) (hc : c < n) : exS n s a b c = ((n : Int), exT n s a b c, true) := by
  unfold exS
  rw [if_pos ⟨hS, diff3_of ⟨by omega, by omega, by omega, by omega, by omega, by omega⟩⟩, Int.toNat_natCast]
theorem tri_item (fl : Bool) (n : Nat) (s : ByteArray) (i a b c : Nat) (hi : i < (tri n).length) (e : (tri n)[i] = ⟨a, b, c⟩) : itemT fl n s ((tri n).getD i ⟨0, 0, 0⟩) = if pass fl n (exT n s a b c) = true then [[(a : Int), b, c]] else [] := by
  rw [getD_lt _ _ _ hi, e]
  rfl
theorem impl_mutA_ev (n : Nat) (h7 : n ≤ 7) (s : ByteArray) (hS : isS n s = true) : Ev (fun k => impl_mutations_impl_IsAcyclic.f k n s ()) (mutR true n s) := by
  unfold impl_mutations_impl_IsAcyclic.f
  have hR := (mutR_small true n h7 s).2
  have ht := tri_small n h7
  refine Ev.bind (triplesOf_ev n h7) ?_
  refine loopR (fun acc (i : Nat) k => impl_mutations_impl_IsAcyclic.l0 k acc (tri n) ((tri n).length : Int) (i : Int) n s) (tri n).length (fun i => itemT true n s ((tri n).getD i ⟨0, 0, 0⟩)) [] (mutR true n s) (mutR true n s) 0 (by omega) ?_ ?_ [] (by unfold mutR; rw [flat_range (⟨0, 0, 0⟩ : T3)]; simp)
  · intro acc h
    rw [List.append_nil] at h
    exact Ev.step (fun k => impl_mutations_impl_IsAcyclic.l0.eq_2 ..) (Ev.ite_neg (by omega) (Ev.const (by rw [h])))
  intro i _ hi acc X h ih
  have hacc := acc_small h hR
  obtain ⟨a, b, c, hab, hbc, hc, e⟩ := tri_nat n h7 i hi
  rw [tri_item true n s i a b c hi e] at h
  refine Ev.step (fun k => impl_mutations_impl_IsAcyclic.l0.eq_2 ..) (Ev.ite_pos (by omega) (Ev.ite_pos (by omega) (Ev.ite_pos (by omega) ?_)))
  rw [rdT_lt _ i hi, e, wrap_nat i (by omega)]
  have hE := impl_Exchange_ev n s a b c
  rw [exS_good n s hS a b c hab hbc hc] at hE
  have hM := impl_IsAcyclic_ev n (exT n s a b c)
  have hp : isA n (exT n s a b c) = pass true n (exT n s a b c) := by simp [isA, pass]
  rw [hp] at hM
  refine Ev.bind hE ?_
  dsimp only
  cases m : pass true n (exT n s a b c) with
  | false =>
    rw [m] at hM
    rw [if_neg (by simp [m])] at h
    exact Ev.bind hM (Ev.ite_neg (by simp) (ih acc h))
  | true =>
    rw [m] at hM
    rw [if_pos (by simp [m])] at h
    exact Ev.bind hM (Ev.ite_pos rfl (Ev.ite_pos (by omega) (ih _ (by rw [List.append_assoc]; exact h))))
end Go.Proofs.Ytajogmlblknfdaa.Pure
namespace Go.Proofs.Ytajogmlblknfdaa.P
open Go.RowKit Go.Proofs.YtajogmlblknfdaaW.PrintWords Go.Proofs.YtajogmlblknfdaaW.PrintLast Go.Proofs.YtajogmlblknfdaaW.PrintMore
attribute [local go_sem] ptrOf_slice
attribute [local go_sem] max2_int min2_int max_two min_two max_three min_three max_four min_four
set_option linter.unusedVariables false
set_option linter.unusedSimpArgs false
def impl_orderOf.f (k : Nat) (a0_0 : Int) (a0_1 : ByteArray) : Option (List Int × Bool) := (impl_IsAcyclic.f k a0_0 a0_1).bind fun t613 => (if t613 = true then ((impl_tableOf.f k a0_0 a0_1).bind fun t614 => (some (t614, true))) else (some (([] : List Int), false)))
theorem impl_orderOf.mono : ∀ a0 a1 k, LeO (impl_orderOf.f k a0 a1) (impl_orderOf.f (k + 1) a0 a1) := by
 intro a0 a1 k
 unfold impl_orderOf.f
 repeat' first
   | (with_reducible exact impl_IsAcyclic.mono _ _ _)
   | (with_reducible exact impl_tableOf.mono _ _ _)
   | (with_reducible exact LeO.refl _)
   | (with_reducible exact LeO.none _)
   | (with_reducible refine LeO.ite ?_ ?_)
   | (with_reducible refine LeO.bind ?_ (fun _ => ?_))
   | exact impl_IsAcyclic.mono _ _ _
   | exact impl_tableOf.mono _ _ _
   | exact LeO.none _
   | refine LeO.ite ?_ ?_
   | refine LeO.bind ?_ (fun _ => ?_)
set_option maxHeartbeats 8000000 in
set_option maxRecDepth 100000 in
theorem impl_orderOf.calls (k : Nat) (a0_0 : Int) (a0_1 : ByteArray) (r1 : List Int) (r2 : Bool) (w : World) (h : impl_orderOf.f k a0_0 a0_1 = some (r1, r2)) :
  Calls Try.prog 54 #[.agg #[.int .i64 a0_0, .string a0_1]] w fun e w' => ∃ v0_ : Value, e = .returned (.tuple #[ptrOf v0_, .bool r2]) ∧ Kd.R (Kd.int .i64) 97 w' w.heap.size (fun _ => True) v0_ r1 ∧ Below w.heap.size w w' := by
 have hu41 := Try.underlying41
 have HB := Aside0.mk (Below.refl w.heap.size w)
 have H : ((impl_IsAcyclic.f k a0_0 a0_1).bind fun t613 => (if t613 = true then ((impl_tableOf.f k a0_0 a0_1).bind fun t614 => (some (t614, true))) else (some (([] : List Int), false)))) = some (r1, r2) := h
 clear h
 replace H := Option.bind_eq_some_iff.mp H
 obtain ⟨t613, A20, H⟩ := H
 replace H : (if t613 = true then ((impl_tableOf.f k a0_0 a0_1).bind fun t614 => (some (t614, true))) else (some (([] : List Int), false))) = some (r1, r2) := H
 have A2 := Aside0.mk A20
 clear A20
 by_cases c3 : t613 = true
 ·subst c3
  have H1 : ((impl_tableOf.f k a0_0 a0_1).bind fun t614 => (some (t614, true))) = some (r1, r2) := by rw [if_pos rfl] at H; exact H
  clear H
  have H := H1
  clear H1
  replace H := Option.bind_eq_some_iff.mp H
  obtain ⟨t614, A40, H⟩ := H
  replace H : (some (t614, true)) = some (r1, r2) := H
  have A4 := Aside0.mk A40
  clear A40
  simp only [Option.some.injEq, Prod.mk.injEq] at H
  obtain ⟨rfl, rfl⟩ := H
  go_enter Try.func54, Try.ntmps54
  go_wp2_with (first | ((with_reducible refine gate_dst (N := 1) rfl ?_); refine box_event ?hg (N := 1) ?hd (cs := #[.int .i64 a0_0, .string a0_1]) (t := 41) ?hr ?_; (case hd => rfl); (case hg => rfl); (case hr => first | (go_simp; done) | (go_simp; rfl)); intro gb612 hg w5 hbox hb; have n0_ := Aside0.mk (below_step (by repeat (first | (with_reducible first | exact HB.out | apply below_alloc | apply pw_below_drewN | apply below_drew1) | exact HB.out)) hb); have n1_ := Aside0.mk (hbox); have n2_ := Aside0.mk ((by rw [hg]; exact (below_size (by repeat (first | (with_reducible first | exact HB.out | apply below_alloc | apply pw_below_drewN | apply below_drew1) | exact HB.out))) : w.heap.size ≤ gb612)); have n3_ := Aside0.mk ((by rw [hg]; exact (below_size (by repeat (first | (with_reducible first | exact HB.out | apply below_alloc | apply pw_below_drewN | apply below_drew1) | exact HB.out))) : w.heap.size ≤ gb612)); clear HB; have HB := n0_; have BK612 := n1_; have GW612 := n2_; have GE612 := n3_; clear n0_ n1_ n2_ n3_; clear hb hbox hg; have hcz6_0 : w5.cell? ⟨gb612, 0, none⟩ = some (.int .i64 a0_0) := (blk_cell BK612.out 0).trans rfl; have hcz6_1 : w5.cell? ⟨gb612, 1, none⟩ = some (.string a0_1) := (blk_cell BK612.out 1).trans rfl; have hfz6_0 := blk_frozen BK612.out 0; have hfz6_1 := blk_frozen BK612.out 1) | ((with_reducible refine gate_callee (f := 52) rfl ?_); refine goesL_ (some 5) rfl rfl Try.func52 (by kernel_rfl) rfl #[.agg #[.int .i64 a0_0, .string a0_1]] rfl (by (try simp only [List.map_toArray, List.map_cons, List.map_nil]); first | done | rfl | (simp only [List.length_drop, List.length_take]; rfl)) ?_; (with_reducible refine (impl_IsAcyclic.calls k a0_0 a0_1 true _ A2.out).mono ?_); rintro e w7 ⟨rfl, hb⟩; refine ⟨_, rfl, ?_⟩; have n0_ := Aside0.mk (blk_below (g := gb612) (o := .cells #[.int .i64 a0_0, .string a0_1] 41 (0, 0)) (by (with_reducible repeat (first | refine blk_drewN ?_ _ | refine blk_drew ?_ | refine blk_alloc ?_ _)); exact BK612.out) hb); have n1_ := Aside0.mk (below_step (by repeat (first | (with_reducible first | exact HB.out | apply below_alloc | apply pw_below_drewN | apply below_drew1 | refine below_set ?_ GE612.out) | exact HB.out)) hb); clear BK612; clear HB; have BK612 := n0_; have HB := n1_; clear n0_ n1_; (try clear hb); (try clear hb2); (try clear hk); (try clear hi); have hcz8_0 : w7.cell? ⟨gb612, 0, none⟩ = some (.int .i64 a0_0) := (blk_cell BK612.out 0).trans rfl; have hcz8_1 : w7.cell? ⟨gb612, 1, none⟩ = some (.string a0_1) := (blk_cell BK612.out 1).trans rfl; have hfz8_0 := blk_frozen BK612.out 0; have hfz8_1 := blk_frozen BK612.out 1) | ((with_reducible refine gate_callee (f := 62) rfl ?_); refine goesL_ (some 8) rfl rfl Try.func62 (by kernel_rfl) rfl #[.agg #[.int .i64 a0_0, .string a0_1]] rfl (by (try simp only [List.map_toArray, List.map_cons, List.map_nil]); first | done | rfl | (simp only [List.length_drop, List.length_take]; rfl)) ?_; (with_reducible refine (impl_tableOf.calls k a0_0 a0_1 t614 _ A4.out).mono ?_); rintro e w9 ⟨v615, rfl, ho0, hb⟩; refine ⟨_, rfl, ?_⟩; have n0_ := Aside0.mk (Kd.R_lower ho0 (below_size (by repeat (first | (with_reducible first | exact HB.out | apply below_alloc | apply pw_below_drewN | apply below_drew1 | refine below_set ?_ GE612.out) | exact HB.out)))); have n1_ := Aside0.mk (blk_below (g := gb612) (o := .cells #[.int .i64 a0_0, .string a0_1] 41 (0, 0)) (by (with_reducible repeat (first | refine blk_drewN ?_ _ | refine blk_drew ?_ | refine blk_alloc ?_ _)); exact BK612.out) hb); have n2_ := Aside0.mk (below_step (by repeat (first | (with_reducible first | exact HB.out | apply below_alloc | apply pw_below_drewN | apply below_drew1 | refine below_set ?_ GE612.out) | exact HB.out)) hb); clear BK612; clear HB; have HO616 := n0_; have BK612 := n1_; have HB := n2_; clear n0_ n1_ n2_; (try clear hb); (try clear hb2); (try clear hk); (try clear hi); (try clear ho0)))
  go_ret2
  exact ⟨(v615), by first | rfl | (simp [errW_none, errW_some] <;> rfl) | (simp [*, errW_none, errW_some] <;> rfl), by (with_reducible repeat (first | apply Kd.R_alloc | apply Kd.R_drewN | apply Kd.R_drew)); exact HO616.out, by repeat (first | (with_reducible first | exact HB.out | apply below_alloc | apply pw_below_drewN | apply below_drew1 | refine below_set ?_ GE612.out) | exact HB.out)⟩
 ·replace c3 := Bool.eq_false_iff.mpr c3
  subst c3
  have H1 : (some (([] : List Int), false)) = some (r1, r2) := by rw [if_neg (show ¬ (false = true) by decide)] at H; exact H
  clear H
  have H := H1
  clear H1
  simp only [Option.some.injEq, Prod.mk.injEq] at H
  obtain ⟨rfl, rfl⟩ := H
  go_enter Try.func54, Try.ntmps54
  go_wp2_with (first | ((with_reducible refine gate_dst (N := 1) rfl ?_); refine box_event ?hg (N := 1) ?hd (cs := #[.int .i64 a0_0, .string a0_1]) (t := 41) ?hr ?_; (case hd => rfl); (case hg => rfl); (case hr => first | (go_simp; done) | (go_simp; rfl)); intro gb612 hg w10 hbox hb; have n0_ := Aside0.mk (below_step (by repeat (first | (with_reducible first | exact HB.out | apply below_alloc | apply pw_below_drewN | apply below_drew1) | exact HB.out)) hb); have n1_ := Aside0.mk (hbox); have n2_ := Aside0.mk ((by rw [hg]; exact (below_size (by repeat (first | (with_reducible first | exact HB.out | apply below_alloc | apply pw_below_drewN | apply below_drew1) | exact HB.out))) : w.heap.size ≤ gb612)); have n3_ := Aside0.mk ((by rw [hg]; exact (below_size (by repeat (first | (with_reducible first | exact HB.out | apply below_alloc | apply pw_below_drewN | apply below_drew1) | exact HB.out))) : w.heap.size ≤ gb612)); clear HB; have HB := n0_; have BK612 := n1_; have GW612 := n2_; have GE612 := n3_; clear n0_ n1_ n2_ n3_; clear hb hbox hg; have hcz11_0 : w10.cell? ⟨gb612, 0, none⟩ = some (.int .i64 a0_0) := (blk_cell BK612.out 0).trans rfl; have hcz11_1 : w10.cell? ⟨gb612, 1, none⟩ = some (.string a0_1) := (blk_cell BK612.out 1).trans rfl; have hfz11_0 := blk_frozen BK612.out 0; have hfz11_1 := blk_frozen BK612.out 1) | ((with_reducible refine gate_callee (f := 52) rfl ?_); refine goesL_ (some 5) rfl rfl Try.func52 (by kernel_rfl) rfl #[.agg #[.int .i64 a0_0, .string a0_1]] rfl (by (try simp only [List.map_toArray, List.map_cons, List.map_nil]); first | done | rfl | (simp only [List.length_drop, List.length_take]; rfl)) ?_; (with_reducible refine (impl_IsAcyclic.calls k a0_0 a0_1 false _ A2.out).mono ?_); rintro e w12 ⟨rfl, hb⟩; refine ⟨_, rfl, ?_⟩; have n0_ := Aside0.mk (blk_below (g := gb612) (o := .cells #[.int .i64 a0_0, .string a0_1] 41 (0, 0)) (by (with_reducible repeat (first | refine blk_drewN ?_ _ | refine blk_drew ?_ | refine blk_alloc ?_ _)); exact BK612.out) hb); have n1_ := Aside0.mk (below_step (by repeat (first | (with_reducible first | exact HB.out | apply below_alloc | apply pw_below_drewN | apply below_drew1 | refine below_set ?_ GE612.out) | exact HB.out)) hb); clear BK612; clear HB; have BK612 := n0_; have HB := n1_; clear n0_ n1_; (try clear hb); (try clear hb2); (try clear hk); (try clear hi)))
  go_ret2
  exact ⟨(.slice none 0 0), by first | rfl | (simp [errW_none, errW_some] <;> rfl) | (simp [*, errW_none, errW_some] <;> rfl), by first | exact Kd.R_nil _ _ _ _ _ | exact Kd.N_nil _ _ _ _ _ | exact Kd.V_nil _ _ _ _ _ | exact Kd.Q_nil _ _ _ _ _ | exact Kd.S_nil _ _ _ _ _, by repeat (first | (with_reducible first | exact HB.out | apply below_alloc | apply pw_below_drewN | apply below_drew1 | refine below_set ?_ GE612.out) | exact HB.out)⟩
end Go.Proofs.Ytajogmlblknfdaa.P
namespace Go.Proofs.Ytajogmlblknfdaa.Pl
set_option linter.unusedSimpArgs false
set_option linter.unusedVariables false
open Go.RowKit Go.Proofs.YtajogmlblknfdaaW.PrintWords
theorem range_dropS (n i : Nat) (h : i < n) : (List.range n).drop i = i :: (List.range n).drop (i + 1) := by
  rw [List.drop_eq_getElem_cons (by simpa using h)]
  simp
def Srch {ρ : Type} (g : Nat → Nat → Option ρ) (m : Nat) (P : Nat → Bool) (v : ρ) (lo : Nat) : Prop :=
  ∀ r, (((List.range m).drop lo).any P = true → r = v) → (((List.range m).drop lo).any P = false → Ev (g m) r) → Ev (g lo) r
theorem Srch.of {ρ : Type} (g : Nat → Nat → Option ρ) (m : Nat) (P : Nat → Bool) (v : ρ) (lo : Nat) (hlo : lo ≤ m)
    (hstep : ∀ i, lo ≤ i → i < m → ∀ r, (P i = true → r = v) → (P i = false → Ev (g (i + 1)) r) → Ev (g i) r) : Srch g m P v lo := by
  have key : ∀ d i, lo ≤ i → i + d = m → Srch g m P v i := by
    intro d
    induction d with
    | zero =>
      intro i _ hi
      obtain rfl : i = m := by omega
      intro r _ h2
      exact h2 (by rw [List.drop_of_length_le (by simp)]; rfl)
    | succ d ih =>
      intro i hl hi r h1 h2
      rw [range_dropS m i (by omega), List.any_cons] at h1 h2
      refine hstep i hl (by omega) r (fun h => h1 (by rw [h, Bool.true_or])) (fun h => ih (i + 1) (by omega) (by omega) r (fun k => h1 (by rw [k, Bool.or_true])) (fun k => h2 (by rw [h, k]; rfl)))
  exact key (m - lo) lo (Nat.le_refl _) (by omega)
theorem Ev.up {ρ : Type} {f : Int → Nat → Option ρ} {i : Nat} {r : ρ} (hi : i < 1000000) (h : Ev (f ((i + 1 : Nat) : Int)) r) : Ev (f (wrap64 ((i : Int) + 1))) r := by
  rw [wrap_nat i (by omega)]
  exact h
end Go.Proofs.Ytajogmlblknfdaa.Pl
namespace Go.Proofs.Ytajogmlblknfdaa.Pure
set_option linter.unusedSimpArgs false
set_option linter.unusedVariables false
open Go.RowKit Go.Proofs.YtajogmlblknfdaaW.PrintWords Go.Proofs.Ytajogmlblknfdaa.P Go.Proofs.Ytajogmlblknfdaa.Pl
theorem szSigns_eqO (n : Int) (s : ByteArray) (a : Int) (h0 : 0 ≤ a) (h1 : a ≤ 1048576) (hl : s.size ≤ 9223372036854775807) : laws_szSigns.f n s a = some (if a < s.size then -1 else a - s.size) := by
  unfold laws_szSigns.f
  rw [wrap_in (by omega) (by omega)]
  by_cases h : a < (s.size : Int)
  · rw [if_pos h, if_pos (by omega)]
  · rw [if_neg h, if_neg (by omega)]
end Go.Proofs.Ytajogmlblknfdaa.Pure
namespace Go.Proofs.Ytajogmlblknfdaa.Pure
set_option linter.unusedSimpArgs false
set_option linter.unusedVariables false
open Go.RowKit Go.Proofs.YtajogmlblknfdaaW.PrintWords Go.Proofs.Ytajogmlblknfdaa.P Go.Proofs.Ytajogmlblknfdaa.Pl Go.Proofs.Ytajogmlblknfdaa.Rk
theorem isA_M {n : Int} {s : ByteArray} (h : isA n s = true) : isM n s = true := by
  unfold isA at h
  rw [Bool.and_eq_true] at h
  exact h.1
theorem orderMutations_both (n : Int) (s : ByteArray) : ∃ L, smallSS L ∧ Ev (fun k => spec_OrderMutations.f k n s) L ∧ Ev (fun k => impl_OrderMutations.f k n s) L := by
  have hS := spec_IsAcyclic_ev n s
  have hI := impl_IsAcyclic_ev n s
  unfold spec_OrderMutations.f impl_OrderMutations.f
  cases hM : isA n s with
  | false =>
    rw [hM] at hS hI
    exact ⟨[], ⟨by simp, by simp⟩, Ev.bind hS (Ev.ite_neg (by simp) (Ev.now _)), Ev.bind hI (Ev.ite_neg (by simp) (Ev.now _))⟩
  | true =>
    rw [hM] at hS hI
    obtain ⟨h3, h7, hs, _⟩ := isS_bounds (isM_S (isA_M hM))
    obtain ⟨m, rfl⟩ := Int.eq_ofNat_of_zero_le (show 0 ≤ n by omega)
    rw [Int.toNat_natCast] at hs
    exact ⟨mutR true m s, (mutR_small true m (by omega) s).1, Ev.bind hS (Ev.ite_pos rfl (Ev.bind (spec_l18_ev m (by omega) s hs true) (Ev.now _))), Ev.bind hI (Ev.ite_pos rfl (Ev.bind (impl_mutA_ev m (by omega) s (isM_S (isA_M hM))) (Ev.now _)))⟩
theorem FnExactOrderMutations (s0 : S38) (hq : Q38 s0) : ∃ k, laws_FnExactOrderMutations.f k s0.f0 s0.f1 = some true := by
  refine Ev.rounds (g := fun k => laws_FnExactOrderMutations.f k s0.f0 s0.f1) ?_
  unfold laws_FnExactOrderMutations.f
  refine Ev.bind0 (szSigns_eqO _ _ 1048576 (by omega) (by omega) hq.2) ?_
  by_cases hs : 1048576 < (s0.f1.size : Int)
  · rw [if_pos hs]
    exact Ev.ite_pos (by omega) (Ev.now _)
  rw [if_neg hs]
  refine Ev.ite_neg (by omega) ?_
  obtain ⟨L, hL, h1, h2⟩ := orderMutations_both s0.f0 s0.f1
  exact Ev.bind h1 (Ev.bind h2 (goodSS L hL))
end Go.Proofs.Ytajogmlblknfdaa.Pure
