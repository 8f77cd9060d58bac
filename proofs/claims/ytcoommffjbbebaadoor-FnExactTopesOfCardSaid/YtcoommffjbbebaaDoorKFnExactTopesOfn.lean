/- What the law FnExactTopesOf reaches, part 14: functions as plain Lean functions with the proofs that their calls come to them, and plain lemmas over these. Put together by a program (wip/pack.py). -/
import Derived.Test.YtcoommffjbbebaaDoorKFnExactTopesOfg
import Derived.Test.YtcoommffjbbebaaDoorKFnExactTopesOfh
import Derived.Test.YtcoommffjbbebaaDoorKFnExactTopesOfm
import Derived.Test.YtcoommffjbbebaaDoorKFnExactTopesOfl
namespace Go.Proofs.YtcoommffjbbebaaDoor.Pure
set_option linter.unusedSimpArgs false
set_option linter.unusedVariables false
open Go.RowKit Go.Proofs.YtcoommffjbbebaaDoorW.PrintWords Go.Proofs.YtcoommffjbbebaaDoor.P Go.Proofs.YtcoommffjbbebaaDoor.Pl
theorem rdT_ltZ (S : List ByteArray) (i : Nat) (h : i < S.length) : rdOf ByteArray.empty S (i : Int) = S[i] := by
  unfold rdOf
  rw [Int.toNat_natCast, getD_lt _ _ _ h]
theorem eqStringS_self (l : List ByteArray) (hl : l.length ≤ 1048576) : Ev (fun k => laws_eqStringS.f k l l) true := by
  unfold laws_eqStringS.f
  refine Ev.ite_pos rfl ?_
  refine Ev.loop (fun i k => laws_eqStringS.l0 k l l i) l.length true ?_ ?_ 0 (by omega)
  · exact Ev.step (fun k => laws_eqStringS.l0.eq_2 ..) (Ev.ite_neg (by omega) (Ev.now _))
  · intro i hi ih
    refine Ev.step (fun k => laws_eqStringS.l0.eq_2 ..) (Ev.ite_pos (by omega) (Ev.ite_pos (by omega) (Ev.ite_pos (by omega) (Ev.ite_pos rfl ?_))))
    rw [wrap_nat i (by omega)]
    exact ih
theorem digit_ev : ∀ (b m : Nat), m ≤ b → b ≤ 100000000 → ∀ x : ByteArray, x.size + m ≤ 1000000000 → ∃ t, Ev (fun k => laws_markText.l0 k (m : Int) x) t
  | 0, m, hm, _, x, hx => by
    obtain rfl : m = 0 := by omega
    exact ⟨_, Ev.step (fun k => laws_markText.l0.eq_2 ..) (Ev.ite_neg (by simp) (Ev.ite_pos (by omega) (Ev.now _)))⟩
  | b + 1, m, hm, hb, x, hx => by
    by_cases h0 : m = 0
    · subst h0
      exact ⟨_, Ev.step (fun k => laws_markText.l0.eq_2 ..) (Ev.ite_neg (by simp) (Ev.ite_pos (by omega) (Ev.now _)))⟩
    · have hd : wrap64 (Int.tdiv (m : Int) 10) = ((m / 10 : Nat) : Int) := by
        rw [Int.tdiv_eq_ediv_of_nonneg (by omega), wrap_in (by omega) (by omega)]
        omega
      have hs1 : ∀ l : List Int, (strOfNums l).size = l.length := fun l => by simp [strOfNums, ByteArray.size]
      obtain ⟨t, ht⟩ := digit_ev b (m / 10) (by omega) (by omega) (strOfNums [wrap64 (48 + Int.tmod (m : Int) 10) % 256] ++ x) (by rw [ByteArray.size_append, hs1]; simp only [List.length_singleton]; omega)
      refine ⟨t, Ev.step (fun k => laws_markText.l0.eq_2 ..) (Ev.ite_pos (by omega) (Ev.bind0 rfl (Ev.ite_pos (by rw [hs1]; simp only [List.length_singleton]; omega) ?_)))⟩
      rw [hd]
      exact ht
theorem markText_ex (m : Nat) (hm : m ≤ 100000000) : ∃ t, Ev (fun k => laws_markText.f k (m : Int)) t := by
  unfold laws_markText.f
  by_cases h0 : m = 0
  · subst h0
    exact ⟨_, Ev.ite_pos (by simp) (Ev.now _)⟩
  · obtain ⟨t, ht⟩ := digit_ev m m (Nat.le_refl _) hm (⟨#[]⟩ : ByteArray) (by show 0 + m ≤ _; omega)
    exact ⟨t, Ev.ite_neg (by omega) ht⟩
theorem marks_ex : ∃ M : Nat → ByteArray, ∀ m : Nat, m ≤ 100000000 → Ev (fun k => laws_markText.f k (m : Int)) (M m) :=
  ⟨fun m => if h : m ≤ 100000000 then Classical.choose (markText_ex m h) else ByteArray.empty, fun m h => by
    simp only [dif_pos h]
    exact Classical.choose_spec (markText_ex m h)⟩
def marksT (M : Nat → ByteArray) (c n : Nat) : List ByteArray := (List.range n).map fun i => M (c + i)
theorem marksT_length (M : Nat → ByteArray) (c n : Nat) : (marksT M c n).length = n := by simp [marksT]
theorem marksT_set (M : Nat → ByteArray) (l : List ByteArray) (c n i : Nat) (hl : l.length = n) (hi : i < n) : (marksT M c i ++ l.drop i).set i (M (c + i)) = marksT M c (i + 1) ++ l.drop (i + 1) := by
  have h0 : (marksT M c i).length = i := marksT_length M c i
  rw [List.set_append_right _ _ (by omega), h0, Nat.sub_self, List.drop_eq_getElem_cons (by omega), List.set_cons_zero]
  simp [marksT, List.range_succ]
theorem markStringS_from (M : Nat → ByteArray) (hM : ∀ m : Nat, m ≤ 100000000 → Ev (fun k => laws_markText.f k (m : Int)) (M m)) (l : List ByteArray) (c : Nat) (hc : c ≤ 10000000) (hl : l.length ≤ 1048576) : Ev (fun k => laws_markStringS.f k l c) (((c + l.length : Nat) : Int), marksT M c l.length) := by
  have key := Ev.loop (fun i k => laws_markStringS.l0 k (marksT M c i ++ l.drop i) ((c + i : Nat) : Int) i) l.length (((c + l.length : Nat) : Int), marksT M c l.length) ?_ ?_ 0 (by omega)
  · unfold laws_markStringS.f
    simpa [marksT] using key
  · refine Ev.step (fun k => laws_markStringS.l0.eq_2 ..) ?_
    refine Ev.ite_neg (by simp [marksT_length]) (Ev.const ?_)
    simp
  · intro i hi ih
    refine Ev.step (fun k => laws_markStringS.l0.eq_2 ..) ?_
    refine Ev.ite_pos (by simp [marksT_length]; omega) (Ev.bind (hM (c + i) (by omega)) (Ev.ite_pos (by omega) ?_))
    rw [wrap_nat i (by omega), wrap_nat (c + i) (by omega), Int.toNat_natCast, marksT_set M l c l.length i rfl hi]
    exact ih
theorem heldStringS_from (M : Nat → ByteArray) (hM : ∀ m : Nat, m ≤ 100000000 → Ev (fun k => laws_markText.f k (m : Int)) (M m)) (c n : Nat) (hc : c ≤ 10000000) (hl : n ≤ 1048576) : Ev (fun k => laws_heldStringS.f k (marksT M c n) c) ((c + n : Nat) : Int) := by
  have key := Ev.loop (fun i k => laws_heldStringS.l0 k (marksT M c n) ((c + i : Nat) : Int) i) n ((c + n : Nat) : Int) ?_ ?_ 0 (by omega)
  · exact key
  · refine Ev.step (fun k => laws_heldStringS.l0.eq_2 ..) ?_
    exact Ev.ite_neg (by simp [marksT_length]) (Ev.now _)
  · intro i hi ih
    refine Ev.step (fun k => laws_heldStringS.l0.eq_2 ..) ?_
    have hr : rdOf ByteArray.empty (marksT M c n) (i : Int) = M (c + i) := by
      rw [rdT_ltZ _ i (by rw [marksT_length]; exact hi)]
      simp [marksT]
    refine Ev.ite_pos (by simp [marksT_length]; omega) (Ev.ite_pos (by omega) (Ev.bind (hM (c + i) (by omega)) (Ev.ite_pos (by rw [hr]) ?_)))
    rw [wrap_nat i (by omega), wrap_nat (c + i) (by omega)]
    exact ih
end Go.Proofs.YtcoommffjbbebaaDoor.Pure
namespace Go.Proofs.YtcoommffjbbebaaDoor.Pure
set_option linter.unusedSimpArgs false
set_option linter.unusedVariables false
open Go.RowKit Go.Proofs.YtcoommffjbbebaaDoorW.PrintWords Go.Proofs.YtcoommffjbbebaaDoor.P Go.Proofs.YtcoommffjbbebaaDoor.Pl Go.Proofs.YtcoommffjbbebaaDoor.Rk
theorem szSigns_eqT (n : Int) (s : ByteArray) (a : Int) (h0 : 0 ≤ a) (h1 : a ≤ 1048576) (hl : s.size ≤ 9223372036854775807) : laws_szSigns.f n s a = some (if a < s.size then -1 else a - s.size) := by
  unfold laws_szSigns.f
  rw [wrap_in (by omega) (by omega)]
  by_cases h : a < (s.size : Int)
  · rw [if_pos h, if_pos (by omega)]
  · rw [if_neg h, if_neg (by omega)]
theorem FnExactTopesOf (s0 : S23) (hq : Q23 s0) : ∃ k, laws_FnExactTopesOf.f k s0.f0 s0.f1 = some true := by
  refine Ev.rounds (g := fun k => laws_FnExactTopesOf.f k s0.f0 s0.f1) ?_
  unfold laws_FnExactTopesOf.f
  refine Ev.bind0 (szSigns_eqT _ _ 1048576 (by omega) (by omega) hq.2) ?_
  by_cases hs : 1048576 < (s0.f1.size : Int)
  · rw [if_pos hs]
    exact Ev.ite_pos (by omega) (Ev.now _)
  rw [if_neg hs]
  refine Ev.ite_neg (by omega) ?_
  obtain ⟨v, h1, h2, hl, _⟩ := topes_both s0.f0 s0.f1
  obtain ⟨M, hM⟩ := marks_ex
  have heq := eqStringS_self v (by omega)
  have hmk := markStringS_from M hM v 1 (by omega) (by omega)
  have hhd := heldStringS_from M hM 1 v.length (by omega) (by omega)
  refine Ev.bind0 rfl (Ev.bind h1 (Ev.bind0 rfl (Ev.bind h2 (Ev.bind heq (Ev.ite_pos rfl (Ev.bind hmk (Ev.bind hhd (Ev.ite_neg (by omega) (Ev.ite_pos rfl ?_)))))))))
  exact Ev.bind0 rfl (Ev.bind h2 (Ev.bind heq (Ev.ite_pos rfl (Ev.bind hhd (Ev.ite_neg (by omega) (Ev.ite_pos rfl (Ev.now _)))))))
end Go.Proofs.YtcoommffjbbebaaDoor.Pure
