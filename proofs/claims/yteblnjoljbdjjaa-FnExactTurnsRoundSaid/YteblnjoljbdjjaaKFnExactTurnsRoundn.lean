/- What the law FnExactTurnsRound reaches, part 14: functions as plain Lean functions with the proofs that their calls come to them, and plain lemmas over these. Put together by a program (wip/pack.py). -/
import Derived.Test.YteblnjoljbdjjaaKFnExactTurnsRoundl
import Derived.Test.YteblnjoljbdjjaaKFnExactTurnsRoundm
namespace Go.Proofs.Yteblnjoljbdjjaa.P
open Go.RowKit Go.Proofs.YteblnjoljbdjjaaW.PrintWords Go.Proofs.YteblnjoljbdjjaaW.PrintLast Go.Proofs.YteblnjoljbdjjaaW.PrintMore
attribute [local go_sem] ptrOf_slice
set_option linter.unusedVariables false
set_option linter.unusedSimpArgs false
def impl_LinesRound.f (k : Nat) (a0_0 : Int) (a0_1 : ByteArray) (a1 : Int) : Option (List Int) := (impl_orderOf.f k a0_0 a0_1).bind fun bt => (if bt.2 = true then ((impl_isElement.f a0_0 a1).bind fun t => (if t = true then turnF k (linesB bt.1 a1) bt.1 a1 else (some ([] : List Int)))) else (some ([] : List Int)))
theorem impl_LinesRound.mono : ∀ a0 a1 a2 k, LeO (impl_LinesRound.f k a0 a1 a2) (impl_LinesRound.f (k + 1) a0 a1 a2) := by
  intro a0 a1 a2 k
  refine LeO.bind (impl_orderOf.mono _ _ _) (fun _ => LeO.ite (LeO.bind (LeO.refl _) (fun _ => LeO.ite (turnF.mono _ _ _ _) (LeO.refl _))) (LeO.refl _))
set_option maxHeartbeats 8000000 in
set_option maxRecDepth 2000 in
theorem impl_LinesRound.calls (k : Nat) (a0_0 : Int) (a0_1 : ByteArray) (a1 : Int) (r : List Int) (w : World) (h : impl_LinesRound.f k a0_0 a0_1 a1 = some r) :
    Calls Try.prog 38 #[.agg #[.int .i64 a0_0, .string a0_1], .int .i64 a1] w fun e w' => ∃ v0_ : Value, e = .returned (v0_) ∧ Kd.R (Kd.int .i64) 3 w' w.heap.size (fun _ => True) v0_ r ∧ Below w.heap.size w w' := by
  have eg : ∀ args w, (callFunc 84 args).run Try.prog w = .ok (.enter 84 args) w := enters_of Try.func84 (by kernel_rfl) rfl
  have EG := Aside0.mk eg
  have hu25 := Try.underlying25
  obtain ⟨⟨tl, tb⟩, h1, h⟩ := Option.bind_eq_some_iff.mp h
  replace h : (if tb = true then ((impl_isElement.f a0_0 a1).bind fun t => (if t = true then turnF k (linesB tl a1) tl a1 else (some ([] : List Int)))) else (some ([] : List Int))) = some r := h
  have A1 := Aside0.mk h1
  clear h1 eg
  cases tb with
  | false =>
    obtain rfl := Option.some.inj (show some ([] : List Int) = some r from h)
    clear h
    go_enter Try.func38, Try.ntmps38
    go_wp2_with (first
      | ((with_reducible refine gate_dst (N := 2) rfl ?_); refine box_event ?hg (N := 2) ?hd (cs := #[.int .i64 a0_0, .string a0_1]) (t := 25) ?hr ?_; (case hd => rfl); (case hg => rfl); (case hr => first | (go_simp; done) | (go_simp; rfl)); intro gb2 hg2 w1 hb2 hB1; have BX2 := Aside0.mk hb2; have HB1 := Aside0.mk hB1; clear hg2 hb2 hB1)
      | ((with_reducible refine gate_dst (N := 3) rfl ?_); refine box_event ?hg (N := 3) ?hd (cs := #[.int .i64 a1]) (t := 3) ?hr ?_; (case hd => rfl); (case hg => rfl); (case hr => first | (go_simp; done) | (go_simp; rfl)); intro gb3 hg3 w2 hb3 hB2; have BX3 := Aside0.mk hb3; have BX2' := Aside0.mk ((hB2.block gb2 (Array.getElem?_eq_some_iff.1 BX2.out).1).trans BX2.out); have HB2 := Aside0.mk (below_step HB1.out hB2); have x20_ : w2.cell? ⟨gb2, 0, none⟩ = some (.int .i64 a0_0) := (blk_cell BX2'.out 0).trans rfl; have x21_ : w2.cell? ⟨gb2, 1, none⟩ = some (.string a0_1) := (blk_cell BX2'.out 1).trans rfl; clear hg3 hb3 hB2)
      | (go_at_call 72
         refine (impl_orderOf.calls k a0_0 a0_1 tl false _ A1.out).mono ?_
         rintro e w3 ⟨v0, rfl, hR, hB3⟩
         obtain ⟨A, c, rfl⟩ := Kd.R_slice hR
         rw [ptrOf_slice]
         have HR := Aside0.mk hR
         have HB3 := Aside0.mk (below_step HB2.out hB3)
         have Y2 := Aside0.mk ((hB3.block gb2 (Array.getElem?_eq_some_iff.1 BX2'.out).1).trans BX2'.out)
         have Y3 := Aside0.mk ((hB3.block gb3 (Array.getElem?_eq_some_iff.1 BX3.out).1).trans BX3.out)
         have y20_ : ∀ o : Obj, (w3.alloc o).cell? ⟨gb2, 0, none⟩ = some (.int .i64 a0_0) := fun o => (blk_cell (((below_alloc (Below.refl w3.heap.size w3) o).block gb2 (Array.getElem?_eq_some_iff.1 Y2.out).1).trans Y2.out) 0).trans rfl
         have y3_ : ∀ o : Obj, (w3.alloc o).cell? ⟨gb3, 0, none⟩ = some (.int .i64 a1) := fun o => (blk_cell (((below_alloc (Below.refl w3.heap.size w3) o).block gb3 (Array.getElem?_eq_some_iff.1 Y3.out).1).trans Y3.out) 0).trans rfl
         clear hR hB3 x20_ x21_))
    go_ret
    exact ⟨_, rfl, Kd.R_nil _ _ _ _ _, by repeat (first | exact HB3.out | apply below_alloc | apply pw_below_drewN)⟩
  | true =>
    obtain ⟨te, h2, h⟩ := Option.bind_eq_some_iff.mp (show ((impl_isElement.f a0_0 a1).bind fun t => (if t = true then turnF k (linesB tl a1) tl a1 else (some ([] : List Int)))) = some r from h)
    have A2 := Aside0.mk h2
    clear h2
    cases te with
    | false =>
      obtain rfl := Option.some.inj (show some ([] : List Int) = some r from h)
      clear h
      go_enter Try.func38, Try.ntmps38
      go_wp2_with (first
        | ((with_reducible refine gate_dst (N := 2) rfl ?_); refine box_event ?hg (N := 2) ?hd (cs := #[.int .i64 a0_0, .string a0_1]) (t := 25) ?hr ?_; (case hd => rfl); (case hg => rfl); (case hr => first | (go_simp; done) | (go_simp; rfl)); intro gb2 hg2 w1 hb2 hB1; have BX2 := Aside0.mk hb2; have HB1 := Aside0.mk hB1; clear hg2 hb2 hB1)
        | ((with_reducible refine gate_dst (N := 3) rfl ?_); refine box_event ?hg (N := 3) ?hd (cs := #[.int .i64 a1]) (t := 3) ?hr ?_; (case hd => rfl); (case hg => rfl); (case hr => first | (go_simp; done) | (go_simp; rfl)); intro gb3 hg3 w2 hb3 hB2; have BX3 := Aside0.mk hb3; have BX2' := Aside0.mk ((hB2.block gb2 (Array.getElem?_eq_some_iff.1 BX2.out).1).trans BX2.out); have HB2 := Aside0.mk (below_step HB1.out hB2); have x20_ : w2.cell? ⟨gb2, 0, none⟩ = some (.int .i64 a0_0) := (blk_cell BX2'.out 0).trans rfl; have x21_ : w2.cell? ⟨gb2, 1, none⟩ = some (.string a0_1) := (blk_cell BX2'.out 1).trans rfl; clear hg3 hb3 hB2)
        | (go_at_call 72
           refine (impl_orderOf.calls k a0_0 a0_1 tl true _ A1.out).mono ?_
           rintro e w3 ⟨v0, rfl, hR, hB3⟩
           obtain ⟨A, c, rfl⟩ := Kd.R_slice hR
           rw [ptrOf_slice]
           have HR := Aside0.mk hR
           have HB3 := Aside0.mk (below_step HB2.out hB3)
           have Y2 := Aside0.mk ((hB3.block gb2 (Array.getElem?_eq_some_iff.1 BX2'.out).1).trans BX2'.out)
           have Y3 := Aside0.mk ((hB3.block gb3 (Array.getElem?_eq_some_iff.1 BX3.out).1).trans BX3.out)
           have y20_ : ∀ o : Obj, (w3.alloc o).cell? ⟨gb2, 0, none⟩ = some (.int .i64 a0_0) := fun o => (blk_cell (((below_alloc (Below.refl w3.heap.size w3) o).block gb2 (Array.getElem?_eq_some_iff.1 Y2.out).1).trans Y2.out) 0).trans rfl
           have y3_ : ∀ o : Obj, (w3.alloc o).cell? ⟨gb3, 0, none⟩ = some (.int .i64 a1) := fun o => (blk_cell (((below_alloc (Below.refl w3.heap.size w3) o).block gb3 (Array.getElem?_eq_some_iff.1 Y3.out).1).trans Y3.out) 0).trans rfl
           clear hR hB3 x20_ x21_)
        | (go_at_call 79
           refine (impl_isElement.calls a0_0 a1 false _ A2.out).mono ?_
           rintro e w4 ⟨rfl, ⟨nd, rfl⟩⟩))
      go_ret
      exact ⟨_, rfl, Kd.R_nil _ _ _ _ _, by repeat (first | exact HB3.out | apply below_alloc | apply pw_below_drewN)⟩
    | true =>
      have HQ := Aside0.mk (show turnF k (linesB tl a1) tl a1 = some r from h)
      clear h
      go_enter Try.func38, Try.ntmps38
      go_wp2_with (first
        | ((with_reducible refine gate_dst (N := 2) rfl ?_); refine box_event ?hg (N := 2) ?hd (cs := #[.int .i64 a0_0, .string a0_1]) (t := 25) ?hr ?_; (case hd => rfl); (case hg => rfl); (case hr => first | (go_simp; done) | (go_simp; rfl)); intro gb2 hg2 w1 hb2 hB1; have BX2 := Aside0.mk hb2; have HB1 := Aside0.mk hB1; clear hg2 hb2 hB1)
        | ((with_reducible refine gate_dst (N := 3) rfl ?_); refine box_event ?hg (N := 3) ?hd (cs := #[.int .i64 a1]) (t := 3) ?hr ?_; (case hd => rfl); (case hg => rfl); (case hr => first | (go_simp; done) | (go_simp; rfl)); intro gb3 hg3 w2 hb3 hB2; have BX3 := Aside0.mk hb3; have BX2' := Aside0.mk ((hB2.block gb2 (Array.getElem?_eq_some_iff.1 BX2.out).1).trans BX2.out); have HB2 := Aside0.mk (below_step HB1.out hB2); have x20_ : w2.cell? ⟨gb2, 0, none⟩ = some (.int .i64 a0_0) := (blk_cell BX2'.out 0).trans rfl; have x21_ : w2.cell? ⟨gb2, 1, none⟩ = some (.string a0_1) := (blk_cell BX2'.out 1).trans rfl; clear hg3 hb3 hB2)
        | (go_at_call 72
           refine (impl_orderOf.calls k a0_0 a0_1 tl true _ A1.out).mono ?_
           rintro e w3 ⟨v0, rfl, hR, hB3⟩
           obtain ⟨A, c, rfl⟩ := Kd.R_slice hR
           rw [ptrOf_slice]
           have HR := Aside0.mk hR
           have HB3 := Aside0.mk (below_step HB2.out hB3)
           have Y2 := Aside0.mk ((hB3.block gb2 (Array.getElem?_eq_some_iff.1 BX2'.out).1).trans BX2'.out)
           have Y3 := Aside0.mk ((hB3.block gb3 (Array.getElem?_eq_some_iff.1 BX3.out).1).trans BX3.out)
           have y20_ : ∀ o : Obj, (w3.alloc o).cell? ⟨gb2, 0, none⟩ = some (.int .i64 a0_0) := fun o => (blk_cell (((below_alloc (Below.refl w3.heap.size w3) o).block gb2 (Array.getElem?_eq_some_iff.1 Y2.out).1).trans Y2.out) 0).trans rfl
           have y3_ : ∀ o : Obj, (w3.alloc o).cell? ⟨gb3, 0, none⟩ = some (.int .i64 a1) := fun o => (blk_cell (((below_alloc (Below.refl w3.heap.size w3) o).block gb3 (Array.getElem?_eq_some_iff.1 Y3.out).1).trans Y3.out) 0).trans rfl
           clear hR hB3 x20_ x21_)
        | (go_at_call 79
           refine (impl_isElement.calls a0_0 a1 true _ A2.out).mono ?_
           rintro e w4 ⟨rfl, ⟨nd, rfl⟩⟩)
        | (go_at_call 83
           have hO_ := below_alloc (Below.refl w3.heap.size w3) (Obj.cells #[.pointer A] 77 (0, 0))
           have hN_ : (w3.alloc (Obj.cells #[.pointer A] 77 (0, 0))).heap[w3.heap.size]? = some (Obj.cells #[.pointer A] 77 (0, 0)) := blk_new w3 _
           have hD_ := pw_below_drewN hO_ nd
           have hZ_ : ((w3.alloc (Obj.cells #[.pointer A] 77 (0, 0))).drewN nd).heap[w3.heap.size]? = some (Obj.cells #[.pointer A] 77 (0, 0)) := hN_
           generalize ((w3.alloc (Obj.cells #[.pointer A] 77 (0, 0))).drewN nd) = w5 at hD_ hZ_ ⊢
           have hz3_ := (hD_.block gb3 (Array.getElem?_eq_some_iff.1 Y3.out).1).trans Y3.out
           have hC_ := Kd.C_below (Kd.R_reads' HR.out).2.2 hD_
           have hw5_ := below_step HB3.out hD_
           refine (turnF_calls k 84 #[.pointer (some ⟨w3.heap.size, 0, none⟩), .pointer (some ⟨gb3, 0, none⟩)] EG.out (linesB tl a1) tl a1 r A w5 hC_ HQ.out (fun hl hi W hW a b c ha hb hc => lines1.calls tl a1 a b c A w3.heap.size gb3 W (Kd.C_below hC_ hW) hl hi ha hb hc ((hW.block w3.heap.size (Array.getElem?_eq_some_iff.1 hZ_).1).trans hZ_) ((hW.block gb3 (Array.getElem?_eq_some_iff.1 hz3_).1).trans hz3_))).mono ?_
           rintro e w6 ⟨v6, rfl, hR6, hB6⟩
           have HR6 := Aside0.mk (Kd.R_lower hR6 hw5_.size)
           have HB6 := Aside0.mk (below_step hw5_ hB6)
           clear hR6 hB6 hC_ hw5_ hz3_ hN_ hO_ hZ_ hD_))
      go_ret
      exact ⟨_, rfl, HR6.out, HB6.out⟩
end Go.Proofs.Yteblnjoljbdjjaa.P
namespace Go.Proofs.Yteblnjoljbdjjaa.Pure
set_option linter.unusedSimpArgs false
set_option linter.unusedVariables false
open Go.RowKit Go.Proofs.YteblnjoljbdjjaaW.PrintWords Go.Proofs.Yteblnjoljbdjjaa.P Go.Proofs.Yteblnjoljbdjjaa.Pl
theorem isElR_eq (n x : Int) : impl_isElement.f n x = some (decide (0 ≤ x ∧ x < n)) := by
  unfold impl_isElement.f
  by_cases h0 : x ≥ 0
  · rw [if_pos h0]
    exact congrArg some (by simp [show 0 ≤ x from h0])
  · rw [if_neg h0]
    exact congrArg some (decide_eq_false (by omega)).symm
theorem l1InR (i n : Int) (h : -1000 ≤ n ∧ n ≤ 1000) : spec_l1In.f i 0 (wrap64 (n - 1)) = some (decide (0 ≤ i ∧ i < n)) := by
  rw [wrap_in (by omega) (by omega), l1In_is]
  congr 1
  by_cases h2 : 0 ≤ i ∧ i ≤ n - 1
  · rw [decide_eq_true h2, decide_eq_true (by omega)]
  · rw [decide_eq_false h2, decide_eq_false (by omega)]
def badR (n : Int) (s : ByteArray) (i : Int) : Prop := isA n s = false ∨ (isA n s = true ∧ ¬ (0 ≤ i ∧ i < n))
theorem round_cases (n : Int) (s : ByteArray) (i : Int) : badR n s i ∨ ∃ m j : Nat, n = m ∧ i = j ∧ j < m ∧ 3 ≤ m ∧ m ≤ 7 ∧ s.size = (tri m).length ∧ isA m s = true := by
  cases hA : isA n s with
  | false => exact .inl (.inl hA)
  | true =>
    obtain ⟨m, rfl, h3, h7, hs⟩ := isA_nat hA
    by_cases hi : 0 ≤ i ∧ i < m
    · obtain ⟨j, rfl⟩ := Int.eq_ofNat_of_zero_le hi.1
      exact .inr ⟨m, j, rfl, rfl, by omega, h3, h7, hs, hA⟩
    · exact .inl (.inr ⟨hA, hi⟩)
theorem bad_orderOf (n : Int) (s : ByteArray) (i : Int) (h : badR n s i) : Ev (fun k => impl_orderOf.f k n s) ([], false) ∨ ∃ l, Ev (fun k => impl_orderOf.f k n s) (l, true) ∧ impl_isElement.f n i = some false := by
  rcases h with h | ⟨h, hi⟩
  · exact .inl (orderOf_no n s h)
  · obtain ⟨m, rfl, h3, h7, hs⟩ := isA_nat h
    exact .inr ⟨_, orderOf_yes m h7 s hs h, by rw [isElR_eq, decide_eq_false hi]⟩
theorem bad_round (n : Int) (s : ByteArray) (i : Int) (h : badR n s i) : Ev (fun k => spec_RoundOf.f k n s i) [] ∧ Ev (fun k => impl_RoundOf.f k n s i) [] := by
  constructor
  · unfold spec_RoundOf.f
    rcases h with h | ⟨h, hi⟩
    · exact Ev.bind (spec_A n s _ h) (Ev.ite_neg (by simp) (Ev.now _))
    · obtain ⟨m, rfl, h3, h7, hs⟩ := isA_nat h
      exact Ev.bind (spec_A _ s _ h) (Ev.ite_pos rfl (Ev.bind0 (by rw [l1InR _ _ (by omega), decide_eq_false hi]) (Ev.ite_neg (by simp) (Ev.now _))))
  · unfold impl_RoundOf.f
    rcases bad_orderOf n s i h with h | ⟨l, h, e⟩
    · exact Ev.bind h (Ev.ite_neg (by simp) (Ev.now _))
    · exact Ev.bind h (Ev.ite_pos rfl (Ev.bind0 e (Ev.ite_neg (by simp) (Ev.now _))))
theorem good_round (m j : Nat) (s : ByteArray) (hj : j < m) (h3 : 3 ≤ m) (h7 : m ≤ 7) (hs : s.size = (tri m).length) (hA : isA m s = true) : Ev (fun k => spec_RoundOf.f k m s j) (turnL (roundB (tab m s) j) (oth m j)) ∧ Ev (fun k => impl_RoundOf.f k m s j) (turnL (roundB (tab m s) j) (oth m j)) := by
  have hlen := oth_len m j h7 hj
  constructor
  · unfold spec_RoundOf.f spec_l21Round.f
    exact Ev.bind (spec_A _ s _ hA) (Ev.ite_pos rfl (Ev.bind0 (by rw [l1InR _ _ (by omega), decide_eq_true (by omega)]) (Ev.ite_pos rfl (Ev.bind (Ev.bind (l3Others_ev m j h7 hj) (Ev.ite_pos (by omega) (round_ev m h7 h3 s hs j hj))) (Ev.now _)))))
  · unfold impl_RoundOf.f impl_chi_round.f
    exact Ev.bind (orderOf_yes m h7 s hs hA) (Ev.ite_pos rfl (Ev.bind0 (by rw [isElR_eq, decide_eq_true (by omega)]) (Ev.ite_pos rfl (Ev.bind (turn_ev _ m s h3 h7 j hj) (Ev.now _)))))
end Go.Proofs.Yteblnjoljbdjjaa.Pure
namespace Go.Proofs.Yteblnjoljbdjjaa.Pure
set_option linter.unusedSimpArgs false
set_option linter.unusedVariables false
open Go.RowKit Go.Proofs.YteblnjoljbdjjaaW.PrintWords Go.Proofs.Yteblnjoljbdjjaa.P Go.Proofs.Yteblnjoljbdjjaa.Pl Go.Proofs.Yteblnjoljbdjjaa.Rk
theorem nextR (q len : Nat) (hq : q < len) (h : len ≤ 1000) : Int.tmod (wrap64 ((q : Int) + 1)) (len : Int) = ((if q + 1 = len then 0 else q + 1 : Nat) : Int) := by
  rw [wrap_nat q (by omega)]
  split
  · rename_i e
    rw [e, Int.tmod_self]
    rfl
  · rw [Int.tmod_eq_emod_of_nonneg (by omega)]
    exact Int.emod_eq_of_lt (by omega) (by omega)
def trn (m : Nat) (s : ByteArray) (i : Nat) (L : List Int) : Nat → Nat
  | 0 => 0
  | q + 1 => trn m s i L q + if sg m s i (rd L (q : Int)) (rd L ((if q + 1 = L.length then 0 else q + 1 : Nat) : Int)) < 0 then 1 else 0
theorem ite01 (c : Prop) [Decidable c] : (if c then 1 else 0 : Nat) ≤ 1 := by split <;> omega
theorem trn_le (m : Nat) (s : ByteArray) (i : Nat) (L : List Int) : ∀ q, trn m s i L q ≤ q
  | 0 => Nat.le_refl _
  | q + 1 => by
    unfold trn
    exact Nat.add_le_add (trn_le m s i L q) (ite01 _)
theorem turn_good (bf : Int → Int → Int → Bool) (m j : Nat) (hj : j < m) (h3 : 3 ≤ m) (h7 : m ≤ 7) (q : Nat) (hq : q < (turnL bf (oth m j)).length) : ∃ u : Nat, rd (turnL bf (oth m j)) (q : Int) = u ∧ u < m ∧ u ≠ j := by
  have hp : (turnL bf (oth m j)).Perm (oth m j) := by
    have hl := oth_len m j h7 hj
    have h7' : ∀ x ∈ oth m j, 0 ≤ x ∧ x < 7 := fun x hx => by
      obtain ⟨u, hu, rfl⟩ := List.mem_map.1 hx
      have := List.mem_range.1 (List.mem_filter.1 hu).1
      omega
    cases ho : oth m j with
    | nil => rw [ho] at hl; simp at hl; omega
    | cons t r =>
      rw [ho] at h7'
      rw [turnL_ins bf t r (fun x hx => h7' x (List.mem_cons_of_mem _ hx))]
      exact (insS_perm (bf t) r []).cons t
  rw [rd_ltR _ q hq]
  have hm := hp.mem_iff.1 (List.getElem_mem hq)
  obtain ⟨u, hu, e⟩ := List.mem_map.1 hm
  have h2 := List.mem_filter.1 hu
  have := List.mem_range.1 h2.1
  exact ⟨u, e.symm, this, by simpa using h2.2⟩
theorem turn_diff (bf : Int → Int → Int → Bool) (m j : Nat) (hj : j < m) (h3 : 3 ≤ m) (h7 : m ≤ 7) (p q : Nat) (hp : p < (turnL bf (oth m j)).length) (hq : q < (turnL bf (oth m j)).length) (hpq : p ≠ q) : rd (turnL bf (oth m j)) (p : Int) ≠ rd (turnL bf (oth m j)) (q : Int) := by
  have hperm : (turnL bf (oth m j)).Perm (oth m j) := by
    have hl := oth_len m j h7 hj
    have h7' : ∀ x ∈ oth m j, 0 ≤ x ∧ x < 7 := fun x hx => by
      obtain ⟨u, hu, rfl⟩ := List.mem_map.1 hx
      have := List.mem_range.1 (List.mem_filter.1 hu).1
      omega
    cases ho : oth m j with
    | nil => rw [ho] at hl; simp at hl; omega
    | cons t r =>
      rw [ho] at h7'
      rw [turnL_ins bf t r (fun x hx => h7' x (List.mem_cons_of_mem _ hx))]
      exact (insS_perm (bf t) r []).cons t
  have hnd : (oth m j).Nodup := by
    unfold oth
    refine List.Pairwise.map _ (fun a b h => ?_) (List.Pairwise.filter _ List.nodup_range)
    intro e
    exact h (by omega)
  have hnd2 := hperm.nodup_iff.2 hnd
  rw [rd_ltR _ p hp, rd_ltR _ q hq]
  intro e
  exact hpq ((List.getElem_inj hnd2).1 e)
theorem turns_good (m j : Nat) (s : ByteArray) (hj : j < m) (h3 : 3 ≤ m) (h7 : m ≤ 7) (hs : s.size = (tri m).length) (hA : isA m s = true) (bf : Int → Int → Int → Bool) (L : List Int) (hL : L = turnL bf (oth m j)) :
    Ev (fun k => spec_TurnsRound.l0 k j L 0 0 m s) (trn m s j L L.length : Nat) ∧ Ev (fun k => impl_TurnsRound.l0 k j (tab m s) L 0 L L.length 0) (trn m s j L L.length : Nat) := by
  have hl := oth_len m j h7 hj
  have hlen : L.length + 1 = m := by rw [hL, turnL_length]; exact hl
  have htl := tab_length m s
  have hg : ∀ q, q < L.length → ∃ u : Nat, rd L (q : Int) = u ∧ u < m ∧ u ≠ j := fun q hq => by
    rw [hL] at hq ⊢
    exact turn_good bf m j hj h3 h7 q hq
  have hd : ∀ p q, p < L.length → q < L.length → p ≠ q → rd L (p : Int) ≠ rd L (q : Int) := fun p q hp hq => by
    rw [hL] at hp hq ⊢
    exact turn_diff bf m j hj h3 h7 p q hp hq
  constructor
  · refine Ev.loop (fun q k => spec_TurnsRound.l0 k j L (trn m s j L q : Nat) (q : Nat) m s) L.length _ ?_ ?_ 0 (by omega)
    · exact Ev.step (fun k => spec_TurnsRound.l0.eq_2 ..) (Ev.ite_neg (by omega) (Ev.now _))
    · intro q hq ih
      have hc := trn_le m s j L q
      obtain ⟨u, hu, hum, huj⟩ := hg q hq
      have hnx : (if q + 1 = L.length then 0 else q + 1) < L.length := by split <;> omega
      obtain ⟨v, hv, hvm, hvj⟩ := hg _ hnx
      have hne := hd q _ hq hnx (by split <;> omega)
      rw [hu, hv] at hne
      rw [trn, hu, hv] at ih
      refine Ev.step (fun k => spec_TurnsRound.l0.eq_2 ..) (Ev.ite_pos (by omega) (Ev.ite_pos (by omega) (Ev.ite_neg (by omega) ?_)))
      rw [nextR q L.length hq (by omega), hu, hv]
      refine Ev.ite_pos (by omega) (Ev.ite_pos (by omega) (Ev.bind (l3At_ev m h7 s hs j u v hj hum hvm (by omega) (by omega) (by omega)) ?_))
      rw [wrap_nat q (by omega)]
      by_cases hc2 : sg m s j u v < 0
      · rw [if_pos hc2] at ih
        refine Ev.bind0 (a := 1) (by rw [decide_eq_true hc2]; rfl) ?_
        rw [wrap_nat _ (by omega)]
        exact ih
      · rw [if_neg hc2, Nat.add_zero] at ih
        refine Ev.bind0 (a := 0) (by rw [decide_eq_false hc2]; rfl) ?_
        rw [Int.add_zero, wrap_in (by omega) (by omega)]
        exact ih
  · refine Ev.loop (fun q k => impl_TurnsRound.l0 k j (tab m s) L (trn m s j L q : Nat) L L.length (q : Nat)) L.length _ ?_ ?_ 0 (by omega)
    · exact Ev.step (fun k => impl_TurnsRound.l0.eq_2 ..) (Ev.ite_neg (by omega) (Ev.now _))
    · intro q hq ih
      have hc := trn_le m s j L q
      obtain ⟨u, hu, hum, huj⟩ := hg q hq
      have hnx : (if q + 1 = L.length then 0 else q + 1) < L.length := by split <;> omega
      obtain ⟨v, hv, hvm, hvj⟩ := hg _ hnx
      rw [trn, hu, hv] at ih
      refine Ev.step (fun k => impl_TurnsRound.l0.eq_2 ..) (Ev.ite_pos (by omega) (Ev.ite_pos (by omega) (Ev.ite_pos (by omega) (Ev.ite_neg (by omega) ?_))))
      rw [nextR q L.length hq (by omega), hu, hv]
      refine Ev.ite_pos (by omega) (Ev.ite_pos (by omega) (Ev.ite_pos (by omega) (Ev.ite_pos (by omega) (Ev.ite_pos (by omega) (Ev.ite_pos (by omega) (Ev.ite_pos (by omega) (Ev.ite_pos (by omega) (Ev.ite_pos (by omega) ?_))))))))
      rw [tab_at m h7 s j u v (by omega) (by omega) (by omega), wrap_nat q (by omega)]
      by_cases hc2 : sg m s j u v < 0
      · rw [if_pos hc2] at ih
        refine Ev.ite_pos hc2 ?_
        rw [wrap_nat _ (by omega)]
        exact ih
      · rw [if_neg hc2, Nat.add_zero] at ih
        exact Ev.ite_neg hc2 ih
theorem turns_both (n : Int) (s : ByteArray) (i : Int) : ∃ v, Ev (fun k => spec_TurnsRound.f k n s i) v ∧ Ev (fun k => impl_TurnsRound.f k n s i) v := by
  unfold spec_TurnsRound.f impl_TurnsRound.f
  rcases round_cases n s i with h | ⟨m, j, rfl, rfl, hj, h3, h7, hs, hA⟩
  · have hj : ∀ l, Ev (fun k => impl_TurnsRound.j0 k i l true) (-1) := fun l => Ev.step (fun k => impl_TurnsRound.j0.eq_2 ..) (Ev.ite_pos rfl (Ev.now _))
    refine ⟨-1, Ev.bind (bad_round n s i h).1 (Ev.ite_pos rfl (Ev.now _)), ?_⟩
    rcases bad_orderOf n s i h with h | ⟨l, h, e⟩
    · exact Ev.bind h (Ev.ite_neg (by simp) (hj _))
    · exact Ev.bind h (Ev.ite_pos rfl (Ev.bind0 e (hj _)))
  · have hl := oth_len m j h7 hj
    obtain ⟨h1, h2⟩ := turns_good m j s hj h3 h7 hs hA (roundB (tab m s) j) _ rfl
    refine ⟨_, Ev.bind (good_round m j s hj h3 h7 hs hA).1 (Ev.ite_neg (by rw [turnL_length]; omega) h1), ?_⟩
    exact Ev.bind (orderOf_yes m h7 s hs hA) (Ev.ite_pos rfl (Ev.bind0 (a := true) (by rw [isElR_eq, decide_eq_true (by omega)]) (Ev.step (fun k => impl_TurnsRound.j0.eq_2 ..) (Ev.ite_neg (by simp) (Ev.bind (turn_ev _ m s h3 h7 j hj) h2)))))
theorem FnExactTurnsRound (s0 : S23) (a1 : Int) (hq : Q23 s0) (_ : I64 a1) : ∃ k, laws_FnExactTurnsRound.f k s0.f0 s0.f1 a1 = some true := by
  refine Ev.rounds (g := fun k => laws_FnExactTurnsRound.f k s0.f0 s0.f1 a1) ?_
  unfold laws_FnExactTurnsRound.f
  refine Ev.bind0 (szSigns_eqO _ _ 1048576 (by omega) (by omega) hq.2) ?_
  by_cases hs : 1048576 < (s0.f1.size : Int)
  · rw [if_pos hs]
    exact Ev.ite_pos (by omega) (Ev.now _)
  rw [if_neg hs]
  refine Ev.ite_neg (by omega) ?_
  obtain ⟨v, h1, h2⟩ := turns_both s0.f0 s0.f1 a1
  exact Ev.bind0 rfl (Ev.bind h1 (Ev.bind0 rfl (Ev.bind h2 (Ev.ite_pos rfl (Ev.now _)))))
end Go.Proofs.Yteblnjoljbdjjaa.Pure
