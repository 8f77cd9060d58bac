/- What the law FnExactTopeNeighbours reaches, part 13: functions as plain Lean functions with the proofs that their calls come to them, and plain lemmas over these. Put together by a program (wip/pack.py). -/
import Derived.Test.YtcoommffjbbebaaDoorKFnExactTopeNeighboursl
import Derived.Test.YtcoommffjbbebaaDoorKFnExactTopeNeighboursh
import Derived.Laws.RangeAny
import Derived.Laws.Runes
namespace Go.Proofs.YtcoommffjbbebaaDoor.P
open Go.RowKit Go.Proofs.YtcoommffjbbebaaDoorW.PrintWords Go.Proofs.YtcoommffjbbebaaDoorW.PrintLast Go.Proofs.YtcoommffjbbebaaDoorW.PrintMore
attribute [local go_sem] ptrOf_slice
set_option linter.unusedVariables false
set_option linter.unusedSimpArgs false
def asc7 (a : ByteArray) : Bool := (List.range a.size).all fun j => decide (bt a (j : Int) < 128)
def turnT (t o : ByteArray) (pos : Nat) : ByteArray := (t.extract 0 pos ++ o) ++ t.extract (pos + 1) t.size
def nbF (k : Nat) (l : List ByteArray) (t : ByteArray) : Nat → Nat → List Int → Option (List Int)
  | 0, _, out => some out
  | d + 1, pos, out => (impl_opposite.f (t.extract pos (pos + 1))).bind fun o => if o.size ≤ 1000 then (slices_Contains_Sstring_string.f k l (turnT t o pos)).bind fun b => nbF k l t d (pos + 1) (if b = true then out ++ [(pos : Int)] else out) else none
theorem nbF_mono (k : Nat) (l : List ByteArray) (t : ByteArray) : ∀ d pos out, LeO (nbF k l t d pos out) (nbF (k + 1) l t d pos out)
  | 0, _, _ => LeO.refl _
  | d + 1, pos, out => LeO.bind (LeO.refl _) (fun _ => LeO.ite (LeO.bind (slices_Contains_Sstring_string.mono _ _ _) (fun _ => nbF_mono k l t d _ _)) (LeO.refl _))
def impl_TopeNeighbours.f (k : Nat) (a0_0 : Int) (a0_1 : ByteArray) (a1 : ByteArray) : Option (List Int) := (impl_TopesOf.f k a0_0 a0_1).bind fun l => (slices_Contains_Sstring_string.f k l a1).bind fun b => if b = true then (if asc7 a1 = true ∧ a1.size ≤ 1000 then nbF k l a1 a1.size 0 [] else none) else some []
theorem impl_TopeNeighbours.mono : ∀ a0 a1 a2 k, LeO (impl_TopeNeighbours.f k a0 a1 a2) (impl_TopeNeighbours.f (k + 1) a0 a1 a2) := fun a0 a1 a2 k => LeO.bind (impl_TopesOf.mono _ _ _) (fun _ => LeO.bind (slices_Contains_Sstring_string.mono _ _ _) (fun _ => LeO.ite (LeO.ite (nbF_mono _ _ _ _ _ _) (LeO.refl _)) (LeO.refl _)))
theorem nb_next (P : Program) (w : World) (q pos : Nat) (s : ByteArray) (hq : w.heap[q]? = some (.stringIter s pos)) (h : pos < s.size) (ha : bt s (pos : Int) < 128) : ∃ (c : Int) (w' : World), (∀ ty, (Instr.next (.pointer (some ⟨q, 0, none⟩)) true ty).run P w = .ok (.tuple #[.bool true, .int .i64 pos, .int .i32 c]) w') ∧ w'.heap[q]? = some (.stringIter s (pos + 1)) ∧ w.grownBy w' (some q) := by
  have h1 : (s[pos]'h).toNat < 128 := by
    have := bt_at s (pos : Int) (by simpa using h)
    simp only [Int.toNat_natCast] at this
    omega
  have hlt : q < w.heap.size := (Array.getElem?_eq_some_iff.1 hq).1
  refine ⟨((s[pos]'h).toNat : Int), { w with heap := w.heap.setIfInBounds q (.stringIter s (pos + 1)) }, fun ty => ?_, ?_, ⟨rfl, rfl, rfl, by simp, fun k hk hne => ?_⟩⟩
  · simp only [Instr.next, getObj, setObj, Sem.run_bind, Sem.run, hq, Result.andThen, h, if_true, decode_ascii s pos h h1]
    simp [goInt, Sem.run, hq]
  · simp [hlt]
  · have hne2 : q ≠ k := fun e => hne (by rw [e])
    simp [Array.getElem?_setIfInBounds, hne2]
theorem nb_end (P : Program) (w : World) (q pos : Nat) (s : ByteArray) (hq : w.heap[q]? = some (.stringIter s pos)) (h : ¬ pos < s.size) : ∀ ty, (Instr.next (.pointer (some ⟨q, 0, none⟩)) true ty).run P w = .ok (.tuple #[.bool false]) w := fun ty => by
  simp [Instr.next, getObj, Sem.run, hq, h]
def nbr8.T8 : Bool × List (List Nat × List Nat) := (true, [([], []), ([], []), ([], []), ([1, 2], [1, 2]), ([], []), ([], []), ([], []), ([6], [6]), ([4, 5, 7], [4, 5, 7]), ([8], [8]), ([3, 9], [3, 9]), ([], []), ([], []), ([12], [12]), ([11, 13], [11, 13]), ([10, 14], [10, 14]), ([0, 15, 9], [0, 15])])
def nbr8.B8 : List Nat := [0, 0, 0, 6, 0, 0, 0, 64, 240, 496, 1022, 0, 0, 4096, 14336, 32766, 65535]
theorem nbr8.tab8 : rtab .any (opsOf Tryd.f13 8) = nbr8.T8 := by kernel_rfl
theorem nbr8.bits8 : waitsOk nbr8.T8.2 nbr8.B8 = true := by kernel_rfl
set_option maxHeartbeats 8000000 in
set_option maxRecDepth 100000 in
theorem impl_TopeNeighbours.calls (k : Nat) (a0_0 : Int) (a0_1 : ByteArray) (a1 : ByteArray) (r : List Int) (w : World) (h : impl_TopeNeighbours.f k a0_0 a0_1 a1 = some r) :
    Calls Tryd.prog 13 #[.agg #[.int .i64 a0_0, .string a0_1], .string a1] w fun e w' => ∃ v0_ : Value, e = .returned (v0_) ∧ Kd.R (Kd.int .i64) 3 w' w.heap.size (fun _ => True) v0_ r ∧ Below w.heap.size w w' := by
  have hu27 := Tryd.underlying27
  obtain ⟨l, A1_, H⟩ := Option.bind_eq_some_iff.mp h
  clear h
  obtain ⟨b, A2_, H0⟩ := Option.bind_eq_some_iff.mp H
  clear H
  have A1 := Aside0.mk A1_
  have A2 := Aside0.mk A2_
  clear A1_ A2_
  cases b with
  | false =>
    obtain rfl := Option.some.inj (show some ([] : List Int) = some r from H0)
    clear H0
    go_enter Tryd.func13, Tryd.ntmps13
    go_wp2_with (first
      | ((with_reducible refine gate_dst (N := 2) rfl ?_); refine box_event ?hg (N := 2) ?hd (cs := #[.int .i64 a0_0, .string a0_1]) (t := 27) ?hr ?_; (case hd => rfl); (case hg => rfl); (case hr => first | (go_simp; done) | (go_simp; rfl)); intro gb hg w3 hbox hb; have HB := Aside0.mk hb; have BK := Aside0.mk hbox; clear hb hbox hg; have hcz0 : w3.cell? ⟨gb, 0, none⟩ = some (.int .i64 a0_0) := (blk_cell BK.out 0).trans rfl; have hcz1 : w3.cell? ⟨gb, 1, none⟩ = some (.string a0_1) := (blk_cell BK.out 1).trans rfl; have hfz0 := blk_frozen BK.out 0; have hfz1 := blk_frozen BK.out 1)
      | (go_at_call 8; (with_reducible refine (impl_TopesOf.calls k a0_0 a0_1 l _ A1.out).mono ?_); rintro e w4 ⟨v4, rfl, ho, hb⟩; obtain ⟨AL, cL, rfl⟩ := Kd.R_slice ho; have HLC := Aside0.mk (Kd.R_reads' ho).2.2; have HCL := Aside0.mk (Kd.R_reads' ho).2.1; have HB4 := Aside0.mk (below_step HB.out hb); clear ho hb HB)
      | (go_at_call 32; refine (slices_Contains_Sstring_string.calls k AL cL l a1 false _ HLC.out HCL.out A2.out).mono ?_; rintro e w5 ⟨rfl, ⟨nd, rfl⟩⟩))
    go_ret
    exact ⟨_, rfl, Kd.R_nil _ _ _ _ _, pw_below_drewN HB4.out nd⟩
  | true =>
    have H : (if asc7 a1 = true ∧ a1.size ≤ 1000 then nbF k l a1 a1.size 0 [] else none) = some r := H0
    clear H0
    by_cases hA : asc7 a1 = true ∧ a1.size ≤ 1000
    case neg => rw [if_neg hA] at H; cases H
    rw [if_pos hA] at H
    have HA := Aside0.mk hA
    have A3 := Aside0.mk H
    clear H hA
    go_enter Tryd.func13, Tryd.ntmps13
    go_wp2_with (first
      | ((with_reducible refine gate_dst (N := 2) rfl ?_); refine box_event ?hg (N := 2) ?hd (cs := #[.int .i64 a0_0, .string a0_1]) (t := 27) ?hr ?_; (case hd => rfl); (case hg => rfl); (case hr => first | (go_simp; done) | (go_simp; rfl)); intro gb hg w3 hbox hb; have HB := Aside0.mk hb; have BK := Aside0.mk hbox; clear hb hbox hg; have hcz0 : w3.cell? ⟨gb, 0, none⟩ = some (.int .i64 a0_0) := (blk_cell BK.out 0).trans rfl; have hcz1 : w3.cell? ⟨gb, 1, none⟩ = some (.string a0_1) := (blk_cell BK.out 1).trans rfl; have hfz0 := blk_frozen BK.out 0; have hfz1 := blk_frozen BK.out 1)
      | (go_at_call 8; (with_reducible refine (impl_TopesOf.calls k a0_0 a0_1 l _ A1.out).mono ?_); rintro e w4 ⟨v4, rfl, ho, hb⟩; obtain ⟨AL, cL, rfl⟩ := Kd.R_slice ho; have HLC := Aside0.mk (Kd.R_reads' ho).2.2; have HCL := Aside0.mk (Kd.R_reads' ho).2.1; have HB4 := Aside0.mk (below_step HB.out hb); clear ho hb HB)
      | (go_at_call 32; refine (slices_Contains_Sstring_string.calls k AL cL l a1 true _ HLC.out HCL.out A2.out).mono ?_; rintro e w5 ⟨rfl, ⟨nd, hw5⟩⟩; have HW5 := Aside0.mk (show Below w4.heap.size w4 w5 from by rw [hw5]; exact pw_below_drewN (Below.refl _ _) nd); clear hw5))
    obtain ⟨q, hq⟩ : ∃ q, q = w5.heap.size := ⟨_, rfl⟩
    have HIT := Aside0.mk (show (w5.iter a1 0).heap[q]? = some (.stringIter a1 0) from by rw [hq]; exact World.iter_heap w5 a1 0)
    have HBI := Aside0.mk (show Below w4.heap.size w4 (w5.iter a1 0) from below_alloc HW5.out _)
    have HQ := Aside0.mk (show w4.heap.size ≤ q from by rw [hq]; exact HW5.out.size)
    rw [← hq]
    generalize w5.iter a1 0 = wI at HIT HBI ⊢
    clear hq HW5
    go_loopg [6] (a1.size + 1) (fun kq v6 w' => ∃ (pos : Nat) (out : List Int), Aside0 (pos ≤ a1.size ∧ kq + pos = a1.size + 1) ∧ Aside0 (w'.heap[q]? = some (.stringIter a1 pos)) ∧ Aside0 (nbF k l a1 (a1.size - pos) pos out = some r) ∧ Aside0 (out.length ≤ pos) ∧ Aside0 (Kd.R (Kd.int .i64) 3 w' w4.heap.size (fun k_ => k_ ≠ q) v6 out) ∧ Aside0 (Below w4.heap.size w4 w'))
    case atStart => exact ⟨0, [], ⟨Nat.zero_le _, rfl⟩, HIT, ⟨A3.out⟩, ⟨Nat.le_refl _⟩, ⟨Kd.R_nil _ _ _ _ _⟩, HBI⟩
    case round =>
      clear HIT HBI A3 A1 A2
      obtain ⟨pos, out, HK, HIT, HO, HL, HR, HB⟩ := hrel
      obtain ⟨hk0, hk1⟩ := HK.out
      by_cases hp : pos < a1.size
      · have hasc : bt a1 (pos : Int) < 128 := by
          have h := HA.out.1
          unfold asc7 at h
          rw [List.all_eq_true] at h
          exact of_decide_eq_true (h pos (by simpa using hp))
        have ho := HO.out
        rw [show a1.size - pos = (a1.size - (pos + 1)) + 1 by omega, nbF] at ho
        obtain ⟨o, hop, ho⟩ := Option.bind_eq_some_iff.mp ho
        by_cases hos : o.size ≤ 1000
        case neg => rw [if_neg hos] at ho; cases ho
        rw [if_pos hos] at ho
        obtain ⟨b, hcn, ho⟩ := Option.bind_eq_some_iff.mp ho
        obtain ⟨c, w2, hnx, hit2, hg2⟩ := nb_next Tryd.prog _ q pos a1 HIT.out hp hasc
        obtain ⟨x, hx⟩ : ∃ x : Int, x = (pos : Int) := ⟨_, rfl⟩
        rw [← hx] at hnx
        obtain ⟨y, hy⟩ : ∃ y : Int, wrap64 (x + 1) = y := ⟨_, rfl⟩
        have hyi : (IntKind.i64.wrap (x + 1)) = y := (i64_w _).trans hy
        have hyp : y = ((pos + 1 : Nat) : Int) := by rw [← hy, hx]; have := HA.out.2; unfold wrap64; omega
        obtain ⟨s1, hs1⟩ : ∃ s, a1.extract 0 x.toNat = s := ⟨_, rfl⟩
        obtain ⟨s2, hs2⟩ : ∃ s, a1.extract x.toNat y.toNat = s := ⟨_, rfl⟩
        obtain ⟨s3, hs3⟩ : ∃ s, a1.extract y.toNat a1.size = s := ⟨_, rfl⟩
        have z1 : s1.size ≤ 1000 := by rw [← hs1, ByteArray.size_extract]; have := HA.out.2; omega
        have z3 : s3.size ≤ 1000 := by rw [← hs3, ByteArray.size_extract]; have := HA.out.2; omega
        have z4 : (s1 ++ o).size ≤ 2000 := by rw [ByteArray.size_append]; omega
        have c1 := eq_true (show s1.size + o.size ≤ 9223372036854775807 by omega)
        have c2 := eq_true (show (s1 ++ o).size + s3.size ≤ 9223372036854775807 by omega)
        have c1b : (9223372036854775807 < s1.size + o.size) = False := eq_false (by omega)
        have c2b : (9223372036854775807 < (s1 ++ o).size + s3.size) = False := eq_false (by omega)
        have c2c : (9223372036854775807 < s1.size + o.size + s3.size) = False := eq_false (by omega)
        have c2d := eq_true (show s1.size + o.size + s3.size ≤ 9223372036854775807 by omega)
        have e1 : impl_opposite.f s2 = some o := by rw [← hs2, hx, hyp, Int.toNat_natCast, Int.toNat_natCast]; exact hop
        have e2 : slices_Contains_Sstring_string.f k l ((s1 ++ o) ++ s3) = some b := by rw [← hs1, ← hs3, hx, hyp, Int.toNat_natCast, Int.toNat_natCast]; exact hcn
        have E1 := Aside0.mk e1
        have E2 := Aside0.mk e2
        have d0 := eq_true (show 0 ≤ x by omega)
        have d1 := eq_true (show x ≤ (a1.size : Int) by omega)
        have d2 := eq_true (show x ≤ y by omega)
        have d3 := eq_true (show y ≤ (a1.size : Int) by omega)
        have d4 := eq_true (show 0 ≤ y by omega)
        have d0b : decide (0 ≤ x) = true := decide_eq_true (by omega)
        have d1b : decide (x ≤ (a1.size : Int)) = true := decide_eq_true (by omega)
        have HI1 := Aside0.mk (show pos + 1 ≤ a1.size ∧ gk + pos = a1.size + 1 from ⟨hp, hk1⟩)
        have HO1 := Aside0.mk ho
        have HR1 := Aside0.mk (Kd.R_grown HR.out hg2 (fun k_ hk e => by injection e with e; exact hk e))
        have HB1 := Aside0.mk (HB.out.grown hg2 HB.out.size (fun j hj => by injection hj with hj; rw [← hj]; exact HQ.out))
        have HIT1 := Aside0.mk hit2
        have HX := Aside0.mk hx
        clear hasc ho hop hos hcn hit2 hg2 hx hyp z1 z3 z4 e1 e2 hp hk0 hk1 HK HO HR HB HIT
        go_upto_region 8 with (fail)
        replace HR1 := Aside0.mk (Kd.R_drew HR1.out)
        replace HB1 := Aside0.mk (below_drew1 HB1.out)
        replace HIT1 := Aside0.mk (show w2.drew.heap[q]? = some (.stringIter a1 (pos + 1)) from HIT1.out)
        refine start_ (n := 17) (S := fun w' => True) (ds := [16]) #[false, false, false, false, false, false, false, false, false, false, false, false, false, false, false, false, false] (by kernel_rfl) rfl rfl trivial (fun hHeld => ?_); refine with_tabW nbr8.tab8 nbr8.bits8 (fun HT_ HW_ => ?_)
        generalize w2.drew = w10 at HR1 HB1 HIT1 ⊢
        refine pure_ (i := 0) (N := some 19) (v := ?_) (a' := ?_) #[true, false, false, false, false, false, false, false, false, false, false, false, false, false, false, false, false] rfl rfl (any_of HT_.out (by kernel_rfl)) (fun _ _ _ h => h) (Or.inl ⟨by rfl, ?_⟩) ?_ ?_
        rotate_left
        · intro w'
          go_simp
          with_reducible rfl
        rotate_left
        · simp only [Act.put, List.setIfInBounds_toArray, List.set_cons_zero, List.set_cons_succ, i64_w, i32_w]
          rfl
        refine pure_ (i := 1) (N := some 20) (v := ?_) (a' := ?_) #[true, true, false, false, false, false, false, false, false, false, false, false, false, false, false, false, false] rfl rfl (any_of HT_.out (by kernel_rfl)) (fun _ _ _ h => h) (Or.inl ⟨by rfl, ?_⟩) ?_ ?_
        rotate_left
        · intro w'
          go_simp
          with_reducible rfl
        rotate_left
        · simp only [Act.put, List.setIfInBounds_toArray, List.set_cons_zero, List.set_cons_succ, i64_w, i32_w]
          rfl
        refine pure_ (i := 2) (N := some 21) (v := ?_) (a' := ?_) #[true, true, true, false, false, false, false, false, false, false, false, false, false, false, false, false, false] rfl rfl (any_of HT_.out (by kernel_rfl)) (fun _ _ _ h => h) (Or.inl ⟨by rfl, ?_⟩) ?_ ?_
        rotate_left
        · intro w'
          go_simp
          with_reducible rfl
        rotate_left
        · simp only [Act.put, List.setIfInBounds_toArray, List.set_cons_zero, List.set_cons_succ, i64_w, i32_w]
          rfl
        refine pure_ (i := 3) (N := some 22) (v := ?_) (a' := ?_) #[true, true, true, true, false, false, false, false, false, false, false, false, false, false, false, false, false] rfl rfl (any_of HT_.out (by kernel_rfl)) (fun _ _ _ h => h) (Or.inl ⟨by rfl, ?_⟩) ?_ ?_
        rotate_left
        · intro w'
          go_simp
          with_reducible rfl
        rotate_left
        · simp only [Act.put, List.setIfInBounds_toArray, List.set_cons_zero, List.set_cons_succ, i64_w, i32_w]
          rfl
        refine pure_ (i := 4) (N := some 23) (v := ?_) (a' := ?_) #[true, true, true, true, true, false, false, false, false, false, false, false, false, false, false, false, false] rfl rfl (any_of HT_.out (by kernel_rfl)) (fun _ _ _ h => h) (Or.inl ⟨by rfl, ?_⟩) ?_ ?_
        rotate_left
        · intro w'
          go_simp
          with_reducible rfl
        rotate_left
        · simp only [Act.put, List.setIfInBounds_toArray, List.set_cons_zero, List.set_cons_succ, i64_w, i32_w]
          rfl
        refine pure_ (i := 5) (N := some 24) (v := ?_) (a' := ?_) #[true, true, true, true, true, true, false, false, false, false, false, false, false, false, false, false, false] rfl rfl (any_of HT_.out (by kernel_rfl)) (fun _ _ _ h => h) (Or.inl ⟨by rfl, ?_⟩) ?_ ?_
        rotate_left
        · intro w'
          go_simp
          with_reducible rfl
        rotate_left
        · simp only [Act.put, List.setIfInBounds_toArray, List.set_cons_zero, List.set_cons_succ, i64_w, i32_w]
          rfl
        refine pure_ (i := 6) (N := some 25) (v := ?_) (a' := ?_) #[true, true, true, true, true, true, true, false, false, false, false, false, false, false, false, false, false] rfl rfl (any_of HT_.out (by kernel_rfl)) (fun _ _ _ h => h) (Or.inl ⟨by rfl, ?_⟩) ?_ ?_
        rotate_left
        · intro w'
          go_simp
          with_reducible rfl
        rotate_left
        · simp only [Act.put, List.setIfInBounds_toArray, List.set_cons_zero, List.set_cons_succ, i64_w, i32_w]
          rfl
        refine pure_ (i := 7) (N := some 26) (v := ?_) (a' := ?_) #[true, true, true, true, true, true, true, true, false, false, false, false, false, false, false, false, false] rfl rfl (any_of HT_.out (by kernel_rfl)) (fun _ _ _ h => h) (Or.inl ⟨by rfl, ?_⟩) ?_ ?_
        rotate_left
        · intro w'
          go_simp
          with_reducible rfl
        rotate_left
        · simp only [Act.put, List.setIfInBounds_toArray, List.set_cons_zero, List.set_cons_succ, i64_w, i32_w]
          rfl
        refine pure_ (i := 8) (N := some 27) (v := ?_) (a' := ?_) #[true, true, true, true, true, true, true, true, true, false, false, false, false, false, false, false, false] rfl rfl (any_of HT_.out (by kernel_rfl)) (fun _ _ _ h => h) (Or.inl ⟨by rfl, ?_⟩) ?_ ?_
        rotate_left
        · intro w'
          go_simp
          with_reducible rfl
        rotate_left
        · simp only [Act.put, List.setIfInBounds_toArray, List.set_cons_zero, List.set_cons_succ, i64_w, i32_w]
          rfl
        refine pure_ (i := 11) (N := some 30) (v := ?_) (a' := ?_) #[true, true, true, true, true, true, true, true, true, false, false, true, false, false, false, false, false] rfl rfl (any_of HT_.out (by kernel_rfl)) (fun _ _ _ h => h) (Or.inl ⟨by rfl, ?_⟩) ?_ ?_
        rotate_left
        · intro w'
          go_simp
          with_reducible rfl
        rotate_left
        · simp only [Act.put, List.setIfInBounds_toArray, List.set_cons_zero, List.set_cons_succ, i64_w, i32_w]
          rfl
        refine pure_ (i := 12) (N := some 31) (v := ?_) (a' := ?_) #[true, true, true, true, true, true, true, true, true, false, false, true, true, false, false, false, false] rfl rfl (any_of HT_.out (by kernel_rfl)) (fun _ _ _ h => h) (Or.inl ⟨by rfl, ?_⟩) ?_ ?_
        rotate_left
        · intro w'
          go_simp
          with_reducible rfl
        rotate_left
        · simp only [Act.put, List.setIfInBounds_toArray, List.set_cons_zero, List.set_cons_succ, i64_w, i32_w]
          rfl
        refine pure_ (i := 13) (N := some 32) (v := ?_) (a' := ?_) #[true, true, true, true, true, true, true, true, true, false, false, true, true, true, false, false, false] rfl rfl (any_of HT_.out (by kernel_rfl)) (fun _ _ _ h => h) (Or.inl ⟨by rfl, ?_⟩) ?_ ?_
        rotate_left
        · intro w'
          go_simp
          with_reducible rfl
        rotate_left
        · simp only [Act.put, List.setIfInBounds_toArray, List.set_cons_zero, List.set_cons_succ, i64_w, i32_w]
          rfl
        refine pure_ (i := 14) (N := some 33) (v := ?_) (a' := ?_) #[true, true, true, true, true, true, true, true, true, false, false, true, true, true, true, false, false] rfl rfl (any_of HT_.out (by kernel_rfl)) (fun _ _ _ h => h) (Or.inl ⟨by rfl, ?_⟩) ?_ ?_
        rotate_left
        · intro w'
          go_simp
          with_reducible rfl
        rotate_left
        · simp only [Act.put, List.setIfInBounds_toArray, List.set_cons_zero, List.set_cons_succ, i64_w, i32_w]
          rfl
        refine one_ (i := 9) (N := some 28) #[true, true, true, true, true, true, true, true, true, true, false, true, true, true, true, false, false] rfl rfl (one_of HT_.out (by kernel_rfl)) (by decide) (fun K hK => ?_)
        refine goes_ Tryd.func33 (by kernel_rfl) rfl #[.string s2] (by rfl) rfl rfl (by (try simp only [List.map_toArray, List.map_cons, List.map_nil]); first | done | rfl) ?_
        refine (impl_opposite.calls s2 o _ E1.out).mono ?_
        rintro e_ w11 ⟨rfl, hb_⟩
        refine ⟨_, rfl, ?_⟩
        replace HR1 := Aside0.mk (Kd.R_below HR1.out hb_)
        replace HB1 := Aside0.mk (below_step HB1.out hb_)
        replace HIT1 := Aside0.mk ((hb_.block q (Array.getElem?_eq_some_iff.1 HIT1.out).1).trans HIT1.out)
        clear hb_
        refine hK.out _ _ trivial (fun hHeld => ?_)
        clear hK K
        refine norm_ (a' := ?_) ?_ ?_
        rotate_left
        · show Act.put _ (some 28) _ = _
          simp only [Act.put, List.setIfInBounds_toArray, List.set_cons_zero, List.set_cons_succ, i64_w, i32_w]
          rfl
        refine pure_ (i := 10) (N := some 29) (v := ?_) (a' := ?_) #[true, true, true, true, true, true, true, true, true, true, true, true, true, true, true, false, false] rfl rfl (any_of HT_.out (by kernel_rfl)) (fun _ _ _ h => h) (Or.inl ⟨by rfl, ?_⟩) ?_ ?_
        rotate_left
        · intro w'
          go_simp
          with_reducible rfl
        rotate_left
        · simp only [Act.put, List.setIfInBounds_toArray, List.set_cons_zero, List.set_cons_succ, i64_w, i32_w]
          rfl
        refine pure_ (i := 15) (N := some 34) (v := ?_) (a' := ?_) #[true, true, true, true, true, true, true, true, true, true, true, true, true, true, true, true, false] rfl rfl (any_of HT_.out (by kernel_rfl)) (fun _ _ _ h => h) (Or.inl ⟨by rfl, ?_⟩) ?_ ?_
        rotate_left
        · intro w'
          go_simp
          with_reducible rfl
        rotate_left
        · simp only [Act.put, List.setIfInBounds_toArray, List.set_cons_zero, List.set_cons_succ, i64_w, i32_w]
          rfl
        refine last_ (i := 16) (N := some 35) #[true, true, true, true, true, true, true, true, true, true, true, true, true, true, true, true, true] rfl rfl (one_of HT_.out (by kernel_rfl)) (by decide) (fun K hK => ?_)
        refine goes_ Tryd.func32 (by kernel_rfl) rfl #[.slice AL l.length cL, .string ((s1 ++ o) ++ s3)] (by rfl) rfl rfl (by (try simp only [List.map_toArray, List.map_cons, List.map_nil]); first | done | rfl) ?_
        refine (slices_Contains_Sstring_string.calls k AL cL l ((s1 ++ o) ++ s3) b _ (Kd.C_below HLC.out HB1.out) HCL.out E2.out).mono ?_
        rintro e_ w12 ⟨rfl, ⟨nd, hw12⟩⟩
        refine ⟨_, rfl, ?_⟩
        have BL := Aside0.mk (show Below w11.heap.size w11 w12 from by rw [hw12]; exact pw_below_drewN (Below.refl _ _) nd)
        clear hw12
        replace HR1 := Aside0.mk (Kd.R_below HR1.out BL.out)
        replace HB1 := Aside0.mk (below_step HB1.out BL.out)
        replace HIT1 := Aside0.mk ((BL.out.block q (Array.getElem?_eq_some_iff.1 HIT1.out).1).trans HIT1.out)
        clear BL
        refine hK.out _ _ ?_
        clear hK K
        refine norm_ (a' := ?_) ?_ ?_
        rotate_left
        · show Act.put _ (some 35) _ = _
          simp only [Act.put, List.setIfInBounds_toArray, List.set_cons_zero, List.set_cons_succ, i64_w, i32_w]
          rfl
        refine done_ (done_of HT_.out (by kernel_rfl)) ?_
        cases b with
        | false =>
          go_wp2
          go_roundg (gk - 1)
          case measure => have := HI1.out; omega
          case rel => exact ⟨pos + 1, out, ⟨by have := HI1.out; omega⟩, HIT1, ⟨HO1.out⟩, ⟨by have := HL.out; omega⟩, HR1, HB1⟩
        | true =>
          go_wp2_with (first
            | ((with_reducible refine gate_builtin (b := .append) (xs := #[.tmp 36, .tmp 38]) rfl ?_); at_builtin
               refine Kd.R_append (Kd.int .i64) (w0 := w4) w4.heap.size rfl (.tmp 36) (.tmp 38) 32 3 (.int .i64 0) 8 rfl Tryd.underlying32 info3 rfl (by decide) (by omega) u6 out x [.int .i64 x] (fun k_ => k_ ≠ q) (fun _ => False) rfl rfl rfl (fun _ h => h.elim) (fun k_ hk => by have := (Array.getElem?_eq_some_iff.1 HIT1.out).1; omega) HR1.out HB1.out HB1.out.size (by have := HL.out; have := HI1.out; have := HA.out.2; omega) ?_
               intro v7 w7 hR7 hB7 hg7 hat7
               have HIT2 := Aside0.mk (show w7.heap[q]? = some (.stringIter a1 (pos + 1)) from (hg7.block q (Array.getElem?_eq_some_iff.1 HIT1.out).1 (fun e => HR1.out.1 q e.symm rfl)).trans HIT1.out)
               have HR2 := Aside0.mk hR7
               have HB2 := Aside0.mk hB7
               clear hR7 hB7 hg7 hat7 HR1 HB1 HIT1))
          go_roundg (gk - 1)
          case measure => have := HI1.out; omega
          case rel => exact ⟨pos + 1, out ++ [x], ⟨by have := HI1.out; omega⟩, HIT2, ⟨by rw [HX.out]; exact HO1.out⟩, ⟨by have := HL.out; rw [List.length_append, List.length_singleton]; omega⟩, HR2, HB2⟩
      · have hnx := nb_end Tryd.prog _ q pos a1 HIT.out hp
        have hpe : pos = a1.size := by omega
        have ho := HO.out
        rw [hpe, Nat.sub_self] at ho
        obtain rfl := Option.some.inj (show some out = some r from ho)
        clear hp hpe ho hk0 hk1
        go_wp2
        go_ret
        exact ⟨_, rfl, Kd.R_lower (Kd.R_mono HR.out (fun _ _ => trivial)) HB4.out.size, below_step HB4.out HB.out⟩
end Go.Proofs.YtcoommffjbbebaaDoor.P
