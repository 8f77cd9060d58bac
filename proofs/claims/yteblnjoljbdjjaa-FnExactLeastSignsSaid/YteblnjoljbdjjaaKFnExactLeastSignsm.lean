/- What the law FnExactLeastSigns reaches, part 13: functions as plain Lean functions with the proofs that their calls come to them, and plain lemmas over these. Put together by a program (wip/pack.py). -/
import Derived.Test.YteblnjoljbdjjaaKFnExactLeastSignsl
import Derived.Shelf.SortM.Plain
import Derived.Shelf.SortM.SortNone
import Derived.Shelf.SlicesG.CompactS
import Derived.Test.YteblnjoljbdjjaaKFnExactLeastSignsk
import Derived.Sort.Walk0
import Derived.Lib.Bytes
import Derived.Test.YteblnjoljbdjjaaKFnExactLeastSignsf
namespace Go.Proofs.Yteblnjoljbdjjaa.P
open Go.RowKit Go.Proofs.YteblnjoljbdjjaaW.PrintWords Go.Proofs.YteblnjoljbdjjaaW.PrintLast Go.Proofs.YteblnjoljbdjjaaW.PrintMore
set_option linter.unusedVariables false
set_option linter.unusedSimpArgs false
open Go.Shelf in
def sortM6_ren : Go.Shelf.Ren := ⟨fun | 6 => 62 | 8 => 110 | 9 => 109 | 19 => 155 | 20 => 156 | 21 => 146 | 22 => 147 | 23 => 148 | 24 => 149 | 25 => 150 | 26 => 151 | 27 => 152 | 28 => 153 | 29 => 154 | 36 => 181 | 31 => 182 | 32 => 183 | 37 => 184 | 38 => 185 | 39 => 186 | 41 => 207 | n => n, fun | 27 => 63 | 29 => 9 | 3 => 3 | 32 => 116 | 26 => 63 | 0 => 0 | 44 => 149 | 46 => 151 | 4 => 4 | 36 => 141 | 35 => 140 | 41 => 146 | 5 => 5 | 9 => 9 | 53 => 163 | 57 => 167 | 63 => 184 | 64 => 185 | n => n, fun | n => n⟩
theorem sortM6 : Go.Proofs.SlLaysM.n6 Try.prog sortM6_ren :=
  { mixed := by kernel_rfl,
    f6 := ⟨Try.f62.name, by decide, Try.func62.trans (congrArg some (by kernel_rfl))⟩,
    f8 := Try.func110.trans (congrArg some (by kernel_rfl)),
    f9 := ⟨Try.f109.name, by decide, Try.func109.trans (congrArg some (by kernel_rfl))⟩,
    f19 := Try.func155.trans (congrArg some (by kernel_rfl)),
    f20 := Try.func156.trans (congrArg some (by kernel_rfl)),
    f21 := ⟨Try.f146.name, by decide, Try.func146.trans (congrArg some (by kernel_rfl))⟩,
    f22 := ⟨Try.f147.name, by decide, Try.func147.trans (congrArg some (by kernel_rfl))⟩,
    f23 := ⟨Try.f148.name, by decide, Try.func148.trans (congrArg some (by kernel_rfl))⟩,
    f24 := ⟨Try.f149.name, by decide, Try.func149.trans (congrArg some (by kernel_rfl))⟩,
    f25 := ⟨Try.f150.name, by decide, Try.func150.trans (congrArg some (by kernel_rfl))⟩,
    f26 := ⟨Try.f151.name, by decide, Try.func151.trans (congrArg some (by kernel_rfl))⟩,
    f27 := ⟨Try.f152.name, by decide, Try.func152.trans (congrArg some (by kernel_rfl))⟩,
    f28 := ⟨Try.f153.name, by decide, Try.func153.trans (congrArg some (by kernel_rfl))⟩,
    f29 := ⟨Try.f154.name, by decide, Try.func154.trans (congrArg some (by kernel_rfl))⟩,
    f31 := Try.func182.trans (congrArg some (by kernel_rfl)),
    f32 := Try.func183.trans (congrArg some (by kernel_rfl)),
    f36 := ⟨Try.f181.name, by decide, Try.func181.trans (congrArg some (by kernel_rfl))⟩,
    f37 := ⟨Try.f184.name, by decide, Try.func184.trans (congrArg some (by kernel_rfl))⟩,
    f38 := ⟨Try.f185.name, by decide, Try.func185.trans (congrArg some (by kernel_rfl))⟩,
    f39 := ⟨Try.f186.name, by decide, Try.func186.trans (congrArg some (by kernel_rfl))⟩,
    f41 := ⟨Try.f207.name, by decide, Try.func207.trans (congrArg some (by kernel_rfl))⟩,
    t0 := Try.underlying0,
    a0 := Try.isAgg0,
    z0 := Try.sizeOf0,
    v0 := Try.zeroValue0,
    t3 := Try.underlying3,
    a3 := Try.isAgg3,
    z3 := Try.sizeOf3,
    v3 := Try.zeroValue3,
    t4 := Try.underlying4,
    a4 := Try.isAgg4,
    z4 := Try.sizeOf4,
    v4 := Try.zeroValue4,
    t5 := Try.underlying5,
    a5 := Try.isAgg5,
    z5 := Try.sizeOf5,
    v5 := Try.zeroValue5,
    t9 := Try.underlying9,
    a9 := Try.isAgg9,
    z9 := Try.sizeOf9,
    v9 := Try.zeroValue9,
    t26 := Try.underlying63,
    a26 := Try.isAgg63,
    z26 := Try.sizeOf63,
    v26 := Try.zeroValue63,
    t27 := Try.underlying63,
    a27 := Try.isAgg63,
    z27 := Try.sizeOf63,
    v27 := Try.zeroValue63,
    t29 := Try.underlying9,
    a29 := Try.isAgg9,
    z29 := Try.sizeOf9,
    v29 := Try.zeroValue9,
    t32 := Try.underlying116,
    a32 := Try.isAgg116,
    z32 := Try.sizeOf116,
    v32 := Try.zeroValue116,
    t35 := Try.underlying140,
    a35 := Try.isAgg140,
    z35 := Try.sizeOf140,
    v35 := Try.zeroValue140,
    t36 := Try.underlying141,
    a36 := Try.isAgg141,
    z36 := Try.sizeOf141,
    v36 := Try.zeroValue141,
    t41 := Try.underlying146,
    a41 := Try.isAgg146,
    z41 := Try.sizeOf146,
    v41 := Try.zeroValue146,
    t44 := Try.underlying149,
    a44 := Try.isAgg149,
    z44 := Try.sizeOf149,
    v44 := Try.zeroValue149,
    t46 := Try.underlying151,
    a46 := Try.isAgg151,
    z46 := Try.sizeOf151,
    v46 := Try.zeroValue151,
    t53 := Try.underlying163,
    a53 := Try.isAgg163,
    z53 := Try.sizeOf163,
    v53 := Try.zeroValue163,
    t57 := Try.underlying167,
    a57 := Try.isAgg167,
    z57 := Try.sizeOf167,
    v57 := Try.zeroValue167,
    t63 := Try.underlying184,
    a63 := Try.isAgg184,
    z63 := Try.sizeOf184,
    v63 := Try.zeroValue184,
    t64 := Try.underlying185,
    a64 := Try.isAgg185,
    z64 := Try.sizeOf185,
    v64 := Try.zeroValue185 }
def toS (s : ByteArray) : List UInt8 := s.data.toList
def ofS (s : List UInt8) : ByteArray := ⟨s.toArray⟩
theorem ofS_toS (s : ByteArray) : ofS (toS s) = s := rfl
def sortS (l : List ByteArray) : List ByteArray := ((l.map toS).mergeSort fun x y => decide (x ≤ y)).map ofS
theorem sortS_length (l : List ByteArray) : (sortS l).length = l.length := by
  unfold sortS
  rw [List.length_map, List.length_mergeSort, List.length_map]
def slices_Sort_Sstring_string.f (l : List ByteArray) : Option (List ByteArray) := if l.length < 4611686018427387904 then some (sortS l) else none
theorem slices_Sort_Sstring_string.calls (P0_ : Nat → Prop) (u9000_ : Value) (l : List ByteArray) (r : List ByteArray) (w0 w : World) (hB : Below w0.heap.size w0 w) (ho0 : Kd.R Kd.string 9 w w0.heap.size P0_ u9000_ l) (h : slices_Sort_Sstring_string.f l = some r) :
    Calls Try.prog 62 #[u9000_] w fun e w' => e = .returned (.tuple #[]) ∧ Kd.R Kd.string 9 w' w0.heap.size (fun k_ => (P0_ k_ ∨ w.heap.size ≤ k_)) u9000_ r ∧ Below w0.heap.size w0 w' ∧ Kept w w' (fun k_ => P0_ k_) := by
  unfold slices_Sort_Sstring_string.f at h
  by_cases hl : l.length < 4611686018427387904
  case neg => rw [if_neg hl] at h; cases h
  rw [if_pos hl] at h
  obtain rfl := Option.some.inj h
  by_cases hne : 0 < l.length
  · obtain ⟨g, cap, cur, rfl, hg, hok, hcur, hlc, hcm, hcs, hj⟩ := row_blk ho0 hne
    have hlt : g < w.heap.size := (Array.getElem?_eq_some_iff.1 hcur).1
    have hH : Sort.Holds encStr w g 0 (l.map toS).toArray := by
      intro j hjl
      have hl : j < l.length := by simpa using hjl
      have h1 := row_holds (cap := cap) ho0 hcur hj j (by simpa using hl)
      refine ⟨?_, h1.2⟩
      rw [h1.1]
      have e1 : l.toArray[j]! = l[j] := by rw [getElem!_pos _ _ (by simpa using hl)]; simp
      have e2 : (l.map toS).toArray[j]! = toS l[j] := by rw [getElem!_pos _ _ (by simpa using hl)]; simp
      rw [e1, e2]
      rfl
    have hcon := AnyM.slices_Sort_string sortM6 g 0 cap (l.map toS) w hH hlt (by rw [List.length_map]; exact hl)
    rw [List.length_map] at hcon
    refine hcon.mono ?_
    rintro e w' ⟨rfl, n, os, rfl⟩
    refine ⟨rfl, ?_, hB.trans (put_below encStr w n g 0 _ os hg hlt), put_kept encStr w n g 0 _ os hok⟩
    have hlen := sortS_length l
    have hlen2 : ((l.map toS).mergeSort fun x y => decide (x ≤ y)).length = l.length := by rw [List.length_mergeSort, List.length_map]
    have hR := blk_row (enc := Value.string) (h1 := fun _ => rfl) (ok := P0_) (xs := sortS l) (cap := cap) hg hok (put_cur encStr w n g 0 ((l.map toS).mergeSort fun x y => decide (x ≤ y)).toArray os hcur) (by omega) hcm (by rw [putCells_size]; exact hcs) (fun j hj => by
      rw [putCells_at _ _ _ j (by simp; omega) (by simp; omega)]
      congr 1
      rw [getElem!_pos _ _ (by simp; omega), getElem!_pos (sortS l) j hj]
      simp only [sortS, List.getElem_map]
      simp [encStr, ofS])
    rw [hlen] at hR
    exact Kd.R_mono hR (fun k_ hk => .inl hk)
  · have hnil : l = [] := List.eq_nil_of_length_eq_zero (by omega)
    subst hnil
    obtain ⟨A, c, rfl⟩ := Kd.R_slice ho0
    have hS := AnyM.slices_Sort_string_none sortM6 A c w
    refine hS.mono ?_
    rintro e w' ⟨rfl, rfl⟩
    exact ⟨rfl, Kd.R_mono (by rw [show sortS [] = [] by simp [sortS]]; exact ho0) (fun k_ hk => .inl hk), hB, Kept.refl _ _⟩
def compN44_ren : Go.Shelf.Ren := ⟨fun | 44 => 63 | n => n, fun | 25 => 63 | 26 => 9 | 3 => 3 | 4 => 4 | 0 => 0 | n => n, fun | n => n⟩
theorem compN44 : Go.Proofs.SlLaysN.n44 Try.prog compN44_ren :=
  { mixed := by kernel_rfl,
    f44 := ⟨Try.f63.name, by decide, Try.func63.trans (congrArg some (by kernel_rfl))⟩,
    t0 := Try.underlying0,
    a0 := Try.isAgg0,
    z0 := Try.sizeOf0,
    v0 := Try.zeroValue0,
    t3 := Try.underlying3,
    a3 := Try.isAgg3,
    z3 := Try.sizeOf3,
    v3 := Try.zeroValue3,
    t4 := Try.underlying4,
    a4 := Try.isAgg4,
    z4 := Try.sizeOf4,
    v4 := Try.zeroValue4,
    t25 := Try.underlying63,
    a25 := Try.isAgg63,
    z25 := Try.sizeOf63,
    v25 := Try.zeroValue63,
    t26 := Try.underlying9,
    a26 := Try.isAgg9,
    z26 := Try.sizeOf9,
    v26 := Try.zeroValue9,
    i26 := by kernel_rfl }
def compS (l : List ByteArray) : List ByteArray := (Lib.compact (l.map toS)).map ofS
theorem compS_le (l : List ByteArray) : (compS l).length ≤ l.length := by
  unfold compS Lib.compact Lib.compactUpTo
  rw [List.length_map, List.length_map]
  refine Nat.le_trans (List.length_filter_le _ _) ?_
  simp
def slices_Compact_Sstring_string.f (l : List ByteArray) : Option (List ByteArray) := some (compS l)
theorem slices_Compact_Sstring_string.calls (P0_ : Nat → Prop) (u9000_ : Value) (l : List ByteArray) (r : List ByteArray) (w0 w : World) (hB : Below w0.heap.size w0 w) (ho0 : Kd.R Kd.string 9 w w0.heap.size P0_ u9000_ l) (h : slices_Compact_Sstring_string.f l = some r) :
    Calls Try.prog 63 #[u9000_] w fun e w' => ∃ v0_ : Value, e = .returned (v0_) ∧ Kd.R Kd.string 9 w' w0.heap.size (fun k_ => (P0_ k_ ∨ w.heap.size ≤ k_)) v0_ r ∧ Below w0.heap.size w0 w' ∧ Kept w w' (fun k_ => P0_ k_) := by
  obtain rfl := Option.some.inj h
  by_cases hne : 0 < l.length
  · obtain ⟨g, cap, cur, rfl, hg, hok, hcur, hlc, hcm, hcs, hj⟩ := row_blk ho0 hne
    have hlt : g < w.heap.size := (Array.getElem?_eq_some_iff.1 hcur).1
    have hH : Sort.Holds encStr w g 0 (l.map toS).toArray := by
      intro j hjl
      have hl : j < l.length := by simpa using hjl
      have h1 := row_holds (cap := cap) ho0 hcur hj j (by simpa using hl)
      refine ⟨?_, h1.2⟩
      rw [h1.1]
      have e1 : l.toArray[j]! = l[j] := by rw [getElem!_pos _ _ (by simpa using hl)]; simp
      have e2 : (l.map toS).toArray[j]! = toS l[j] := by rw [getElem!_pos _ _ (by simpa using hl)]; simp
      rw [e1, e2]
      rfl
    have hlen := compS_le l
    have hl2 : (Lib.compact (l.map toS)).length = (compS l).length := by unfold compS; rw [List.length_map]
    have hcon := AnyG.slices_Compact_string compN44 g 0 cap (l.map toS) w hH (by rw [List.length_map]; unfold maxLen at hcm; omega) (by rw [List.length_map]; exact hlc)
    rw [List.length_map, hl2] at hcon
    refine hcon.mono ?_
    rintro e w' ⟨rfl, q, rfl⟩
    rw [← Sort.grow_empty (Sort.putRow encStr (Sort.ahead w q) g 0 _)]
    refine ⟨_, rfl, ?_, hB.trans (put_below encStr w q g 0 _ #[] hg hlt), put_kept encStr w q g 0 _ #[] hok⟩
    have hR := blk_row (enc := Value.string) (h1 := fun _ => rfl) (ok := P0_) (xs := compS l) (cap := cap) hg hok (put_cur encStr w q g 0 (Lib.compact (l.map toS) ++ List.replicate (l.length - (compS l).length) []).toArray #[] hcur) (by omega) hcm (by rw [putCells_size]; exact hcs) (fun j hj => by
      rw [putCells_at _ _ _ j (by simp; omega) (by simp; omega)]
      congr 1
      rw [getElem!_pos _ _ (by simp; omega), getElem!_pos (compS l) j hj]
      simp only [compS, List.getElem_map, List.getElem_toArray]
      rw [List.getElem_append_left (by omega)]
      simp [encStr, ofS])
    exact Kd.R_mono hR (fun k_ hk => .inl hk)
  · have hnil : l = [] := List.eq_nil_of_length_eq_zero (by omega)
    subst hnil
    obtain ⟨A, c, rfl⟩ := Kd.R_slice ho0
    refine (AnyG.slices_Compact_string_empty compN44 A c w).mono ?_
    rintro e w' ⟨rfl, rfl⟩
    exact ⟨_, rfl, Kd.R_mono (by rw [show compS [] = [] by simp [compS, Lib.compact, Lib.compactUpTo]]; exact ho0) (fun k_ hk => .inl hk), hB, Kept.refl _ _⟩
end Go.Proofs.Yteblnjoljbdjjaa.P
namespace Go.Proofs.Yteblnjoljbdjjaa.Pure
set_option linter.unusedSimpArgs false
set_option linter.unusedVariables false
open Go.RowKit Go.Proofs.YteblnjoljbdjjaaW.PrintWords Go.Proofs.Yteblnjoljbdjjaa.P Go.Proofs.Yteblnjoljbdjjaa.Pl
theorem toS_list (s : ByteArray) : s.toList = toS s := Lib.toList_data s
theorem toS_inj {a b : ByteArray} (h : toS a = toS b) : a = b := by
  have := congrArg ofS h
  rwa [ofS_toS, ofS_toS] at this
theorem less_toS (a b : ByteArray) : Op.bytesLess a.toList b.toList = decide (toS a < toS b) := by
  rw [bytesLess_eq, toS_list, toS_list]
def putB : List ByteArray → ByteArray → List ByteArray
  | [], x => [x]
  | y :: r, x => if toS y < toS x then y :: putB r x else if toS y = toS x then y :: r else x :: y :: r
def ascB (S : List ByteArray) : Prop := S.Pairwise fun a b => toS a < toS b
theorem rdB (S : List ByteArray) (i : Nat) (h : i < S.length) : rdOf ByteArray.empty S (i : Int) = S[i] := by
  unfold rdOf
  rw [Int.toNat_natCast, getD_lt _ _ _ h]
theorem mnT_eq (x y : ByteArray) : mnT x y = if toS y < toS x then y else x := by
  unfold mnT
  rw [less_toS, toS_list, toS_list]
  by_cases h : toS y < toS x
  · rw [if_pos h, if_neg]
    rw [Bool.or_eq_true, decide_eq_true_eq, beq_iff_eq]
    rintro (h2 | h2)
    · exact List.lt_asymm h h2
    · rw [h2] at h
      exact List.lt_irrefl _ h
  · rw [if_neg h, if_pos]
    rw [Bool.or_eq_true, decide_eq_true_eq, beq_iff_eq]
    rcases Decidable.em (toS x < toS y) with h2 | h2
    · exact .inl h2
    · exact .inr (List.le_antisymm (List.not_lt.1 h) (List.not_lt.1 h2))
def minL : ByteArray → List ByteArray → ByteArray
  | b, [] => b
  | b, x :: r => minL (mnT b x) r
theorem mnT_or (x y : ByteArray) : mnT x y = x ∨ mnT x y = y := by
  rw [mnT_eq]
  split
  · exact .inr rfl
  · exact .inl rfl
theorem mnT_le (x y : ByteArray) : toS (mnT x y) ≤ toS x ∧ toS (mnT x y) ≤ toS y := by
  rw [mnT_eq]
  by_cases h : toS y < toS x
  · rw [if_pos h]
    exact ⟨List.le_of_lt h, List.le_refl _⟩
  · rw [if_neg h]
    exact ⟨List.le_refl _, List.not_lt.1 h⟩
theorem minL_spec : ∀ (l : List ByteArray) (b : ByteArray), minL b l ∈ b :: l ∧ ∀ z ∈ b :: l, toS (minL b l) ≤ toS z
  | [], b => ⟨List.mem_cons_self, fun z hz => by simp at hz; subst hz; exact List.le_refl _⟩
  | x :: r, b => by
    obtain ⟨h1, h2⟩ := minL_spec r (mnT b x)
    obtain ⟨l1, l2⟩ := mnT_le b x
    have h3 := h2 _ List.mem_cons_self
    refine ⟨?_, fun z hz => ?_⟩
    · rw [minL]
      rcases List.mem_cons.1 h1 with h | h
      · rw [h]
        rcases mnT_or b x with e | e <;> rw [e] <;> simp
      · exact List.mem_cons_of_mem _ (List.mem_cons_of_mem _ h)
    · rw [minL]
      rcases List.mem_cons.1 hz with rfl | hz
      · exact List.le_trans h3 l1
      · rcases List.mem_cons.1 hz with rfl | hz
        · exact List.le_trans h3 l2
        · exact h2 z (List.mem_cons_of_mem _ hz)
theorem minL_unique (b c : ByteArray) (l m : List ByteArray) (h : ∀ z, z ∈ b :: l ↔ z ∈ c :: m) : minL b l = minL c m := by
  obtain ⟨h1, h2⟩ := minL_spec l b
  obtain ⟨k1, k2⟩ := minL_spec m c
  exact toS_inj (List.le_antisymm (h2 _ ((h _).2 k1)) (k2 _ ((h _).1 h1)))
def idL (n : Nat) : List Int := (List.range n).map fun i : Nat => (i : Int)
theorem id_all : (List.range 7).all (fun n => (AN n).contains (idL n)) = true := by decide +kernel
theorem id_mem (n : Nat) (hn : n ≤ 6) : idL n ∈ AN n := by
  have h := id_all
  rw [List.all_eq_true] at h
  have h := h n (by simp; omega)
  simpa using h
theorem rd_idL (n a : Nat) (ha : a < n) : rd (idL n) (a : Int) = a := by
  unfold rd idL
  rw [Int.toNat_natCast, getD_lt _ _ _ (by simpa using ha)]
  simp
theorem bt_get (s : ByteArray) (m : Nat) (hm : m < s.size) : bt s (m : Int) = ((s.data.toList[m]'hm).toNat : Int) := by
  unfold bt
  rw [dif_pos (by simpa using hm)]
  rfl
theorem pick_id (n : Nat) (hn : n ≤ 6) (s : ByteArray) (hs : s.size = (tri n).length) (h : (List.range s.size).all (isPM s) = true) : pickT n s (idL n) = s := by
  have hL : pickC n s (idL n) = (List.range s.size).map fun m : Nat => bt s (m : Int) := by
    apply List.ext_getElem
    · simp [pickC, hs]
    · intro m h1 h2
      have hm : m < (tri n).length := by simpa [pickC] using h1
      simp only [pickC, List.getElem_map, List.getElem_range]
      obtain ⟨a, b, c, e, hab, hbc, hcn⟩ := tri_mem n (by omega) _ (List.getElem_mem hm)
      have ht := tab_tri n (by omega) s m hm
      rw [e] at ht ⊢
      dsimp only at ht ⊢
      rw [rd_idL n a (by omega), rd_idL n b (by omega), rd_idL n c (by omega), ← tab_at n (by omega) s a b c (by omega) (by omega) (by omega), ht]
      rw [List.all_eq_true] at h
      have hp := h m (by simpa using (by omega : m < s.size))
      unfold isPM at hp
      rw [Bool.or_eq_true, beq_iff_eq, beq_iff_eq] at hp
      unfold sgAt
      rcases hp with hp | hp <;> rw [hp] <;> decide
  unfold pickT
  rw [hL]
  apply toS_inj
  unfold toS strOfNums
  rw [List.map_map]
  show List.map _ _ = _
  apply List.ext_getElem
  · rw [List.length_map, List.length_range]
    rfl
  · intro m h1 h2
    have hm : m < s.size := by simpa using h1
    simp only [List.getElem_map, List.getElem_range, Function.comp]
    rw [bt_get s m hm, Int.toNat_natCast]
    exact UInt8.ofNat_toNat
theorem spec_least (n : Nat) (hn : n ≤ 6) (s t : ByteArray) (hs : s.size = (tri n).length) (ht : t.size = (tri n).length) : ∀ d i, i + d = (AN n).length → ∀ b : ByteArray,
    Ev (fun k => spec_LeastSigns.l0 k (AN n) (i : Nat) n s n t n b) ((n : Int), minL b (((AN n).drop i).flatMap fun q => [pickT n s q, pickT n t q]), true)
  | 0, i, hi, b => by
    rw [List.drop_of_length_le (by omega)]
    exact Ev.step (fun k => spec_LeastSigns.l0.eq_2 ..) (Ev.ite_neg (by omega) (Ev.now _))
  | d + 1, i, hi, b => by
    have hl := AN_len n hn
    have hil : i < (AN n).length := by omega
    have hp := AN_P n hn _ (List.getElem_mem hil)
    have ih := spec_least n hn s t hs ht d (i + 1) (by omega) (mnT (mnT b (pickT n s (AN n)[i])) (pickT n t (AN n)[i]))
    have hj : ∀ c : ByteArray, mnT b (pickT n s (AN n)[i]) = c → Ev (fun k => spec_LeastSigns.j1 k (AN n) (i : Nat) n s n t n c n (pickT n t (AN n)[i])) ((n : Int), minL b (((AN n).drop i).flatMap fun q => [pickT n s q, pickT n t q]), true) := fun c hc => by
      rw [hc] at ih
      rw [List.drop_eq_getElem_cons hil, List.flatMap_cons]
      show Ev _ ((n : Int), minL (mnT (mnT b (pickT n s (AN n)[i])) (pickT n t (AN n)[i])) _, true)
      rw [hc]
      refine Ev.step (fun k => spec_LeastSigns.j1.eq_2 ..) ?_
      rw [wrap_nat i (by omega), less_toS]
      by_cases h : toS (pickT n t (AN n)[i]) < toS c
      · have e : mnT c (pickT n t (AN n)[i]) = pickT n t (AN n)[i] := by rw [mnT_eq, if_pos h]
        rw [e] at ih ⊢
        exact Ev.ite_pos (decide_eq_true h) ih
      · have e : mnT c (pickT n t (AN n)[i]) = c := by rw [mnT_eq, if_neg h]
        rw [e] at ih ⊢
        exact Ev.ite_neg (by simpa using h) ih
    refine Ev.step (fun k => spec_LeastSigns.l0.eq_2 ..) (Ev.ite_pos (by omega) (Ev.ite_pos (by omega) ?_))
    rw [rdL _ i hil]
    refine Ev.bind (pick_ev n (by omega) s hs _ hp) (Ev.bind (pick_ev n (by omega) t ht _ hp) ?_)
    dsimp only
    rw [less_toS]
    by_cases h : toS (pickT n s (AN n)[i]) < toS b
    · exact Ev.ite_pos (decide_eq_true h) (hj _ (by rw [mnT_eq, if_pos h]))
    · exact Ev.ite_neg (by simpa using h) (hj _ (by rw [mnT_eq, if_neg h]))
theorem impl_least (L : List ByteArray) (hL : L.length ≤ 100000) (hz : ∀ x ∈ L, x.size ≤ 9223372036854775807) (n : Int) (s : ByteArray) : ∀ d i, i + d = L.length → ∀ b : ByteArray,
    Ev (fun k => impl_LeastSigns.l0 k b L (L.length : Int) (i : Nat) n s) (n, minL b ((L.drop i).flatMap fun x => [x, oppT x]), true)
  | 0, i, hi, b => by
    rw [List.drop_of_length_le (by omega)]
    exact Ev.step (fun k => impl_LeastSigns.l0.eq_2 ..) (Ev.ite_neg (by omega) (Ev.now _))
  | d + 1, i, hi, b => by
    have hil : i < L.length := by omega
    rw [List.drop_eq_getElem_cons hil, List.flatMap_cons]
    refine Ev.step (fun k => impl_LeastSigns.l0.eq_2 ..) (Ev.ite_pos (by omega) (Ev.ite_pos (by omega) (Ev.ite_pos (by omega) ?_)))
    rw [rdB L i hil, wrap_nat i (by omega)]
    exact Ev.bind0 (opp_impl _ (hz _ (List.getElem_mem hil))) (impl_least L hL hz n s d (i + 1) (by omega) _)
theorem oppT_sizeL (s : ByteArray) : (oppT s).size = s.size := by
  unfold oppT
  rw [strOfNums_size]
  simp [oppL]
theorem least_both (n : Int) (s : ByteArray) (hz : s.size ≤ 9223372036854775807) : ∃ v : Int × ByteArray × Bool, Ev (fun k => spec_LeastSigns.f k n s) v ∧ Ev (fun k => impl_LeastSigns.f k n s) v := by
  unfold spec_LeastSigns.f impl_LeastSigns.f
  have hF := fits_ev n s
  by_cases hA : isS n s = true ∧ n ≤ 6
  · obtain ⟨m, rfl, h3, h7, hs, h35, hpm⟩ := isS_nat hA.1
    have hn : m ≤ 6 := by omega
    rw [hA.1, decide_eq_true hA.2] at hF
    have hl := AN_len m hn
    have hlt : (texts m s).length = (AN m).length := by unfold texts; rw [List.length_map]
    have hpos : 0 < (AN m).length := List.length_pos_of_mem (id_mem m hn)
    have h1 := spec_least m hn s (oppT s) hs (by rw [oppT_sizeL]; exact hs) (AN m).length 0 (by omega) s
    have hsz : ∀ x ∈ texts m s, x.size ≤ 9223372036854775807 := fun x hx => by
      obtain ⟨p, _, rfl⟩ := List.mem_map.1 hx
      show (strOfNums (pickC m s (inv p))).size ≤ _
      rw [strOfNums_size, pickC, List.length_map]
      omega
    have h2 := impl_least (texts m s) (by omega) hsz m s (texts m s).length 0 (by omega) (rdOf ByteArray.empty (texts m s) 0)
    have e0 : rdOf ByteArray.empty (texts m s) 0 ∈ texts m s := by
      have := rdB (texts m s) 0 (by omega)
      rw [show ((0 : Nat) : Int) = 0 from rfl] at this
      rw [this]
      exact List.getElem_mem _
    have e : minL s ((AN m).flatMap fun q => [pickT m s q, pickT m (oppT s) q]) = minL (rdOf ByteArray.empty (texts m s) 0) ((texts m s).flatMap fun x => [x, oppT x]) := by
      refine minL_unique _ _ _ _ (fun z => ?_)
      have hL : z ∈ s :: ((AN m).flatMap fun q => [pickT m s q, pickT m (oppT s) q]) ↔ ∃ q ∈ AN m, z = pickT m s q ∨ z = pickT m (oppT s) q := by
        rw [List.mem_cons, List.mem_flatMap]
        constructor
        · rintro (h | ⟨q, hq, h⟩)
          · exact ⟨idL m, id_mem m hn, .inl (by rw [pick_id m hn s hs hpm]; exact h)⟩
          · exact ⟨q, hq, by simpa using h⟩
        · rintro ⟨q, hq, h⟩
          exact .inr ⟨q, hq, by simpa using h⟩
      have hR : z ∈ rdOf ByteArray.empty (texts m s) 0 :: ((texts m s).flatMap fun x => [x, oppT x]) ↔ ∃ x ∈ texts m s, z = x ∨ z = oppT x := by
        rw [List.mem_cons, List.mem_flatMap]
        constructor
        · rintro (h | ⟨q, hq, h⟩)
          · exact ⟨_, e0, .inl h⟩
          · exact ⟨q, hq, by simpa using h⟩
        · rintro ⟨q, hq, h⟩
          exact .inr ⟨q, hq, by simpa using h⟩
      rw [hL, hR]
      constructor
      · rintro ⟨q, hq, h⟩
        obtain ⟨p, hp, e⟩ := List.mem_map.1 ((inv_all m hn).mem_iff.2 hq)
        refine ⟨pickT m s q, List.mem_map.2 ⟨p, hp, by rw [e]⟩, ?_⟩
        rw [pick_opp m (by omega) s hs hpm q (AN_P m hn q hq)] at h
        exact h
      · rintro ⟨x, hx, h⟩
        obtain ⟨p, hp, rfl⟩ := List.mem_map.1 hx
        refine ⟨inv p, inv_mem m hn p hp, ?_⟩
        rw [pick_opp m (by omega) s hs hpm _ (AN_P m hn _ (inv_mem m hn p hp))]
        exact h
    rw [List.drop_zero, e] at h1
    rw [List.drop_zero] at h2
    exact ⟨_, Ev.bind hF (Ev.ite_pos rfl (Ev.bind (opp_spec m s hA.1) (Ev.bind (orders_ev m hn) h1))), Ev.bind (renamed_yes m hn s hs hA.1) (Ev.ite_pos rfl (Ev.ite_pos (by dsimp only; omega) h2))⟩
  · have hb : (isS n s && decide (n ≤ 6)) = false := by
      cases h1 : isS n s with
      | false => rfl
      | true => rw [Bool.true_and, decide_eq_false_iff_not]; exact fun h => hA ⟨h1, h⟩
    rw [hb] at hF
    exact ⟨(0, (⟨#[]⟩ : ByteArray), false), Ev.bind hF (Ev.ite_neg (by simp) (Ev.now _)), Ev.bind (renamed_no n s (by cases h1 : isS n s with | false => exact .inl rfl | true => exact .inr (Int.not_le.mp fun h => hA ⟨h1, h⟩))) (Ev.ite_neg (by simp) (Ev.now _))⟩
end Go.Proofs.Yteblnjoljbdjjaa.Pure
namespace Go.Proofs.Yteblnjoljbdjjaa.Pure
set_option linter.unusedSimpArgs false
set_option linter.unusedVariables false
open Go.RowKit Go.Proofs.YteblnjoljbdjjaaW.PrintWords Go.Proofs.Yteblnjoljbdjjaa.P Go.Proofs.Yteblnjoljbdjjaa.Pl Go.Proofs.Yteblnjoljbdjjaa.Rk
theorem FnExactLeastSigns (s0 : S23) (hq : Q23 s0) : ∃ k, laws_FnExactLeastSigns.f k s0.f0 s0.f1 = some true := by
  refine Ev.rounds (g := fun k => laws_FnExactLeastSigns.f k s0.f0 s0.f1) ?_
  unfold laws_FnExactLeastSigns.f
  refine Ev.bind0 (szSigns_eqO _ _ 1048576 (by omega) (by omega) hq.2) ?_
  by_cases hs : 1048576 < (s0.f1.size : Int)
  · rw [if_pos hs]
    exact Ev.ite_pos (by omega) (Ev.now _)
  rw [if_neg hs]
  refine Ev.ite_neg (by omega) ?_
  obtain ⟨v, h1, h2⟩ := least_both s0.f0 s0.f1 (by omega)
  refine Ev.bind0 rfl (Ev.bind h1 (Ev.bind0 rfl (Ev.bind h2 (Ev.bind0 (a := true) ?_ (Ev.ite_pos rfl (Ev.ite_neg (by simp) (Ev.now _)))))))
  unfold laws_eqSigns.f
  rw [if_pos rfl, if_pos rfl]
end Go.Proofs.Yteblnjoljbdjjaa.Pure
