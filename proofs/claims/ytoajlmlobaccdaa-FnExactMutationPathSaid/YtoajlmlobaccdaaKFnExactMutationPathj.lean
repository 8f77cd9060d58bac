/- What the law FnExactMutationPath reaches, part 10: functions as plain Lean functions with the proofs that their calls come to them, and plain lemmas over these. Put together by a program (wip/pack.py). -/
import Derived.Test.YtoajlmlobaccdaaKFnExactMutationPathd
import Derived.Test.YtoajlmlobaccdaaKFnExactMutationPathc
import Derived.Test.YtoajlmlobaccdaaKFnExactMutationPathi
import Derived.Lib.ConvBytes
import Derived.Test.YtoajlmlobaccdaaKFnExactMutationPathh
import Derived.Maps.OwnSet
import Derived.Maps.OwnOps
import Derived.DeepKeys4
import Derived.OpenShut
import Derived.WideKeyPair
namespace Go.Proofs.Ytoajlmlobaccdaa.P
open Go.RowKit Go.Proofs.YtoajlmlobaccdaaW.PrintWords Go.Proofs.YtoajlmlobaccdaaW.PrintLast Go.Proofs.YtoajlmlobaccdaaW.PrintMore
attribute [local go_sem] ptrOf_slice
attribute [local go_sem] min2_str max2_int min2_int max_two min_two max_three min_three max_four min_four
set_option linter.unusedVariables false
set_option linter.unusedSimpArgs false
def impl_IsMatroid.f (k : Nat) (a0_0 : Int) (a0_1 : ByteArray) : Option (Bool) := (impl_AreSigns.f k a0_0 a0_1).bind fun t396 => (if t396 = true then ((impl_FirstBreak.f k a0_0 a0_1).bind fun t397 => (if (t397.length : Int) = 0 then (some true) else (some false))) else (some false))
theorem impl_IsMatroid.mono : ∀ a0 a1 k, LeO (impl_IsMatroid.f k a0 a1) (impl_IsMatroid.f (k + 1) a0 a1) := by
 intro a0 a1 k; unfold impl_IsMatroid.f
 repeat' first | (with_reducible first | apply impl_AreSigns.mono | apply impl_FirstBreak.mono | exact LeO.refl _ | exact LeO.none _ | refine LeO.ite ?_ ?_ | refine LeO.bind ?_ (fun _ => ?_)) | exact LeO.none _
set_option maxHeartbeats 8000000 in
set_option maxRecDepth 100000 in
theorem impl_IsMatroid.calls (k : Nat) (a0_0 : Int) (a0_1 : ByteArray) (r : Bool) (w : World) (h : impl_IsMatroid.f k a0_0 a0_1 = some r) :
  Calls Try.prog 127 #[.agg #[.int .i64 a0_0, .string a0_1]] w fun e w' => e = .returned (.bool r) ∧ Below w.heap.size w w' := by
 have hu31 := Try.underlying31; have HB := am_ (Below.refl w.heap.size w); have q34_ : ∀ (w : World) (a : Option Addr) (n c : Nat), (binOp .eql 34 (.slice a n c) (.slice none 0 0)).run Try.prog w = .ok (.bool a.isNone) w := fun w a n c => Lib.run_eql_slice_nil w _ _ a n c 0 0 Try.underlying34
 have H : ((impl_AreSigns.f k a0_0 a0_1).bind fun t396 => (if t396 = true then ((impl_FirstBreak.f k a0_0 a0_1).bind fun t397 => (if (t397.length : Int) = 0 then (some true) else (some false))) else (some false))) = some r := h; clear h; obtain ⟨t396, A2, H⟩ := bnd_ H; by_cases c3 : t396 = true
 ·subst c3; replace H := ifT_ H; obtain ⟨t397, A4, H⟩ := bnd_ H; by_cases c5 : (t397.length : Int) = 0
  ·rw [if_pos c5] at H; obtain ⟨c5b0, c5b1⟩ := eqT_ c5; clear c5; obtain rfl := Option.some.inj H; go_enter Try.func127, Try.ntmps127
   go_wp2_with (first | ((with_reducible refine gd_ 1 rfl ?_); refine be_ 1 #[.int .i64 a0_0, .string a0_1] 31 ?_; intro gb395 hg w6 hbox hb; have BK395 := am_ hbox; have GW395 := gw0_ HB hg; have GE395 := GW395; replace HB := bs0_ HB hb; clear hb hbox hg; obtain ⟨hcz7_0, hfz7_0, hcz7_1, hfz7_1⟩ := bk2_ BK395) | ((with_reducible refine gc_ 130 rfl ?_); refine gB_ (some 4) Try.func130 #[.agg #[.int .i64 a0_0, .string a0_1]] (impl_AreSigns.calls k a0_0 a0_1 true _ A2.out) ?_; intro w8 hb; replace BK395 := bb_ BK395 hb; replace HB := bs1_ HB hb GE395; try clear hb; obtain ⟨hcz9_0, hfz9_0, hcz9_1, hfz9_1⟩ := bk2_ BK395) | (go_at_call 184; (with_reducible refine (impl_FirstBreak.calls k a0_0 a0_1 t397 _ A4.out).mono ?_); rintro e w10 ⟨v398, rfl, ho0, hb⟩; have HZv398 := am_ ho0.2; replace ho0 := ho0.1; have HO399 := rl1_ ho0 HB GE395; replace BK395 := bb_ BK395 hb; replace HB := bs1_ HB hb GE395; try clear hb; (try clear ho0); obtain rfl : v398 = .slice none 0 0 := HZv398.out (List.eq_nil_of_length_eq_zero (by have h_ : ((t397.length : Int) == 0) = true := (by first | (with_reducible assumption) | assumption); simpa using h_))))
   go_ret; exact ⟨er_, bx1 HB.out GE395.out⟩
  ·rw [if_neg c5] at H; obtain ⟨c5b0, c5b1⟩ := eqF_ c5; have c5b2 : ¬ (t397 = []) := fun h_ => c5 (by rw [h_]; rfl)
   obtain rfl := Option.some.inj H; go_enter Try.func127, Try.ntmps127
   go_wp2_with (first | ((with_reducible refine gd_ 1 rfl ?_); refine be_ 1 #[.int .i64 a0_0, .string a0_1] 31 ?_; intro gb395 hg w11 hbox hb; have BK395 := am_ hbox; have GW395 := gw0_ HB hg; have GE395 := GW395; replace HB := bs0_ HB hb; clear hb hbox hg; obtain ⟨hcz12_0, hfz12_0, hcz12_1, hfz12_1⟩ := bk2_ BK395) | ((with_reducible refine gc_ 130 rfl ?_); refine gB_ (some 4) Try.func130 #[.agg #[.int .i64 a0_0, .string a0_1]] (impl_AreSigns.calls k a0_0 a0_1 true _ A2.out) ?_; intro w13 hb; replace BK395 := bb_ BK395 hb; replace HB := bs1_ HB hb GE395; try clear hb; obtain ⟨hcz14_0, hfz14_0, hcz14_1, hfz14_1⟩ := bk2_ BK395) | (go_at_call 184; (with_reducible refine (impl_FirstBreak.calls k a0_0 a0_1 t397 _ A4.out).mono ?_); rintro e w15 ⟨v398, rfl, ho0, hb⟩; have HZv398 := am_ ho0.2; replace ho0 := ho0.1; have HO399 := rl1_ ho0 HB GE395; replace BK395 := bb_ BK395 hb; replace HB := bs1_ HB hb GE395; try clear hb; (try clear ho0); obtain ⟨goo16, coo16, eoo16, _, _, _⟩ := Kd.R_form HO399.out (by have h_ : ((t397.length : Int) == 0) = false := (by first | (with_reducible assumption) | assumption); have h2_ := beq_eq_false_iff_ne.mp h_; omega); subst eoo16))
   go_ret; exact ⟨er_, bx1 HB.out GE395.out⟩
 ·replace c3 := Bool.eq_false_iff.mpr c3; subst c3; replace H := ifF_ H; obtain rfl := Option.some.inj H; go_enter Try.func127, Try.ntmps127
  go_wp2_with (first | ((with_reducible refine gd_ 1 rfl ?_); refine be_ 1 #[.int .i64 a0_0, .string a0_1] 31 ?_; intro gb395 hg w17 hbox hb; have BK395 := am_ hbox; have GW395 := gw0_ HB hg; have GE395 := GW395; replace HB := bs0_ HB hb; clear hb hbox hg; obtain ⟨hcz18_0, hfz18_0, hcz18_1, hfz18_1⟩ := bk2_ BK395) | ((with_reducible refine gc_ 130 rfl ?_); refine gB_ (some 4) Try.func130 #[.agg #[.int .i64 a0_0, .string a0_1]] (impl_AreSigns.calls k a0_0 a0_1 false _ A2.out) ?_; intro w19 hb; replace BK395 := bb_ BK395 hb; replace HB := bs1_ HB hb GE395; try clear hb))
  go_ret; exact ⟨er_, bx1 HB.out GE395.out⟩
end Go.Proofs.Ytoajlmlobaccdaa.P
namespace Go.Proofs.Ytoajlmlobaccdaa.P
open Go.RowKit Go.Proofs.YtoajlmlobaccdaaW.PrintWords Go.Proofs.YtoajlmlobaccdaaW.PrintLast Go.Proofs.YtoajlmlobaccdaaW.PrintMore
set_option linter.unusedVariables false
set_option linter.unusedSimpArgs false
def oppI (x : Int) : Int := if x = 43 then 45 else if x = 45 then 43 else x
def oppL (s : ByteArray) : List Int := (List.range s.size).map fun j : Nat => oppI (bt s (j : Int))
def impl_opposite.f (a0 : ByteArray) : Option ByteArray := if a0.size ≤ 9223372036854775807 then some (strOfNums (oppL a0)) else none
def oppR (s : ByteArray) (i j : Nat) : Int := if j < i then oppI (bt s (j : Int)) else bt s (j : Int)
theorem OPB (w : World) (e : TypeId) (s : ByteArray) : Below w.heap.size w (Lib.bytesWorld w e s) :=
  ⟨rfl, rfl, rfl, by rw [Lib.bytesWorld_size]; omega, fun k hk => Lib.bytesWorld_at_old w e s k hk⟩
theorem OPW (i : Nat) (h : i < 9223372036854775807) : wrap64 ((i : Int) + 1) = ((i + 1 : Nat) : Int) := by
  unfold wrap64
  omega
theorem opp_bt (s : ByteArray) (j : Nat) (hj : j < s.size) : (some (Value.int .u8 (s.data.toList.getD j 0).toNat)) = some (.int .u8 (bt s (j : Int))) := by
  unfold bt
  rw [dif_pos (by simpa using hj)]
  have h : j < s.data.toList.length := hj
  rw [List.getD_eq_getElem?_getD, List.getElem?_eq_getElem h]
  rfl
theorem opp_frozen (w : World) (e : TypeId) (s : ByteArray) (j : Nat) (hj : j < s.size) : (Lib.bytesWorld w e s).frozen? ⟨w.heap.size, j, none⟩ = false := by
  have h1 : s.size ≤ (Lib.bytesCells w e s).size := by
    unfold Lib.bytesCells
    rw [Array.size_append, Array.size_map]
    exact Nat.le_add_right _ _
  unfold World.frozen?
  simp only [Lib.bytesWorld_at_new]
  simp
  omega
set_option maxHeartbeats 2000000 in
set_option maxRecDepth 100000 in
theorem impl_opposite.calls (a0 : ByteArray) (r : ByteArray) (w : World) (h : impl_opposite.f a0 = some r) :
    Calls Try.prog 159 #[.string a0] w fun e w' => e = .returned (.string r) ∧ Below w.heap.size w w' := by
  unfold impl_opposite.f at h
  by_cases hsz : a0.size ≤ 9223372036854775807
  case neg => rw [if_neg hsz] at h; cases h
  rw [if_pos hsz] at h
  obtain rfl := Option.some.inj h
  clear h
  have hcv : ∀ W : World, (convert 9 46 (.string a0)).run Try.prog W = .ok (.slice (some ⟨W.heap.size, 0, none⟩) a0.size (grownCap W a0.size 0 5)) (Lib.bytesWorld W 5 a0) :=
    fun W => Lib.run_convert_string_bytes W _ _ _ a0 Try.underlying9 Try.underlying46 Try.underlying5
  have hbel0 : Below w.heap.size w (Lib.bytesWorld w 5 a0) := OPB w 5 a0
  have hc0 : ∀ j, j < a0.size → (Lib.bytesWorld w 5 a0).cell? ⟨w.heap.size, j, none⟩ = some (.int .u8 (bt a0 (j : Int))) := fun j hj => by
    rw [Lib.bytesWorld_cell w 5 a0 j hj, opp_bt a0 j hj]
  have hf0 : ∀ j, j < a0.size → (Lib.bytesWorld w 5 a0).frozen? ⟨w.heap.size, j, none⟩ = false := fun j hj => opp_frozen w 5 a0 j hj
  have HC := Aside0.mk hc0; have HF := Aside0.mk hf0; have HB := Aside0.mk hbel0; have HS := Aside0.mk hsz
  clear hc0 hf0 hbel0 hsz
  go_enter Try.func159, Try.ntmps159
  go_wp2
  generalize grownCap w a0.size 0 5 = cap
  generalize Lib.bytesWorld w 5 a0 = w1 at HC HF HB ⊢
  go_loopg [10] a0.size (fun gg v10 wr => ∃ i : Nat, i ≤ a0.size ∧ a0.size - i ≤ gg ∧ v10 = .int .i64 i ∧ Aside0 (Below w.heap.size w wr) ∧ Aside0 (∀ j, j < a0.size → wr.cell? ⟨w.heap.size, j, none⟩ = some (.int .u8 (oppR a0 i j))) ∧ Aside0 (∀ j, j < a0.size → wr.frozen? ⟨w.heap.size, j, none⟩ = false))
  case atStart =>
    refine ⟨0, Nat.zero_le _, by omega, rfl, HB, ⟨fun j hj => ?_⟩, HF⟩
    rw [HC.out j hj]
    rfl
  case round =>
    clear HC HF HB
    obtain ⟨i, hi, hg, rfl, HB, HC, HF⟩ := hrel
    by_cases hlt : i < a0.size
    · have hltz : (i : Int) < (a0.size : Int) := by omega
      have l1 := HC.out i hlt
      have f1 := HF.out i hlt
      rw [show oppR a0 i i = bt a0 (i : Int) by unfold oppR; rw [if_neg (Nat.lt_irrefl _)]] at l1
      have hstep : ∀ (W : World) (x : Int), x = oppI (bt a0 (i : Int)) → (∀ j, j < a0.size → W.cell? ⟨w.heap.size, j, none⟩ = some (.int .u8 (if j = i then x else oppR a0 i j))) → ∀ j, j < a0.size → W.cell? ⟨w.heap.size, j, none⟩ = some (.int .u8 (oppR a0 (i + 1) j)) := by
        intro W x hx hW j hj
        rw [hW j hj]
        unfold oppR
        by_cases e : j = i
        · subst e; rw [if_pos rfl, if_pos (Nat.lt_succ_self _), hx]
        · rw [if_neg e]
          by_cases e2 : j < i
          · rw [if_pos e2, if_pos (by omega)]
          · rw [if_neg e2, if_neg (by omega)]
      have HSTEP := Aside0.mk hstep
      clear hstep
      generalize hb : bt a0 (i : Int) = b at l1 HSTEP
      have HBB := Aside0.mk hb
      clear hb
      by_cases h43 : b = 43
      · subst h43
        go_wp2
        go_roundg (a0.size - (i + 1))
        case measure => omega
        case rel =>
          refine ⟨i + 1, by omega, by omega, by rw [OPW i (by have := HS.out; omega)], ⟨HB.out.setCell (Nat.le_refl _) _⟩, ⟨HSTEP.out _ 45 rfl (fun j hj => ?_)⟩, ⟨fun j hj => by rw [World.frozen?_setCell]; exact HF.out j hj⟩⟩
          by_cases e : j = i
          · subst e; rw [if_pos rfl, World.cell?_setCell_same (h := l1)]
          · rw [if_neg e, World.cell?_setCell_other (h := by intro h; injection h with _ h2 _; exact e h2.symm)]; exact HC.out j hj
      · by_cases h45 : b = 45
        · subst h45
          have n43 : ((45 : Int) == 43) = false := rfl
          go_wp2
          go_roundg (a0.size - (i + 1))
          case measure => omega
          case rel =>
            refine ⟨i + 1, by omega, by omega, by rw [OPW i (by have := HS.out; omega)], ⟨HB.out.setCell (Nat.le_refl _) _⟩, ⟨HSTEP.out _ 43 rfl (fun j hj => ?_)⟩, ⟨fun j hj => by rw [World.frozen?_setCell]; exact HF.out j hj⟩⟩
            by_cases e : j = i
            · subst e; rw [if_pos rfl, World.cell?_setCell_same (h := l1)]
            · rw [if_neg e, World.cell?_setCell_other (h := by intro h; injection h with _ h2 _; exact e h2.symm)]; exact HC.out j hj
        · have n43 : (b == 43) = false := beq_eq_false_iff_ne.mpr h43
          have n45 : (b == 45) = false := beq_eq_false_iff_ne.mpr h45
          go_wp2
          go_roundg (a0.size - (i + 1))
          case measure => omega
          case rel =>
            refine ⟨i + 1, by omega, by omega, by rw [OPW i (by have := HS.out; omega)], HB, ⟨HSTEP.out _ b (by unfold oppI; rw [if_neg h43, if_neg h45]) (fun j hj => ?_)⟩, HF⟩
            by_cases e : j = i
            · subst e; rw [if_pos rfl]; exact l1
            · rw [if_neg e]; exact HC.out j hj
    · have hltz : ¬ (i : Int) < (a0.size : Int) := by omega
      have : i = a0.size := by omega
      subst this
      have hcv2 : ∀ W : World, (∀ j, j < a0.size → W.cell? ⟨w.heap.size, 0 + j, none⟩ = some (.int .u8 ((oppL a0).getD j 0))) → (convert 46 9 (Value.slice (some ⟨w.heap.size, 0, none⟩) a0.size cap)).run Try.prog W = .ok (.string (strOfNums (oppL a0))) W :=
        fun W hW => run_convert_bytes_arg W 46 5 Try.underlying46 Try.underlying5 w.heap.size 0 a0.size cap (oppL a0) (by rw [oppL, List.length_map, List.length_range]) hW 9 Try.underlying9
      have hcv3 := hcv2 wr (fun j hj => by
        rw [Nat.zero_add, HC.out j hj]
        unfold oppR oppL
        rw [if_pos hj, List.getD_eq_getElem?_getD, List.getElem?_map, List.getElem?_range hj]
        rfl)
      go_wp2
      go_ret
      exact ⟨rfl, HB.out⟩
end Go.Proofs.Ytoajlmlobaccdaa.P
namespace Go.Proofs.Ytoajlmlobaccdaa.P
open Go.RowKit Go.Proofs.YtoajlmlobaccdaaW.PrintWords Go.Proofs.YtoajlmlobaccdaaW.PrintLast Go.Proofs.YtoajlmlobaccdaaW.PrintMore
attribute [local go_sem] ptrOf_slice
attribute [local go_sem] min2_str max2_int min2_int max_two min_two max_three min_three max_four min_four
set_option linter.unusedVariables false
set_option linter.unusedSimpArgs false
def impl_chi_circuit.l0 : Nat → List Int → List Int → Int → Int → Option (ByteArray)
 | 0, _, _, _, _ => none
 | k + 1, x11, x56, x57, x58 => if x58 < x57 then (if 0 ≤ x58 then (if x58 < (x56.length : Int) then (if (rd x56 x58) > 0 then (if x11.length < 140737488355328 then (impl_chi_circuit.l0 k (x11 ++ [43]) x56 x57 (wrap64 (x58 + 1))) else (none)) else (if x11.length < 140737488355328 then (impl_chi_circuit.l0 k (x11 ++ [45]) x56 x57 (wrap64 (x58 + 1))) else (none))) else (none)) else (none)) else (if 0 < (x11.length : Int) then (if (rd x11 0) = 45 then ((impl_opposite.f (strOfNums x11)).bind fun t415 => (some t415)) else (some (strOfNums x11))) else (none))
def impl_chi_circuit.f (k : Nat) (l0 : List Int) (a1 : Int) (a2 : Int) (a3 : Int) (a4 : Int) : Option (ByteArray) := if 344 ≤ (l0.length : Int) then (if 0 ≤ a2 then (if a2 < 7 then (if 0 ≤ a3 then (if a3 < 7 then (if 0 ≤ a4 then (if a4 < 7 then (if 0 ≤ a1 then (if a1 < 7 then ((some (([chiA l0 a2 a3 a4, wrap64 (-(chiA l0 a1 a3 a4)), chiA l0 a1 a2 a4, wrap64 (-(chiA l0 a1 a2 a3))] : List Int) : List Int)).bind fun y404 => (impl_chi_circuit.l0 k ([] : List Int) y404 (y404.length : Int) 0)) else (none)) else (none)) else (none)) else (none)) else (none)) else (none)) else (none)) else (none)) else (none)
theorem impl_chi_circuit.mono_l : ∀ k, (∀ y0 y1 y2 y3, LeO (impl_chi_circuit.l0 k y0 y1 y2 y3) (impl_chi_circuit.l0 (k + 1) y0 y1 y2 y3))
 | 0 => fun _ _ _ _ r h => by simp [impl_chi_circuit.l0] at h
 | k + 1 => by
  have ih0 := impl_chi_circuit.mono_l k
  ·intro y0 y1 y2 y3; unfold impl_chi_circuit.l0
   repeat' first | (with_reducible first | apply ih0 | exact LeO.refl _ | exact LeO.none _ | refine LeO.ite ?_ ?_ | refine LeO.bind ?_ (fun _ => ?_)) | exact LeO.none _
theorem impl_chi_circuit.mono : ∀ a0 a1 a2 a3 a4 k, LeO (impl_chi_circuit.f k a0 a1 a2 a3 a4) (impl_chi_circuit.f (k + 1) a0 a1 a2 a3 a4) := by
 intro a0 a1 a2 a3 a4 k; have ih0 := impl_chi_circuit.mono_l k; unfold impl_chi_circuit.f
 repeat' first | (with_reducible first | apply ih0 | exact LeO.refl _ | exact LeO.none _ | refine LeO.ite ?_ ?_ | refine LeO.bind ?_ (fun _ => ?_)) | exact LeO.none _
def impl_chi_circuit.T2 : Bool × List (List Nat × List Nat) := (true, [([], []), ([], []), ([], []), ([], []), ([0], [0]), ([4], [4]), ([5, 1], [1, 5]), ([6, 2], [2, 6]), ([7, 3], [3, 7]), ([8], [8]), ([], []), ([], []), ([], []), ([], []), ([10], [10]), ([14], [14]), ([15, 11], [11, 15]), ([16, 12], [12, 16]), ([17, 13], [13, 17]), ([18], [18]), ([19], [19]), ([], []), ([], []), ([], []), ([], []), ([21], [21]), ([25], [25]), ([26, 22], [22, 26]), ([27, 23], [23, 27]), ([28, 24], [24, 28]), ([29], [29]), ([], []), ([], []), ([], []), ([], []), ([31], [31]), ([35], [35]), ([36, 32], [32, 36]), ([37, 33], [33, 37]), ([38, 34], [34, 38]), ([39], [39]), ([40], [40]), ([9, 20, 30, 41], [9, 20, 30, 41]), ([42], [42]), ([], [])])
def impl_chi_circuit.B2 : List Nat := [0, 0, 0, 0, 1, 17, 51, 119, 255, 511, 0, 0, 0, 0, 1024, 17408, 52224, 121856, 261120, 523264, 1047552, 0, 0, 0, 0, 2097152, 35651584, 106954752, 249561088, 534773760, 1071644672, 0, 0, 0, 0, 2147483648, 36507222016, 109521666048, 255550554112, 547608330240, 1097364144128, 2196875771904, 4398046511103, 8796093022207, 0]
theorem impl_chi_circuit.tab2 : rtab .any (opsOf Try.f197 2) = impl_chi_circuit.T2 := by kernel_rfl
theorem impl_chi_circuit.bits2 : waitsOk impl_chi_circuit.T2.2 impl_chi_circuit.B2 = true := by kernel_rfl
set_option maxHeartbeats 8000000 in
set_option maxRecDepth 100000 in
theorem impl_chi_circuit.calls (k : Nat) (A0 : Option Addr) (c0 : Nat) (l0 : List Int) (a1 : Int) (a2 : Int) (a3 : Int) (a4 : Int) (r : ByteArray) (w : World) (hr0 : Kd.C (Kd.int .i64) w A0 l0.length l0) (hc0 : l0.length ≤ c0) (h : impl_chi_circuit.f k l0 a1 a2 a3 a4 = some r) :
  Calls Try.prog 197 #[.pointer A0, .int .i64 a1, .int .i64 a2, .int .i64 a3, .int .i64 a4] w fun e w' => e = .returned (.string r) ∧ Below w.heap.size w w' := by
 have HR0 := am_ hr0; have HC0 := am_ hc0; clear hr0 hc0; have HB := am_ (Below.refl w.heap.size w); have H : (if 344 ≤ (l0.length : Int) then (if 0 ≤ a2 then (if a2 < 7 then (if 0 ≤ a3 then (if a3 < 7 then (if 0 ≤ a4 then (if a4 < 7 then (if 0 ≤ a1 then (if a1 < 7 then ((some (([chiA l0 a2 a3 a4, wrap64 (-(chiA l0 a1 a3 a4)), chiA l0 a1 a2 a4, wrap64 (-(chiA l0 a1 a2 a3))] : List Int) : List Int)).bind fun y404 => (impl_chi_circuit.l0 k ([] : List Int) y404 (y404.length : Int) 0)) else (none)) else (none)) else (none)) else (none)) else (none)) else (none)) else (none)) else (none)) else (none)) = some r := h; clear h; by_cases c6 : 344 ≤ (l0.length : Int)
 ·rw [if_pos c6] at H; have c6b0 := eq_true c6; have c6b1 := decide_eq_true c6; clear c6; by_cases c7 : 0 ≤ a2
  ·rw [if_pos c7] at H; have c7b0 := decide_eq_true c7; clear c7; by_cases c8 : a2 < 7
   ·rw [if_pos c8] at H; have c8b0 := decide_eq_true c8; clear c8; by_cases c9 : 0 ≤ a3
    ·rw [if_pos c9] at H; have c9b0 := decide_eq_true c9; clear c9; by_cases c10 : a3 < 7
     ·rw [if_pos c10] at H; have c10b0 := decide_eq_true c10; clear c10; by_cases c11 : 0 ≤ a4
      ·rw [if_pos c11] at H; have c11b0 := decide_eq_true c11; clear c11; by_cases c12 : a4 < 7
       ·rw [if_pos c12] at H; have c12b0 := decide_eq_true c12; clear c12; by_cases c13 : 0 ≤ a1
        ·rw [if_pos c13] at H; have c13b0 := decide_eq_true c13; clear c13; by_cases c14 : a1 < 7
         ·rw [if_pos c14] at H; have c14b0 := decide_eq_true c14; clear c14; obtain ⟨y404, hy404⟩ : ∃ y_ : List Int, y_ = (([chiA l0 a2 a3 a4, wrap64 (-(chiA l0 a1 a3 a4)), chiA l0 a1 a2 a4, wrap64 (-(chiA l0 a1 a2 a3))] : List Int)) := ⟨_, rfl⟩; replace H : (impl_chi_circuit.l0 k ([] : List Int) y404 (y404.length : Int) 0) = some r := yH_ hy404 H; have Ny404 := am_ hy404; clear hy404; have H' := am_ H; clear H; go_enter Try.func197, Try.ntmps197
          try go_wp2
          replace HB := bd_ HB; have q400 : 344 ≤ (l0.length : Int) := oda_; have p400_0a : 0 ≤ (a2 : Int) := oda_; have p400_0b : (a2 : Int) < 7 := oda_; have p400_1a : 0 ≤ (a3 : Int) := oda_; have p400_1b : (a3 : Int) < 7 := oda_; have p400_2a : 0 ≤ (a4 : Int) := oda_; have p400_2b : (a4 : Int) < 7 := oda_; obtain ⟨ad400, e400, hx400_0⟩ := chi_at HR0.out q400 p400_0a p400_0b p400_1a p400_1b p400_2a p400_2b; have hw400_0 := hx400_0; cases e400; replace hx400_0 := hc_ HB hx400_0; replace p400_0a := eq_true p400_0a; replace p400_0b := eq_true p400_0b; replace p400_1a := eq_true p400_1a; replace p400_1b := eq_true p400_1b; replace p400_2a := eq_true p400_2a; replace p400_2b := eq_true p400_2b; have q401 : 344 ≤ (l0.length : Int) := oda_; have p401_0a : 0 ≤ (a1 : Int) := oda_; have p401_0b : (a1 : Int) < 7 := oda_; have p401_1a : 0 ≤ (a3 : Int) := oda_; have p401_1b : (a3 : Int) < 7 := oda_; have p401_2a : 0 ≤ (a4 : Int) := oda_; have p401_2b : (a4 : Int) < 7 := oda_; obtain ⟨ad401, e401, hx401_0⟩ := chi_at HR0.out q401 p401_0a p401_0b p401_1a p401_1b p401_2a p401_2b; have hw401_0 := hx401_0; obtain rfl : ad400 = ad401 := (by injection e401); replace hx401_0 := hc_ HB hx401_0; replace p401_0a := eq_true p401_0a; replace p401_0b := eq_true p401_0b; replace p401_1a := eq_true p401_1a; replace p401_1b := eq_true p401_1b; replace p401_2a := eq_true p401_2a; replace p401_2b := eq_true p401_2b; have q402 : 344 ≤ (l0.length : Int) := oda_; have p402_0a : 0 ≤ (a1 : Int) := oda_; have p402_0b : (a1 : Int) < 7 := oda_; have p402_1a : 0 ≤ (a2 : Int) := oda_; have p402_1b : (a2 : Int) < 7 := oda_; have p402_2a : 0 ≤ (a4 : Int) := oda_; have p402_2b : (a4 : Int) < 7 := oda_; obtain ⟨ad402, e402, hx402_0⟩ := chi_at HR0.out q402 p402_0a p402_0b p402_1a p402_1b p402_2a p402_2b; have hw402_0 := hx402_0; obtain rfl : ad400 = ad402 := (by injection e402); replace hx402_0 := hc_ HB hx402_0; replace p402_0a := eq_true p402_0a; replace p402_0b := eq_true p402_0b; replace p402_1a := eq_true p402_1a
          replace p402_1b := eq_true p402_1b; replace p402_2a := eq_true p402_2a; replace p402_2b := eq_true p402_2b; have q403 : 344 ≤ (l0.length : Int) := oda_; have p403_0a : 0 ≤ (a1 : Int) := oda_; have p403_0b : (a1 : Int) < 7 := oda_; have p403_1a : 0 ≤ (a2 : Int) := oda_; have p403_1b : (a2 : Int) < 7 := oda_; have p403_2a : 0 ≤ (a3 : Int) := oda_; have p403_2b : (a3 : Int) < 7 := oda_; obtain ⟨ad403, e403, hx403_0⟩ := chi_at HR0.out q403 p403_0a p403_0b p403_1a p403_1b p403_2a p403_2b; have hw403_0 := hx403_0; obtain rfl : ad400 = ad403 := (by injection e403); replace hx403_0 := hc_ HB hx403_0; replace p403_0a := eq_true p403_0a; replace p403_0b := eq_true p403_0b; replace p403_1a := eq_true p403_1a; replace p403_1b := eq_true p403_1b; replace p403_2a := eq_true p403_2a; replace p403_2b := eq_true p403_2b; refine start_ (n := 45) (S := fun w' => w'.cell? ⟨ad400.block, ad400.off + 1 + (a2 : Int).toNat * 49 + (a3 : Int).toNat * 7 + (a4 : Int).toNat, none⟩ = some (.int .i64 (chiA l0 a2 a3 a4)) ∧ w'.cell? ⟨ad400.block, ad400.off + 1 + (a1 : Int).toNat * 49 + (a3 : Int).toNat * 7 + (a4 : Int).toNat, none⟩ = some (.int .i64 (chiA l0 a1 a3 a4)) ∧ w'.cell? ⟨ad400.block, ad400.off + 1 + (a1 : Int).toNat * 49 + (a2 : Int).toNat * 7 + (a4 : Int).toNat, none⟩ = some (.int .i64 (chiA l0 a1 a2 a4)) ∧ w'.cell? ⟨ad400.block, ad400.off + 1 + (a1 : Int).toNat * 49 + (a2 : Int).toNat * 7 + (a3 : Int).toNat, none⟩ = some (.int .i64 (chiA l0 a1 a2 a3))) (ds := []) #[false, false, false, false, false, false, false, false, false, false, false, false, false, false, false, false, false, false, false, false, false, false, false, false, false, false, false, false, false, false, false, false, false, false, false, false, false, false, false, false, false, false, false, false, false] (by kernel_rfl) rfl rfl ⟨(hc_ HB hw400_0), (hc_ HB hw401_0), (hc_ HB hw402_0), (hc_ HB hw403_0)⟩ (fun hHeld => ?_); refine with_tabW impl_chi_circuit.tab2 impl_chi_circuit.bits2 (fun HT_ HW_ => ?_)
          generalize w.drew = w15 at HB hx400_0 hx401_0 hx402_0 hx403_0 hHeld ⊢
          refine pD_ 0 (some 14) HT_ (h := ?_); refine pD_ 1 (some 15) HT_ (h := ?_); refine pD_ 2 (some 16) HT_ (h := ?_); refine pD_ 3 (some 17) HT_ (h := ?_); refine pD_ 4 (some 18) HT_ (h := ?_); refine pD_ 5 (some 19) HT_ (h := ?_); refine pD_ 6 (some 20) HT_ (h := ?_); refine pD_ 7 (some 21) HT_ (h := ?_); refine pD_ 8 (some 22) HT_ (h := ?_); refine pD_ 10 (some 24) HT_ (h := ?_); refine pD_ 11 (some 25) HT_ (h := ?_); refine pD_ 12 (some 26) HT_ (h := ?_); refine pD_ 13 (some 27) HT_ (h := ?_); refine pD_ 14 (some 28) HT_ (h := ?_); refine pD_ 15 (some 29) HT_ (h := ?_); refine pD_ 16 (some 30) HT_ (h := ?_); refine pD_ 17 (some 31) HT_ (h := ?_); refine pD_ 18 (some 32) HT_ (h := ?_); refine pD_ 21 (some 35) HT_ (h := ?_); refine pD_ 22 (some 36) HT_ (h := ?_); refine pD_ 23 (some 37) HT_ (h := ?_); refine pD_ 24 (some 38) HT_ (h := ?_); refine pD_ 25 (some 39) HT_ (h := ?_); refine pD_ 26 (some 40) HT_ (h := ?_); refine pD_ 27 (some 41) HT_ (h := ?_); refine pD_ 28 (some 42) HT_ (h := ?_); refine pD_ 29 (some 43) HT_ (h := ?_); refine pD_ 31 (some 45) HT_ (h := ?_); refine pD_ 32 (some 46) HT_ (h := ?_); refine pD_ 33 (some 47) HT_ (h := ?_); refine pD_ 34 (some 48) HT_ (h := ?_); refine pD_ 35 (some 49) HT_ (h := ?_); refine pD_ 36 (some 50) HT_ (h := ?_); refine pD_ 37 (some 51) HT_ (h := ?_); refine pD_ 38 (some 52) HT_ (h := ?_); refine pD_ 39 (some 53) HT_ (h := ?_); refine pD_ 44 (some 58) HT_ (h := ?_); refine tD4_ 9 (some 23) HT_ HW_ hHeld (h := ?_); refine tD4_ 19 (some 33) HT_ HW_ hHeld (h := ?_); refine pD_ 20 (some 34) HT_ (h := ?_); refine tD4_ 30 (some 44) HT_ HW_ hHeld (h := ?_); refine tD4_ 40 (some 54) HT_ HW_ hHeld (h := ?_); refine pD_ 41 (some 55) HT_ (h := ?_); refine oN_ 42 (some 56) HT_ (fun K hK => ?_); refine Kd.R_lit_step (Kd.int .i64) _ 3 ?hg (N := 56) ?hd (xs := ([chiA l0 a2 a3 a4, wrap64 (-(chiA l0 a1 a3 a4)), chiA l0 a1 a2 a4, wrap64 (-(chiA l0 a1 a2 a3))] : List Int)) (inner := [.int .i64 (chiA l0 a2 a3 a4), .int .i64 (wrap64 (-(chiA l0 a1 a3 a4))), .int .i64 (chiA l0 a1 a2 a4), .int .i64 (wrap64 (-(chiA l0 a1 a2 a3)))]) (ok := fun _ => True) (okp := fun _ => True) ?hr ?hp (fun _ hk => hk) trivial (Below.refl _ _) (Nat.le_refl _) (by simp) ?_; (case hd => rfl); (case hg => rfl); (case hr => first | (go_simp; done) | (go_simp; rfl)); (case hp => exact (Reps.one (show Kd.M (Kd.int .i64) _ _ _ (chiA l0 a2 a3 a4) [.int .i64 (chiA l0 a2 a3 a4)] from rfl) (Reps.one (show Kd.M (Kd.int .i64) _ _ _ (wrap64 (-(chiA l0 a1 a3 a4))) [.int .i64 (wrap64 (-(chiA l0 a1 a3 a4)))] from rfl) (Reps.one (show Kd.M (Kd.int .i64) _ _ _ (chiA l0 a1 a2 a4) [.int .i64 (chiA l0 a1 a2 a4)] from rfl) (Reps.one (show Kd.M (Kd.int .i64) _ _ _ (wrap64 (-(chiA l0 a1 a2 a3))) [.int .i64 (wrap64 (-(chiA l0 a1 a2 a3)))] from rfl) (Reps.none _ _))))))
          intro v405 w16 ho17 hb hg_ hnew_; clear hg_ hnew_; (first | rw [← Ny404.out] at ho17 | (simp only [Int.reduceToNat] at ho17; rw [← Ny404.out] at ho17))
          have HO406 := rl0_ ho17 HB; replace HB := bs0_ HB hb; clear hb ho17; obtain ⟨Ao18, co18, eo18⟩ := Kd.R_slice HO406.out; (first | subst eo18 | (injection eo18 with f1_ f2_ f3_; have f4_ := f1_.symm; have f5_ := f3_.symm; clear f1_ f2_ f3_; subst f4_; subst f5_))
          refine hK.out _ _ ⟨(hc_ HB hw400_0), (hc_ HB hw401_0), (hc_ HB hw402_0), (hc_ HB hw403_0)⟩ (fun hHeld => ?_); clear hK K; refine nm_ 56 (h := ?_); refine pD_ 43 (some 57) HT_ (h := ?_); refine done_ (done_of HT_.out (by kernel_rfl)) ?_; try go_wp2
          go_loopg [11, 58] k (fun kq v11 v58 w' => ∃ (x11_1 : List Int) (x58_1 : Int), v58 = .int .i64 x58_1 ∧ Aside0 (impl_chi_circuit.l0 kq x11_1 y404 (y404.length : Int) x58_1 = some r) ∧ Aside0 (kq ≤ k) ∧ Aside0 (Kd.R (Kd.int .u8) 5 w' w.heap.size (fun _ => True) v11 x11_1) ∧ Aside0 (Kd.R (Kd.int .i64) 3 w' w.heap.size (fun _ => True) (.slice Ao18 y404.length co18) y404) ∧ Aside0 (Below w.heap.size w w'))
          case atStart => exact ⟨(([] : List Int)), (0), vt_, H', ⟨Nat.le_refl _⟩, ⟨by first | exact Kd.R_nil _ _ _ _ _ | exact Kd.N_nil _ _ _ _ _ | exact Kd.V_nil _ _ _ _ _ | exact Kd.Q_nil _ _ _ _ _ | exact Kd.S_nil _ _ _ _ _⟩, rX_ HO406, bX0_ HB⟩
          case round =>
           clear H'; try clear c6b0 c6b1 c7b0 c8b0 c9b0 c10b0 c11b0 c12b0 c13b0 c14b0 hx400_0 hx401_0 hx402_0 hx403_0 q400 q401 q402 q403
           obtain ⟨x11_1, x58_1, rfl, HA, HK1, HO_11, HO_56, HB⟩ := hrel; cases gk with
           | zero => exact absurd HA.out (by simp [impl_chi_circuit.l0])
           | succ k1 =>
            have H := HA.out; clear HA; simp only [impl_chi_circuit.l0] at H
            by_cases c19 : x58_1 < (y404.length : Int)
            ·rw [if_pos c19] at H; have c19b0 := decide_eq_true c19; clear c19; by_cases c20 : 0 ≤ x58_1
             ·rw [if_pos c20] at H; have c20b0 := decide_eq_true c20; clear c20; by_cases c21 : x58_1 < (y404.length : Int)
              ·rw [if_pos c21] at H; have c21b0 := decide_eq_true c21; clear c21; by_cases c22 : (rd y404 x58_1) > 0
               ·rw [if_pos c22] at H; have c22b0 := decide_eq_true c22; clear c22; by_cases c23 : x11_1.length < 140737488355328
                ·rw [if_pos c23] at H; have LMc23 := am_ c23; clear c23; obtain ⟨y408, hy408⟩ : ∃ y_ : List Int, y_ = (x11_1 ++ [43]) := ⟨_, rfl⟩; replace H : (impl_chi_circuit.l0 k1 y408 y404 (y404.length : Int) (wrap64 (x58_1 + 1))) = some r := yH_ hy408 H; have Ny408 := am_ hy408; clear hy408; have H' := am_ H; clear H; have p407 : 0 ≤ (x58_1 : Int) := oda_; have q407 : x58_1 < (y404.length : Int) := oda_; obtain ⟨ad407, e407, hx407_0⟩ := Kd.at_int (Kd.R_reads' HO_56.out).2.2 x58_1 p407 q407; cases e407; replace p407 := eq_true p407; replace q407 := eq_true q407; go_wp2_with (first | ((with_reducible refine gate_builtin (b := .append) (xs := #[.tmp 64, .tmp 65]) rfl ?_); at_builtin; refine Kd.R_append (Kd.int .u8) (w0 := w) w.heap.size rfl (.tmp 64) (.tmp 65) 46 5 (.int .u8 0) 1 rfl Try.underlying46 info5 rfl (by decide) (by omega) u11 x11_1 43 [.int .u8 43] (fun _ => True) (fun _ => False) rfl rfl ?aP (fun _ hk => hk.elim) ?aF ?aO ?aB ?aS ?aL ?_; (case aP => exact rfl); (case aB => exact (bx0 HB.out)); (case aF => exact (fun _ _ => trivial)); (case aO => exact (rx_ HO_11.out)); (case aS => exact (below_size (bx0 HB.out))); (case aL => have := LMc23.out; omega); intro v409 w24 ho hb hg hat; rw [← Ny408.out] at ho; replace HO_56 := am_ (Kd.R_over' (rx_ HO_56.out) (Kd.R_typed (rx_ HO_11.out)) (by decide) hg); replace HB := am_ hb; have HO410 := am_ ho; clear HO_11; clear ho hb hg hat))
                 go_roundg k1
                 case measure => have := HK1.out; omega
                 case rel => exact ⟨(y408), (wrap64 (x58_1 + 1)), vt_, H', hl_ HK1, rX_ HO410, rX_ HO_56, bX0_ HB⟩
                ·rw [if_neg c23] at H; exact absurd H (by simp)
               ·rw [if_neg c22] at H; have c22b0 := decide_eq_false c22; clear c22; by_cases c25 : x11_1.length < 140737488355328
                ·rw [if_pos c25] at H; have LMc25 := am_ c25; clear c25; obtain ⟨y411, hy411⟩ : ∃ y_ : List Int, y_ = (x11_1 ++ [45]) := ⟨_, rfl⟩; replace H : (impl_chi_circuit.l0 k1 y411 y404 (y404.length : Int) (wrap64 (x58_1 + 1))) = some r := yH_ hy411 H; have Ny411 := am_ hy411; clear hy411; have H' := am_ H; clear H; have p407 : 0 ≤ (x58_1 : Int) := oda_; have q407 : x58_1 < (y404.length : Int) := oda_; obtain ⟨ad407, e407, hx407_0⟩ := Kd.at_int (Kd.R_reads' HO_56.out).2.2 x58_1 p407 q407; cases e407; replace p407 := eq_true p407; replace q407 := eq_true q407; go_wp2_with (first | ((with_reducible refine gate_builtin (b := .append) (xs := #[.tmp 67, .tmp 68]) rfl ?_); at_builtin; refine Kd.R_append (Kd.int .u8) (w0 := w) w.heap.size rfl (.tmp 67) (.tmp 68) 46 5 (.int .u8 0) 1 rfl Try.underlying46 info5 rfl (by decide) (by omega) u11 x11_1 45 [.int .u8 45] (fun _ => True) (fun _ => False) rfl rfl ?aP (fun _ hk => hk.elim) ?aF ?aO ?aB ?aS ?aL ?_; (case aP => exact rfl); (case aB => exact (bx0 HB.out)); (case aF => exact (fun _ _ => trivial)); (case aO => exact (rx_ HO_11.out)); (case aS => exact (below_size (bx0 HB.out))); (case aL => have := LMc25.out; omega); intro v412 w26 ho hb hg hat; rw [← Ny411.out] at ho; replace HO_56 := am_ (Kd.R_over' (rx_ HO_56.out) (Kd.R_typed (rx_ HO_11.out)) (by decide) hg); replace HB := am_ hb; have HO413 := am_ ho; clear HO_11; clear ho hb hg hat))
                 go_roundg k1
                 case measure => have := HK1.out; omega
                 case rel => exact ⟨(y411), (wrap64 (x58_1 + 1)), vt_, H', hl_ HK1, rX_ HO413, rX_ HO_56, bX0_ HB⟩
                ·rw [if_neg c25] at H; exact absurd H (by simp)
              ·rw [if_neg c21] at H; exact absurd H (by simp)
             ·rw [if_neg c20] at H; exact absurd H (by simp)
            ·rw [if_neg c19] at H; have c19b0 := decide_eq_false c19; clear c19; by_cases c27 : 0 < (x11_1.length : Int)
             ·rw [if_pos c27] at H; have c27b0 := decide_eq_true c27; have c27b1 : decide (0 < x11_1.length) = true := decide_eq_true (by omega); clear c27; by_cases c28 : (rd x11_1 0) = 45
              ·rw [if_pos c28] at H; obtain ⟨c28b0, c28b1⟩ := eqT_ c28; clear c28; obtain ⟨t415, A29, H⟩ := bnd_ H; obtain rfl := Option.some.inj H; obtain ⟨Ao30, co30, eo30⟩ := Kd.R_slice HO_11.out; subst eo30; have p414 : 0 ≤ (0 : Int) := (by omega); have q414 : 0 < (x11_1.length : Int) := oda_; obtain ⟨ad414, e414, hx414_0⟩ := Kd.at_int (Kd.R_reads' HO_11.out).2.2 0 p414 q414; cases e414; have qi414 : (0 < x11_1.length) = True := eq_true (by omega); (try rw [show ((0 : Int)).toNat = 0 from rfl] at hx414_0)
               (try rw [Addr.add_zero'] at hx414_0)
               replace p414 := eq_true p414; replace q414 := eq_true q414; have hcv31 := own_string (P := Try.prog) Try.underlying46 Try.underlying5 Try.underlying9 (Kd.own_of_R HO_11.out); go_wp2_with (first | ((with_reducible refine gc_ 159 rfl ?_); refine gB_ (some 77) Try.func159 #[.string (strOfNums x11_1)] (impl_opposite.calls (strOfNums x11_1) t415 _ A29.out) ?_; intro w32 hb; replace HO_11 := rb_ HO_11 hb; replace HO_56 := rb_ HO_56 hb; replace HB := bs0_ HB hb; try clear hb))
               go_ret; exact ⟨er_, bx0 HB.out⟩
              ·rw [if_neg c28] at H; obtain ⟨c28b0, c28b1⟩ := eqF_ c28; obtain rfl := Option.some.inj H; obtain ⟨Ao33, co33, eo33⟩ := Kd.R_slice HO_11.out; subst eo33; have p414 : 0 ≤ (0 : Int) := (by omega); have q414 : 0 < (x11_1.length : Int) := oda_; obtain ⟨ad414, e414, hx414_0⟩ := Kd.at_int (Kd.R_reads' HO_11.out).2.2 0 p414 q414; cases e414; have qi414 : (0 < x11_1.length) = True := eq_true (by omega); (try rw [show ((0 : Int)).toNat = 0 from rfl] at hx414_0)
               (try rw [Addr.add_zero'] at hx414_0)
               replace p414 := eq_true p414; replace q414 := eq_true q414; have hcv34 := own_string (P := Try.prog) Try.underlying46 Try.underlying5 Try.underlying9 (Kd.own_of_R HO_11.out); go_wp2; go_ret; exact ⟨er_, bx0 HB.out⟩
             ·rw [if_neg c27] at H; exact absurd H (by simp)
         ·rw [if_neg c14] at H; exact absurd H (by simp)
        ·rw [if_neg c13] at H; exact absurd H (by simp)
       ·rw [if_neg c12] at H; exact absurd H (by simp)
      ·rw [if_neg c11] at H; exact absurd H (by simp)
     ·rw [if_neg c10] at H; exact absurd H (by simp)
    ·rw [if_neg c9] at H; exact absurd H (by simp)
   ·rw [if_neg c8] at H; exact absurd H (by simp)
  ·rw [if_neg c7] at H; exact absurd H (by simp)
 ·rw [if_neg c6] at H; exact absurd H (by simp)
def impl_chi_isAcyclic.l0 : Nat → List Int → List (S180) → Int → Int → Option (Bool)
 | 0, _, _, _, _ => none
 | k + 1, x0, x9, x10, x11 => if x11 < x10 then (if 0 ≤ x11 then (if x11 < (x9.length : Int) then ((impl_chi_circuit.f k x0 ((rd_T180 x9 x11).f0) ((rd_T180 x9 x11).f1) ((rd_T180 x9 x11).f2) ((rd_T180 x9 x11).f3)).bind fun t422 => (if t422.toList = ([43, 43, 43, 43] : List UInt8) then (some false) else (impl_chi_isAcyclic.l0 k x0 x9 x10 (wrap64 (x11 + 1))))) else (none)) else (none)) else (some true)
def impl_chi_isAcyclic.f (k : Nat) (l0 : List Int) : Option (Bool) := if 344 ≤ (l0.length : Int) then ((impl_quadsOf.f k (chiN l0)).bind fun t417 => (impl_chi_isAcyclic.l0 k l0 t417 (t417.length : Int) 0)) else (none)
theorem impl_chi_isAcyclic.mono_l : ∀ k, (∀ y0 y1 y2 y3, LeO (impl_chi_isAcyclic.l0 k y0 y1 y2 y3) (impl_chi_isAcyclic.l0 (k + 1) y0 y1 y2 y3))
 | 0 => fun _ _ _ _ r h => by simp [impl_chi_isAcyclic.l0] at h
 | k + 1 => by
  have ih0 := impl_chi_isAcyclic.mono_l k
  ·intro y0 y1 y2 y3; unfold impl_chi_isAcyclic.l0
   repeat' first | (with_reducible first | apply ih0 | apply impl_chi_circuit.mono | apply impl_quadsOf.mono | exact LeO.refl _ | exact LeO.none _ | refine LeO.ite ?_ ?_ | refine LeO.bind ?_ (fun _ => ?_)) | exact LeO.none _
theorem impl_chi_isAcyclic.mono : ∀ a0 k, LeO (impl_chi_isAcyclic.f k a0) (impl_chi_isAcyclic.f (k + 1) a0) := by
 intro a0 k; have ih0 := impl_chi_isAcyclic.mono_l k; unfold impl_chi_isAcyclic.f
 repeat' first | (with_reducible first | apply ih0 | apply impl_chi_circuit.mono | apply impl_quadsOf.mono | exact LeO.refl _ | exact LeO.none _ | refine LeO.ite ?_ ?_ | refine LeO.bind ?_ (fun _ => ?_)) | exact LeO.none _
set_option maxHeartbeats 8000000 in
set_option maxRecDepth 100000 in
theorem impl_chi_isAcyclic.calls (k : Nat) (A0 : Option Addr) (c0 : Nat) (l0 : List Int) (r : Bool) (w : World) (hr0 : Kd.C (Kd.int .i64) w A0 l0.length l0) (hc0 : l0.length ≤ c0) (h : impl_chi_isAcyclic.f k l0 = some r) :
  Calls Try.prog 157 #[.pointer A0] w fun e w' => e = .returned (.bool r) ∧ Below w.heap.size w w' := by
 have hu180 := Try.underlying180; have HR0 := am_ hr0; have HC0 := am_ hc0; clear hr0 hc0; have HB := am_ (Below.refl w.heap.size w); have H : (if 344 ≤ (l0.length : Int) then ((impl_quadsOf.f k (chiN l0)).bind fun t417 => (impl_chi_isAcyclic.l0 k l0 t417 (t417.length : Int) 0)) else (none)) = some r := h; clear h; by_cases c2 : 344 ≤ (l0.length : Int)
 ·rw [if_pos c2] at H; have c2b0 := eq_true c2; have c2b1 := decide_eq_true c2; clear c2; obtain ⟨t417, A3, H⟩ := bnd_ H; have H' := am_ H; clear H; have q416 : 344 ≤ (l0.length : Int) := oda_; obtain ⟨ad416, e416, hx416_0⟩ := chi_n HR0.out q416; cases e416; go_enter Try.func157, Try.ntmps157
  go_wp2_with (first | ((with_reducible refine gc_ 196 rfl ?_); refine gR_ (some 9) Try.func196 #[.int .i64 (chiN l0)] (impl_quadsOf.calls k (chiN l0) t417 _ A3.out) ?_; intro w4 v418 ho0 hb; have HO419 := rl0_ ho0 HB; replace HB := bs0_ HB hb; try clear hb; (try clear ho0); obtain ⟨Ao5, co5, eo5⟩ := Kd.R_slice HO419.out; subst eo5))
  go_loopg [11] k (fun kq v11 w' => ∃ (x11_1 : Int), v11 = .int .i64 x11_1 ∧ Aside0 (impl_chi_isAcyclic.l0 kq l0 t417 (t417.length : Int) x11_1 = some r) ∧ Aside0 (kq ≤ k) ∧ Aside0 (Kd.R k180 180 w' w.heap.size (fun _ => True) (.slice Ao5 t417.length co5) t417) ∧ Aside0 (Below w.heap.size w w'))
  case atStart => exact ⟨(0), vt_, H', ⟨Nat.le_refl _⟩, rX_ HO419, bX0_ HB⟩
  case round =>
   clear H'; try clear c2b0 c2b1 hx416_0 q416
   obtain ⟨x11_1, rfl, HA, HK1, HO_9, HB⟩ := hrel; cases gk with
   | zero => exact absurd HA.out (by simp [impl_chi_isAcyclic.l0])
   | succ k1 =>
    have H := HA.out; clear HA; simp only [impl_chi_isAcyclic.l0] at H
    by_cases c6 : x11_1 < (t417.length : Int)
    ·rw [if_pos c6] at H; have c6b0 := decide_eq_true c6; clear c6; by_cases c7 : 0 ≤ x11_1
     ·rw [if_pos c7] at H; have c7b0 := decide_eq_true c7; clear c7; by_cases c8 : x11_1 < (t417.length : Int)
      ·rw [if_pos c8] at H; have c8b0 := decide_eq_true c8; clear c8; obtain ⟨t422, A9, H⟩ := bnd_ H; by_cases c10 : t422.toList = ([43, 43, 43, 43] : List UInt8)
       ·rw [if_pos c10] at H; obtain ⟨c10b0, c10b1⟩ := eqT_ c10; clear c10; obtain rfl := Option.some.inj H; have p420 : 0 ≤ (x11_1 : Int) := oda_; have q420 : x11_1 < (t417.length : Int) := oda_; obtain ⟨ad420, e420, hx420_0, hx420_1, hx420_2, hx420_3⟩ := at_T180 (Kd.R_reads' HO_9.out).2.2 x11_1 p420 q420; cases e420; replace p420 := eq_true p420; replace q420 := eq_true q420; go_wp2_with (first | ((with_reducible refine gd_ 4 rfl ?_); refine be_ 4 #[.int .i64 0, .int .i64 0, .int .i64 0, .int .i64 0] 180 ?_; intro gb421 hg w11 hbox hb; replace HO_9 := am_ (Kd.R_below (Kd.R_elderB (rx_ HO_9.out) gb421 (Nat.le_of_eq hg.symm)) hb); have BK421 := am_ hbox; have GW421 := gw0_ HB hg; have GE421 := GW421; replace HB := bs0_ HB hb; clear hb hbox hg; obtain ⟨hcz12_0, hfz12_0, hcz12_1, hfz12_1, hcz12_2, hfz12_2, hcz12_3, hfz12_3⟩ := bk4_ BK421) | ((with_reducible refine gc_ 197 rfl ?_); refine gL_ (some 24) Try.func197 #[.pointer (some ad416), .int .i64 ((rd_T180 t417 x11_1).f0), .int .i64 ((rd_T180 t417 x11_1).f1), .int .i64 ((rd_T180 t417 x11_1).f2), .int .i64 ((rd_T180 t417 x11_1).f3)] ?_; (refine (impl_chi_circuit.calls k1 _ c0 l0 ((rd_T180 t417 x11_1).f0) ((rd_T180 t417 x11_1).f1) ((rd_T180 t417 x11_1).f2) ((rd_T180 t417 x11_1).f3) t422 _ ?side1 ?side2 A9.out).mono ?_); (case side1 => exact Kd.C_below HR0.out (bx1 HB.out GE421.out)); (case side2 => exact HC0.out); rintro e w13 ⟨rfl, hb⟩; refine ⟨_, rfl, ?_⟩; replace HO_9 := am_ (Kd.R_below (by refine rx_ ?_; exact (Kd.R_mono (Kd.R_far (p := ⟨gb421, 3, none⟩) (Kd.R_far (p := ⟨gb421, 2, none⟩) (Kd.R_far (p := ⟨gb421, 1, none⟩) (Kd.R_far (p := ⟨gb421, 0, none⟩) (Kd.R_mono HO_9.out (fun k_ hk => (⟨hk, hk.2⟩ : _ ∧ k_ ≠ gb421))) (fun _ hk => hk.2) (.int .i64 ((rd_T180 t417 x11_1).f0))) (fun _ hk => hk.2) (.int .i64 ((rd_T180 t417 x11_1).f1))) (fun _ hk => hk.2) (.int .i64 ((rd_T180 t417 x11_1).f2))) (fun _ hk => hk.2) (.int .i64 ((rd_T180 t417 x11_1).f3))) (fun _ h_ => h_.1))) hb); replace BK421 := am_ (blk_below (g := gb421) (o := .cells #[.int .i64 ((rd_T180 t417 x11_1).f0), .int .i64 ((rd_T180 t417 x11_1).f1), .int .i64 ((rd_T180 t417 x11_1).f2), .int .i64 ((rd_T180 t417 x11_1).f3)] 180 (0, 0)) (by refine kx_ ?_; refine blk_put (cs := #[.int .i64 ((rd_T180 t417 x11_1).f0), .int .i64 ((rd_T180 t417 x11_1).f1), .int .i64 ((rd_T180 t417 x11_1).f2), .int .i64 0]) ?_ 3 _ rfl; refine kx_ ?_; refine blk_put (cs := #[.int .i64 ((rd_T180 t417 x11_1).f0), .int .i64 ((rd_T180 t417 x11_1).f1), .int .i64 0, .int .i64 0]) ?_ 2 _ rfl; refine kx_ ?_; refine blk_put (cs := #[.int .i64 ((rd_T180 t417 x11_1).f0), .int .i64 0, .int .i64 0, .int .i64 0]) ?_ 1 _ rfl; refine kx_ ?_; refine blk_put (cs := #[.int .i64 0, .int .i64 0, .int .i64 0, .int .i64 0]) ?_ 0 _ rfl; refine kx_ ?_; exact BK421.out) hb); replace HB := bs1_ HB hb GE421; try clear hb))
        go_ret; exact ⟨er_, bx1 HB.out GE421.out⟩
       ·rw [if_neg c10] at H; obtain ⟨c10b0, c10b1⟩ := eqF_ c10; have H' := am_ H; clear H; have p420 : 0 ≤ (x11_1 : Int) := oda_; have q420 : x11_1 < (t417.length : Int) := oda_; obtain ⟨ad420, e420, hx420_0, hx420_1, hx420_2, hx420_3⟩ := at_T180 (Kd.R_reads' HO_9.out).2.2 x11_1 p420 q420; cases e420; replace p420 := eq_true p420; replace q420 := eq_true q420; go_wp2_with (first | ((with_reducible refine gd_ 4 rfl ?_); refine be_ 4 #[.int .i64 0, .int .i64 0, .int .i64 0, .int .i64 0] 180 ?_; intro gb421 hg w14 hbox hb; replace HO_9 := am_ (Kd.R_below (Kd.R_elderB (rx_ HO_9.out) gb421 (Nat.le_of_eq hg.symm)) hb); have BK421 := am_ hbox; have GW421 := gw0_ HB hg; have GE421 := GW421; replace HB := bs0_ HB hb; clear hb hbox hg; obtain ⟨hcz15_0, hfz15_0, hcz15_1, hfz15_1, hcz15_2, hfz15_2, hcz15_3, hfz15_3⟩ := bk4_ BK421) | ((with_reducible refine gc_ 197 rfl ?_); refine gL_ (some 24) Try.func197 #[.pointer (some ad416), .int .i64 ((rd_T180 t417 x11_1).f0), .int .i64 ((rd_T180 t417 x11_1).f1), .int .i64 ((rd_T180 t417 x11_1).f2), .int .i64 ((rd_T180 t417 x11_1).f3)] ?_; (refine (impl_chi_circuit.calls k1 _ c0 l0 ((rd_T180 t417 x11_1).f0) ((rd_T180 t417 x11_1).f1) ((rd_T180 t417 x11_1).f2) ((rd_T180 t417 x11_1).f3) t422 _ ?side1 ?side2 A9.out).mono ?_); (case side1 => exact Kd.C_below HR0.out (bx1 HB.out GE421.out)); (case side2 => exact HC0.out); rintro e w16 ⟨rfl, hb⟩; refine ⟨_, rfl, ?_⟩; replace HO_9 := am_ (Kd.R_below (by refine rx_ ?_; exact (Kd.R_mono (Kd.R_far (p := ⟨gb421, 3, none⟩) (Kd.R_far (p := ⟨gb421, 2, none⟩) (Kd.R_far (p := ⟨gb421, 1, none⟩) (Kd.R_far (p := ⟨gb421, 0, none⟩) (Kd.R_mono HO_9.out (fun k_ hk => (⟨hk, hk.2⟩ : _ ∧ k_ ≠ gb421))) (fun _ hk => hk.2) (.int .i64 ((rd_T180 t417 x11_1).f0))) (fun _ hk => hk.2) (.int .i64 ((rd_T180 t417 x11_1).f1))) (fun _ hk => hk.2) (.int .i64 ((rd_T180 t417 x11_1).f2))) (fun _ hk => hk.2) (.int .i64 ((rd_T180 t417 x11_1).f3))) (fun _ h_ => h_.1))) hb); replace BK421 := am_ (blk_below (g := gb421) (o := .cells #[.int .i64 ((rd_T180 t417 x11_1).f0), .int .i64 ((rd_T180 t417 x11_1).f1), .int .i64 ((rd_T180 t417 x11_1).f2), .int .i64 ((rd_T180 t417 x11_1).f3)] 180 (0, 0)) (by refine kx_ ?_; refine blk_put (cs := #[.int .i64 ((rd_T180 t417 x11_1).f0), .int .i64 ((rd_T180 t417 x11_1).f1), .int .i64 ((rd_T180 t417 x11_1).f2), .int .i64 0]) ?_ 3 _ rfl; refine kx_ ?_; refine blk_put (cs := #[.int .i64 ((rd_T180 t417 x11_1).f0), .int .i64 ((rd_T180 t417 x11_1).f1), .int .i64 0, .int .i64 0]) ?_ 2 _ rfl; refine kx_ ?_; refine blk_put (cs := #[.int .i64 ((rd_T180 t417 x11_1).f0), .int .i64 0, .int .i64 0, .int .i64 0]) ?_ 1 _ rfl; refine kx_ ?_; refine blk_put (cs := #[.int .i64 0, .int .i64 0, .int .i64 0, .int .i64 0]) ?_ 0 _ rfl; refine kx_ ?_; exact BK421.out) hb); replace HB := bs1_ HB hb GE421; try clear hb))
        go_roundg k1
        case measure => have := HK1.out; omega
        case rel => exact ⟨(wrap64 (x11_1 + 1)), vt_, H', hl_ HK1, ⟨by refine rx_ ?_; exact Kd.R_mono HO_9.out (fun _ hk => trivial)⟩, bX1_ HB GE421⟩
      ·rw [if_neg c8] at H; exact absurd H (by simp)
     ·rw [if_neg c7] at H; exact absurd H (by simp)
    ·rw [if_neg c6] at H; have c6b0 := decide_eq_false c6; clear c6; obtain rfl := Option.some.inj H; go_wp2; go_ret; exact ⟨er_, bx0 HB.out⟩
 ·rw [if_neg c2] at H; exact absurd H (by simp)
def impl_IsAcyclic.f (k : Nat) (a0_0 : Int) (a0_1 : ByteArray) : Option (Bool) := (impl_IsMatroid.f k a0_0 a0_1).bind fun t424 => (if t424 = true then ((impl_tableOf.f k a0_0 a0_1).bind fun t425 => ((impl_chi_isAcyclic.f k t425).bind fun t428 => (some t428))) else (some false))
theorem impl_IsAcyclic.mono : ∀ a0 a1 k, LeO (impl_IsAcyclic.f k a0 a1) (impl_IsAcyclic.f (k + 1) a0 a1) := by
 intro a0 a1 k; unfold impl_IsAcyclic.f
 repeat' first | (with_reducible first | apply impl_IsMatroid.mono | apply impl_chi_isAcyclic.mono | apply impl_tableOf.mono | exact LeO.refl _ | exact LeO.none _ | refine LeO.ite ?_ ?_ | refine LeO.bind ?_ (fun _ => ?_)) | exact LeO.none _
set_option maxHeartbeats 8000000 in
set_option maxRecDepth 100000 in
theorem impl_IsAcyclic.calls (k : Nat) (a0_0 : Int) (a0_1 : ByteArray) (r : Bool) (w : World) (h : impl_IsAcyclic.f k a0_0 a0_1 = some r) :
  Calls Try.prog 87 #[.agg #[.int .i64 a0_0, .string a0_1]] w fun e w' => e = .returned (.bool r) ∧ Below w.heap.size w w' := by
 have hu31 := Try.underlying31; have HB := am_ (Below.refl w.heap.size w); have H : ((impl_IsMatroid.f k a0_0 a0_1).bind fun t424 => (if t424 = true then ((impl_tableOf.f k a0_0 a0_1).bind fun t425 => ((impl_chi_isAcyclic.f k t425).bind fun t428 => (some t428))) else (some false))) = some r := h; clear h; obtain ⟨t424, A2, H⟩ := bnd_ H; by_cases c3 : t424 = true
 ·subst c3; replace H := ifT_ H; obtain ⟨t425, A4, H⟩ := bnd_ H; obtain ⟨t428, A5, H⟩ := bnd_ H; obtain rfl := Option.some.inj H; go_enter Try.func87, Try.ntmps87
  go_wp2_with (first | ((with_reducible refine gd_ 1 rfl ?_); refine be_ 1 #[.int .i64 a0_0, .string a0_1] 31 ?_; intro gb423 hg w6 hbox hb; have BK423 := am_ hbox; have GW423 := gw0_ HB hg; have GE423 := GW423; replace HB := bs0_ HB hb; clear hb hbox hg; obtain ⟨hcz7_0, hfz7_0, hcz7_1, hfz7_1⟩ := bk2_ BK423) | ((with_reducible refine gc_ 127 rfl ?_); refine gB_ (some 4) Try.func127 #[.agg #[.int .i64 a0_0, .string a0_1]] (impl_IsMatroid.calls k a0_0 a0_1 true _ A2.out) ?_; intro w8 hb; replace BK423 := bb_ BK423 hb; replace HB := bs1_ HB hb GE423; try clear hb; obtain ⟨hcz9_0, hfz9_0, hcz9_1, hfz9_1⟩ := bk2_ BK423) | (go_at_call 98; (with_reducible refine (impl_tableOf.calls k a0_0 a0_1 t425 _ A4.out).mono ?_); rintro e w10 ⟨v426, rfl, ho0, hb⟩; have HO427 := rl1_ ho0 HB GE423; replace BK423 := bb_ BK423 hb; replace HB := bs1_ HB hb GE423; try clear hb; (try clear ho0); obtain ⟨Ao11, co11, eo11⟩ := Kd.R_slice HO427.out; subst eo11) | (go_at_call 157; (refine (impl_chi_isAcyclic.calls k _ co11 t425 t428 _ ?side1 ?side2 A5.out).mono ?_); (case side1 => exact cR_ HO427); (case side2 => exact (Kd.R_reads' HO427.out).2.1); rintro e w12 ⟨rfl, hb⟩; replace HO427 := rb_ HO427 hb; replace BK423 := bb_ BK423 hb; replace HB := bs1_ HB hb GE423; try clear hb))
  go_ret; exact ⟨er_, bx1 HB.out GE423.out⟩
 ·replace c3 := Bool.eq_false_iff.mpr c3; subst c3; replace H := ifF_ H; obtain rfl := Option.some.inj H; go_enter Try.func87, Try.ntmps87
  go_wp2_with (first | ((with_reducible refine gd_ 1 rfl ?_); refine be_ 1 #[.int .i64 a0_0, .string a0_1] 31 ?_; intro gb423 hg w13 hbox hb; have BK423 := am_ hbox; have GW423 := gw0_ HB hg; have GE423 := GW423; replace HB := bs0_ HB hb; clear hb hbox hg; obtain ⟨hcz14_0, hfz14_0, hcz14_1, hfz14_1⟩ := bk2_ BK423) | ((with_reducible refine gc_ 127 rfl ?_); refine gB_ (some 4) Try.func127 #[.agg #[.int .i64 a0_0, .string a0_1]] (impl_IsMatroid.calls k a0_0 a0_1 false _ A2.out) ?_; intro w15 hb; replace BK423 := bb_ BK423 hb; replace HB := bs1_ HB hb GE423; try clear hb))
  go_ret; exact ⟨er_, bx1 HB.out GE423.out⟩
def impl_mutations_impl_IsAcyclic.l0 : Nat → List (List Int) → List (S89) → Int → Int → Int → ByteArray → Option ((List (List Int)))
 | 0, _, _, _, _, _, _ => none
 | k + 1, x5, x12, x13, x14, x1083000, x1083001 => if x14 < x13 then (if 0 ≤ x14 then (if x14 < (x12.length : Int) then ((impl_ExchangeSign.f k x1083000 x1083001 ((rd_T89 x12 x14).f0) ((rd_T89 x12 x14).f1) ((rd_T89 x12 x14).f2)).bind fun bt1088 => ((impl_IsAcyclic.f k bt1088.1 bt1088.2.1).bind fun t1092 => (if t1092 = true then (if x5.length < 5864062014805 then (impl_mutations_impl_IsAcyclic.l0 k (x5 ++ [(([(rd_T89 x12 x14).f0, (rd_T89 x12 x14).f1, (rd_T89 x12 x14).f2] : List Int))]) x12 x13 (wrap64 (x14 + 1)) x1083000 x1083001) else (none)) else (impl_mutations_impl_IsAcyclic.l0 k x5 x12 x13 (wrap64 (x14 + 1)) x1083000 x1083001)))) else (none)) else (none)) else (some x5)
def impl_mutations_impl_IsAcyclic.f (k : Nat) (a0_0 : Int) (a0_1 : ByteArray) (a1 : Unit) : Option ((List (List Int))) := (impl_triplesOf.f k a0_0).bind fun t1083 => (impl_mutations_impl_IsAcyclic.l0 k ([] : List (List Int)) t1083 (t1083.length : Int) 0 a0_0 a0_1)
theorem impl_mutations_impl_IsAcyclic.mono_l : ∀ k, (∀ y0 y1 y2 y3 y4 y5, LeO (impl_mutations_impl_IsAcyclic.l0 k y0 y1 y2 y3 y4 y5) (impl_mutations_impl_IsAcyclic.l0 (k + 1) y0 y1 y2 y3 y4 y5))
 | 0 => fun _ _ _ _ _ _ r h => by simp [impl_mutations_impl_IsAcyclic.l0] at h
 | k + 1 => by
  have ih0 := impl_mutations_impl_IsAcyclic.mono_l k
  ·intro y0 y1 y2 y3 y4 y5; unfold impl_mutations_impl_IsAcyclic.l0
   repeat' first | (with_reducible first | apply ih0 | apply impl_ExchangeSign.mono | apply impl_IsAcyclic.mono | apply impl_triplesOf.mono | exact LeO.refl _ | exact LeO.none _ | refine LeO.ite ?_ ?_ | refine LeO.bind ?_ (fun _ => ?_)) | exact LeO.none _
theorem impl_mutations_impl_IsAcyclic.mono : ∀ a0 a1 a2 k, LeO (impl_mutations_impl_IsAcyclic.f k a0 a1 a2) (impl_mutations_impl_IsAcyclic.f (k + 1) a0 a1 a2) := by
 intro a0 a1 a2 k; have ih0 := impl_mutations_impl_IsAcyclic.mono_l k; unfold impl_mutations_impl_IsAcyclic.f
 repeat' first | (with_reducible first | apply ih0 | apply impl_ExchangeSign.mono | apply impl_IsAcyclic.mono | apply impl_triplesOf.mono | exact LeO.refl _ | exact LeO.none _ | refine LeO.ite ?_ ?_ | refine LeO.bind ?_ (fun _ => ?_)) | exact LeO.none _
set_option maxHeartbeats 8000000 in
set_option maxRecDepth 100000 in
theorem impl_mutations_impl_IsAcyclic.calls (k : Nat) (a0_0 : Int) (a0_1 : ByteArray) (a1 : Unit) (r : List (List Int)) (w : World) (h : impl_mutations_impl_IsAcyclic.f k a0_0 a0_1 a1 = some r) :
  Calls Try.prog 128 #[.agg #[.int .i64 a0_0, .string a0_1], .func (.func 87) #[] #[]] w fun e w' => ∃ v0_ : Value, e = .returned (v0_) ∧ Kd.S (Kd.slice 3 (Kd.int .i64)) 34 w' w.heap.size (fun _ => True) v0_ r ∧ Below w.heap.size w w' := by
 have hu31 := Try.underlying31; have hu89 := Try.underlying89; have HB := am_ (Below.refl w.heap.size w); have H : ((impl_triplesOf.f k a0_0).bind fun t1083 => (impl_mutations_impl_IsAcyclic.l0 k ([] : List (List Int)) t1083 (t1083.length : Int) 0 a0_0 a0_1)) = some r := h; clear h; obtain ⟨t1083, A3, H⟩ := bnd_ H; have H' := am_ H; clear H; go_enter Try.func128, Try.ntmps128
 go_wp2_with (first | ((with_reducible refine gd_ 2 rfl ?_); refine be_ 2 #[.int .i64 a0_0, .string a0_1] 31 ?_; intro gb1082 hg w4 hbox hb; have BK1082 := am_ hbox; have GW1082 := gw0_ HB hg; have GE1082 := GW1082; replace HB := bs0_ HB hb; clear hb hbox hg; obtain ⟨hcz5_0, hfz5_0, hcz5_1, hfz5_1⟩ := bk2_ BK1082) | ((with_reducible refine gc_ 84 rfl ?_); refine gR_ (some 12) Try.func84 #[.int .i64 a0_0] (impl_triplesOf.calls k a0_0 t1083 _ A3.out) ?_; intro w6 v1084 ho0 hb; have HO1085 := rl1_ ho0 HB GE1082; replace BK1082 := bb_ BK1082 hb; replace HB := bs1_ HB hb GE1082; try clear hb; (try clear ho0); obtain ⟨Ao7, co7, eo7⟩ := Kd.R_slice HO1085.out; subst eo7))
 go_loopg [5, 14] k (fun kq v5 v14 w' => ∃ (x5_1 : List (List Int)) (x14_1 : Int), v14 = .int .i64 x14_1 ∧ Aside0 (impl_mutations_impl_IsAcyclic.l0 kq x5_1 t1083 (t1083.length : Int) x14_1 a0_0 a0_1 = some r) ∧ Aside0 (kq ≤ k) ∧ Aside0 (Kd.S (Kd.slice 3 (Kd.int .i64)) 34 w' w.heap.size (fun _ => True) v5 x5_1) ∧ Aside0 (Kd.R k89 89 w' w.heap.size (fun _ => True) (.slice Ao7 t1083.length co7) t1083) ∧ Aside0 (w'.heap[gb1082]? = some (.cells #[.int .i64 a0_0, .string a0_1] 31 (0, 0))) ∧ Aside0 (Below w.heap.size w w'))
 case atStart => exact ⟨(([] : List (List Int))), (0), vt_, H', ⟨Nat.le_refl _⟩, ⟨by first | exact Kd.S_nil _ _ _ _ _ | exact Kd.N_nil _ _ _ _ _ | exact Kd.V_nil _ _ _ _ _ | exact Kd.Q_nil _ _ _ _ _ | exact Kd.R_nil _ _ _ _ _⟩, rX_ HO1085, kX_ BK1082, bX1_ HB GE1082⟩
 case round =>
  clear H'; try clear hcz5_0 hcz5_1 hfz5_0 hfz5_1
  obtain ⟨x5_1, x14_1, rfl, HA, HK1, HO_5, HO_12, BK1082, HB⟩ := hrel; cases gk with
  | zero => exact absurd HA.out (by simp [impl_mutations_impl_IsAcyclic.l0])
  | succ k1 =>
   have H := HA.out; clear HA; simp only [impl_mutations_impl_IsAcyclic.l0] at H
   by_cases c8 : x14_1 < (t1083.length : Int)
   ·rw [if_pos c8] at H; have c8b0 := decide_eq_true c8; clear c8; by_cases c9 : 0 ≤ x14_1
    ·rw [if_pos c9] at H; have c9b0 := decide_eq_true c9; clear c9; by_cases c10 : x14_1 < (t1083.length : Int)
     ·rw [if_pos c10] at H; have c10b0 := decide_eq_true c10; clear c10; replace H := Option.bind_eq_some_iff.mp H; obtain ⟨⟨t1088, t1089, t1090⟩, A110, H⟩ := H; replace H : ((impl_IsAcyclic.f k1 t1088 t1089).bind fun t1092 => (if t1092 = true then (if x5_1.length < 5864062014805 then (impl_mutations_impl_IsAcyclic.l0 k1 (x5_1 ++ [(([(rd_T89 t1083 x14_1).f0, (rd_T89 t1083 x14_1).f1, (rd_T89 t1083 x14_1).f2] : List Int))]) t1083 (t1083.length : Int) (wrap64 (x14_1 + 1)) a0_0 a0_1) else (none)) else (impl_mutations_impl_IsAcyclic.l0 k1 x5_1 t1083 (t1083.length : Int) (wrap64 (x14_1 + 1)) a0_0 a0_1))) = some r := H; have A11 := am_ A110; clear A110; obtain ⟨t1092, A12, H⟩ := bnd_ H; by_cases c13 : t1092 = true
      ·subst c13; replace H := ifT_ H; obtain ⟨y1093, hy1093⟩ : ∃ y_ : List Int, y_ = (([(rd_T89 t1083 x14_1).f0, (rd_T89 t1083 x14_1).f1, (rd_T89 t1083 x14_1).f2] : List Int)) := ⟨_, rfl⟩; replace H : (if x5_1.length < 5864062014805 then (impl_mutations_impl_IsAcyclic.l0 k1 (x5_1 ++ [y1093]) t1083 (t1083.length : Int) (wrap64 (x14_1 + 1)) a0_0 a0_1) else (none)) = some r := yH_ hy1093 H; have Ny1093 := am_ hy1093; clear hy1093; by_cases c14 : x5_1.length < 5864062014805
       ·rw [if_pos c14] at H; have LMc14 := am_ c14; clear c14; obtain ⟨y1096, hy1096⟩ : ∃ y_ : List (List Int), y_ = (x5_1 ++ [y1093]) := ⟨_, rfl⟩; replace H : (impl_mutations_impl_IsAcyclic.l0 k1 y1096 t1083 (t1083.length : Int) (wrap64 (x14_1 + 1)) a0_0 a0_1) = some r := yH_ hy1096 H; have Ny1096 := am_ hy1096; clear hy1096; have H' := am_ H; clear H; have p1086 : 0 ≤ (x14_1 : Int) := oda_; have q1086 : x14_1 < (t1083.length : Int) := oda_; obtain ⟨ad1086, e1086, hx1086_0, hx1086_1, hx1086_2⟩ := at_T89 (Kd.R_reads' HO_12.out).2.2 x14_1 p1086 q1086; cases e1086; replace p1086 := eq_true p1086; replace q1086 := eq_true q1086; go_wp2_with (first | ((with_reducible refine gd_ 7 rfl ?_); refine be_ 7 #[.int .i64 0, .int .i64 0, .int .i64 0] 89 ?_; intro gb1087 hg w15 hbox hb; replace HO_5 := am_ (Kd.S_below (sx_ HO_5.out) hb); replace HO_12 := am_ (Kd.R_below (Kd.R_elderB (rx_ HO_12.out) gb1087 (Nat.le_of_eq hg.symm)) hb); have BK1087 := am_ hbox; have GW1087 := gw1_ HB hg GE1082; have GE1087 := GW1087; replace HB := bs1_ HB hb GE1082; have NB1082_1087 := nl_ BK1082 hg; have NB1087_1082 := ng_ BK1082 hg; replace BK1082 := bb_ BK1082 hb; clear hb hbox hg; have hnb16 := NB1087_1082.out; have hnc16 := NB1082_1087.out; obtain ⟨hcz17_0, hfz17_0, hcz17_1, hfz17_1, hcz17_2, hfz17_2⟩ := bk3_ BK1087; obtain ⟨hcz18_0, hfz18_0, hcz18_1, hfz18_1⟩ := bk2_ BK1082) | ((with_reducible refine gc_ 49 rfl ?_); refine gB_ (some 26) Try.func49 #[.agg #[.int .i64 a0_0, .string a0_1], .int .i64 ((rd_T89 t1083 x14_1).f0), .int .i64 ((rd_T89 t1083 x14_1).f1), .int .i64 ((rd_T89 t1083 x14_1).f2)] (impl_ExchangeSign.calls k1 a0_0 a0_1 ((rd_T89 t1083 x14_1).f0) ((rd_T89 t1083 x14_1).f1) ((rd_T89 t1083 x14_1).f2) t1088 t1089 t1090 _ A11.out) ?_; intro w19 hb; replace HO_5 := am_ (Kd.S_below (by refine sx_ ?_; exact (Kd.S_mono (Kd.S_far (p := ⟨gb1087, 2, none⟩) (Kd.S_far (p := ⟨gb1087, 1, none⟩) (Kd.S_far (p := ⟨gb1087, 0, none⟩) (Kd.S_types HO_5.out BK1087.out (by decide)) (fun _ hk => hk.2) (.int .i64 ((rd_T89 t1083 x14_1).f0))) (fun _ hk => hk.2) (.int .i64 ((rd_T89 t1083 x14_1).f1))) (fun _ hk => hk.2) (.int .i64 ((rd_T89 t1083 x14_1).f2))) (fun _ h_ => h_.1))) hb); replace HO_12 := am_ (Kd.R_below (by refine rx_ ?_; exact (Kd.R_mono (Kd.R_far (p := ⟨gb1087, 2, none⟩) (Kd.R_far (p := ⟨gb1087, 1, none⟩) (Kd.R_far (p := ⟨gb1087, 0, none⟩) (Kd.R_mono HO_12.out (fun k_ hk => (⟨hk, hk.2⟩ : _ ∧ k_ ≠ gb1087))) (fun _ hk => hk.2) (.int .i64 ((rd_T89 t1083 x14_1).f0))) (fun _ hk => hk.2) (.int .i64 ((rd_T89 t1083 x14_1).f1))) (fun _ hk => hk.2) (.int .i64 ((rd_T89 t1083 x14_1).f2))) (fun _ h_ => h_.1))) hb); replace BK1082 := am_ (blk_below (g := gb1082) (o := .cells #[.int .i64 a0_0, .string a0_1] 31 (0, 0)) (by refine kx_ ?_; refine blk_far ?_ NB1082_1087.out _; refine kx_ ?_; refine blk_far ?_ NB1082_1087.out _; refine kx_ ?_; refine blk_far ?_ NB1082_1087.out _; refine kx_ ?_; exact BK1082.out) hb); replace BK1087 := am_ (blk_below (g := gb1087) (o := .cells #[.int .i64 ((rd_T89 t1083 x14_1).f0), .int .i64 ((rd_T89 t1083 x14_1).f1), .int .i64 ((rd_T89 t1083 x14_1).f2)] 89 (0, 0)) (by refine kx_ ?_; refine blk_put (cs := #[.int .i64 ((rd_T89 t1083 x14_1).f0), .int .i64 ((rd_T89 t1083 x14_1).f1), .int .i64 0]) ?_ 2 _ rfl; refine kx_ ?_; refine blk_put (cs := #[.int .i64 ((rd_T89 t1083 x14_1).f0), .int .i64 0, .int .i64 0]) ?_ 1 _ rfl; refine kx_ ?_; refine blk_put (cs := #[.int .i64 0, .int .i64 0, .int .i64 0]) ?_ 0 _ rfl; refine kx_ ?_; exact BK1087.out) hb); replace HB := bs2_ HB hb GE1082 GE1087; try clear hb) | ((with_reducible refine gd_ 8 rfl ?_); refine be_ 8 #[.int .i64 0, .string (⟨#[]⟩ : ByteArray)] 31 ?_; intro gb1091 hg w20 hbox hb; replace HO_5 := am_ (Kd.S_below (sx_ HO_5.out) hb); replace HO_12 := rb_ HO_12 hb; have BK1091 := am_ hbox; have GW1091 := gw2_ HB hg GE1082 GE1087; have GE1091 := GW1091; replace HB := bs2_ HB hb GE1082 GE1087; have NB1082_1091 := nl_ BK1082 hg; have NB1091_1082 := ng_ BK1082 hg; replace BK1082 := bb_ BK1082 hb; have NB1087_1091 := nl_ BK1087 hg; have NB1091_1087 := ng_ BK1087 hg; replace BK1087 := bb_ BK1087 hb; clear hb hbox hg; have hnb21 := NB1091_1082.out; have hnc21 := NB1082_1091.out; have hnb22 := NB1091_1087.out; have hnc22 := NB1087_1091.out; obtain ⟨hcz23_0, hfz23_0, hcz23_1, hfz23_1⟩ := bk2_ BK1091) | (go_at_call 87; (with_reducible refine (impl_IsAcyclic.calls k1 t1088 t1089 true _ A12.out).mono ?_); rintro e w24 ⟨rfl, hb⟩; replace HO_5 := am_ (Kd.S_below (by refine sx_ ?_; exact (Kd.S_mono (Kd.S_far (p := ⟨gb1091, 1, none⟩) (Kd.S_far (p := ⟨gb1091, 0, none⟩) (Kd.S_types HO_5.out BK1091.out (by decide)) (fun _ hk => hk.2) (.int .i64 t1088)) (fun _ hk => hk.2) (.string t1089)) (fun _ h_ => h_.1))) hb); replace HO_12 := am_ (Kd.R_below (by refine rx_ ?_; exact (Kd.R_mono (Kd.R_far (p := ⟨gb1091, 1, none⟩) (Kd.R_far (p := ⟨gb1091, 0, none⟩) (Kd.R_types HO_12.out BK1091.out (by decide)) (fun _ hk => hk.2) (.int .i64 t1088)) (fun _ hk => hk.2) (.string t1089)) (fun _ h_ => h_.1))) hb); replace BK1082 := am_ (blk_below (g := gb1082) (o := .cells #[.int .i64 a0_0, .string a0_1] 31 (0, 0)) (by refine kx_ ?_; refine blk_far ?_ NB1082_1091.out _; refine kx_ ?_; refine blk_far ?_ NB1082_1091.out _; refine kx_ ?_; exact BK1082.out) hb); replace BK1087 := am_ (blk_below (g := gb1087) (o := .cells #[.int .i64 ((rd_T89 t1083 x14_1).f0), .int .i64 ((rd_T89 t1083 x14_1).f1), .int .i64 ((rd_T89 t1083 x14_1).f2)] 89 (0, 0)) (by refine kx_ ?_; refine blk_far ?_ NB1087_1091.out _; refine kx_ ?_; refine blk_far ?_ NB1087_1091.out _; refine kx_ ?_; exact BK1087.out) hb); replace BK1091 := am_ (blk_below (g := gb1091) (o := .cells #[.int .i64 t1088, .string t1089] 31 (0, 0)) (by refine kx_ ?_; refine blk_put (cs := #[.int .i64 t1088, .string (⟨#[]⟩ : ByteArray)]) ?_ 1 _ rfl; refine kx_ ?_; refine blk_put (cs := #[.int .i64 0, .string (⟨#[]⟩ : ByteArray)]) ?_ 0 _ rfl; refine kx_ ?_; exact BK1091.out) hb); replace HB := bs3_ HB hb GE1082 GE1087 GE1091; try clear hb; obtain ⟨hcz25_0, hfz25_0, hcz25_1, hfz25_1, hcz25_2, hfz25_2⟩ := bk3_ BK1087) | ((with_reducible refine gd_ 39 rfl ?_); refine Kd.R_lit (Kd.int .i64) _ 3 ?hg (N := 39) ?hd (xs := ([(rd_T89 t1083 x14_1).f0, (rd_T89 t1083 x14_1).f1, (rd_T89 t1083 x14_1).f2] : List Int)) (inner := [.int .i64 ((rd_T89 t1083 x14_1).f0), .int .i64 ((rd_T89 t1083 x14_1).f1), .int .i64 ((rd_T89 t1083 x14_1).f2)]) (ok := fun _ => True) (okp := fun _ => True) ?hr ?hp (fun _ hk => hk) trivial (Below.refl _ _) (Nat.le_refl _) (by simp) ?_; (case hd => rfl); (case hg => rfl); (case hr => first | (go_simp; done) | (go_simp; rfl)); (case hp => exact (Reps.one (show Kd.M (Kd.int .i64) _ _ _ ((rd_T89 t1083 x14_1).f0) [.int .i64 ((rd_T89 t1083 x14_1).f0)] from rfl) (Reps.one (show Kd.M (Kd.int .i64) _ _ _ ((rd_T89 t1083 x14_1).f1) [.int .i64 ((rd_T89 t1083 x14_1).f1)] from rfl) (Reps.one (show Kd.M (Kd.int .i64) _ _ _ ((rd_T89 t1083 x14_1).f2) [.int .i64 ((rd_T89 t1083 x14_1).f2)] from rfl) (Reps.none _ _))))); intro v1094 w26 ho27 hb hg_ hnew_; clear hg_ hnew_; (first | rw [← Ny1093.out] at ho27 | (simp only [Int.reduceToNat] at ho27; rw [← Ny1093.out] at ho27)); replace HO_5 := am_ (Kd.S_elder' (sx_ HO_5.out) (Kd.R_base ho27) hb); replace HO_12 := rb_ HO_12 hb; have HO1095 := rl3_ ho27 HB GE1082 GE1087 GE1091; replace BK1082 := bb_ BK1082 hb; replace BK1087 := bb_ BK1087 hb; replace BK1091 := bb_ BK1091 hb; replace HB := bs3_ HB hb GE1082 GE1087 GE1091; clear hb ho27; obtain ⟨Ao29, co29, eo29⟩ := Kd.R_slice HO1095.out; subst eo29) | ((with_reducible refine gate_builtin (b := .append) (xs := #[.tmp 32, .tmp 40]) rfl ?_); at_builtin; refine Kd.S_append (Kd.slice 3 (Kd.int .i64)) (w0 := w) w.heap.size rfl (.tmp 32) (.tmp 40) 39 34 (.slice none 0 0) 24 rfl Try.underlying39 info34 rfl (by decide) (by omega) u5 x5_1 y1093 [.slice Ao29 y1093.length co29] (fun _ => True) (fun k_ => some k_ = (.slice Ao29 y1093.length co29 : Value).ownBlock) rfl rfl ?aP (fun k_ hk_ => ((Kd.R_mono (ok' := fun k_ => ((fun _ => True)) k_ ∧ some k_ ≠ (u5 : Value).ownBlock) (Kd.R_apart' (HO1095.out) (Kd.S_typed HO_5.out) (by decide)) (fun k_ hk => ⟨trivial, hk.2⟩))).1 k_ hk_.symm) ?aF ?aO ?aB ?aS ?aL ?_; (case aP => exact Kd.M_row (Kd.R_mono (Kd.R_tight rfl (Kd.R_mono (ok' := fun k_ => ((fun _ => True)) k_ ∧ some k_ ≠ (u5 : Value).ownBlock) (Kd.R_apart' (HO1095.out) (Kd.S_typed HO_5.out) (by decide)) (fun k_ hk => ⟨trivial, hk.2⟩))) (fun _ h_ => h_))); (case aB => exact (bx3 HB.out GE1082.out GE1087.out GE1091.out)); (case aF => exact (fun _ _ => trivial)); (case aO => exact (by refine sx_ ?_; exact Kd.S_mono HO_5.out (fun k_ hk => ⟨trivial, fun e_ => hk.2 e_⟩))); (case aS => exact (below_size (bx3 HB.out GE1082.out GE1087.out GE1091.out))); (case aL => have := LMc14.out; omega); intro v1097 w28 ho hb hg hat; rw [← Ny1096.out] at ho; replace HO_12 := am_ (Kd.R_over' (rx_ HO_12.out) (Kd.S_typed (sx_ HO_5.out)) (by decide) hg); replace BK1082 := am_ (blk_grown (g := gb1082) (o := .cells #[.int .i64 a0_0, .string a0_1] 31 (0, 0)) (kx_ BK1082.out) hg (Kd.S_ne HO_5.out BK1082.out (by decide))); replace BK1087 := am_ (blk_grown (g := gb1087) (o := .cells #[.int .i64 ((rd_T89 t1083 x14_1).f0), .int .i64 ((rd_T89 t1083 x14_1).f1), .int .i64 ((rd_T89 t1083 x14_1).f2)] 89 (0, 0)) (kx_ BK1087.out) hg (Kd.S_ne HO_5.out BK1087.out (by decide))); replace BK1091 := am_ (blk_grown (g := gb1091) (o := .cells #[.int .i64 t1088, .string t1089] 31 (0, 0)) (kx_ BK1091.out) hg (Kd.S_ne HO_5.out BK1091.out (by decide))); replace HB := am_ hb; have HO1098 := am_ ho; clear HO_5; clear HO1095; clear ho hb hg hat))
        go_roundg k1
        case measure => have := HK1.out; omega
        case rel => exact ⟨(y1096), (wrap64 (x14_1 + 1)), vt_, H', hl_ HK1, ⟨sx_ HO1098.out⟩, ⟨by refine rx_ ?_; exact Kd.R_mono HO_12.out (fun _ hk => trivial)⟩, kX_ BK1082, bX3_ HB GE1082 GE1087 GE1091⟩
       ·rw [if_neg c14] at H; exact absurd H (by simp)
      ·replace c13 := Bool.eq_false_iff.mpr c13; subst c13; replace H := ifF_ H; have H' := am_ H; clear H; have p1086 : 0 ≤ (x14_1 : Int) := oda_; have q1086 : x14_1 < (t1083.length : Int) := oda_; obtain ⟨ad1086, e1086, hx1086_0, hx1086_1, hx1086_2⟩ := at_T89 (Kd.R_reads' HO_12.out).2.2 x14_1 p1086 q1086; cases e1086; replace p1086 := eq_true p1086; replace q1086 := eq_true q1086; go_wp2_with (first | ((with_reducible refine gd_ 7 rfl ?_); refine be_ 7 #[.int .i64 0, .int .i64 0, .int .i64 0] 89 ?_; intro gb1087 hg w30 hbox hb; replace HO_5 := am_ (Kd.S_below (sx_ HO_5.out) hb); replace HO_12 := am_ (Kd.R_below (Kd.R_elderB (rx_ HO_12.out) gb1087 (Nat.le_of_eq hg.symm)) hb); have BK1087 := am_ hbox; have GW1087 := gw1_ HB hg GE1082; have GE1087 := GW1087; replace HB := bs1_ HB hb GE1082; have NB1082_1087 := nl_ BK1082 hg; have NB1087_1082 := ng_ BK1082 hg; replace BK1082 := bb_ BK1082 hb; clear hb hbox hg; have hnb31 := NB1087_1082.out; have hnc31 := NB1082_1087.out; obtain ⟨hcz32_0, hfz32_0, hcz32_1, hfz32_1, hcz32_2, hfz32_2⟩ := bk3_ BK1087; obtain ⟨hcz33_0, hfz33_0, hcz33_1, hfz33_1⟩ := bk2_ BK1082) | ((with_reducible refine gc_ 49 rfl ?_); refine gB_ (some 26) Try.func49 #[.agg #[.int .i64 a0_0, .string a0_1], .int .i64 ((rd_T89 t1083 x14_1).f0), .int .i64 ((rd_T89 t1083 x14_1).f1), .int .i64 ((rd_T89 t1083 x14_1).f2)] (impl_ExchangeSign.calls k1 a0_0 a0_1 ((rd_T89 t1083 x14_1).f0) ((rd_T89 t1083 x14_1).f1) ((rd_T89 t1083 x14_1).f2) t1088 t1089 t1090 _ A11.out) ?_; intro w34 hb; replace HO_5 := am_ (Kd.S_below (by refine sx_ ?_; exact (Kd.S_mono (Kd.S_far (p := ⟨gb1087, 2, none⟩) (Kd.S_far (p := ⟨gb1087, 1, none⟩) (Kd.S_far (p := ⟨gb1087, 0, none⟩) (Kd.S_types HO_5.out BK1087.out (by decide)) (fun _ hk => hk.2) (.int .i64 ((rd_T89 t1083 x14_1).f0))) (fun _ hk => hk.2) (.int .i64 ((rd_T89 t1083 x14_1).f1))) (fun _ hk => hk.2) (.int .i64 ((rd_T89 t1083 x14_1).f2))) (fun _ h_ => h_.1))) hb); replace HO_12 := am_ (Kd.R_below (by refine rx_ ?_; exact (Kd.R_mono (Kd.R_far (p := ⟨gb1087, 2, none⟩) (Kd.R_far (p := ⟨gb1087, 1, none⟩) (Kd.R_far (p := ⟨gb1087, 0, none⟩) (Kd.R_mono HO_12.out (fun k_ hk => (⟨hk, hk.2⟩ : _ ∧ k_ ≠ gb1087))) (fun _ hk => hk.2) (.int .i64 ((rd_T89 t1083 x14_1).f0))) (fun _ hk => hk.2) (.int .i64 ((rd_T89 t1083 x14_1).f1))) (fun _ hk => hk.2) (.int .i64 ((rd_T89 t1083 x14_1).f2))) (fun _ h_ => h_.1))) hb); replace BK1082 := am_ (blk_below (g := gb1082) (o := .cells #[.int .i64 a0_0, .string a0_1] 31 (0, 0)) (by refine kx_ ?_; refine blk_far ?_ NB1082_1087.out _; refine kx_ ?_; refine blk_far ?_ NB1082_1087.out _; refine kx_ ?_; refine blk_far ?_ NB1082_1087.out _; refine kx_ ?_; exact BK1082.out) hb); replace BK1087 := am_ (blk_below (g := gb1087) (o := .cells #[.int .i64 ((rd_T89 t1083 x14_1).f0), .int .i64 ((rd_T89 t1083 x14_1).f1), .int .i64 ((rd_T89 t1083 x14_1).f2)] 89 (0, 0)) (by refine kx_ ?_; refine blk_put (cs := #[.int .i64 ((rd_T89 t1083 x14_1).f0), .int .i64 ((rd_T89 t1083 x14_1).f1), .int .i64 0]) ?_ 2 _ rfl; refine kx_ ?_; refine blk_put (cs := #[.int .i64 ((rd_T89 t1083 x14_1).f0), .int .i64 0, .int .i64 0]) ?_ 1 _ rfl; refine kx_ ?_; refine blk_put (cs := #[.int .i64 0, .int .i64 0, .int .i64 0]) ?_ 0 _ rfl; refine kx_ ?_; exact BK1087.out) hb); replace HB := bs2_ HB hb GE1082 GE1087; try clear hb) | ((with_reducible refine gd_ 8 rfl ?_); refine be_ 8 #[.int .i64 0, .string (⟨#[]⟩ : ByteArray)] 31 ?_; intro gb1091 hg w35 hbox hb; replace HO_5 := am_ (Kd.S_below (sx_ HO_5.out) hb); replace HO_12 := rb_ HO_12 hb; have BK1091 := am_ hbox; have GW1091 := gw2_ HB hg GE1082 GE1087; have GE1091 := GW1091; replace HB := bs2_ HB hb GE1082 GE1087; have NB1082_1091 := nl_ BK1082 hg; have NB1091_1082 := ng_ BK1082 hg; replace BK1082 := bb_ BK1082 hb; have NB1087_1091 := nl_ BK1087 hg; have NB1091_1087 := ng_ BK1087 hg; replace BK1087 := bb_ BK1087 hb; clear hb hbox hg; have hnb36 := NB1091_1082.out; have hnc36 := NB1082_1091.out; have hnb37 := NB1091_1087.out; have hnc37 := NB1087_1091.out; obtain ⟨hcz38_0, hfz38_0, hcz38_1, hfz38_1⟩ := bk2_ BK1091) | (go_at_call 87; (with_reducible refine (impl_IsAcyclic.calls k1 t1088 t1089 false _ A12.out).mono ?_); rintro e w39 ⟨rfl, hb⟩; replace HO_5 := am_ (Kd.S_below (by refine sx_ ?_; exact (Kd.S_mono (Kd.S_far (p := ⟨gb1091, 1, none⟩) (Kd.S_far (p := ⟨gb1091, 0, none⟩) (Kd.S_types HO_5.out BK1091.out (by decide)) (fun _ hk => hk.2) (.int .i64 t1088)) (fun _ hk => hk.2) (.string t1089)) (fun _ h_ => h_.1))) hb); replace HO_12 := am_ (Kd.R_below (by refine rx_ ?_; exact (Kd.R_mono (Kd.R_far (p := ⟨gb1091, 1, none⟩) (Kd.R_far (p := ⟨gb1091, 0, none⟩) (Kd.R_types HO_12.out BK1091.out (by decide)) (fun _ hk => hk.2) (.int .i64 t1088)) (fun _ hk => hk.2) (.string t1089)) (fun _ h_ => h_.1))) hb); replace BK1082 := am_ (blk_below (g := gb1082) (o := .cells #[.int .i64 a0_0, .string a0_1] 31 (0, 0)) (by refine kx_ ?_; refine blk_far ?_ NB1082_1091.out _; refine kx_ ?_; refine blk_far ?_ NB1082_1091.out _; refine kx_ ?_; exact BK1082.out) hb); replace BK1087 := am_ (blk_below (g := gb1087) (o := .cells #[.int .i64 ((rd_T89 t1083 x14_1).f0), .int .i64 ((rd_T89 t1083 x14_1).f1), .int .i64 ((rd_T89 t1083 x14_1).f2)] 89 (0, 0)) (by refine kx_ ?_; refine blk_far ?_ NB1087_1091.out _; refine kx_ ?_; refine blk_far ?_ NB1087_1091.out _; refine kx_ ?_; exact BK1087.out) hb); replace BK1091 := am_ (blk_below (g := gb1091) (o := .cells #[.int .i64 t1088, .string t1089] 31 (0, 0)) (by refine kx_ ?_; refine blk_put (cs := #[.int .i64 t1088, .string (⟨#[]⟩ : ByteArray)]) ?_ 1 _ rfl; refine kx_ ?_; refine blk_put (cs := #[.int .i64 0, .string (⟨#[]⟩ : ByteArray)]) ?_ 0 _ rfl; refine kx_ ?_; exact BK1091.out) hb); replace HB := bs3_ HB hb GE1082 GE1087 GE1091; try clear hb))
       go_roundg k1
       case measure => have := HK1.out; omega
       case rel => exact ⟨(x5_1), (wrap64 (x14_1 + 1)), vt_, H', hl_ HK1, ⟨sx_ HO_5.out⟩, ⟨by refine rx_ ?_; exact Kd.R_mono HO_12.out (fun _ hk => trivial)⟩, kX_ BK1082, bX3_ HB GE1082 GE1087 GE1091⟩
     ·rw [if_neg c10] at H; exact absurd H (by simp)
    ·rw [if_neg c9] at H; exact absurd H (by simp)
   ·rw [if_neg c8] at H; have c8b0 := decide_eq_false c8; clear c8; obtain rfl := Option.some.inj H; go_wp2; go_ret; exact ⟨_, by first | rfl | (simp [errW_none, errW_some] <;> rfl) | (simp [*, errW_none, errW_some] <;> rfl), sx_ HO_5.out, bx1 HB.out GE1082.out⟩
def impl_OrderMutations.f (k : Nat) (a0_0 : Int) (a0_1 : ByteArray) : Option ((List (List Int))) := (impl_IsAcyclic.f k a0_0 a0_1).bind fun t1100 => (if t1100 = true then ((impl_mutations_impl_IsAcyclic.f k a0_0 a0_1 ()).bind fun t1101 => (some t1101)) else (some ([] : List (List Int))))
theorem impl_OrderMutations.mono : ∀ a0 a1 k, LeO (impl_OrderMutations.f k a0 a1) (impl_OrderMutations.f (k + 1) a0 a1) := by
 intro a0 a1 k; unfold impl_OrderMutations.f
 repeat' first | (with_reducible first | apply impl_IsAcyclic.mono | apply impl_mutations_impl_IsAcyclic.mono | exact LeO.refl _ | exact LeO.none _ | refine LeO.ite ?_ ?_ | refine LeO.bind ?_ (fun _ => ?_)) | exact LeO.none _
set_option maxHeartbeats 8000000 in
set_option maxRecDepth 100000 in
theorem impl_OrderMutations.calls (k : Nat) (a0_0 : Int) (a0_1 : ByteArray) (r : List (List Int)) (w : World) (h : impl_OrderMutations.f k a0_0 a0_1 = some r) :
  Calls Try.prog 52 #[.agg #[.int .i64 a0_0, .string a0_1]] w fun e w' => ∃ v0_ : Value, e = .returned (v0_) ∧ Kd.S (Kd.slice 3 (Kd.int .i64)) 34 w' w.heap.size (fun _ => True) v0_ r ∧ Below w.heap.size w w' := by
 have hu31 := Try.underlying31; have HB := am_ (Below.refl w.heap.size w); have H : ((impl_IsAcyclic.f k a0_0 a0_1).bind fun t1100 => (if t1100 = true then ((impl_mutations_impl_IsAcyclic.f k a0_0 a0_1 ()).bind fun t1101 => (some t1101)) else (some ([] : List (List Int))))) = some r := h; clear h; obtain ⟨t1100, A2, H⟩ := bnd_ H; by_cases c3 : t1100 = true
 ·subst c3; replace H := ifT_ H; obtain ⟨t1101, A4, H⟩ := bnd_ H; obtain rfl := Option.some.inj H; go_enter Try.func52, Try.ntmps52
  go_wp2_with (first | ((with_reducible refine gd_ 1 rfl ?_); refine be_ 1 #[.int .i64 a0_0, .string a0_1] 31 ?_; intro gb1099 hg w5 hbox hb; have BK1099 := am_ hbox; have GW1099 := gw0_ HB hg; have GE1099 := GW1099; replace HB := bs0_ HB hb; clear hb hbox hg; obtain ⟨hcz6_0, hfz6_0, hcz6_1, hfz6_1⟩ := bk2_ BK1099) | ((with_reducible refine gc_ 87 rfl ?_); refine gB_ (some 4) Try.func87 #[.agg #[.int .i64 a0_0, .string a0_1]] (impl_IsAcyclic.calls k a0_0 a0_1 true _ A2.out) ?_; intro w7 hb; replace BK1099 := bb_ BK1099 hb; replace HB := bs1_ HB hb GE1099; try clear hb; obtain ⟨hcz8_0, hfz8_0, hcz8_1, hfz8_1⟩ := bk2_ BK1099) | ((with_reducible refine gc_ 128 rfl ?_); refine gR_ (some 7) Try.func128 #[.agg #[.int .i64 a0_0, .string a0_1], .func (.func 87) #[] #[]] (impl_mutations_impl_IsAcyclic.calls k a0_0 a0_1 () t1101 _ A4.out) ?_; intro w9 v1102 ho0 hb; have HO1103 := am_ (Kd.S_lower ho0 (below_size (bx1 HB.out GE1099.out))); replace BK1099 := bb_ BK1099 hb; replace HB := bs1_ HB hb GE1099; try clear hb; (try clear ho0)))
  go_ret; exact ⟨_, by first | rfl | (simp [errW_none, errW_some] <;> rfl) | (simp [*, errW_none, errW_some] <;> rfl), sx_ HO1103.out, bx1 HB.out GE1099.out⟩
 ·replace c3 := Bool.eq_false_iff.mpr c3; subst c3; replace H := ifF_ H; obtain rfl := Option.some.inj H; go_enter Try.func52, Try.ntmps52
  go_wp2_with (first | ((with_reducible refine gd_ 1 rfl ?_); refine be_ 1 #[.int .i64 a0_0, .string a0_1] 31 ?_; intro gb1099 hg w10 hbox hb; have BK1099 := am_ hbox; have GW1099 := gw0_ HB hg; have GE1099 := GW1099; replace HB := bs0_ HB hb; clear hb hbox hg; obtain ⟨hcz11_0, hfz11_0, hcz11_1, hfz11_1⟩ := bk2_ BK1099) | ((with_reducible refine gc_ 87 rfl ?_); refine gB_ (some 4) Try.func87 #[.agg #[.int .i64 a0_0, .string a0_1]] (impl_IsAcyclic.calls k a0_0 a0_1 false _ A2.out) ?_; intro w12 hb; replace BK1099 := bb_ BK1099 hb; replace HB := bs1_ HB hb GE1099; try clear hb))
  go_ret; exact ⟨_, by first | rfl | (simp [errW_none, errW_some] <;> rfl) | (simp [*, errW_none, errW_some] <;> rfl), by first | exact Kd.S_nil _ _ _ _ _ | exact Kd.N_nil _ _ _ _ _ | exact Kd.V_nil _ _ _ _ _ | exact Kd.Q_nil _ _ _ _ _ | exact Kd.R_nil _ _ _ _ _, bx1 HB.out GE1099.out⟩
end Go.Proofs.Ytoajlmlobaccdaa.P
namespace Go.Proofs.Ytoajlmlobaccdaa.P
open Go.RowKit Go.Proofs.YtoajlmlobaccdaaW.PrintWords Go.Proofs.YtoajlmlobaccdaaW.PrintLast Go.Proofs.YtoajlmlobaccdaaW.PrintMore
set_option linter.unusedVariables false
set_option linter.unusedSimpArgs false
abbrev GSg := S31
def keyN (p : GSg) : Value := .agg #[.int .i64 p.f0, .string p.f1]
def klN (p : GSg) : Lit := .string (keyBytes [.int .i64 p.f0, .string p.f1.data.toList])
def okN (p : GSg) : Bool := (Lit.int .i64 p.f0).wf && decide (p.f1.size ≤ maxLen)
theorem lawN : Maps.Keyed Try.prog 31 := Maps.Keyed.of_law (deep_law_laid (m := 2) (by kernel_rfl) (by decide) (of_decide_eq_true (by kernel_rfl)) (by kernel_rfl) (by kernel_rfl))
theorem cellsN : Try.prog.cellsOf 31 = 2 := by kernel_rfl
theorem cellsNI : Try.prog.cellsOf 3 = 1 := by kernel_rfl
theorem cellsNS : Try.prog.cellsOf 9 = 1 := by kernel_rfl
theorem ktN : Try.prog.keyType 31 = true := by kernel_rfl
theorem sizeN : ∃ m, Try.prog.types.size = m + 1 := ⟨Try.prog.types.size - 1, by kernel_rfl⟩
theorem keyOf_N (p : GSg) (h : okN p = true) : keyOf Try.prog 31 (keyN p) = some (klN p) := by
  unfold okN at h
  rw [Bool.and_eq_true] at h
  obtain ⟨wa, wb⟩ := h
  replace wb := of_decide_eq_true wb
  obtain ⟨m, hm⟩ := sizeN
  unfold keyOf keyN klN
  simp only [Try.underlying31]
  rw [if_pos (by simp [ktN, Value.formed, Try.underlying31, cellsN]), hm]
  unfold Program.keyLits
  simp only [Try.underlying31, Value.cells]
  rw [if_pos ⟨by rw [cellsN]; rfl, by simp⟩]
  simp [cellsNI, cellsNS, Program.keyLits, Try.underlying3, Try.underlying9, wa, wb]
theorem klN_inj {p q : GSg} (hp : okN p = true) (hq : okN q = true) (h : klN p = klN q) : p = q := by
  have e := lawN.inj (keyOf_N p hp) (h ▸ keyOf_N q hq)
  unfold keyN at e
  injection e with e
  have e0 := congrArg (fun a : Array Value => a.toList) e
  simp at e0
  obtain ⟨a, b⟩ := p
  obtain ⟨a', b'⟩ := q
  simp at e0
  simp [e0]
theorem klN_lit (p : GSg) : WideAt.IsKeyLit (klN p) := trivial
def eqN (p q : GSg) : Bool := p.f0 == q.f0 && decide (p.f1 = q.f1)
theorem eqN_iff {p q : GSg} : eqN p q = true ↔ p = q := by
  obtain ⟨a, b⟩ := p
  obtain ⟨a', b'⟩ := q
  unfold eqN
  rw [Bool.and_eq_true, beq_iff_eq, decide_eq_true_iff]
  constructor
  · rintro ⟨h1, h2⟩
    rw [show a = a' from h1, show b = b' from h2]
  · intro h
    injection h with h1 h2
    exact ⟨h1, h2⟩
def lookE (es : List (GSg × Int)) (p : GSg) : Int := match es.find? (fun e => eqN e.1 p) with
  | some e => e.2
  | none => 0
def hasE (es : List (GSg × Int)) (p : GSg) : Bool := es.any (fun e => eqN e.1 p)
structure MapN (D : DataW Unit) (es : List (GSg × Int)) : Prop where
  ok : ∀ e ∈ es, okN e.1 = true
  at_ : ∀ e ∈ es, ∀ z, D.atKey (klN e.1) z = .lit (.int .i64 (lookE es e.1))
  has : ∀ kl, Maps.has D kl = true → ∃ e ∈ es, kl = klN e.1
theorem MapN.nil : MapN (.map []) [] := ⟨(fun _ h => by cases h), (fun _ h => by cases h), (fun kl h => by simp [Maps.has] at h)⟩
theorem hasE_iff {es : List (GSg × Int)} {p : GSg} : hasE es p = true ↔ ∃ e ∈ es, e.1 = p := by
  unfold hasE
  rw [List.any_eq_true]
  exact ⟨fun ⟨e, h1, h2⟩ => ⟨e, h1, eqN_iff.1 h2⟩, fun ⟨e, h1, h2⟩ => ⟨e, h1, eqN_iff.2 h2⟩⟩
theorem lookE_none {es : List (GSg × Int)} {p : GSg} (h : hasE es p = false) : lookE es p = 0 := by
  unfold lookE
  have hn : es.find? (fun e => eqN e.1 p) = none := by
    rw [List.find?_eq_none]
    intro e he hk
    have : hasE es p = true := hasE_iff.2 ⟨e, he, eqN_iff.1 hk⟩
    rw [h] at this
    cases this
  rw [hn]
theorem MapN.hasB {D : DataW Unit} {es : List (GSg × Int)} (h : MapN D es) {p : GSg} (hp : okN p = true) : Maps.has D (klN p) = hasE es p := by
  cases hh : hasE es p with
  | true =>
    obtain ⟨e, he, rfl⟩ := hasE_iff.1 hh
    exact Maps.has_true_of_atKey (fun zd => h.at_ e he zd)
  | false =>
    cases h2 : Maps.has D (klN p) with
    | false => rfl
    | true =>
      obtain ⟨e, he, ek⟩ := h.has _ h2
      have : hasE es p = true := hasE_iff.2 ⟨e, he, (klN_inj hp (h.ok e he) ek).symm⟩
      rw [hh] at this
      cases this
theorem MapN.look {D : DataW Unit} {es : List (GSg × Int)} (h : MapN D es) {p : GSg} (hp : okN p = true) {c : Int} (hc : D.atKey (klN p) (.lit (.int .i64 0)) = .lit (.int .i64 c)) : c = lookE es p := by
  cases hh : hasE es p with
  | true =>
    obtain ⟨e, he, rfl⟩ := hasE_iff.1 hh
    have h1 := h.at_ e he (.lit (.int .i64 0))
    rw [hc] at h1
    injection h1 with h1
    injection h1
  | false =>
    rw [lookE_none hh]
    have h1 := Maps.atKey_of_not_has ((h.hasB hp).trans hh) (.lit (.int .i64 0))
    rw [hc] at h1
    injection h1 with h1
    injection h1
theorem lookE_new (es : List (GSg × Int)) (p : GSg) (c : Int) (hn : hasE es p = false) (q : GSg) : lookE (es ++ [(p, c)]) q = if eqN p q = true then c else lookE es q := by
  unfold lookE
  rw [List.find?_append]
  cases hf : es.find? (fun e => eqN e.1 q) with
  | some e =>
    have hm := List.mem_of_find?_eq_some hf
    have hk := List.find?_some hf
    have hne : eqN p q = false := by
      cases h : eqN p q with
      | false => rfl
      | true =>
        have : hasE es p = true := hasE_iff.2 ⟨e, hm, (eqN_iff.1 (by simpa using hk)).trans (eqN_iff.1 h).symm⟩
        rw [hn] at this
        cases this
    rw [hne]
    simp
  | none =>
    rw [List.find?_cons, List.find?_nil]
    cases h : eqN p q <;> simp
theorem MapN.put {D : DataW Unit} {es : List (GSg × Int)} (h : MapN D es) (hD : Maps.IsMap D) {p : GSg} (hp : okN p = true) (hn : hasE es p = false) (c : Int) : MapN (D.put (klN p) (.lit (.int .i64 c))) (es ++ [(p, c)]) := by
  refine ⟨fun e he => ?_, fun e he z => ?_, fun kl hk => ?_⟩
  · rcases List.mem_append.1 he with he | he
    · exact h.ok e he
    · rw [List.mem_singleton.1 he]; exact hp
  · rw [lookE_new es p c hn]
    rcases List.mem_append.1 he with he | he
    · have hne : p ≠ e.1 := fun e1 => by
        have : hasE es p = true := hasE_iff.2 ⟨e, he, e1.symm⟩
        rw [hn] at this
        cases this
      rw [if_neg (fun h1 => hne (eqN_iff.1 h1)), Maps.atKey_put_other (fun e1 => hne (klN_inj (h.ok e he) hp e1).symm)]
      exact h.at_ e he z
    · rw [List.mem_singleton.1 he, if_pos (eqN_iff.2 rfl)]
      exact Maps.atKey_put_same hD (klN_lit p) _ z
  · by_cases e : kl = klN p
    · exact ⟨(p, c), List.mem_append_right _ List.mem_cons_self, e⟩
    · rw [Maps.has_put_other e] at hk
      obtain ⟨x, hx, e2⟩ := h.has kl hk
      exact ⟨x, List.mem_append_left _ hx, e2⟩
structure MObj (es : List (GSg × Int)) where
  o : Obj
  ok : ∀ (w : World) (b : Nat), w.heap[b]? = some o → ∃ D : DataW Unit, w.ownsMap Try.prog 31 (plainElem Try.prog 3) b es.length D ∧ MapN D es
theorem isMapN {w : World} {b n : Nat} {D : DataW Unit} {R : Value → Option (DataW Unit × List MemPlace)} (h : w.ownsMap Try.prog 31 R b n D) : Maps.IsMap D := by
  obtain ⟨es, clock, _, _, _, rfl⟩ := h
  exact ⟨_, rfl⟩
theorem mobj_of {w : World} {b : Nat} {es : List (GSg × Int)} {D : DataW Unit} (h : w.ownsMap Try.prog 31 (plainElem Try.prog 3) b es.length D) (hM : MapN D es) : ∃ m : MObj es, w.heap[b]? = some m.o := by
  obtain ⟨xs, clock, hb, F, hs, hD⟩ := h
  exact ⟨⟨.map xs clock, fun w' b' hb' => ⟨D, ⟨xs, clock, hb', F, hs, hD⟩, hM⟩⟩, hb⟩
theorem mobj_new (w : World) : ∃ m : MObj [], (w.alloc (.map #[] 0)).heap[w.heap.size]? = some m.o := mobj_of (World.ownsMap_made w _ _ _) MapN.nil
theorem zeroN (w : World) : (zeroValue 3).run Try.prog w = .ok (.int .i64 0) w := by kernel_rfl
theorem mobj_look {w : World} {b : Nat} {es : List (GSg × Int)} {m : MObj es} (h : w.heap[b]? = some m.o) {p : GSg} (hp : okN p = true) : (Instr.lookup 116 (.map (some b)) (keyN p) false).run Try.prog w = .ok (.int .i64 (lookE es p)) w := by
  obtain ⟨D, ho, hM⟩ := m.ok w b h
  obtain ⟨c, hr, hat, _⟩ := ho.lookup_int lawN Try.underlying116 Try.underlying3 (zeroN w) (keyOf_N p hp)
  rw [hr, hM.look hp hat]
theorem mobj_look2 {w : World} {b : Nat} {es : List (GSg × Int)} {m : MObj es} (h : w.heap[b]? = some m.o) {p : GSg} (hp : okN p = true) : (Instr.lookup 116 (.map (some b)) (keyN p) true).run Try.prog w = .ok (.tuple #[.int .i64 (lookE es p), .bool (hasE es p)]) w := by
  obtain ⟨D, ho, hM⟩ := m.ok w b h
  obtain ⟨v, ps, hr, hv⟩ := ho.look_ok lawN Try.underlying116 (zeroN w) (plainElem_int (H := Unit) Try.underlying3 (by decide)) (keyOf_N p hp)
  obtain ⟨c, rfl, hc, hwc⟩ := plainElem_int_inv Try.underlying3 hv
  rw [hr, hM.hasB hp, hM.look hp (congrArg Prod.fst hc)]
theorem mobj_put {w : World} {b : Nat} {es : List (GSg × Int)} {m : MObj es} (h : w.heap[b]? = some m.o) {p : GSg} (hp : okN p = true) (hn : hasE es p = false) (hl : es.length < maxLen) {c : Int} (hc : (Lit.int .i64 c).wf = true) :
    ∃ (w' : World) (m' : MObj (es ++ [(p, c)])), (Instr.mapUpdate 116 (.map (some b)) (keyN p) (.int .i64 c)).run Try.prog w = .ok () w' ∧ w'.heap[b]? = some m'.o ∧ w.grownBy w' (some b) := by
  obtain ⟨D, ho, hM⟩ := m.ok w b h
  obtain ⟨w', hr, ho', hg⟩ := ho.update lawN Try.underlying116 hl (keyOf_N p hp) (plainElem_int (H := Unit) Try.underlying3 hc)
  obtain ⟨m', hm'⟩ := mobj_of (es := es ++ [(p, c)]) (by rw [List.length_append]; exact ho') (hM.put (isMapN ho) hp hn c)
  exact ⟨w', m', hr, hm', hg⟩
theorem mblk_far {w : World} {g : Nat} {o : Obj} (h : w.heap[g]? = some o) {p : Addr} (hp : g ≠ p.block) (u : Value) : (w.setCell p u).heap[g]? = some o := (Below.heap_setCell w p u g hp).trans h
section
variable {ops : Array Oper} {rest : List Oper} {o : Oper} {a : Act} {Q : Exit → Act → World → Prop}
theorem gate_insert {P : Program} {W : World} {t : TypeId} {m k v : Operand} (_ho : o.op = .insert t m k v) (h : wpList P ops Q (o :: rest) a W) : wpList P ops Q (o :: rest) a W := h
theorem look2_event {W : World} {b : Nat} {es : List (GSg × Int)} {m : MObj es} (hgd : o.guard = none) (mo x : Operand) (hop : o.op = Op.lookup 116 mo x true) (p : GSg) (r : Bool) (hm : a.eval mo = .map (some b)) (hx : a.eval x = keyN p)
    (hb : W.heap[b]? = some m.o) (hp : okN p = true) (hr : hasE es p = r) (h : ∀ w1, Below W.heap.size W w1 → wpList Try.prog ops Q rest (a.put o.dst (.tuple #[.int .i64 (lookE es p), .bool r])) w1) : wpList Try.prog ops Q (o :: rest) a W := by
  refine Kd.event_run hgd ?_ (h W (Below.refl _ _))
  subst hr
  have h1 := mobj_look2 hb hp
  simp [execOp, hop, hm, hx, h1, Result.andThen]
theorem put0_event {w0 : World} (hgd : o.guard = none) (mo x v : Operand) (hop : o.op = Op.insert 116 mo x v) (p : GSg) (hm : a.eval mo = .map (some w0.heap.size)) (hx : a.eval x = keyN p) (hv : a.eval v = .int .i64 0) (hp : okN p = true)
    (h : ∀ g, g = w0.heap.size → ∀ (m : MObj [(p, 0)]) w1, w1.heap[g]? = some m.o → Below w0.heap.size w0 w1 → wpList Try.prog ops Q rest (a.put o.dst undef) w1) : wpList Try.prog ops Q (o :: rest) a (w0.alloc (.map #[] 0)) := by
  obtain ⟨m0, h0⟩ := mobj_new w0
  obtain ⟨w1, m1, hrun, h1, hg⟩ := mobj_put h0 hp rfl (by decide) (c := 0) (by decide)
  refine wpList_plain hgd fun K' hK' => ?_
  unfold Oper.wp
  simp [execOp, hop, hm, hx, hv, hrun, Result.andThen]
  exact hK' _ _ (h _ rfl m1 w1 h1 ((below_alloc (Below.refl _ _) _).grown hg (below_alloc (Below.refl _ _) _).size (fun k e => by injection e with e; omega)))
end
def iniM (n : Int) (s : ByteArray) : List (GSg × Int) := [((⟨n, s⟩ : GSg), 0)]
def addM (es : List (GSg × Int)) (xs : List GSg) (n : Int) (s : ByteArray) : List (GSg × Int) := es ++ [((⟨n, s⟩ : GSg), wrap64 (lookE es (rd_T31 xs 0) + 1))]
def hasM (es : List (GSg × Int)) (xs : List GSg) (n : Int) (s : ByteArray) : Option Bool := if okN ⟨n, s⟩ = true ∧ okN (rd_T31 xs 0) = true ∧ es.length < 1000000 then some (hasE es ⟨n, s⟩) else none
def metM (es : List (GSg × Int)) (n : Int) (s : ByteArray) : Option Bool := if okN ⟨n, s⟩ = true then some (hasE es ⟨n, s⟩) else none
def eqM (es : List (GSg × Int)) (n : Int) (s : ByteArray) (n0 : Int) (s0 : ByteArray) : Option Bool := if okN ⟨n, s⟩ = true ∧ okN ⟨n0, s0⟩ = true then some (decide (lookE es ⟨n, s⟩ = wrap64 (lookE es ⟨n0, s0⟩ - 1))) else none
theorem hasM_ok {es : List (GSg × Int)} {xs : List GSg} {n : Int} {s : ByteArray} {b : Bool} (h : hasM es xs n s = some b) : okN ⟨n, s⟩ = true ∧ okN (rd_T31 xs 0) = true ∧ es.length < 1000000 ∧ hasE es ⟨n, s⟩ = b := by
  unfold hasM at h
  split at h
  · next h1 => exact ⟨h1.1, h1.2.1, h1.2.2, Option.some.inj h⟩
  · cases h
theorem metM_ok {es : List (GSg × Int)} {n : Int} {s : ByteArray} {b : Bool} (h : metM es n s = some b) : okN ⟨n, s⟩ = true ∧ hasE es ⟨n, s⟩ = b := by
  unfold metM at h
  split at h
  · next h1 => exact ⟨h1, Option.some.inj h⟩
  · cases h
theorem eqM_ok {es : List (GSg × Int)} {n : Int} {s : ByteArray} {n0 : Int} {s0 : ByteArray} {b : Bool} (h : eqM es n s n0 s0 = some b) : okN ⟨n, s⟩ = true ∧ okN ⟨n0, s0⟩ = true ∧ decide (lookE es ⟨n, s⟩ = wrap64 (lookE es ⟨n0, s0⟩ - 1)) = b := by
  unfold eqM at h
  split at h
  · next h1 => exact ⟨h1.1, h1.2, Option.some.inj h⟩
  · cases h
end Go.Proofs.Ytoajlmlobaccdaa.P
