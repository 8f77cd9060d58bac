/- What the law FnPure reaches, part 13: functions as plain Lean functions with the proofs that their calls come to them, and plain lemmas over these. Put together by a program (wip/pack.py). -/
import Derived.Test.YtoajlmlobaccdaaKFnPured
import Derived.Test.YtoajlmlobaccdaaKFnPurel
import Derived.Test.YtoajlmlobaccdaaKFnPurec
import Derived.Test.YtoajlmlobaccdaaKFnPureg
namespace Go.Proofs.Ytoajlmlobaccdaa.P
open Go.RowKit Go.Proofs.YtoajlmlobaccdaaW.PrintWords Go.Proofs.YtoajlmlobaccdaaW.PrintLast Go.Proofs.YtoajlmlobaccdaaW.PrintMore
attribute [local go_sem] ptrOf_slice
set_option linter.unusedVariables false
set_option linter.unusedSimpArgs false
def ceNew (s : CeS) (i t : Int) : CeS := { s with now := s.now.set i.toNat ⟨0, 0, -1, 0, t⟩ }
def ceIn (n : Int) (s : CeS) (i t : Int) : CeS :=
  let s1 := if 0 < i then ceD (ceNew s i t) (i - 1) i else ceNew s i t
  if i < n then ceD s1 i i else s1
def ceEnd (s : CeS) (i : Int) : CeS := ceB (ceA s i) i
def impl_cellsOf.l0 : Nat → Int → CeS → Int → Option CeS
  | 0, _, _, _ => none
  | k + 1, n, s, i => if i < n + 1 then ((impl_fullSet.f i).bind fun t => impl_cellsOf.l0 k n (ceIn n s i t) (i + 1)) else some s
def impl_cellsOf.l1 : Nat → CeS → Int → Option CeS
  | 0, _, _ => none
  | k + 1, s, i => if i < (s.now.length : Int) then (if i < (s.out.length : Int) ∧ (s.out.getD i.toNat []).length < 3518437208883 then impl_cellsOf.l1 k (ceEnd s i) (i + 1) else none) else some s
def ceStart (n : Int) : CeS := ⟨List.replicate (n + 1).toNat Cel.z, List.replicate (n + 1).toNat [], 0⟩
def impl_cellsOf.f (k : Nat) (a0 : Int) (l1 : List Int) : Option (List (List Cel)) := if 1 ≤ a0 ∧ a0 ≤ 60 then (impl_cellsOf.l0 k a0 (ceStart a0) 0).bind fun s => (impl_run_ce.f k a0 l1 { s with cnt := 0 }).bind fun t => (impl_cellsOf.l1 k t.2 0).bind fun u => some u.out else none
theorem impl_cellsOf.mono_0 : ∀ k n s i, LeO (impl_cellsOf.l0 k n s i) (impl_cellsOf.l0 (k + 1) n s i)
  | 0 => fun _ _ _ r h => by simp [impl_cellsOf.l0] at h
  | k + 1 => by
    have ih := impl_cellsOf.mono_0 k; intro n s i; rw [impl_cellsOf.l0, impl_cellsOf.l0]; exact LeO.ite (LeO.bind (LeO.refl _) (fun _ => ih _ _ _)) (LeO.refl _)
theorem impl_cellsOf.mono_1 : ∀ k s i, LeO (impl_cellsOf.l1 k s i) (impl_cellsOf.l1 (k + 1) s i)
  | 0 => fun _ _ r h => by simp [impl_cellsOf.l1] at h
  | k + 1 => by
    have ih := impl_cellsOf.mono_1 k; intro s i; rw [impl_cellsOf.l1, impl_cellsOf.l1]; exact LeO.ite (LeO.ite (ih _ _) (LeO.refl _)) (LeO.refl _)
theorem impl_cellsOf.mono : ∀ a0 a1 k, LeO (impl_cellsOf.f k a0 a1) (impl_cellsOf.f (k + 1) a0 a1) := fun a0 a1 k => LeO.ite (LeO.bind (impl_cellsOf.mono_0 _ _ _ _) (fun _ => LeO.bind (impl_run_ce.mono _ _ _ _) (fun _ => LeO.bind (impl_cellsOf.mono_1 _ _ _) (fun _ => LeO.refl _)))) (LeO.refl _)
def ce0.T18 : Bool × List (List Nat × List Nat) := (true, [([], []), ([], []), ([], []), ([], []), ([2, 3], [2, 3]), ([4], [4]), ([], []), ([], []), ([6, 7], [6, 7]), ([8], [8]), ([9], [9]), ([5, 10], [5, 10]), ([0, 1, 0, 1, 2, 3, 4, 5, 6, 7, 8, 9, 10, 11], [0, 1]), ([12, 11, 11, 0, 1, 2, 3, 4, 5, 6, 7, 8, 9, 10, 11], [11, 12])])
def ce0.B18 : List Nat := [0, 0, 0, 0, 12, 28, 0, 0, 192, 448, 960, 2044, 4095, 8191]
theorem ce0.tab18 : rtab .any (opsOf Try.f95 18) = ce0.T18 := by kernel_rfl
theorem ce0.bits18 : waitsOk ce0.T18.2 ce0.B18 = true := by kernel_rfl
def ce0.T6 : Bool × List (List Nat × List Nat) := (true, [([], []), ([], []), ([], []), ([2], [2]), ([3], [3]), ([0, 1, 0, 1, 2, 3, 4], [0, 1]), ([5, 4, 3, 0, 1, 2, 3, 4], [4, 5])])
def ce0.B6 : List Nat := [0, 0, 0, 4, 12, 31, 63]
theorem ce0.tab6 : rtab .any (opsOf Try.f95 6) = ce0.T6 := by kernel_rfl
theorem ce0.bits6 : waitsOk ce0.T6.2 ce0.B6 = true := by kernel_rfl
def ce0.T10 : Bool × List (List Nat × List Nat) := (true, [([], []), ([], []), ([], []), ([], []), ([], []), ([], []), ([4, 5], [4, 5]), ([6], [6]), ([7], [7]), ([8], [8]), ([], []), ([], []), ([10, 11], [10, 11]), ([12], [12]), ([13], [13]), ([], []), ([15], [15]), ([14, 16], [14, 16]), ([0, 1, 0, 1, 4, 5, 6, 7, 8, 9, 14], [0, 1]), ([18, 0, 1, 4, 5, 6, 7, 8, 9, 14], [18]), ([19, 9, 0, 1, 4, 5, 6, 7, 8, 9, 14], [9, 19]), ([2, 3, 0, 1, 2, 3, 4, 5, 6, 7, 8, 9, 10, 11, 12, 13, 14, 15, 16, 17, 18, 19, 20], [2, 3]), ([21, 0, 1, 2, 3, 4, 5, 6, 7, 8, 9, 10, 11, 12, 13, 14, 15, 16, 17, 18, 19, 20], [21]), ([22, 17, 20, 0, 1, 2, 3, 4, 5, 6, 7, 8, 9, 10, 11, 12, 13, 14, 15, 16, 17, 18, 19, 20], [17, 22])])
def ce0.B10 : List Nat := [0, 0, 0, 0, 0, 0, 48, 112, 240, 496, 0, 0, 3072, 7168, 15360, 0, 32768, 130048, 32755, 294899, 819187, 2097151, 4194303, 8388607]
theorem ce0.tab10 : rtab .any (opsOf Try.f95 10) = ce0.T10 := by kernel_rfl
theorem ce0.bits10 : waitsOk ce0.T10.2 ce0.B10 = true := by kernel_rfl
def ce0.T8 : Bool × List (List Nat × List Nat) := (true, [([], []), ([], []), ([], []), ([], []), ([], []), ([], []), ([4, 5], [4, 5]), ([6], [6]), ([7], [7]), ([8], [8]), ([], []), ([], []), ([10, 11], [10, 11]), ([12], [12]), ([13], [13]), ([], []), ([15], [15]), ([16], [16]), ([14, 17], [14, 17]), ([0, 1, 0, 1, 4, 5, 6, 7, 8, 9, 14], [0, 1]), ([19, 0, 1, 4, 5, 6, 7, 8, 9, 14], [19]), ([20, 9, 0, 1, 4, 5, 6, 7, 8, 9, 14], [9, 20]), ([2, 3, 0, 1, 2, 3, 4, 5, 6, 7, 8, 9, 10, 11, 12, 13, 14, 15, 16, 17, 18, 19, 20, 21], [2, 3]), ([22, 0, 1, 2, 3, 4, 5, 6, 7, 8, 9, 10, 11, 12, 13, 14, 15, 16, 17, 18, 19, 20, 21], [22]), ([23, 18, 21, 0, 1, 2, 3, 4, 5, 6, 7, 8, 9, 10, 11, 12, 13, 14, 15, 16, 17, 18, 19, 20, 21], [18, 23])])
def ce0.B8 : List Nat := [0, 0, 0, 0, 0, 0, 48, 112, 240, 496, 0, 0, 3072, 7168, 15360, 0, 32768, 98304, 261120, 32755, 557043, 1605619, 4194303, 8388607, 16777215]
theorem ce0.tab8 : rtab .any (opsOf Try.f95 8) = ce0.T8 := by kernel_rfl
theorem ce0.bits8 : waitsOk ce0.T8.2 ce0.B8 = true := by kernel_rfl
set_option maxHeartbeats 8000000 in
set_option maxRecDepth 100000 in
theorem impl_cellsOf.calls (k : Nat) (a0 : Int) (A1 : Option Addr) (c1 : Nat) (l1 : List Int) (r : List (List Cel)) (w : World) (hr1 : Kd.C (Kd.int .i64) w A1 l1.length l1) (hc1 : l1.length ≤ c1) (h : impl_cellsOf.f k a0 l1 = some r) :
    Calls Try.prog 95 #[.int .i64 a0, .slice A1 l1.length c1] w fun e w' => ∃ v0_ : Value, e = .returned (v0_) ∧ Kd.S kRow 99 w' w.heap.size (fun _ => True) v0_ r ∧ Below w.heap.size w w' := by
  have HR1 := am_ hr1; have HC1 := am_ hc1; clear hr1 hc1; unfold impl_cellsOf.f at h
  by_cases hg : 1 ≤ a0 ∧ a0 ≤ 60
  case neg => rw [if_neg hg] at h; cases h
  rw [if_pos hg] at h; replace h := bnd_ h; obtain ⟨sI, AI, h⟩ := h; replace h := bnd_ h; obtain ⟨⟨rb, sR⟩, AR, h⟩ := h; replace h := bnd_ h; obtain ⟨sE, AE, h⟩ := h; obtain rfl := Option.some.inj h; clear h; obtain ⟨hg1, hg2⟩ := hg; have GA := am_ (show 1 ≤ a0 ∧ a0 ≤ 60 from ⟨hg1, hg2⟩); have HB := am_ (Below.refl w.heap.size w); have hn1 : IntKind.i64.wrap (a0 + 1) = a0 + 1 := by rw [i64_w]; exact wrap64_small (by omega) (by omega)
  clear hg1 hg2; go_enter Try.func95, Try.ntmps95
  go_wp2_with (first
    | ((with_reducible refine gd_ 12 rfl ?_); refine Kd.S_make kRow _ 99 rfl (N := 12) rfl 97 _ _ rfl (a0 + 1) rfl rfl Try.underlying97 (.slice none 0 0) 24 info99 rfl (by decide) (by omega) ([] : List Cel) (ok := fun _ => True) (okp := fun _ => True) ⟨_, rfl, Kd.R_nil _ _ _ _ _⟩ (fun _ hk => hk) trivial (by have h1 := GA.out; omega) (by have h1 := GA.out; omega) (Below.refl _ _) (Nat.le_refl _) ?_; intro vO w1 hO hb hg_ hnew
       obtain ⟨LO, hLO⟩ : ∃ l_, l_ = List.replicate (a0 + 1).toNat ([] : List Cel) := ⟨_, rfl⟩; rw [← hLO] at hO; have LLO := am_ hLO; obtain ⟨gO, cO, rfl, _⟩ := Kd.S_form hO (by rw [hLO, List.length_replicate]; have h1 := GA.out; omega); have HO := am_ (Kd.S_lower hO (below_size HB.out)); clear hLO; replace HB := bs0_ HB hb; clear hb hg_ hnew hO)
    | ((with_reducible refine gd_ 5 rfl ?_); refine be_ 5 #[.slice none 0 0] 97 ?_; intro bo hg w2 hbox hb
       have BO := am_ hbox; have GO := gw0_ HB hg; have HO := am_ (Kd.S_below HO.out hb); replace HB := bs0_ HB hb; have y2 := (blk_cell BO.out 0).trans rfl; have f2 := blk_frozen BO.out 0; clear hb hg hbox)
    | ((with_reducible refine gate_store (t := 97) (p := 5) rfl ?_); refine store_event (t := 97) (p := 5) (v := ?vo_) (w1 := (w2.setCell ⟨bo, 0, none⟩ (.slice (some ⟨gO, 0, none⟩) LO.length cO))) ?hg ?ho ?hn ?hr ?_; (case ho => rfl); (case hg => rfl); (case hn => rfl); (case hr => first | (go_simp; done) | (go_simp; rfl)); intro w3 hw
       have HB := am_ (show Below w.heap.size w w3 from by rw [hw]; exact below_set HB.out GO.out); have HO := am_ (show Kd.S kRow 99 w3 w.heap.size (fun _ => True) (.slice (some ⟨gO, 0, none⟩) LO.length cO) LO from by rw [hw]; exact Kd.S_set HO.out BO.out (by decide) 0 _); have BO := am_ (show w3.heap[bo]? = some (.cells #[.slice (some ⟨gO, 0, none⟩) LO.length cO] 97 (0, 0)) from by rw [hw]; exact blk_put BO.out 0 _ rfl); clear hw y2 f2)
    | ((with_reducible refine gd_ 15 rfl ?_); refine Kd.R_make kCel _ 101 rfl (N := 15) rfl 99 _ _ rfl (a0 + 1) rfl rfl Try.underlying99 (.agg #[.int .i64 0, .int .i64 0, .int .i64 0, .int .i64 0, .int .i64 0]) 40 infoCel rfl (by decide) (by omega) Cel.z (ok := fun _ => True) (okp := fun _ => True) (k101_mkM _ _ _ Cel.z) (fun _ hk => hk) trivial (by have h1 := GA.out; omega) (by have h1 := GA.out; omega) (Below.refl _ _) (Nat.le_refl _) ?_; intro vN w4 hN hb hg_ hnew
       obtain ⟨LN, hLN⟩ : ∃ l_, l_ = List.replicate (a0 + 1).toNat Cel.z := ⟨_, rfl⟩; rw [← hLN] at hN; have LLN := am_ hLN; obtain ⟨gN, cN, rfl, _⟩ := Kd.R_form hN (by rw [hLN, List.length_replicate]; have h1 := GA.out; omega); clear hLN; have HN := am_ (Kd.R_lower hN (below_size HB.out)); have NN := am_ (show w3.heap.size ≤ gN from Kd.R_base hN gN (by simp [Value.ownBlock])); have HO := am_ (Kd.S_old HO.out hb); have HS43 := am_ hb.size; have BO := bb_ BO hb; replace HB := bs0_ HB hb; clear hb hg_ hnew hN)
    | ((with_reducible refine gd_ 6 rfl ?_); refine be_ 6 #[.slice none 0 0] 99 ?_; intro bn hg w5 hbox hb
       have BN := am_ hbox; have GN := gw0_ HB hg; have GNE := am_ (show bn = w4.heap.size from hg); have HO := am_ (Kd.S_below HO.out hb); have HN := am_ (Kd.R_below HN.out hb); have BO := bb_ BO hb; replace HB := bs0_ HB hb; have y5 := (blk_cell BN.out 0).trans rfl; have f5 := blk_frozen BN.out 0; clear hb hg hbox))
  obtain ⟨w6, hw6⟩ : ∃ w6, w6 = w5.setCell ⟨bn, 0, none⟩ (.slice (some ⟨gN, 0, none⟩) LN.length cN) := ⟨_, rfl⟩; rw [← hw6]; have nbo : bo ≠ bn := fun e => by have h1 := BO.out; rw [e, BN.out] at h1; injection h1 with h1; injection h1 with _ h1; exact absurd h1 (by decide)
  have hs43 : w3.heap.size ≤ w4.heap.size := by have h1 := HS43.out; omega
  obtain ⟨s0, hs0⟩ : ∃ s0 : CeS, s0 = ⟨LN, LO, 0⟩ := ⟨_, rfl⟩; have J0 : CeJ w.heap.size bn bo none none gN cN gO cO s0 w6 := by
    rw [hs0, hw6]; exact ⟨blk_put BN.out 0 _ rfl, blk_far BO.out nbo _, fun b e => (by cases e), Kd.R_mono (Kd.R_set HN.out BN.out (by decide) 0 _) (fun _ _ => by simp),
      Kd.S_mono (Kd.S_far (p := ⟨bn, 0, none⟩) HO.out (fun k hk e => by have h1 := GNE.out; have h2 := hk.2; subst e; omega) _) (fun k hk => ⟨fun e => by have h1 := NN.out; have h2 := hk.2; omega, fun e => by have h1 := GNE.out; have h2 := hk.2; omega, by simp⟩), GN.out, GO.out, fun b e => (by cases e), by simp, by simp, fun b e => (by cases e)⟩
  have B0 := am_ (show Below w.heap.size w w6 from by rw [hw6]; exact below_set HB.out GN.out); have HL0 := am_ (show (s0.now.length : Int) = a0 + 1 ∧ (s0.out.length : Int) = a0 + 1 from by
    rw [hs0]; show (LN.length : Int) = a0 + 1 ∧ (LO.length : Int) = a0 + 1
    rw [LLN.out, LLO.out, List.length_replicate, List.length_replicate]; have h1 := GA.out; omega)
  have eLN : LN.length = s0.now.length := by rw [hs0]
  rw [eLN]; have J0 := am_ J0; have AI := am_ (show impl_cellsOf.l0 k a0 s0 0 = some sI from by rw [hs0, LLN.out, LLO.out]; exact AI.out); clear hw6 hs43 nbo hs0 eLN BO BN HB HN HO GN GO GNE NN y5 f5 LLN LLO HS43; go_loopg [18] k (fun kq v18 w' => ∃ (i : Int) (s : CeS), v18 = .int .i64 i ∧ Aside0 (impl_cellsOf.l0 kq a0 s i = some sI) ∧ Aside0 (kq ≤ k) ∧ Aside0 (0 ≤ i ∧ (s.now.length : Int) = a0 + 1 ∧ (s.out.length : Int) = a0 + 1) ∧ Aside0 (CeJ w.heap.size bn bo none none gN cN gO cO s w') ∧ Aside0 (Below w.heap.size w w'))
  case atStart => exact ⟨0, s0, vt_, AI, ⟨Nat.le_refl _⟩, ⟨Int.le_refl _, HL0.out⟩, J0, B0⟩
  case round =>
    clear AI J0 B0; obtain ⟨i, s, rfl, HA, HK1, HL, J0, B0⟩ := hrel; cases gk with
    | zero => exact absurd HA.out (by simp [impl_cellsOf.l0])
    | succ k1 =>
      have H := HA.out; clear HA; rw [impl_cellsOf.l0] at H; have hl0 : (s0.now.length : Int) = a0 + 1 := HL0.out.1; by_cases c1 : i < a0 + 1
      case neg =>
        rw [if_neg c1] at H; obtain rfl := Option.some.inj H; clear H; have c1b : decide (i < (s0.now.length : Int)) = false := decide_eq_false (by omega); clear hl0 c1; go_wp2_with (first
          | ((with_reducible refine gd_ 8 rfl ?_); refine be_ 8 #[.int .i64 0] 3 ?_; intro bk hg w8 hbox hb
             have J8 := am_ (CeJ.made J0.out hb hbox (by rw [hg]; exact B0.out.size)); have B8 := bs0_ B0 hb; have y8 := (blk_cell (J8.out.hk bk rfl) 0).trans rfl; have f8 := blk_frozen (J8.out.hk bk rfl) 0; clear hg hbox hb)
          | (go_at_call 113
             refine (impl_run_ce.calls k a0 A1 c1 l1 { s with cnt := 0 } bn bo bk rb sR w _ (below_set B8.out (J8.out.bk_ bk rfl)) HR1.out HC1.out (fun uw w' hb hu => ⟨gN, cN, gO, cO, CeJ.aim (CeJ.count J8.out 0).1 hb hu⟩) AR.out).mono ?_; rintro e w10 ⟨rfl, ⟨uw, gN2, cN2, gO2, cO2, JR⟩, hB⟩; have J10 := am_ JR.free; have B10 := am_ hB; have y10 : w10.cell? ⟨bn, 0, none⟩ = some (.slice (some ⟨gN2, 0, none⟩) sR.now.length cN2) := (blk_cell J10.out.hn 0).trans rfl; clear JR hB))
        clear y10; go_loopg [84] k (fun kq v84 w' => ∃ (q : Int) (s : CeS), v84 = .int .i64 q ∧ Aside0 (impl_cellsOf.l1 kq s q = some sE) ∧ Aside0 (kq ≤ k) ∧ Aside0 (0 ≤ q ∧ s.now.length = sR.now.length) ∧ Aside0 (CeJ w.heap.size bn bo (some bk) none gN2 cN2 gO2 cO2 s w') ∧ Aside0 (Below w.heap.size w w'))
        case atStart => exact ⟨0, sR, vt_, AE, ⟨Nat.le_refl _⟩, ⟨Int.le_refl _, rfl⟩, J10, B10⟩
        case round =>
          clear AE J10 B10 J0 B0 HK1 HL; obtain ⟨q, s, rfl, HA, HK1, HL, J0, HB⟩ := hrel; cases gk with
          | zero => exact absurd HA.out (by simp [impl_cellsOf.l1])
          | succ k2 =>
            have H := HA.out; clear HA; rw [impl_cellsOf.l1] at H; have hlr : s.now.length = sR.now.length := HL.out.2; have hq0 : 0 ≤ q := HL.out.1; by_cases c1 : q < (s.now.length : Int)
            case neg =>
              rw [if_neg c1] at H; obtain rfl := Option.some.inj H; clear H; have c1b : decide (q < (sR.now.length : Int)) = false := decide_eq_false (by omega); have co1 : wr.cell? ⟨bo, 0, none⟩ = some (.slice (some ⟨gO2, 0, none⟩) s.out.length cO2) := (blk_cell J0.out.ho 0).trans rfl; clear hlr c1 hq0; go_wp2; go_ret; exact ⟨_, rfl, Kd.S_mono J0.out.O (fun _ _ => trivial), HB.out⟩
            rw [if_pos c1] at H; by_cases c2 : q < (s.out.length : Int) ∧ (s.out.getD q.toNat []).length < 3518437208883
            case neg => rw [if_neg c2] at H; cases H
            rw [if_pos c2] at H; have H' := am_ H; clear H; obtain ⟨hqo, hlb⟩ := c2; have hqn : q < (s.now.length : Int) := c1; have Q0_ := eq_true hq0; have Q0b_ : decide (0 ≤ q) = true := decide_eq_true hq0; have R1_ := eq_true (show q < (sR.now.length : Int) by omega); have R1b_ : decide (q < (sR.now.length : Int)) = true := decide_eq_true (by omega); have N1_ := eq_true hqn; have N1b_ : decide (q < (s.now.length : Int)) = true := decide_eq_true hqn; obtain ⟨nc, nf⟩ := J0.out.cells q hq0 hqn; have x3 := nc 3 _ rfl; have y3 := nf 3; have HLB := am_ hlb; have HQO := am_ hqo; have HQN := am_ hqn; have HQ0 := am_ hq0; have HP := Kd.R_seg J0.out.N q hq0 hqn (seg := [.int .i64 s.cnt]) (j := 3) (c := [.int .i64 (celAt s.now q).f0, .int .i64 (celAt s.now q).f1, .int .i64 (celAt s.now q).f2, .int .i64 (celAt s.now q).f3, .int .i64 (celAt s.now q).f4]) rfl nc (by show 3 + 1 ≤ 5; omega) (x' := { celAt s.now q with f3 := s.cnt }) (okp := fun _ => False) (k101_mkM _ _ _ { celAt s.now q with f3 := s.cnt }) (fun _ h => h.elim); have HP := am_ HP; have cn0 : wr.cell? ⟨bn, 0, none⟩ = some (.slice (some ⟨gN2, 0, none⟩) s.now.length cN2) := (blk_cell J0.out.hn 0).trans rfl; have ck0 : wr.cell? ⟨bk, 0, none⟩ = some (.int .i64 s.cnt) := (blk_cell (J0.out.hk bk rfl) 0).trans rfl; clear nc nf hlr c1 hlb hqo hqn hq0; go_wp2; obtain ⟨w11, hw11⟩ : ∃ w11, w11 = wr.setCell ⟨gN2, q.toNat * 5 + 3, none⟩ (.int .i64 s.cnt) := ⟨_, rfl⟩; rw [← hw11]; obtain ⟨J1, K1⟩ := J0.out.put (w1 := w11) (by rw [hw11]; exact HP.out.1) (by rw [hw11]; exact HP.out.2); have B1 : Below w.heap.size w w11 := by rw [hw11]; exact below_set HB.out J0.out.gN_ne.2.2.2.2.1
            obtain ⟨s1, hs1⟩ : ∃ s1, s1 = ceA s q := ⟨_, rfl⟩; replace J1 : CeJ w.heap.size bn bo (some bk) none gN2 cN2 gO2 cO2 s1 w11 := by rw [hs1]; exact J1
            have L1_ := am_ (show s1.now.length = s.now.length from by rw [hs1]; exact List.length_set); have E1_ := am_ (show s1.out = s.out from by rw [hs1]; rfl); have HS1 := am_ hs1; have hq0 : 0 ≤ q := HQ0.out; have hqn : q < (s1.now.length : Int) := by rw [L1_.out]; exact HQN.out
            have hqo : q < (s1.out.length : Int) := by rw [E1_.out]; exact HQO.out
            clear J0 HB K1 cn0 ck0 x3 y3 HP hw11 hs1 N1_ N1b_; have O1_ := eq_true hqo; have O1b_ : decide (q < (s1.out.length : Int)) = true := decide_eq_true hqo; have N1_ := eq_true hqn; have N1b_ : decide (q < (s1.now.length : Int)) = true := decide_eq_true hqn; obtain ⟨nc, nf⟩ := J1.cells q hq0 hqn; obtain ⟨oki, cv, hcl, hM, hcc, hoki, hH⟩ := Kd.S_lend J1.O ([] : List Cel) q hq0 hqo; obtain ⟨v, rfl, hR⟩ := hM; obtain ⟨A2, c2_, rfl⟩ := Kd.R_slice hR; have hx := hcc 0 _ rfl; rw [Nat.add_zero, show kRow.sz = 1 from rfl, Nat.mul_one] at hx; obtain ⟨row, hrow⟩ : ∃ row, row = s1.out.getD q.toNat [] := ⟨_, rfl⟩; rw [← hrow] at hR hx hH; have HROW := am_ hrow; have z0 := nc 0 _ rfl; have z1 := nc 1 _ rfl; have z2 := nc 2 _ rfl; have z3 := nc 3 _ rfl; have z4 := nc 4 _ rfl; rw [Nat.add_zero] at z0; have cn1 : w11.cell? ⟨bn, 0, none⟩ = some (.slice (some ⟨gN2, 0, none⟩) s1.now.length cN2) := (blk_cell J1.hn 0).trans rfl; have co1 : w11.cell? ⟨bo, 0, none⟩ = some (.slice (some ⟨gO2, 0, none⟩) s1.out.length cO2) := (blk_cell J1.ho 0).trans rfl; have HR := am_ (Kd.R_drew hR); have HH := am_ (Kd.H_drew hH); have HOK := am_ hoki; have J1 := am_ J1.drew; have B1 := am_ (below_drew1 B1); have HLR := am_ (show row.length < 3518437208883 from by rw [hrow, E1_.out]; exact HLB.out); clear hcc hcl hR hH hoki nc nf hrow; try go_wp2
            refine start_ (n := 14) (S := fun w' => w'.cell? ⟨bo, 0, none⟩ = some (.slice (some ⟨gO2, 0, none⟩) s1.out.length cO2) ∧ w'.cell? ⟨bn, 0, none⟩ = some (.slice (some ⟨gN2, 0, none⟩) s1.now.length cN2) ∧ w'.cell? ⟨gO2, q.toNat, none⟩ = some (.slice A2 row.length c2_) ∧ w'.cell? ⟨gN2, q.toNat * 5, none⟩ = some (.int .i64 (celAt s1.now q).f0) ∧ w'.cell? ⟨gN2, q.toNat * 5 + 1, none⟩ = some (.int .i64 (celAt s1.now q).f1) ∧ w'.cell? ⟨gN2, q.toNat * 5 + 2, none⟩ = some (.int .i64 (celAt s1.now q).f2) ∧ w'.cell? ⟨gN2, q.toNat * 5 + 3, none⟩ = some (.int .i64 (celAt s1.now q).f3) ∧ w'.cell? ⟨gN2, q.toNat * 5 + 4, none⟩ = some (.int .i64 (celAt s1.now q).f4)) (ds := [13]) #[false, false, false, false, false, false, false, false, false, false, false, false, false, false] (by kernel_rfl) rfl rfl ⟨co1, cn1, hx, z0, z1, z2, z3, z4⟩ (fun hHeld => ?_); refine with_tabW ce0.tab18 ce0.bits18 (fun HT_ HW_ => ?_); clear co1 cn1 hx z0 z1 z2 z3 z4; generalize w11.drew = w12 at J1 B1 HR HH hHeld ⊢
            refine pD_ 1 (some 93) HT_ (h := ?_); refine pD_ 3 (some 95) HT_ (h := ?_); refine pD_ 7 (some 99) HT_ (h := ?_); refine tD8_ 0 (some 92) HT_ HW_ hHeld (h := ?_); refine tD8_ 2 (some 94) HT_ HW_ hHeld (h := ?_); refine tD8_ 6 (some 98) HT_ HW_ hHeld (h := ?_); refine pD_ 4 (some 96) HT_ (h := ?_); refine pD_ 8 (some 100) HT_ (h := ?_); refine tD8_ 5 (some 97) HT_ HW_ hHeld (h := ?_); refine tD8_ 9 (some 101) HT_ HW_ hHeld (h := ?_); have hHeld0 := am_ hHeld; refine oN_ 10 (some 102) HT_ (fun K hK => ?_); refine value_ (w1 := ?_) (v := ?_) (by rfl) rfl ?_ ?_; rotate_left 2
            · go_simp
              constructor
              · rfl
              · rfl
            refine hK.out _ _ ⟨((below_alloc (Below.refl w12.heap.size w12) _).cell (World.block_lt_of_cell? _ _ hHeld.1)).trans hHeld.1, ((below_alloc (Below.refl w12.heap.size w12) _).cell (World.block_lt_of_cell? _ _ hHeld.2.1)).trans hHeld.2.1, ((below_alloc (Below.refl w12.heap.size w12) _).cell (World.block_lt_of_cell? _ _ hHeld.2.2.1)).trans hHeld.2.2.1, ((below_alloc (Below.refl w12.heap.size w12) _).cell (World.block_lt_of_cell? _ _ hHeld.2.2.2.1)).trans hHeld.2.2.2.1, ((below_alloc (Below.refl w12.heap.size w12) _).cell (World.block_lt_of_cell? _ _ hHeld.2.2.2.2.1)).trans hHeld.2.2.2.2.1, ((below_alloc (Below.refl w12.heap.size w12) _).cell (World.block_lt_of_cell? _ _ hHeld.2.2.2.2.2.1)).trans hHeld.2.2.2.2.2.1, ((below_alloc (Below.refl w12.heap.size w12) _).cell (World.block_lt_of_cell? _ _ hHeld.2.2.2.2.2.2.1)).trans hHeld.2.2.2.2.2.2.1, ((below_alloc (Below.refl w12.heap.size w12) _).cell (World.block_lt_of_cell? _ _ hHeld.2.2.2.2.2.2.2)).trans hHeld.2.2.2.2.2.2.2⟩ (fun hHeld => ?_); clear hK K; refine nm_ 102 (h := ?_); have HWZ := am_ (show ∀ k, w12.heap.size ≤ k → k ≠ gN2 ∧ k ≠ bn ∧ some k ≠ none from fun k hk => ⟨by have h1 := J1.out.gN_ne.2.2.2.2.2; omega, by have h1 := blk_lt J1.out.hn; omega, by simp⟩); refine oN_ 11 (some 103) HT_ (fun K hK => ?_); refine Kd.R_append_step kCel (w0 := w) (W := w12) w.heap.size (by rfl) (.tmp 97) (.tmp 102) 99 101 (.agg #[.int .i64 0, .int .i64 0, .int .i64 0, .int .i64 0, .int .i64 0]) 40 rfl Try.underlying99 infoCel rfl (by decide) (by omega) (.slice A2 row.length c2_) row (celAt s1.now q) [.int .i64 (celAt s1.now q).f0, .int .i64 (celAt s1.now q).f1, .int .i64 (celAt s1.now q).f2, .int .i64 (celAt s1.now q).f3, .int .i64 (celAt s1.now q).f4] (fun k => oki k ∨ ((k ≠ gN2 ∧ k ≠ bn ∧ some k ≠ none) ∧ w12.heap.size ≤ k)) (fun _ => False) rfl rfl (k101_mkM _ _ _ (celAt s1.now q)) (fun _ h => h.elim) (fun k hk => .inr ⟨HWZ.out k hk, hk⟩) (Kd.R_mono HR.out (fun k h => .inl h)) B1.out B1.out.size (by have h1 := HLR.out; omega) ?_
            intro v1 w1 hR1 hB1 hg1 hat1; obtain ⟨A3, c3, rfl⟩ := Kd.R_slice hR1; have HRN := am_ (show ∀ k, (Value.slice A2 row.length c2_).ownBlock = some k → (k ≠ gN2 ∧ k ≠ bn ∧ some k ≠ none) ∧ k ≠ gO2 from fun k e => HOK.out k (HR.out.1 k e)); have R1 := am_ hR1; have BB := am_ hB1; have G1 := am_ hg1; have nO : some bo ≠ (Value.slice A2 row.length c2_).ownBlock := Kd.R_ne HR.out J1.out.ho (by decide); have nN : some bn ≠ (Value.slice A2 row.length c2_).ownBlock := Kd.R_ne HR.out J1.out.hn (by decide); have nG : some gO2 ≠ (Value.slice A2 row.length c2_).ownBlock := fun e => (HRN.out gO2 e.symm).2 rfl
            have nC : some gN2 ≠ (Value.slice A2 row.length c2_).ownBlock := fun e => (HRN.out gN2 e.symm).1.1 rfl
            have HX := hHeld0.out; clear hR1 hB1 hg1 hat1; refine hK.out _ _ ⟨cell_grown G1.out HX.1 nO, cell_grown G1.out HX.2.1 nN, cell_grown G1.out HX.2.2.1 nG, cell_grown G1.out HX.2.2.2.1 nC, cell_grown G1.out HX.2.2.2.2.1 nC, cell_grown G1.out HX.2.2.2.2.2.1 nC, cell_grown G1.out HX.2.2.2.2.2.2.1 nC, cell_grown G1.out HX.2.2.2.2.2.2.2 nC⟩ (fun hHeld => ?_); clear hK K; refine nm_ 103 (h := ?_); clear nO nN nG nC HX hHeld0; refine pD_ 12 (some 104) HT_ (h := ?_); refine last_ (i := 13) (N := none) #[true, true, true, true, true, true, true, true, true, true, true, true, true, true] rfl rfl (one_of HT_.out (by kernel_rfl)) (by decide) (fun K hK => ?_); refine H_store_step kRow (w0 := w) (W := w1) w.heap.size (by rfl) (by rfl) 99 (.tmp 104) (.tmp 103) (by rfl) 99 q 0 s1.out (row ++ [celAt s1.now q]) (.slice A3 (row ++ [celAt s1.now q]).length c3) [.slice A3 (row ++ [celAt s1.now q]).length c3] [.slice A2 row.length c2_] (fun k => k ≠ gN2 ∧ k ≠ bn ∧ some k ≠ none) (fun k => oki k ∨ ((k ≠ gN2 ∧ k ≠ bn ∧ some k ≠ none) ∧ w12.heap.size ≤ k)) (fun k => oki k ∨ ((k ≠ gN2 ∧ k ≠ bn ∧ some k ≠ none) ∧ w12.heap.size ≤ k)) (by rfl) (by show q.toNat = q.toNat * 1 + 0; omega) (by rfl) rfl (by kernel_rfl) (by intro x hx; rw [List.mem_singleton] at hx; subst hx; rfl) (Kd.H_grown (Kd.H_widen HH.out) G1.out (fun k e => .inl (HR.out.1 k e))) hq0 hqo (by show 0 + 1 ≤ 1; omega) ⟨_, rfl, R1.out⟩ (fun _ h => h) BB.out ?_; intro w13 hS2 hB2 hg2; have J2 := CeJ.done J1.out (i := q) (row := row ++ [celAt s1.now q]) (oki := oki) (by rw [← HROW.out]; exact HR.out) (fun k hk => ⟨(HOK.out k hk).1.1, by simp⟩) G1.out hS2 hg2; have HB2 := am_ hB2; have HG2 := am_ hg2; clear hS2 hB2 hg2; refine hK.out _ _ ?_; clear hK K; refine done_ (done_of HT_.out (by kernel_rfl)) ?_; obtain ⟨J2, _⟩ := J2; obtain ⟨s2, hs2⟩ : ∃ s2, s2 = ceEnd s q := ⟨_, rfl⟩; have J2 : Aside0 (CeJ w.heap.size bn bo (some bk) none gN2 cN2 gO2 cO2 s2 w13) := ⟨by rw [hs2]; unfold ceEnd; rw [← HS1.out]; unfold ceB; rw [← HROW.out]; exact J2⟩
            have HQ2 := am_ (show q + 1 < 9223372036854775808 from by have h1 := CeJ.max J1.out; unfold maxLen at h1; omega); have HL2 := am_ (show 0 ≤ q + 1 ∧ s2.now.length = sR.now.length from ⟨by omega, by rw [hs2]; exact (show (ceEnd s q).now.length = s.now.length from List.length_set).trans HL.out.2⟩); rw [← hs2] at H'; have hqw : IntKind.i64.wrap (q + 1) = q + 1 := by rw [i64_w]; exact wrap64_small (by omega) (by have h1 := HQ2.out; omega)
            clear J1 B1 HR HH HROW HLR HOK HWZ HRN R1 BB G1 HG2 HS1 L1_ E1_ hs2 hHeld hqn hqo hq0; try go_wp2
            go_roundg k2
            case measure => have := HK1.out; omega
            case rel => exact ⟨q + 1, s2, vt_, H', hl_ HK1, HL2, J2, HB2⟩
      rw [if_pos c1] at H; replace H := bnd_ H; obtain ⟨t, AT, H⟩ := H; have H' := am_ H; clear H; have hi0 : 0 ≤ i := HL.out.1; have hin : i < (s.now.length : Int) := by have h1 := HL.out.2.1; omega
      have I0_ := eq_true hi0; have I0b_ : decide (0 ≤ i) = true := decide_eq_true hi0; have R1_ := eq_true (show i < (s0.now.length : Int) by omega); have R1b_ : decide (i < (s0.now.length : Int)) = true := decide_eq_true (by omega); have N1_ := eq_true hin; have N1b_ : decide (i < (s.now.length : Int)) = true := decide_eq_true hin; have hiw : IntKind.i64.wrap (i + 1) = i + 1 := by rw [i64_w]; exact wrap64_small (by omega) (by have h1 := GA.out; omega)
      obtain ⟨j, hj⟩ : ∃ j, j = i - 1 := ⟨_, rfl⟩; have hip : IntKind.i64.wrap (i - 1) = j := by rw [i64_w, hj]; exact wrap64_small (by omega) (by have h1 := GA.out; omega)
      have HJ := am_ hj; clear hj; have HI := am_ (show 0 ≤ i ∧ i < a0 + 1 from ⟨hi0, c1⟩); have cn : wr.cell? ⟨bn, 0, none⟩ = some (.slice (some ⟨gN, 0, none⟩) s.now.length cN) := (blk_cell J0.out.hn 0).trans rfl; obtain ⟨nc, nf⟩ := J0.out.cells i hi0 hin; have NC := am_ (show ∀ (j : Nat) u, ([.int .i64 (celAt s.now i).f0, .int .i64 (celAt s.now i).f1, .int .i64 (celAt s.now i).f2, .int .i64 (celAt s.now i).f3, .int .i64 (celAt s.now i).f4] : List Value)[j]? = some u → wr.drew.cell? ⟨gN, i.toNat * 5 + j, none⟩ = some u from nc); clear hl0 c1 nc nf; go_wp2; replace J0 := am_ J0.out.drew; replace B0 := bd_ B0; refine start_ (n := 7) (S := fun w' => w'.cell? ⟨bn, 0, none⟩ = some (.slice (some ⟨gN, 0, none⟩) s.now.length cN) ∧ w'.cell? ⟨bn, 0, none⟩ = some (.slice (some ⟨gN, 0, none⟩) s.now.length cN)) (ds := [6]) #[false, false, false, false, false, false, false] (by kernel_rfl) rfl rfl ⟨cn, cn⟩ (fun hHeld => ?_); refine with_tabW ce0.tab6 ce0.bits6 (fun HT_ HW_ => ?_); clear cn; generalize wr.drew = w7 at J0 B0 NC hHeld ⊢
      refine pD_ 1 (some 22) HT_ (h := ?_); refine pD_ 2 (some 23) HT_ (h := ?_); refine tD2_ 0 (some 21) HT_ HW_ hHeld (h := ?_); refine oN_ 3 (some 24) HT_ (fun K hK => ?_); refine gO_ Try.func164 #[.int .i64 i] ?_; with_reducible refine (impl_fullSet.calls i t _ AT.out).mono ?_
      rintro e w8 ⟨rfl, ⟨nd, rfl⟩⟩; refine ⟨_, rfl, ?_⟩; refine hK.out _ _ ⟨hHeld.1, hHeld.2⟩ (fun hHeld => ?_); clear hK K; refine nm_ 24 (h := ?_); replace J0 : Aside0 (CeJ w.heap.size bn bo none none gN cN gO cO s (w7.drewN nd)) := ⟨J0.out.step (fun _ _ _ => rfl)⟩; replace B0 : Aside0 (Below w.heap.size w (w7.drewN nd)) := ⟨pw_below_drewN B0.out nd⟩; replace NC : Aside0 (∀ (j : Nat) u, ([.int .i64 (celAt s.now i).f0, .int .i64 (celAt s.now i).f1, .int .i64 (celAt s.now i).f2, .int .i64 (celAt s.now i).f3, .int .i64 (celAt s.now i).f4] : List Value)[j]? = some u → (w7.drewN nd).cell? ⟨gN, i.toNat * 5 + j, none⟩ = some u) := ⟨NC.out⟩; generalize w7.drewN nd = w8 at J0 B0 NC hHeld ⊢
      refine pD_ 4 (some 25) HT_ (h := ?_); refine pD_ 5 (some 26) HT_ (h := ?_); refine last_ (i := 6) (N := none) #[true, true, true, true, true, true, true] rfl rfl (one_of HT_.out (by kernel_rfl)) (by decide) (fun K hK => ?_); refine R_store_step kCel (w0 := w) (W := w8) w.heap.size (by rfl) (by rfl) 101 (.tmp 26) (.tmp 25) (by rfl) 101 i 0 s.now ⟨0, 0, -1, 0, t⟩ (.agg #[.int .i64 0, .int .i64 0, .int .i64 (-1), .int .i64 0, .int .i64 t]) [.int .i64 0, .int .i64 0, .int .i64 (-1), .int .i64 0, .int .i64 t] [.int .i64 (celAt s.now i).f0, .int .i64 (celAt s.now i).f1, .int .i64 (celAt s.now i).f2, .int .i64 (celAt s.now i).f3, .int .i64 (celAt s.now i).f4] (fun k => some k ≠ none) (fun _ => False) (by rfl) (by show i.toNat * 5 = i.toNat * 5 + 0; omega) (by rfl) rfl (by kernel_rfl) ?one J0.out.N hi0 hin rfl NC.out (by show 0 + 5 ≤ 5; omega) (k101_mkM _ _ _ (⟨0, 0, -1, 0, t⟩ : Cel)) (fun _ h => h.elim) B0.out ?_
      case one => intro x hx; simp only [List.mem_cons, List.not_mem_nil, or_false] at hx; rcases hx with rfl | rfl | rfl | rfl | rfl <;> rfl
      intro w9 hR3 hB3 hg3; have J3 := CeJ.put J0.out hR3 hg3; have Bs3 := am_ hB3; clear hR3 hB3 hg3; refine hK.out _ _ ?_; clear hK K; refine done_ (done_of HT_.out (by kernel_rfl)) ?_; obtain ⟨J3, _⟩ := J3; obtain ⟨s3, hs3⟩ : ∃ s3, s3 = ceNew s i t := ⟨_, rfl⟩; replace J3 : CeJ w.heap.size bn bo none none gN cN gO cO s3 w9 := by rw [hs3]; exact J3
      have HS3 := am_ hs3; have L3 := am_ (show (s3.now.length : Int) = a0 + 1 ∧ (s3.out.length : Int) = a0 + 1 from by rw [hs3]; exact ⟨by rw [show (ceNew s i t).now.length = s.now.length from List.length_set]; exact HL.out.2.1, HL.out.2.2⟩); have B3 := Bs3; have KU3 : Aside0 (∀ k, (none : Option Nat) = some k → k < w.heap.size → w9.heap[k]? = w.heap[k]?) := ⟨fun k e => by cases e⟩; have HZ3 := am_ B3.out.size; clear J0 B0 NC hs3 hHeld AT N1_ N1b_ hi0 hin HL Bs3; by_cases d1 : 0 < i
      case neg =>
        have DN := am_ d1; have D1_ : decide (0 < i) = false := decide_eq_false d1; have D1b_ : decide (i > 0) = false := decide_eq_false d1; have d2 : i < a0 := by have h1 := HI.out; have h2 := GA.out; omega
        have DP2 := am_ d2; have D2_ : decide (i < a0) = true := decide_eq_true d2; clear d1 d2; have h0_ : 0 ≤ i := HI.out.1; have h1_ : i < (s3.now.length : Int) := by rw [L3.out.1]; exact HI.out.2
        go_wp2; obtain ⟨nc, nf⟩ := J3.cells (i) h0_ h1_; have z0 := nc 0 _ rfl; have z1 := nc 1 _ rfl; rw [Nat.add_zero] at z0; have cnz : w9.cell? ⟨bn, 0, none⟩ = some (.slice (some ⟨gN, 0, none⟩) s3.now.length cN) := (blk_cell J3.hn 0).trans rfl; have N1_ := eq_true h1_; have N1b_ : decide (i < (s3.now.length : Int)) = true := decide_eq_true h1_; have N0_ := eq_true h0_; have N0b_ : decide (0 ≤ i) = true := decide_eq_true h0_; have NC := am_ (show ∀ (j : Nat) u, ([.int .i64 (celAt s3.now (i)).f0, .int .i64 (celAt s3.now (i)).f1, .int .i64 (celAt s3.now (i)).f2, .int .i64 (celAt s3.now (i)).f3, .int .i64 (celAt s3.now (i)).f4] : List Value)[j]? = some u → w9.drew.cell? ⟨gN, (i).toNat * 5 + j, none⟩ = some u from nc); have J3 := am_ J3.drew; replace B3 := bd_ B3; replace KU3 : Aside0 (∀ k, (none : Option Nat) = some k → k < w.heap.size → w9.drew.heap[k]? = w.heap[k]?) := ⟨KU3.out⟩; replace HZ3 : Aside0 (w.heap.size ≤ w9.drew.heap.size) := ⟨HZ3.out⟩; clear nc nf; refine start2_ (n := 24) (S0 := fun w' => w'.cell? ⟨bn, 0, none⟩ = some (.slice (some ⟨gN, 0, none⟩) s3.now.length cN)) (S := fun w' => w'.cell? ⟨gN, (i).toNat * 5, none⟩ = some (.int .i64 (celAt s3.now (i)).f0) ∧ w'.cell? ⟨gN, (i).toNat * 5 + 1, none⟩ = some (.int .i64 (celAt s3.now (i)).f1)) (ds := [20, 23]) #[false, false, false, false, false, false, false, false, false, false, false, false, false, false, false, false, false, false, false, false, false, false, false, false] (by kernel_rfl) rfl rfl cnz ⟨z0, z1⟩ (fun hS0 hHeld => ?_); refine with_tab2 ce0.tab10 ce0.bits10 (fun HT_ HW_ => ?_); clear cnz z0 z1; generalize w9.drew = wA at J3 B3 KU3 NC HZ3 hS0 hHeld ⊢
        refine pure2_ (i := 1) (N := some 56) (v := ?_) (a' := ?_) #[false, true, false, false, false, false, false, false, false, false, false, false, false, false, false, false, false, false, false, false, false, false, false, false] rfl rfl (take_ofW HT_.out HW_.out (by kernel_rfl)) (fun _ _ _ h => h) (Or.inl ⟨by rfl, ?_⟩) ?_ ?_; rotate_left
        · intro w'; go_simp
          with_reducible rfl
        rotate_left
        · simp only [Act.put, sA_, sZ_, sS_, i64_w, i32_w]
          rfl
        refine pure2_ (i := 3) (N := some 58) (v := ?_) (a' := ?_) #[false, true, false, true, false, false, false, false, false, false, false, false, false, false, false, false, false, false, false, false, false, false, false, false] rfl rfl (take_ofW HT_.out HW_.out (by kernel_rfl)) (fun _ _ _ h => h) (Or.inl ⟨by rfl, ?_⟩) ?_ ?_; rotate_left
        · intro w'; go_simp
          with_reducible rfl
        rotate_left
        · simp only [Act.put, sA_, sZ_, sS_, i64_w, i32_w]
          rfl
        refine pure2_ (i := 5) (N := some 60) (v := ?_) (a' := ?_) #[false, true, false, true, false, true, false, false, false, false, false, false, false, false, false, false, false, false, false, false, false, false, false, false] rfl rfl (take_ofW HT_.out HW_.out (by kernel_rfl)) (fun _ _ _ h => h) (Or.inl ⟨by rfl, ?_⟩) ?_ ?_; rotate_left
        · intro w'; go_simp
          with_reducible rfl
        rotate_left
        · simp only [Act.put, sA_, sZ_, sS_, i64_w, i32_w]
          rfl
        refine pure2_ (i := 11) (N := some 66) (v := ?_) (a' := ?_) #[false, true, false, true, false, true, false, false, false, false, false, true, false, false, false, false, false, false, false, false, false, false, false, false] rfl rfl (take_ofW HT_.out HW_.out (by kernel_rfl)) (fun _ _ _ h => h) (Or.inl ⟨by rfl, ?_⟩) ?_ ?_; rotate_left
        · intro w'; go_simp
          with_reducible rfl
        rotate_left
        · simp only [Act.put, sA_, sZ_, sS_, i64_w, i32_w]
          rfl
        refine pure2_ (i := 15) (N := some 70) (v := ?_) (a' := ?_) #[false, true, false, true, false, true, false, false, false, false, false, true, false, false, false, true, false, false, false, false, false, false, false, false] rfl rfl (take_ofW HT_.out HW_.out (by kernel_rfl)) (fun _ _ _ h => h) (Or.inl ⟨by rfl, ?_⟩) ?_ ?_; rotate_left
        · intro w'; go_simp
          with_reducible rfl
        rotate_left
        · simp only [Act.put, sA_, sZ_, sS_, i64_w, i32_w]
          rfl
        refine pure2_ (i := 16) (N := some 71) (v := ?_) (a' := ?_) #[false, true, false, true, false, true, false, false, false, false, false, true, false, false, false, true, true, false, false, false, false, false, false, false] rfl rfl (take_ofW HT_.out HW_.out (by kernel_rfl)) (fun _ _ _ h => h) (Or.inl ⟨by rfl, ?_⟩) ?_ ?_; rotate_left
        · intro w'; go_simp
          with_reducible rfl
        rotate_left
        · simp only [Act.put, sA_, sZ_, sS_, i64_w, i32_w]
          rfl
        refine takeA_ (i := 0) (N := some 55) (v := ?_) (a' := ?_) #[true, true, false, true, false, true, false, false, false, false, false, true, false, false, false, true, true, false, false, false, false, false, false, false] rfl rfl (take_ofW HT_.out HW_.out (by kernel_rfl)) (fun _ _ _ h => h) (Or.inl ⟨by rfl, ?_⟩) hS0 ?_ ?_; rotate_left
        · intro w' s0; go_simp
          with_reducible rfl
        rotate_left
        · simp only [Act.put, sA_, sZ_, sS_, i64_w, i32_w]
          rfl
        refine takeA_ (i := 2) (N := some 57) (v := ?_) (a' := ?_) #[true, true, true, true, false, true, false, false, false, false, false, true, false, false, false, true, true, false, false, false, false, false, false, false] rfl rfl (take_ofW HT_.out HW_.out (by kernel_rfl)) (fun _ _ _ h => h) (Or.inl ⟨by rfl, ?_⟩) hS0 ?_ ?_; rotate_left
        · intro w' s0; go_simp
          with_reducible rfl
        rotate_left
        · simp only [Act.put, sA_, sZ_, sS_, i64_w, i32_w]
          rfl
        refine takeA_ (i := 4) (N := some 59) (v := ?_) (a' := ?_) #[true, true, true, true, true, true, false, false, false, false, false, true, false, false, false, true, true, false, false, false, false, false, false, false] rfl rfl (take_ofW HT_.out HW_.out (by kernel_rfl)) (fun _ _ _ h => h) (Or.inl ⟨by rfl, ?_⟩) hS0 ?_ ?_; rotate_left
        · intro w' s0; go_simp
          with_reducible rfl
        rotate_left
        · simp only [Act.put, sA_, sZ_, sS_, i64_w, i32_w]
          rfl
        refine takeA_ (i := 10) (N := some 65) (v := ?_) (a' := ?_) #[true, true, true, true, true, true, false, false, false, false, true, true, false, false, false, true, true, false, false, false, false, false, false, false] rfl rfl (take_ofW HT_.out HW_.out (by kernel_rfl)) (fun _ _ _ h => h) (Or.inl ⟨by rfl, ?_⟩) hS0 ?_ ?_; rotate_left
        · intro w' s0; go_simp
          with_reducible rfl
        rotate_left
        · simp only [Act.put, sA_, sZ_, sS_, i64_w, i32_w]
          rfl
        refine pure2_ (i := 6) (N := some 61) (v := ?_) (a' := ?_) #[true, true, true, true, true, true, true, false, false, false, true, true, false, false, false, true, true, false, false, false, false, false, false, false] rfl rfl (take_ofW HT_.out HW_.out (by kernel_rfl)) (fun _ _ _ h => h) (Or.inl ⟨by rfl, ?_⟩) ?_ ?_; rotate_left
        · intro w'; go_simp
          with_reducible rfl
        rotate_left
        · simp only [Act.put, sA_, sZ_, sS_, i64_w, i32_w]
          rfl
        refine pure2_ (i := 7) (N := some 62) (v := ?_) (a' := ?_) #[true, true, true, true, true, true, true, true, false, false, true, true, false, false, false, true, true, false, false, false, false, false, false, false] rfl rfl (take_ofW HT_.out HW_.out (by kernel_rfl)) (fun _ _ _ h => h) (Or.inl ⟨by rfl, ?_⟩) ?_ ?_; rotate_left
        · intro w'; go_simp
          with_reducible rfl
        rotate_left
        · simp only [Act.put, sA_, sZ_, sS_, i64_w, i32_w]
          rfl
        refine pure2_ (i := 12) (N := some 67) (v := ?_) (a' := ?_) #[true, true, true, true, true, true, true, true, false, false, true, true, true, false, false, true, true, false, false, false, false, false, false, false] rfl rfl (take_ofW HT_.out HW_.out (by kernel_rfl)) (fun _ _ _ h => h) (Or.inl ⟨by rfl, ?_⟩) ?_ ?_; rotate_left
        · intro w'; go_simp
          with_reducible rfl
        rotate_left
        · simp only [Act.put, sA_, sZ_, sS_, i64_w, i32_w]
          rfl
        refine pure2_ (i := 13) (N := some 68) (v := ?_) (a' := ?_) #[true, true, true, true, true, true, true, true, false, false, true, true, true, true, false, true, true, false, false, false, false, false, false, false] rfl rfl (take_ofW HT_.out HW_.out (by kernel_rfl)) (fun _ _ _ h => h) (Or.inl ⟨by rfl, ?_⟩) ?_ ?_; rotate_left
        · intro w'; go_simp
          with_reducible rfl
        rotate_left
        · simp only [Act.put, sA_, sZ_, sS_, i64_w, i32_w]
          rfl
        refine takeE_ (i := 8) (N := some 63) (v := ?_) (a' := ?_) #[true, true, true, true, true, true, true, true, true, false, true, true, true, true, false, true, true, false, false, false, false, false, false, false] rfl rfl (take_ofW HT_.out HW_.out (by kernel_rfl)) (fun _ _ _ h => h) (Or.inl ⟨by rfl, ?_⟩) hHeld ?_ ?_; rotate_left
        · rintro w' ⟨s0, s1⟩; go_simp
          with_reducible rfl
        rotate_left
        · simp only [Act.put, sA_, sZ_, sS_, i64_w, i32_w]
          rfl
        refine takeE_ (i := 14) (N := some 69) (v := ?_) (a' := ?_) #[true, true, true, true, true, true, true, true, true, false, true, true, true, true, true, true, true, false, false, false, false, false, false, false] rfl rfl (take_ofW HT_.out HW_.out (by kernel_rfl)) (fun _ _ _ h => h) (Or.inl ⟨by rfl, ?_⟩) hHeld ?_ ?_; rotate_left
        · rintro w' ⟨s0, s1⟩; go_simp
          with_reducible rfl
        rotate_left
        · simp only [Act.put, sA_, sZ_, sS_, i64_w, i32_w]
          rfl
        refine pure2_ (i := 9) (N := some 64) (v := ?_) (a' := ?_) #[true, true, true, true, true, true, true, true, true, true, true, true, true, true, true, true, true, false, false, false, false, false, false, false] rfl rfl (take_ofW HT_.out HW_.out (by kernel_rfl)) (fun _ _ _ h => h) (Or.inl ⟨by rfl, ?_⟩) ?_ ?_; rotate_left
        · intro w'; go_simp
          with_reducible rfl
        rotate_left
        · simp only [Act.put, sA_, sZ_, sS_, i64_w, i32_w]
          rfl
        refine pure2_ (i := 17) (N := some 72) (v := ?_) (a' := ?_) #[true, true, true, true, true, true, true, true, true, true, true, true, true, true, true, true, true, true, false, false, false, false, false, false] rfl rfl (take_ofW HT_.out HW_.out (by kernel_rfl)) (fun _ _ _ h => h) (Or.inl ⟨by rfl, ?_⟩) ?_ ?_; rotate_left
        · intro w'; go_simp
          with_reducible rfl
        rotate_left
        · simp only [Act.put, sA_, sZ_, sS_, i64_w, i32_w]
          rfl
        refine pure2_ (i := 18) (N := some 73) (v := ?_) (a' := ?_) #[true, true, true, true, true, true, true, true, true, true, true, true, true, true, true, true, true, true, true, false, false, false, false, false] rfl rfl (take_ofW HT_.out HW_.out (by kernel_rfl)) (fun _ _ _ h => h) (Or.inl ⟨by rfl, ?_⟩) ?_ ?_; rotate_left
        · intro w'; go_simp
          with_reducible rfl
        rotate_left
        · simp only [Act.put, sA_, sZ_, sS_, i64_w, i32_w]
          rfl
        refine pure2_ (i := 19) (N := some 74) (v := ?_) (a' := ?_) #[true, true, true, true, true, true, true, true, true, true, true, true, true, true, true, true, true, true, true, true, false, false, false, false] rfl rfl (take_ofW HT_.out HW_.out (by kernel_rfl)) (fun _ _ _ h => h) (Or.inl ⟨by rfl, ?_⟩) ?_ ?_; rotate_left
        · intro w'; go_simp
          with_reducible rfl
        rotate_left
        · simp only [Act.put, sA_, sZ_, sS_, i64_w, i32_w]
          rfl
        refine last2_ (i := 20) (N := none) #[true, true, true, true, true, true, true, true, true, true, true, true, true, true, true, true, true, true, true, true, true, false, false, false] rfl rfl (one_of HT_.out (by kernel_rfl)) (by decide) (fun K hK => ?_); refine R_store_step kCel (w0 := w) (W := wA) w.heap.size (by rfl) (by rfl) 3 (.tmp 74) (.tmp 64) (by rfl) 101 (i) 0 s3.now { (celAt s3.now (i)) with f0 := wrap64 ((celAt s3.now (i)).f0 + 1) } (.int .i64 (wrap64 ((celAt s3.now (i)).f0 + 1))) [.int .i64 (wrap64 ((celAt s3.now (i)).f0 + 1))] [.int .i64 (celAt s3.now (i)).f0, .int .i64 (celAt s3.now (i)).f1, .int .i64 (celAt s3.now (i)).f2, .int .i64 (celAt s3.now (i)).f3, .int .i64 (celAt s3.now (i)).f4] (fun k => some k ≠ none) (fun _ => False) (by rfl) (by show (i).toNat * 5 = (i).toNat * 5 + 0; omega) (by rfl) rfl (by kernel_rfl) (by intro x hx; rw [List.mem_singleton] at hx; subst hx; rfl) J3.out.N h0_ h1_ rfl NC.out (by show 0 + 1 ≤ 5; omega) (k101_mkM _ _ _ ({ (celAt s3.now (i)) with f0 := wrap64 ((celAt s3.now (i)).f0 + 1) } : Cel)) (fun _ h => h.elim) B3.out ?_; intro wB hR hB hg; have JJ := CeJ.put J3.out hR hg; obtain ⟨JB, KB⟩ := JJ; obtain ⟨t, ht⟩ : ∃ t, t = ceD1 s3 (i) := ⟨_, rfl⟩; replace JB : CeJ w.heap.size bn bo none none gN cN gO cO t wB := by rw [ht]; exact JB
        have KUB : Aside0 (∀ k, (none : Option Nat) = some k → k < w.heap.size → wB.heap[k]? = w.heap[k]?) := ⟨fun k e h => (KB k e (Nat.lt_of_lt_of_le h HZ3.out)).trans (KU3.out k e h)⟩; have HZB := am_ (Nat.le_trans HZ3.out hg.size); have BB := am_ hB; have TN : t.now.length = s3.now.length := by rw [ht]; exact List.length_set
        have hS0_ := cell_grown hg hS0 (fun e => J3.out.gN_ne.1 (by injection e)); have TNA := am_ TN; have HT := am_ ht; have JB := am_ JB; clear hR hB hg KB TN ht; refine hK.out _ _ hS0_ ?_; clear hK K hS0; have hS0 := hS0_; clear hS0_; refine pure2_ (i := 21) (N := some 75) (v := ?_) (a' := ?_) #[true, true, true, true, true, true, true, true, true, true, true, true, true, true, true, true, true, true, true, true, true, true, false, false] rfl rfl (take_ofW HT_.out HW_.out (by kernel_rfl)) (fun _ _ _ h => h) (Or.inl ⟨by rfl, ?_⟩) ?_ ?_; rotate_left
        · intro w'; go_simp
          with_reducible rfl
        rotate_left
        · simp only [Act.put, sA_, sZ_, sS_, i64_w, i32_w]
          rfl
        refine pure2_ (i := 22) (N := some 76) (v := ?_) (a' := ?_) #[true, true, true, true, true, true, true, true, true, true, true, true, true, true, true, true, true, true, true, true, true, true, true, false] rfl rfl (take_ofW HT_.out HW_.out (by kernel_rfl)) (fun _ _ _ h => h) (Or.inl ⟨by rfl, ?_⟩) ?_ ?_; rotate_left
        · intro w'; go_simp
          with_reducible rfl
        rotate_left
        · simp only [Act.put, sA_, sZ_, sS_, i64_w, i32_w]
          rfl
        refine last2_ (i := 23) (N := none) #[true, true, true, true, true, true, true, true, true, true, true, true, true, true, true, true, true, true, true, true, true, true, true, true] rfl rfl (one_of HT_.out (by kernel_rfl)) (by decide) (fun K hK => ?_); have h1t : i < (t.now.length : Int) := by rw [TNA.out]; exact h1_
        obtain ⟨nc, nf⟩ := JB.out.cells (i) h0_ h1t; refine R_store_step kCel (w0 := w) (W := wB) w.heap.size (by rfl) (by rfl) 3 (.tmp 76) (.tmp 72) (by rfl) 101 (i) 1 t.now { (celAt t.now (i)) with f1 := (Go.bits .or .i64 (celAt s3.now (i)).f1 (bit1 i)) } (.int .i64 (Go.bits .or .i64 (celAt s3.now (i)).f1 (bit1 i))) [.int .i64 (Go.bits .or .i64 (celAt s3.now (i)).f1 (bit1 i))] [.int .i64 (celAt t.now (i)).f0, .int .i64 (celAt t.now (i)).f1, .int .i64 (celAt t.now (i)).f2, .int .i64 (celAt t.now (i)).f3, .int .i64 (celAt t.now (i)).f4] (fun k => some k ≠ none) (fun _ => False) (by rfl) (by show (i).toNat * 5 + 1 = (i).toNat * 5 + 1; omega) (by rfl) rfl (by kernel_rfl) (by intro x hx; rw [List.mem_singleton] at hx; subst hx; rfl) JB.out.N h0_ h1t rfl nc (by show 1 + 1 ≤ 5; omega) (k101_mkM _ _ _ ({ (celAt t.now (i)) with f1 := (Go.bits .or .i64 (celAt s3.now (i)).f1 (bit1 i)) } : Cel)) (fun _ h => h.elim) BB.out ?_; intro w17 hR hB hg; obtain ⟨JC, KC⟩ := CeJ.put JB.out hR hg; obtain ⟨s5, hs5⟩ : ∃ s_, s_ = ceD2 t (i) (Go.bits .or .i64 (celAt s3.now (i)).f1 (bit1 i)) := ⟨_, rfl⟩; have J5 : CeJ w.heap.size bn bo none none gN cN gO cO s5 w17 := by rw [hs5]; exact JC
        have KU5 : Aside0 (∀ k, (none : Option Nat) = some k → k < w.heap.size → w17.heap[k]? = w.heap[k]?) := ⟨fun k e h => (KC k e (Nat.lt_of_lt_of_le h HZB.out)).trans (KUB.out k e h)⟩; have HZ5 := am_ (Nat.le_trans HZB.out hg.size); have B5 := am_ hB; have HS5 : Aside0 (s5 = ceD s3 (i) (i)) := ⟨by rw [hs5, HT.out]; rfl⟩; have LL5 : Aside0 (s5.now.length = s3.now.length) := ⟨by rw [hs5]; exact List.length_set.trans TNA.out⟩; have hS0_ := cell_grown hg hS0 (fun e => JB.out.gN_ne.1 (by injection e)); clear hR hB hg KC JC nc nf h1t hs5; refine hK.out _ _ hS0_ ?_; clear hK K hS0_; refine done2_ (done_of HT_.out (by kernel_rfl)) ?_; clear J3 B3 KU3 HZ3 NC KUB HZB BB TNA HT JB N0_ N0b_ N1_ N1b_ hS0 hHeld h0_ h1_; try go_wp2
        go_roundg k1
        case measure => have := HK1.out; omega
        case rel => exact ⟨i + 1, s5, vt_, ⟨by rw [HS5.out, HS3.out]; have h1 := H'.out; unfold ceIn at h1; rw [if_neg (show ¬ 0 < i by have h2 := DN.out; omega), if_pos DP2.out] at h1; exact h1⟩, hl_ HK1, ⟨by have h1 := HI.out; omega, by rw [LL5.out, L3.out.1], by rw [HS5.out]; exact L3.out.2⟩, ⟨J5⟩, B5⟩
      have DP1 := am_ d1; have D1_ : decide (0 < i) = true := decide_eq_true d1; have D1b_ : decide (i > 0) = true := decide_eq_true d1; have h0_ : 0 ≤ i := HI.out.1; have h1_ : i < (s3.now.length : Int) := by rw [L3.out.1]; exact HI.out.2
      have hj0 : 0 ≤ j := by rw [HJ.out]; omega
      have P1_ := eq_true hj0; have P1b_ : decide (0 ≤ j) = true := decide_eq_true hj0; clear hj0; go_wp2; obtain ⟨nc, nf⟩ := J3.cells (i) h0_ h1_; have z0 := nc 0 _ rfl; have z1 := nc 1 _ rfl; rw [Nat.add_zero] at z0; have cnz : w9.cell? ⟨bn, 0, none⟩ = some (.slice (some ⟨gN, 0, none⟩) s3.now.length cN) := (blk_cell J3.hn 0).trans rfl; have N1_ := eq_true h1_; have N1b_ : decide (i < (s3.now.length : Int)) = true := decide_eq_true h1_; have N0_ := eq_true h0_; have N0b_ : decide (0 ≤ i) = true := decide_eq_true h0_; have NC := am_ (show ∀ (j : Nat) u, ([.int .i64 (celAt s3.now (i)).f0, .int .i64 (celAt s3.now (i)).f1, .int .i64 (celAt s3.now (i)).f2, .int .i64 (celAt s3.now (i)).f3, .int .i64 (celAt s3.now (i)).f4] : List Value)[j]? = some u → w9.drew.cell? ⟨gN, (i).toNat * 5 + j, none⟩ = some u from nc); have J3 := am_ J3.drew; replace B3 := bd_ B3; replace KU3 : Aside0 (∀ k, (none : Option Nat) = some k → k < w.heap.size → w9.drew.heap[k]? = w.heap[k]?) := ⟨KU3.out⟩; replace HZ3 : Aside0 (w.heap.size ≤ w9.drew.heap.size) := ⟨HZ3.out⟩; clear nc nf; refine start2_ (n := 25) (S0 := fun w' => w'.cell? ⟨bn, 0, none⟩ = some (.slice (some ⟨gN, 0, none⟩) s3.now.length cN)) (S := fun w' => w'.cell? ⟨gN, (i).toNat * 5, none⟩ = some (.int .i64 (celAt s3.now (i)).f0) ∧ w'.cell? ⟨gN, (i).toNat * 5 + 1, none⟩ = some (.int .i64 (celAt s3.now (i)).f1)) (ds := [21, 24]) #[false, false, false, false, false, false, false, false, false, false, false, false, false, false, false, false, false, false, false, false, false, false, false, false, false] (by kernel_rfl) rfl rfl cnz ⟨z0, z1⟩ (fun hS0 hHeld => ?_); refine with_tab2 ce0.tab8 ce0.bits8 (fun HT_ HW_ => ?_); clear cnz z0 z1; generalize w9.drew = wA at J3 B3 KU3 NC HZ3 hS0 hHeld ⊢
      refine pure2_ (i := 1) (N := some 30) (v := ?_) (a' := ?_) #[false, true, false, false, false, false, false, false, false, false, false, false, false, false, false, false, false, false, false, false, false, false, false, false, false] rfl rfl (take_ofW HT_.out HW_.out (by kernel_rfl)) (fun _ _ _ h => h) (Or.inl ⟨by rfl, ?_⟩) ?_ ?_; rotate_left
      · intro w'; go_simp
        with_reducible rfl
      rotate_left
      · simp only [Act.put, sA_, sZ_, sS_, i64_w, i32_w]
        rfl
      refine pure2_ (i := 3) (N := some 32) (v := ?_) (a' := ?_) #[false, true, false, true, false, false, false, false, false, false, false, false, false, false, false, false, false, false, false, false, false, false, false, false, false] rfl rfl (take_ofW HT_.out HW_.out (by kernel_rfl)) (fun _ _ _ h => h) (Or.inl ⟨by rfl, ?_⟩) ?_ ?_; rotate_left
      · intro w'; go_simp
        with_reducible rfl
      rotate_left
      · simp only [Act.put, sA_, sZ_, sS_, i64_w, i32_w]
        rfl
      refine pure2_ (i := 5) (N := some 34) (v := ?_) (a' := ?_) #[false, true, false, true, false, true, false, false, false, false, false, false, false, false, false, false, false, false, false, false, false, false, false, false, false] rfl rfl (take_ofW HT_.out HW_.out (by kernel_rfl)) (fun _ _ _ h => h) (Or.inl ⟨by rfl, ?_⟩) ?_ ?_; rotate_left
      · intro w'; go_simp
        with_reducible rfl
      rotate_left
      · simp only [Act.put, sA_, sZ_, sS_, i64_w, i32_w]
        rfl
      refine pure2_ (i := 11) (N := some 40) (v := ?_) (a' := ?_) #[false, true, false, true, false, true, false, false, false, false, false, true, false, false, false, false, false, false, false, false, false, false, false, false, false] rfl rfl (take_ofW HT_.out HW_.out (by kernel_rfl)) (fun _ _ _ h => h) (Or.inl ⟨by rfl, ?_⟩) ?_ ?_; rotate_left
      · intro w'; go_simp
        with_reducible rfl
      rotate_left
      · simp only [Act.put, sA_, sZ_, sS_, i64_w, i32_w]
        rfl
      refine pure2_ (i := 15) (N := some 44) (v := ?_) (a' := ?_) #[false, true, false, true, false, true, false, false, false, false, false, true, false, false, false, true, false, false, false, false, false, false, false, false, false] rfl rfl (take_ofW HT_.out HW_.out (by kernel_rfl)) (fun _ _ _ h => h) (Or.inl ⟨by rfl, ?_⟩) ?_ ?_; rotate_left
      · intro w'; go_simp
        with_reducible rfl
      rotate_left
      · simp only [Act.put, sA_, sZ_, sS_, i64_w, i32_w]
        rfl
      refine pure2_ (i := 16) (N := some 45) (v := ?_) (a' := ?_) #[false, true, false, true, false, true, false, false, false, false, false, true, false, false, false, true, true, false, false, false, false, false, false, false, false] rfl rfl (take_ofW HT_.out HW_.out (by kernel_rfl)) (fun _ _ _ h => h) (Or.inl ⟨by rfl, ?_⟩) ?_ ?_; rotate_left
      · intro w'; go_simp
        with_reducible rfl
      rotate_left
      · simp only [Act.put, sA_, sZ_, sS_, i64_w, i32_w]
        rfl
      refine pure2_ (i := 17) (N := some 46) (v := ?_) (a' := ?_) #[false, true, false, true, false, true, false, false, false, false, false, true, false, false, false, true, true, true, false, false, false, false, false, false, false] rfl rfl (take_ofW HT_.out HW_.out (by kernel_rfl)) (fun _ _ _ h => h) (Or.inl ⟨by rfl, ?_⟩) ?_ ?_; rotate_left
      · intro w'; go_simp
        with_reducible rfl
      rotate_left
      · simp only [Act.put, sA_, sZ_, sS_, i64_w, i32_w]
        rfl
      refine takeA_ (i := 0) (N := some 29) (v := ?_) (a' := ?_) #[true, true, false, true, false, true, false, false, false, false, false, true, false, false, false, true, true, true, false, false, false, false, false, false, false] rfl rfl (take_ofW HT_.out HW_.out (by kernel_rfl)) (fun _ _ _ h => h) (Or.inl ⟨by rfl, ?_⟩) hS0 ?_ ?_; rotate_left
      · intro w' s0; go_simp
        with_reducible rfl
      rotate_left
      · simp only [Act.put, sA_, sZ_, sS_, i64_w, i32_w]
        rfl
      refine takeA_ (i := 2) (N := some 31) (v := ?_) (a' := ?_) #[true, true, true, true, false, true, false, false, false, false, false, true, false, false, false, true, true, true, false, false, false, false, false, false, false] rfl rfl (take_ofW HT_.out HW_.out (by kernel_rfl)) (fun _ _ _ h => h) (Or.inl ⟨by rfl, ?_⟩) hS0 ?_ ?_; rotate_left
      · intro w' s0; go_simp
        with_reducible rfl
      rotate_left
      · simp only [Act.put, sA_, sZ_, sS_, i64_w, i32_w]
        rfl
      refine takeA_ (i := 4) (N := some 33) (v := ?_) (a' := ?_) #[true, true, true, true, true, true, false, false, false, false, false, true, false, false, false, true, true, true, false, false, false, false, false, false, false] rfl rfl (take_ofW HT_.out HW_.out (by kernel_rfl)) (fun _ _ _ h => h) (Or.inl ⟨by rfl, ?_⟩) hS0 ?_ ?_; rotate_left
      · intro w' s0; go_simp
        with_reducible rfl
      rotate_left
      · simp only [Act.put, sA_, sZ_, sS_, i64_w, i32_w]
        rfl
      refine takeA_ (i := 10) (N := some 39) (v := ?_) (a' := ?_) #[true, true, true, true, true, true, false, false, false, false, true, true, false, false, false, true, true, true, false, false, false, false, false, false, false] rfl rfl (take_ofW HT_.out HW_.out (by kernel_rfl)) (fun _ _ _ h => h) (Or.inl ⟨by rfl, ?_⟩) hS0 ?_ ?_; rotate_left
      · intro w' s0; go_simp
        with_reducible rfl
      rotate_left
      · simp only [Act.put, sA_, sZ_, sS_, i64_w, i32_w]
        rfl
      refine pure2_ (i := 6) (N := some 35) (v := ?_) (a' := ?_) #[true, true, true, true, true, true, true, false, false, false, true, true, false, false, false, true, true, true, false, false, false, false, false, false, false] rfl rfl (take_ofW HT_.out HW_.out (by kernel_rfl)) (fun _ _ _ h => h) (Or.inl ⟨by rfl, ?_⟩) ?_ ?_; rotate_left
      · intro w'; go_simp
        with_reducible rfl
      rotate_left
      · simp only [Act.put, sA_, sZ_, sS_, i64_w, i32_w]
        rfl
      refine pure2_ (i := 7) (N := some 36) (v := ?_) (a' := ?_) #[true, true, true, true, true, true, true, true, false, false, true, true, false, false, false, true, true, true, false, false, false, false, false, false, false] rfl rfl (take_ofW HT_.out HW_.out (by kernel_rfl)) (fun _ _ _ h => h) (Or.inl ⟨by rfl, ?_⟩) ?_ ?_; rotate_left
      · intro w'; go_simp
        with_reducible rfl
      rotate_left
      · simp only [Act.put, sA_, sZ_, sS_, i64_w, i32_w]
        rfl
      refine pure2_ (i := 12) (N := some 41) (v := ?_) (a' := ?_) #[true, true, true, true, true, true, true, true, false, false, true, true, true, false, false, true, true, true, false, false, false, false, false, false, false] rfl rfl (take_ofW HT_.out HW_.out (by kernel_rfl)) (fun _ _ _ h => h) (Or.inl ⟨by rfl, ?_⟩) ?_ ?_; rotate_left
      · intro w'; go_simp
        with_reducible rfl
      rotate_left
      · simp only [Act.put, sA_, sZ_, sS_, i64_w, i32_w]
        rfl
      refine pure2_ (i := 13) (N := some 42) (v := ?_) (a' := ?_) #[true, true, true, true, true, true, true, true, false, false, true, true, true, true, false, true, true, true, false, false, false, false, false, false, false] rfl rfl (take_ofW HT_.out HW_.out (by kernel_rfl)) (fun _ _ _ h => h) (Or.inl ⟨by rfl, ?_⟩) ?_ ?_; rotate_left
      · intro w'; go_simp
        with_reducible rfl
      rotate_left
      · simp only [Act.put, sA_, sZ_, sS_, i64_w, i32_w]
        rfl
      refine takeE_ (i := 8) (N := some 37) (v := ?_) (a' := ?_) #[true, true, true, true, true, true, true, true, true, false, true, true, true, true, false, true, true, true, false, false, false, false, false, false, false] rfl rfl (take_ofW HT_.out HW_.out (by kernel_rfl)) (fun _ _ _ h => h) (Or.inl ⟨by rfl, ?_⟩) hHeld ?_ ?_; rotate_left
      · rintro w' ⟨s0, s1⟩; go_simp
        with_reducible rfl
      rotate_left
      · simp only [Act.put, sA_, sZ_, sS_, i64_w, i32_w]
        rfl
      refine takeE_ (i := 14) (N := some 43) (v := ?_) (a' := ?_) #[true, true, true, true, true, true, true, true, true, false, true, true, true, true, true, true, true, true, false, false, false, false, false, false, false] rfl rfl (take_ofW HT_.out HW_.out (by kernel_rfl)) (fun _ _ _ h => h) (Or.inl ⟨by rfl, ?_⟩) hHeld ?_ ?_; rotate_left
      · rintro w' ⟨s0, s1⟩; go_simp
        with_reducible rfl
      rotate_left
      · simp only [Act.put, sA_, sZ_, sS_, i64_w, i32_w]
        rfl
      refine pure2_ (i := 9) (N := some 38) (v := ?_) (a' := ?_) #[true, true, true, true, true, true, true, true, true, true, true, true, true, true, true, true, true, true, false, false, false, false, false, false, false] rfl rfl (take_ofW HT_.out HW_.out (by kernel_rfl)) (fun _ _ _ h => h) (Or.inl ⟨by rfl, ?_⟩) ?_ ?_; rotate_left
      · intro w'; go_simp
        with_reducible rfl
      rotate_left
      · simp only [Act.put, sA_, sZ_, sS_, i64_w, i32_w]
        rfl
      refine pure2_ (i := 18) (N := some 47) (v := ?_) (a' := ?_) #[true, true, true, true, true, true, true, true, true, true, true, true, true, true, true, true, true, true, true, false, false, false, false, false, false] rfl rfl (take_ofW HT_.out HW_.out (by kernel_rfl)) (fun _ _ _ h => h) (Or.inl ⟨by rfl, ?_⟩) ?_ ?_; rotate_left
      · intro w'; go_simp
        with_reducible rfl
      rotate_left
      · simp only [Act.put, sA_, sZ_, sS_, i64_w, i32_w]
        rfl
      refine pure2_ (i := 19) (N := some 48) (v := ?_) (a' := ?_) #[true, true, true, true, true, true, true, true, true, true, true, true, true, true, true, true, true, true, true, true, false, false, false, false, false] rfl rfl (take_ofW HT_.out HW_.out (by kernel_rfl)) (fun _ _ _ h => h) (Or.inl ⟨by rfl, ?_⟩) ?_ ?_; rotate_left
      · intro w'; go_simp
        with_reducible rfl
      rotate_left
      · simp only [Act.put, sA_, sZ_, sS_, i64_w, i32_w]
        rfl
      refine pure2_ (i := 20) (N := some 49) (v := ?_) (a' := ?_) #[true, true, true, true, true, true, true, true, true, true, true, true, true, true, true, true, true, true, true, true, true, false, false, false, false] rfl rfl (take_ofW HT_.out HW_.out (by kernel_rfl)) (fun _ _ _ h => h) (Or.inl ⟨by rfl, ?_⟩) ?_ ?_; rotate_left
      · intro w'; go_simp
        with_reducible rfl
      rotate_left
      · simp only [Act.put, sA_, sZ_, sS_, i64_w, i32_w]
        rfl
      refine last2_ (i := 21) (N := none) #[true, true, true, true, true, true, true, true, true, true, true, true, true, true, true, true, true, true, true, true, true, true, false, false, false] rfl rfl (one_of HT_.out (by kernel_rfl)) (by decide) (fun K hK => ?_); refine R_store_step kCel (w0 := w) (W := wA) w.heap.size (by rfl) (by rfl) 3 (.tmp 49) (.tmp 38) (by rfl) 101 (i) 0 s3.now { (celAt s3.now (i)) with f0 := wrap64 ((celAt s3.now (i)).f0 + 1) } (.int .i64 (wrap64 ((celAt s3.now (i)).f0 + 1))) [.int .i64 (wrap64 ((celAt s3.now (i)).f0 + 1))] [.int .i64 (celAt s3.now (i)).f0, .int .i64 (celAt s3.now (i)).f1, .int .i64 (celAt s3.now (i)).f2, .int .i64 (celAt s3.now (i)).f3, .int .i64 (celAt s3.now (i)).f4] (fun k => some k ≠ none) (fun _ => False) (by rfl) (by show (i).toNat * 5 = (i).toNat * 5 + 0; omega) (by rfl) rfl (by kernel_rfl) (by intro x hx; rw [List.mem_singleton] at hx; subst hx; rfl) J3.out.N h0_ h1_ rfl NC.out (by show 0 + 1 ≤ 5; omega) (k101_mkM _ _ _ ({ (celAt s3.now (i)) with f0 := wrap64 ((celAt s3.now (i)).f0 + 1) } : Cel)) (fun _ h => h.elim) B3.out ?_; intro wB hR hB hg; have JJ := CeJ.put J3.out hR hg; obtain ⟨JB, KB⟩ := JJ; obtain ⟨t, ht⟩ : ∃ t, t = ceD1 s3 (i) := ⟨_, rfl⟩; replace JB : CeJ w.heap.size bn bo none none gN cN gO cO t wB := by rw [ht]; exact JB
      have KUB : Aside0 (∀ k, (none : Option Nat) = some k → k < w.heap.size → wB.heap[k]? = w.heap[k]?) := ⟨fun k e h => (KB k e (Nat.lt_of_lt_of_le h HZ3.out)).trans (KU3.out k e h)⟩; have HZB := am_ (Nat.le_trans HZ3.out hg.size); have BB := am_ hB; have TN : t.now.length = s3.now.length := by rw [ht]; exact List.length_set
      have hS0_ := cell_grown hg hS0 (fun e => J3.out.gN_ne.1 (by injection e)); have TNA := am_ TN; have HT := am_ ht; have JB := am_ JB; clear hR hB hg KB TN ht; refine hK.out _ _ hS0_ ?_; clear hK K hS0; have hS0 := hS0_; clear hS0_; refine pure2_ (i := 22) (N := some 50) (v := ?_) (a' := ?_) #[true, true, true, true, true, true, true, true, true, true, true, true, true, true, true, true, true, true, true, true, true, true, true, false, false] rfl rfl (take_ofW HT_.out HW_.out (by kernel_rfl)) (fun _ _ _ h => h) (Or.inl ⟨by rfl, ?_⟩) ?_ ?_; rotate_left
      · intro w'; go_simp
        with_reducible rfl
      rotate_left
      · simp only [Act.put, sA_, sZ_, sS_, i64_w, i32_w]
        rfl
      refine pure2_ (i := 23) (N := some 51) (v := ?_) (a' := ?_) #[true, true, true, true, true, true, true, true, true, true, true, true, true, true, true, true, true, true, true, true, true, true, true, true, false] rfl rfl (take_ofW HT_.out HW_.out (by kernel_rfl)) (fun _ _ _ h => h) (Or.inl ⟨by rfl, ?_⟩) ?_ ?_; rotate_left
      · intro w'; go_simp
        with_reducible rfl
      rotate_left
      · simp only [Act.put, sA_, sZ_, sS_, i64_w, i32_w]
        rfl
      refine last2_ (i := 24) (N := none) #[true, true, true, true, true, true, true, true, true, true, true, true, true, true, true, true, true, true, true, true, true, true, true, true, true] rfl rfl (one_of HT_.out (by kernel_rfl)) (by decide) (fun K hK => ?_); have h1t : i < (t.now.length : Int) := by rw [TNA.out]; exact h1_
      obtain ⟨nc, nf⟩ := JB.out.cells (i) h0_ h1t; refine R_store_step kCel (w0 := w) (W := wB) w.heap.size (by rfl) (by rfl) 3 (.tmp 51) (.tmp 47) (by rfl) 101 (i) 1 t.now { (celAt t.now (i)) with f1 := (Go.bits .or .i64 (celAt s3.now (i)).f1 (bit1 j)) } (.int .i64 (Go.bits .or .i64 (celAt s3.now (i)).f1 (bit1 j))) [.int .i64 (Go.bits .or .i64 (celAt s3.now (i)).f1 (bit1 j))] [.int .i64 (celAt t.now (i)).f0, .int .i64 (celAt t.now (i)).f1, .int .i64 (celAt t.now (i)).f2, .int .i64 (celAt t.now (i)).f3, .int .i64 (celAt t.now (i)).f4] (fun k => some k ≠ none) (fun _ => False) (by rfl) (by show (i).toNat * 5 + 1 = (i).toNat * 5 + 1; omega) (by rfl) rfl (by kernel_rfl) (by intro x hx; rw [List.mem_singleton] at hx; subst hx; rfl) JB.out.N h0_ h1t rfl nc (by show 1 + 1 ≤ 5; omega) (k101_mkM _ _ _ ({ (celAt t.now (i)) with f1 := (Go.bits .or .i64 (celAt s3.now (i)).f1 (bit1 j)) } : Cel)) (fun _ h => h.elim) BB.out ?_; intro w16 hR hB hg; obtain ⟨JC, KC⟩ := CeJ.put JB.out hR hg; obtain ⟨s4, hs4⟩ : ∃ s_, s_ = ceD2 t (i) (Go.bits .or .i64 (celAt s3.now (i)).f1 (bit1 j)) := ⟨_, rfl⟩; have J4 : CeJ w.heap.size bn bo none none gN cN gO cO s4 w16 := by rw [hs4]; exact JC
      have KU4 : Aside0 (∀ k, (none : Option Nat) = some k → k < w.heap.size → w16.heap[k]? = w.heap[k]?) := ⟨fun k e h => (KC k e (Nat.lt_of_lt_of_le h HZB.out)).trans (KUB.out k e h)⟩; have HZ4 := am_ (Nat.le_trans HZB.out hg.size); have B4 := am_ hB; have HS4 : Aside0 (s4 = ceD s3 (j) (i)) := ⟨by rw [hs4, HT.out]; rfl⟩; have LL4 : Aside0 (s4.now.length = s3.now.length) := ⟨by rw [hs4]; exact List.length_set.trans TNA.out⟩; have hS0_ := cell_grown hg hS0 (fun e => JB.out.gN_ne.1 (by injection e)); clear hR hB hg KC JC nc nf h1t hs4; refine hK.out _ _ hS0_ ?_; clear hK K hS0_; refine done2_ (done_of HT_.out (by kernel_rfl)) ?_; clear J3 B3 KU3 HZ3 NC KUB HZB BB TNA HT JB N0_ N0b_ N1_ N1b_ hS0 hHeld h0_ h1_; have L4 := am_ (show (s4.now.length : Int) = a0 + 1 ∧ (s4.out.length : Int) = a0 + 1 from ⟨by rw [LL4.out]; exact L3.out.1, by rw [HS4.out]; exact L3.out.2⟩); clear P1_ P1b_; by_cases d2 : i < a0
      case neg =>
        have DN := am_ d2; have D2_ : decide (i < a0) = false := decide_eq_false d2; go_wp2; go_roundg k1
        case measure => have := HK1.out; omega
        case rel => exact ⟨i + 1, s4, vt_, ⟨by rw [HS4.out, HS3.out]; have h1 := H'.out; unfold ceIn at h1; rw [if_pos DP1.out, if_neg (show ¬ i < a0 by have h2 := DN.out; omega), ← HJ.out] at h1; exact h1⟩, hl_ HK1, ⟨by have h1 := HI.out; omega, L4.out⟩, ⟨J4⟩, B4⟩
      have DP2 := am_ d2; have D2_ : decide (i < a0) = true := decide_eq_true d2; clear d2; have h0_ : 0 ≤ i := HI.out.1; have h1_ : i < (s4.now.length : Int) := by rw [L4.out.1]; exact HI.out.2
      go_wp2; obtain ⟨nc, nf⟩ := J4.cells (i) h0_ h1_; have z0 := nc 0 _ rfl; have z1 := nc 1 _ rfl; rw [Nat.add_zero] at z0; have cnz : w16.cell? ⟨bn, 0, none⟩ = some (.slice (some ⟨gN, 0, none⟩) s4.now.length cN) := (blk_cell J4.hn 0).trans rfl; have N1_ := eq_true h1_; have N1b_ : decide (i < (s4.now.length : Int)) = true := decide_eq_true h1_; have N0_ := eq_true h0_; have N0b_ : decide (0 ≤ i) = true := decide_eq_true h0_; have NC := am_ (show ∀ (j : Nat) u, ([.int .i64 (celAt s4.now (i)).f0, .int .i64 (celAt s4.now (i)).f1, .int .i64 (celAt s4.now (i)).f2, .int .i64 (celAt s4.now (i)).f3, .int .i64 (celAt s4.now (i)).f4] : List Value)[j]? = some u → w16.drew.cell? ⟨gN, (i).toNat * 5 + j, none⟩ = some u from nc); have J4 := am_ J4.drew; replace B4 := bd_ B4; replace KU4 : Aside0 (∀ k, (none : Option Nat) = some k → k < w.heap.size → w16.drew.heap[k]? = w.heap[k]?) := ⟨KU4.out⟩; replace HZ4 : Aside0 (w.heap.size ≤ w16.drew.heap.size) := ⟨HZ4.out⟩; clear nc nf; refine start2_ (n := 24) (S0 := fun w' => w'.cell? ⟨bn, 0, none⟩ = some (.slice (some ⟨gN, 0, none⟩) s4.now.length cN)) (S := fun w' => w'.cell? ⟨gN, (i).toNat * 5, none⟩ = some (.int .i64 (celAt s4.now (i)).f0) ∧ w'.cell? ⟨gN, (i).toNat * 5 + 1, none⟩ = some (.int .i64 (celAt s4.now (i)).f1)) (ds := [20, 23]) #[false, false, false, false, false, false, false, false, false, false, false, false, false, false, false, false, false, false, false, false, false, false, false, false] (by kernel_rfl) rfl rfl cnz ⟨z0, z1⟩ (fun hS0 hHeld => ?_); refine with_tab2 ce0.tab10 ce0.bits10 (fun HT_ HW_ => ?_); clear cnz z0 z1; generalize w16.drew = wA at J4 B4 KU4 NC HZ4 hS0 hHeld ⊢
      refine pure2_ (i := 1) (N := some 56) (v := ?_) (a' := ?_) #[false, true, false, false, false, false, false, false, false, false, false, false, false, false, false, false, false, false, false, false, false, false, false, false] rfl rfl (take_ofW HT_.out HW_.out (by kernel_rfl)) (fun _ _ _ h => h) (Or.inl ⟨by rfl, ?_⟩) ?_ ?_; rotate_left
      · intro w'; go_simp
        with_reducible rfl
      rotate_left
      · simp only [Act.put, sA_, sZ_, sS_, i64_w, i32_w]
        rfl
      refine pure2_ (i := 3) (N := some 58) (v := ?_) (a' := ?_) #[false, true, false, true, false, false, false, false, false, false, false, false, false, false, false, false, false, false, false, false, false, false, false, false] rfl rfl (take_ofW HT_.out HW_.out (by kernel_rfl)) (fun _ _ _ h => h) (Or.inl ⟨by rfl, ?_⟩) ?_ ?_; rotate_left
      · intro w'; go_simp
        with_reducible rfl
      rotate_left
      · simp only [Act.put, sA_, sZ_, sS_, i64_w, i32_w]
        rfl
      refine pure2_ (i := 5) (N := some 60) (v := ?_) (a' := ?_) #[false, true, false, true, false, true, false, false, false, false, false, false, false, false, false, false, false, false, false, false, false, false, false, false] rfl rfl (take_ofW HT_.out HW_.out (by kernel_rfl)) (fun _ _ _ h => h) (Or.inl ⟨by rfl, ?_⟩) ?_ ?_; rotate_left
      · intro w'; go_simp
        with_reducible rfl
      rotate_left
      · simp only [Act.put, sA_, sZ_, sS_, i64_w, i32_w]
        rfl
      refine pure2_ (i := 11) (N := some 66) (v := ?_) (a' := ?_) #[false, true, false, true, false, true, false, false, false, false, false, true, false, false, false, false, false, false, false, false, false, false, false, false] rfl rfl (take_ofW HT_.out HW_.out (by kernel_rfl)) (fun _ _ _ h => h) (Or.inl ⟨by rfl, ?_⟩) ?_ ?_; rotate_left
      · intro w'; go_simp
        with_reducible rfl
      rotate_left
      · simp only [Act.put, sA_, sZ_, sS_, i64_w, i32_w]
        rfl
      refine pure2_ (i := 15) (N := some 70) (v := ?_) (a' := ?_) #[false, true, false, true, false, true, false, false, false, false, false, true, false, false, false, true, false, false, false, false, false, false, false, false] rfl rfl (take_ofW HT_.out HW_.out (by kernel_rfl)) (fun _ _ _ h => h) (Or.inl ⟨by rfl, ?_⟩) ?_ ?_; rotate_left
      · intro w'; go_simp
        with_reducible rfl
      rotate_left
      · simp only [Act.put, sA_, sZ_, sS_, i64_w, i32_w]
        rfl
      refine pure2_ (i := 16) (N := some 71) (v := ?_) (a' := ?_) #[false, true, false, true, false, true, false, false, false, false, false, true, false, false, false, true, true, false, false, false, false, false, false, false] rfl rfl (take_ofW HT_.out HW_.out (by kernel_rfl)) (fun _ _ _ h => h) (Or.inl ⟨by rfl, ?_⟩) ?_ ?_; rotate_left
      · intro w'; go_simp
        with_reducible rfl
      rotate_left
      · simp only [Act.put, sA_, sZ_, sS_, i64_w, i32_w]
        rfl
      refine takeA_ (i := 0) (N := some 55) (v := ?_) (a' := ?_) #[true, true, false, true, false, true, false, false, false, false, false, true, false, false, false, true, true, false, false, false, false, false, false, false] rfl rfl (take_ofW HT_.out HW_.out (by kernel_rfl)) (fun _ _ _ h => h) (Or.inl ⟨by rfl, ?_⟩) hS0 ?_ ?_; rotate_left
      · intro w' s0; go_simp
        with_reducible rfl
      rotate_left
      · simp only [Act.put, sA_, sZ_, sS_, i64_w, i32_w]
        rfl
      refine takeA_ (i := 2) (N := some 57) (v := ?_) (a' := ?_) #[true, true, true, true, false, true, false, false, false, false, false, true, false, false, false, true, true, false, false, false, false, false, false, false] rfl rfl (take_ofW HT_.out HW_.out (by kernel_rfl)) (fun _ _ _ h => h) (Or.inl ⟨by rfl, ?_⟩) hS0 ?_ ?_; rotate_left
      · intro w' s0; go_simp
        with_reducible rfl
      rotate_left
      · simp only [Act.put, sA_, sZ_, sS_, i64_w, i32_w]
        rfl
      refine takeA_ (i := 4) (N := some 59) (v := ?_) (a' := ?_) #[true, true, true, true, true, true, false, false, false, false, false, true, false, false, false, true, true, false, false, false, false, false, false, false] rfl rfl (take_ofW HT_.out HW_.out (by kernel_rfl)) (fun _ _ _ h => h) (Or.inl ⟨by rfl, ?_⟩) hS0 ?_ ?_; rotate_left
      · intro w' s0; go_simp
        with_reducible rfl
      rotate_left
      · simp only [Act.put, sA_, sZ_, sS_, i64_w, i32_w]
        rfl
      refine takeA_ (i := 10) (N := some 65) (v := ?_) (a' := ?_) #[true, true, true, true, true, true, false, false, false, false, true, true, false, false, false, true, true, false, false, false, false, false, false, false] rfl rfl (take_ofW HT_.out HW_.out (by kernel_rfl)) (fun _ _ _ h => h) (Or.inl ⟨by rfl, ?_⟩) hS0 ?_ ?_; rotate_left
      · intro w' s0; go_simp
        with_reducible rfl
      rotate_left
      · simp only [Act.put, sA_, sZ_, sS_, i64_w, i32_w]
        rfl
      refine pure2_ (i := 6) (N := some 61) (v := ?_) (a' := ?_) #[true, true, true, true, true, true, true, false, false, false, true, true, false, false, false, true, true, false, false, false, false, false, false, false] rfl rfl (take_ofW HT_.out HW_.out (by kernel_rfl)) (fun _ _ _ h => h) (Or.inl ⟨by rfl, ?_⟩) ?_ ?_; rotate_left
      · intro w'; go_simp
        with_reducible rfl
      rotate_left
      · simp only [Act.put, sA_, sZ_, sS_, i64_w, i32_w]
        rfl
      refine pure2_ (i := 7) (N := some 62) (v := ?_) (a' := ?_) #[true, true, true, true, true, true, true, true, false, false, true, true, false, false, false, true, true, false, false, false, false, false, false, false] rfl rfl (take_ofW HT_.out HW_.out (by kernel_rfl)) (fun _ _ _ h => h) (Or.inl ⟨by rfl, ?_⟩) ?_ ?_; rotate_left
      · intro w'; go_simp
        with_reducible rfl
      rotate_left
      · simp only [Act.put, sA_, sZ_, sS_, i64_w, i32_w]
        rfl
      refine pure2_ (i := 12) (N := some 67) (v := ?_) (a' := ?_) #[true, true, true, true, true, true, true, true, false, false, true, true, true, false, false, true, true, false, false, false, false, false, false, false] rfl rfl (take_ofW HT_.out HW_.out (by kernel_rfl)) (fun _ _ _ h => h) (Or.inl ⟨by rfl, ?_⟩) ?_ ?_; rotate_left
      · intro w'; go_simp
        with_reducible rfl
      rotate_left
      · simp only [Act.put, sA_, sZ_, sS_, i64_w, i32_w]
        rfl
      refine pure2_ (i := 13) (N := some 68) (v := ?_) (a' := ?_) #[true, true, true, true, true, true, true, true, false, false, true, true, true, true, false, true, true, false, false, false, false, false, false, false] rfl rfl (take_ofW HT_.out HW_.out (by kernel_rfl)) (fun _ _ _ h => h) (Or.inl ⟨by rfl, ?_⟩) ?_ ?_; rotate_left
      · intro w'; go_simp
        with_reducible rfl
      rotate_left
      · simp only [Act.put, sA_, sZ_, sS_, i64_w, i32_w]
        rfl
      refine takeE_ (i := 8) (N := some 63) (v := ?_) (a' := ?_) #[true, true, true, true, true, true, true, true, true, false, true, true, true, true, false, true, true, false, false, false, false, false, false, false] rfl rfl (take_ofW HT_.out HW_.out (by kernel_rfl)) (fun _ _ _ h => h) (Or.inl ⟨by rfl, ?_⟩) hHeld ?_ ?_; rotate_left
      · rintro w' ⟨s0, s1⟩; go_simp
        with_reducible rfl
      rotate_left
      · simp only [Act.put, sA_, sZ_, sS_, i64_w, i32_w]
        rfl
      refine takeE_ (i := 14) (N := some 69) (v := ?_) (a' := ?_) #[true, true, true, true, true, true, true, true, true, false, true, true, true, true, true, true, true, false, false, false, false, false, false, false] rfl rfl (take_ofW HT_.out HW_.out (by kernel_rfl)) (fun _ _ _ h => h) (Or.inl ⟨by rfl, ?_⟩) hHeld ?_ ?_; rotate_left
      · rintro w' ⟨s0, s1⟩; go_simp
        with_reducible rfl
      rotate_left
      · simp only [Act.put, sA_, sZ_, sS_, i64_w, i32_w]
        rfl
      refine pure2_ (i := 9) (N := some 64) (v := ?_) (a' := ?_) #[true, true, true, true, true, true, true, true, true, true, true, true, true, true, true, true, true, false, false, false, false, false, false, false] rfl rfl (take_ofW HT_.out HW_.out (by kernel_rfl)) (fun _ _ _ h => h) (Or.inl ⟨by rfl, ?_⟩) ?_ ?_; rotate_left
      · intro w'; go_simp
        with_reducible rfl
      rotate_left
      · simp only [Act.put, sA_, sZ_, sS_, i64_w, i32_w]
        rfl
      refine pure2_ (i := 17) (N := some 72) (v := ?_) (a' := ?_) #[true, true, true, true, true, true, true, true, true, true, true, true, true, true, true, true, true, true, false, false, false, false, false, false] rfl rfl (take_ofW HT_.out HW_.out (by kernel_rfl)) (fun _ _ _ h => h) (Or.inl ⟨by rfl, ?_⟩) ?_ ?_; rotate_left
      · intro w'; go_simp
        with_reducible rfl
      rotate_left
      · simp only [Act.put, sA_, sZ_, sS_, i64_w, i32_w]
        rfl
      refine pure2_ (i := 18) (N := some 73) (v := ?_) (a' := ?_) #[true, true, true, true, true, true, true, true, true, true, true, true, true, true, true, true, true, true, true, false, false, false, false, false] rfl rfl (take_ofW HT_.out HW_.out (by kernel_rfl)) (fun _ _ _ h => h) (Or.inl ⟨by rfl, ?_⟩) ?_ ?_; rotate_left
      · intro w'; go_simp
        with_reducible rfl
      rotate_left
      · simp only [Act.put, sA_, sZ_, sS_, i64_w, i32_w]
        rfl
      refine pure2_ (i := 19) (N := some 74) (v := ?_) (a' := ?_) #[true, true, true, true, true, true, true, true, true, true, true, true, true, true, true, true, true, true, true, true, false, false, false, false] rfl rfl (take_ofW HT_.out HW_.out (by kernel_rfl)) (fun _ _ _ h => h) (Or.inl ⟨by rfl, ?_⟩) ?_ ?_; rotate_left
      · intro w'; go_simp
        with_reducible rfl
      rotate_left
      · simp only [Act.put, sA_, sZ_, sS_, i64_w, i32_w]
        rfl
      refine last2_ (i := 20) (N := none) #[true, true, true, true, true, true, true, true, true, true, true, true, true, true, true, true, true, true, true, true, true, false, false, false] rfl rfl (one_of HT_.out (by kernel_rfl)) (by decide) (fun K hK => ?_); refine R_store_step kCel (w0 := w) (W := wA) w.heap.size (by rfl) (by rfl) 3 (.tmp 74) (.tmp 64) (by rfl) 101 (i) 0 s4.now { (celAt s4.now (i)) with f0 := wrap64 ((celAt s4.now (i)).f0 + 1) } (.int .i64 (wrap64 ((celAt s4.now (i)).f0 + 1))) [.int .i64 (wrap64 ((celAt s4.now (i)).f0 + 1))] [.int .i64 (celAt s4.now (i)).f0, .int .i64 (celAt s4.now (i)).f1, .int .i64 (celAt s4.now (i)).f2, .int .i64 (celAt s4.now (i)).f3, .int .i64 (celAt s4.now (i)).f4] (fun k => some k ≠ none) (fun _ => False) (by rfl) (by show (i).toNat * 5 = (i).toNat * 5 + 0; omega) (by rfl) rfl (by kernel_rfl) (by intro x hx; rw [List.mem_singleton] at hx; subst hx; rfl) J4.out.N h0_ h1_ rfl NC.out (by show 0 + 1 ≤ 5; omega) (k101_mkM _ _ _ ({ (celAt s4.now (i)) with f0 := wrap64 ((celAt s4.now (i)).f0 + 1) } : Cel)) (fun _ h => h.elim) B4.out ?_; intro wB hR hB hg; have JJ := CeJ.put J4.out hR hg; obtain ⟨JB, KB⟩ := JJ; obtain ⟨t, ht⟩ : ∃ t, t = ceD1 s4 (i) := ⟨_, rfl⟩; replace JB : CeJ w.heap.size bn bo none none gN cN gO cO t wB := by rw [ht]; exact JB
      have KUB : Aside0 (∀ k, (none : Option Nat) = some k → k < w.heap.size → wB.heap[k]? = w.heap[k]?) := ⟨fun k e h => (KB k e (Nat.lt_of_lt_of_le h HZ4.out)).trans (KU4.out k e h)⟩; have HZB := am_ (Nat.le_trans HZ4.out hg.size); have BB := am_ hB; have TN : t.now.length = s4.now.length := by rw [ht]; exact List.length_set
      have hS0_ := cell_grown hg hS0 (fun e => J4.out.gN_ne.1 (by injection e)); have TNA := am_ TN; have HT := am_ ht; have JB := am_ JB; clear hR hB hg KB TN ht; refine hK.out _ _ hS0_ ?_; clear hK K hS0; have hS0 := hS0_; clear hS0_; refine pure2_ (i := 21) (N := some 75) (v := ?_) (a' := ?_) #[true, true, true, true, true, true, true, true, true, true, true, true, true, true, true, true, true, true, true, true, true, true, false, false] rfl rfl (take_ofW HT_.out HW_.out (by kernel_rfl)) (fun _ _ _ h => h) (Or.inl ⟨by rfl, ?_⟩) ?_ ?_; rotate_left
      · intro w'; go_simp
        with_reducible rfl
      rotate_left
      · simp only [Act.put, sA_, sZ_, sS_, i64_w, i32_w]
        rfl
      refine pure2_ (i := 22) (N := some 76) (v := ?_) (a' := ?_) #[true, true, true, true, true, true, true, true, true, true, true, true, true, true, true, true, true, true, true, true, true, true, true, false] rfl rfl (take_ofW HT_.out HW_.out (by kernel_rfl)) (fun _ _ _ h => h) (Or.inl ⟨by rfl, ?_⟩) ?_ ?_; rotate_left
      · intro w'; go_simp
        with_reducible rfl
      rotate_left
      · simp only [Act.put, sA_, sZ_, sS_, i64_w, i32_w]
        rfl
      refine last2_ (i := 23) (N := none) #[true, true, true, true, true, true, true, true, true, true, true, true, true, true, true, true, true, true, true, true, true, true, true, true] rfl rfl (one_of HT_.out (by kernel_rfl)) (by decide) (fun K hK => ?_); have h1t : i < (t.now.length : Int) := by rw [TNA.out]; exact h1_
      obtain ⟨nc, nf⟩ := JB.out.cells (i) h0_ h1t; refine R_store_step kCel (w0 := w) (W := wB) w.heap.size (by rfl) (by rfl) 3 (.tmp 76) (.tmp 72) (by rfl) 101 (i) 1 t.now { (celAt t.now (i)) with f1 := (Go.bits .or .i64 (celAt s4.now (i)).f1 (bit1 i)) } (.int .i64 (Go.bits .or .i64 (celAt s4.now (i)).f1 (bit1 i))) [.int .i64 (Go.bits .or .i64 (celAt s4.now (i)).f1 (bit1 i))] [.int .i64 (celAt t.now (i)).f0, .int .i64 (celAt t.now (i)).f1, .int .i64 (celAt t.now (i)).f2, .int .i64 (celAt t.now (i)).f3, .int .i64 (celAt t.now (i)).f4] (fun k => some k ≠ none) (fun _ => False) (by rfl) (by show (i).toNat * 5 + 1 = (i).toNat * 5 + 1; omega) (by rfl) rfl (by kernel_rfl) (by intro x hx; rw [List.mem_singleton] at hx; subst hx; rfl) JB.out.N h0_ h1t rfl nc (by show 1 + 1 ≤ 5; omega) (k101_mkM _ _ _ ({ (celAt t.now (i)) with f1 := (Go.bits .or .i64 (celAt s4.now (i)).f1 (bit1 i)) } : Cel)) (fun _ h => h.elim) BB.out ?_; intro w17 hR hB hg; obtain ⟨JC, KC⟩ := CeJ.put JB.out hR hg; obtain ⟨s5, hs5⟩ : ∃ s_, s_ = ceD2 t (i) (Go.bits .or .i64 (celAt s4.now (i)).f1 (bit1 i)) := ⟨_, rfl⟩; have J5 : CeJ w.heap.size bn bo none none gN cN gO cO s5 w17 := by rw [hs5]; exact JC
      have KU5 : Aside0 (∀ k, (none : Option Nat) = some k → k < w.heap.size → w17.heap[k]? = w.heap[k]?) := ⟨fun k e h => (KC k e (Nat.lt_of_lt_of_le h HZB.out)).trans (KUB.out k e h)⟩; have HZ5 := am_ (Nat.le_trans HZB.out hg.size); have B5 := am_ hB; have HS5 : Aside0 (s5 = ceD s4 (i) (i)) := ⟨by rw [hs5, HT.out]; rfl⟩; have LL5 : Aside0 (s5.now.length = s4.now.length) := ⟨by rw [hs5]; exact List.length_set.trans TNA.out⟩; have hS0_ := cell_grown hg hS0 (fun e => JB.out.gN_ne.1 (by injection e)); clear hR hB hg KC JC nc nf h1t hs5; refine hK.out _ _ hS0_ ?_; clear hK K hS0_; refine done2_ (done_of HT_.out (by kernel_rfl)) ?_; clear J4 B4 KU4 HZ4 NC KUB HZB BB TNA HT JB N0_ N0b_ N1_ N1b_ hS0 hHeld h0_ h1_; try go_wp2
      go_roundg k1
      case measure => have := HK1.out; omega
      case rel => exact ⟨i + 1, s5, vt_, ⟨by rw [HS5.out, HS4.out, HS3.out]; have h1 := H'.out; unfold ceIn at h1; rw [if_pos DP1.out, if_pos DP2.out, ← HJ.out] at h1; exact h1⟩, hl_ HK1, ⟨by have h1 := HI.out; omega, by rw [LL5.out, L4.out.1], by rw [HS5.out]; exact L4.out.2⟩, ⟨J5⟩, B5⟩
end Go.Proofs.Ytoajlmlobaccdaa.P
namespace Go.Proofs.Ytoajlmlobaccdaa.P
open Go.RowKit Go.Proofs.YtoajlmlobaccdaaW.PrintWords Go.Proofs.YtoajlmlobaccdaaW.PrintLast Go.Proofs.YtoajlmlobaccdaaW.PrintMore
attribute [local go_sem] ptrOf_slice
attribute [local go_sem] min2_str max2_int min2_int max_two min_two max_three min_three max_four min_four
set_option linter.unusedVariables false
set_option linter.unusedSimpArgs false
mutual
def impl_CellTable.l0 : Nat → List (List Int) → List (List (S101)) → Int → Int → Option ((List (List Int)))
  | 0, _, _, _, _ => none
  | k + 1, x5, x17, x18, x19 => if x19 < x18 then (if 0 ≤ x19 then (if x19 < (x17.length : Int) then (impl_CellTable.l1 k x5 ([] : List Int) x17 x18 x19 (rd_L11 x17 x19) ((rd_L11 x17 x19).length : Int) 0) else (none)) else (none)) else (some x5)
def impl_CellTable.l1 : Nat → List (List Int) → List Int → List (List (S101)) → Int → Int → List (S101) → Int → Int → Option ((List (List Int)))
  | 0, _, _, _, _, _, _, _, _ => none
  | k + 1, x5, x8, x17, x18, x19, x23, x24, x25 => if x25 < x24 then (if 0 ≤ x25 then (if x25 < (x23.length : Int) then (if x8.length < 17592186044416 then (impl_CellTable.l1 k x5 (x8 ++ [(rd_T101 x23 x25).f0]) x17 x18 x19 x23 x24 (wrap64 (x25 + 1))) else (none)) else (none)) else (none)) else (if x5.length < 5864062014805 then (impl_CellTable.l0 k (x5 ++ [x8]) x17 x18 (wrap64 (x19 + 1))) else (none))
end
def impl_CellTable.f (k : Nat) (a0 : Int) (l0 : List Int) : Option (List (List Int)) := (impl_IsWiring.f k a0 l0).bind fun b => if b = true then ((impl_cellsOf.f k a0 l0).bind fun l1 => impl_CellTable.l0 k ([] : List (List Int)) l1 (l1.length : Int) 0) else some []
theorem impl_CellTable.mono_l : ∀ k, (∀ y0 y1 y2 y3, LeO (impl_CellTable.l0 k y0 y1 y2 y3) (impl_CellTable.l0 (k + 1) y0 y1 y2 y3)) ∧ (∀ y0 y1 y2 y3 y4 y5 y6 y7, LeO (impl_CellTable.l1 k y0 y1 y2 y3 y4 y5 y6 y7) (impl_CellTable.l1 (k + 1) y0 y1 y2 y3 y4 y5 y6 y7))
  | 0 => ⟨fun _ _ _ _ r h => by simp [impl_CellTable.l0] at h, fun _ _ _ _ _ _ _ _ r h => by simp [impl_CellTable.l1] at h⟩
  | k + 1 => by
    obtain ⟨ih0, ih1⟩ := impl_CellTable.mono_l k; refine ⟨?_, ?_⟩ <;> (intros; (first | unfold impl_CellTable.l0 | unfold impl_CellTable.l1); repeat' first | (with_reducible first | apply ih0 | apply ih1 | exact LeO.refl _ | exact LeO.none _ | refine LeO.ite ?_ ?_ | refine LeO.bind ?_ (fun _ => ?_)) | exact LeO.none _)
theorem impl_CellTable.mono : ∀ a0 a1 k, LeO (impl_CellTable.f k a0 a1) (impl_CellTable.f (k + 1) a0 a1) := fun a0 a1 k => LeO.bind (impl_IsWiring.mono _ _ _) (fun _ => LeO.ite (LeO.bind (impl_cellsOf.mono _ _ _) (fun _ => (impl_CellTable.mono_l k).1 _ _ _ _)) (LeO.refl _))
set_option maxHeartbeats 8000000 in
set_option maxRecDepth 100000 in
theorem impl_CellTable.calls (k : Nat) (a0 : Int) (AW : Option Addr) (cW : Nat) (lW : List Int) (r : List (List Int)) (w00 : World) (hr0 : Kd.C (Kd.int .i64) w00 AW lW.length lW) (hc0 : lW.length ≤ cW) (h : impl_CellTable.f k a0 lW = some r) :
    Calls Try.prog 38 #[.int .i64 a0, .slice AW lW.length cW] w00 fun e w' => ∃ v0_ : Value, e = .returned (v0_) ∧ Kd.S (Kd.slice 3 (Kd.int .i64)) 34 w' w00.heap.size (fun _ => True) v0_ r ∧ Below w00.heap.size w00 w' := by
  have hu101 := Try.underlying101; have HR0 := am_ hr0; have HC0 := am_ hc0; clear hr0 hc0; obtain ⟨b, A0_, h⟩ := Option.bind_eq_some_iff.mp (show ((impl_IsWiring.f k a0 lW).bind fun b => if b = true then ((impl_cellsOf.f k a0 lW).bind fun l1 => impl_CellTable.l0 k ([] : List (List Int)) l1 (l1.length : Int) 0) else some []) = some r from h); have AI := am_ A0_; clear A0_; cases b with
  | false =>
    obtain rfl := Option.some.inj (show some ([] : List (List Int)) = some r from h); clear h; go_enter Try.func38, Try.ntmps38
    go_wp2_with (first | (go_at_call 94; refine (impl_IsWiring.calls k a0 AW cW lW false _ HR0.out HC0.out AI.out).mono ?_; rintro e w3 ⟨rfl, hB3⟩; have HB3 := am_ hB3; clear hB3))
    go_ret; exact ⟨_, by first | rfl | (simp; done), Kd.S_nil _ _ _ _ _, HB3.out⟩
  | true =>
  obtain ⟨l1, A1_, h⟩ := Option.bind_eq_some_iff.mp (show ((impl_cellsOf.f k a0 lW).bind fun l1 => impl_CellTable.l0 k ([] : List (List Int)) l1 (l1.length : Int) 0) = some r from h); have AC := am_ A1_; clear A1_; have H : (impl_CellTable.l0 k ([] : List (List Int)) l1 (l1.length : Int) 0) = some r := h; clear h; have H' := am_ H; clear H; go_enter Try.func38, Try.ntmps38
  go_wp2_with (first
   | (go_at_call 94; refine (impl_IsWiring.calls k a0 AW cW lW true _ HR0.out HC0.out AI.out).mono ?_; rintro e wI ⟨rfl, hB3⟩; have HBI := am_ hB3; clear hB3)
   | (go_at_call 95; refine (impl_cellsOf.calls k a0 AW cW lW l1 wI (Kd.C_below HR0.out HBI.out) HC0.out AC.out).mono ?_; rintro e w ⟨vL, rfl, hL, hBL⟩; obtain ⟨A1, c1, rfl, hc1, hr1⟩ := Kd.S_reads hL; have HR1 := am_ hr1; have HC1 := am_ hc1; have HB00 := am_ (below_step HBI.out hBL); have HB := am_ (Below.refl w.heap.size w); clear hr1 hc1 hL hBL))
  go_loopg [5, 19] k (fun kq v5 v19 w' => ∃ (x5_1 : List (List Int)) (x19_1 : Int), v19 = .int .i64 x19_1 ∧ Aside0 (impl_CellTable.l0 kq x5_1 l1 (l1.length : Int) x19_1 = some r) ∧ Aside0 (kq ≤ k) ∧ Aside0 (Kd.S (Kd.slice 3 (Kd.int .i64)) 34 w' w.heap.size (fun _ => True) v5 x5_1) ∧ Aside0 (Below w.heap.size w w'))
  case atStart => exact ⟨(([] : List (List Int))), (0), vt_, H', ⟨Nat.le_refl _⟩, ⟨by first | exact Kd.S_nil _ _ _ _ _ | exact Kd.N_nil _ _ _ _ _ | exact Kd.V_nil _ _ _ _ _ | exact Kd.Q_nil _ _ _ _ _ | exact Kd.R_nil _ _ _ _ _⟩, bX0_ HB⟩
  case round =>
    clear H'; obtain ⟨x5_1, x19_1, rfl, HA, HK1, HO_5, HB⟩ := hrel; cases gk with
    | zero => exact absurd HA.out (by simp [impl_CellTable.l0])
    | succ k1 =>
      have H := HA.out; clear HA; simp only [impl_CellTable.l0] at H
      by_cases c3 : x19_1 < (l1.length : Int)
      · rw [if_pos c3] at H; have c3b0 := decide_eq_true c3; clear c3; by_cases c4 : 0 ≤ x19_1
        · rw [if_pos c4] at H; have c4b0 := decide_eq_true c4; clear c4; by_cases c5 : x19_1 < (l1.length : Int)
          · rw [if_pos c5] at H; have c5b0 := decide_eq_true c5; clear c5; have H' := am_ H; clear H; have p1443 : 0 ≤ (x19_1 : Int) := oda_; have q1443 : x19_1 < (l1.length : Int) := oda_; obtain ⟨ad1443, A1443_0, c1443_0, e1443, hx1443_0, hl1443_0, hi1443_0⟩ := at_L11 HR1.out x19_1 p1443 q1443; cases e1443; replace hx1443_0 := hc_ HB hx1443_0; have HR1443_0 := am_ hi1443_0; have HC1443_0 := am_ hl1443_0; clear hi1443_0 hl1443_0; replace p1443 := eq_true p1443; replace q1443 := eq_true q1443; go_wp2; go_loopg [8, 25] k1 (fun kq v8 v25 w' => ∃ (x8_2 : List Int) (x25_2 : Int), v25 = .int .i64 x25_2 ∧ Aside0 (impl_CellTable.l1 kq x5_1 x8_2 l1 (l1.length : Int) x19_1 (rd_L11 l1 x19_1) ((rd_L11 l1 x19_1).length : Int) x25_2 = some r) ∧ Aside0 (kq ≤ k1) ∧ Aside0 (Kd.S (Kd.slice 3 (Kd.int .i64)) 34 w' w.heap.size (fun k_ => some k_ ≠ (v8 : Value).ownBlock) u5 x5_1) ∧ Aside0 (Kd.R (Kd.int .i64) 3 w' w.heap.size (fun _ => True) v8 x8_2) ∧ Aside0 (Below w.heap.size w w'))
            case atStart => exact ⟨(([] : List Int)), (0), vt_, H', ⟨Nat.le_refl _⟩, ⟨by refine sx_ ?_; exact Kd.S_mono HO_5.out (fun _ hk => (by simp [Value.ownBlock]))⟩, ⟨by first | exact Kd.R_nil _ _ _ _ _ | exact Kd.N_nil _ _ _ _ _ | exact Kd.V_nil _ _ _ _ _ | exact Kd.Q_nil _ _ _ _ _ | exact Kd.S_nil _ _ _ _ _⟩, bX0_ HB⟩
            case round =>
              clear H'; try clear c3b0 c4b0 c5b0 hx1443_0 p1443 q1443
              obtain ⟨x8_2, x25_2, rfl, HA, HK2, HO_5, HO_8, HB⟩ := hrel; cases gk with
              | zero => exact absurd HA.out (by simp [impl_CellTable.l1])
              | succ k2 =>
                have H := HA.out; clear HA; simp only [impl_CellTable.l1] at H
                by_cases c6 : x25_2 < ((rd_L11 l1 x19_1).length : Int)
                · rw [if_pos c6] at H; have c6b0 := decide_eq_true c6; clear c6; by_cases c7 : 0 ≤ x25_2
                  · rw [if_pos c7] at H; have c7b0 := decide_eq_true c7; clear c7; by_cases c8 : x25_2 < ((rd_L11 l1 x19_1).length : Int)
                    · rw [if_pos c8] at H; have c8b0 := decide_eq_true c8; clear c8; by_cases c9 : x8_2.length < 17592186044416
                      · rw [if_pos c9] at H; have LMc9 := am_ c9; clear c9; obtain ⟨y1446, hy1446⟩ : ∃ y_ : List Int, y_ = (x8_2 ++ [(rd_T101 (rd_L11 l1 x19_1) x25_2).f0]) := ⟨_, rfl⟩; replace H : (impl_CellTable.l1 k2 x5_1 y1446 l1 (l1.length : Int) x19_1 (rd_L11 l1 x19_1) ((rd_L11 l1 x19_1).length : Int) (wrap64 (x25_2 + 1))) = some r := yH_ hy1446 H; have Ny1446 := am_ hy1446; clear hy1446; have H' := am_ H; clear H; have p1444 : 0 ≤ (x25_2 : Int) := oda_; have q1444 : x25_2 < ((rd_L11 l1 x19_1).length : Int) := oda_; obtain ⟨ad1444, e1444, hx1444_0, hx1444_1, hx1444_2, hx1444_3, hx1444_4⟩ := at_T101 HR1443_0.out x25_2 p1444 q1444; cases e1444; replace hx1444_0 := hc_ HB hx1444_0; replace hx1444_1 := hc_ HB hx1444_1; replace hx1444_2 := hc_ HB hx1444_2; replace hx1444_3 := hc_ HB hx1444_3; replace hx1444_4 := hc_ HB hx1444_4; replace p1444 := eq_true p1444; replace q1444 := eq_true q1444; go_wp2_with (first | ((with_reducible refine gd_ 10 rfl ?_); refine be_ 10 #[.int .i64 0, .int .i64 0, .int .i64 0, .int .i64 0, .int .i64 0] 101 ?_; intro gb1445 hg w10 hbox hb; replace HO_5 := am_ (Kd.S_below (sx_ HO_5.out) hb); replace HO_8 := rb_ HO_8 hb; have BK1445 := am_ hbox; have GW1445 := gw0_ HB hg; have GE1445 := GW1445; replace HB := bs0_ HB hb; clear hb hbox hg; obtain ⟨hcz11_0, hfz11_0, hcz11_1, hfz11_1, hcz11_2, hfz11_2, hcz11_3, hfz11_3, hcz11_4, hfz11_4⟩ := bk5_ BK1445) | ((with_reducible refine gate_builtin (b := .append) (xs := #[.tmp 29, .tmp 32]) rfl ?_); at_builtin; refine Kd.R_append (Kd.int .i64) (w0 := w) w.heap.size rfl (.tmp 29) (.tmp 32) 34 3 (.int .i64 0) 8 rfl Try.underlying34 info3 rfl (by decide) (by omega) u8 x8_2 ((rd_T101 (rd_L11 l1 x19_1) x25_2).f0) [.int .i64 ((rd_T101 (rd_L11 l1 x19_1) x25_2).f0)] (fun _ => True) (fun _ => False) rfl (by first | (go_simp; done) | (go_simp; rfl)) ?aP (fun _ hk => hk.elim) ?aF ?aO ?aB ?aS ?aL ?_; (case aP => exact rfl); (case aB => exact (bx1 HB.out GE1445.out)); (case aF => exact (fun _ _ => trivial)); (case aO => exact (by refine rx_ ?_; exact Kd.R_mono (Kd.R_far (p := ⟨gb1445, 4, none⟩) (Kd.R_far (p := ⟨gb1445, 3, none⟩) (Kd.R_far (p := ⟨gb1445, 2, none⟩) (Kd.R_far (p := ⟨gb1445, 1, none⟩) (Kd.R_far (p := ⟨gb1445, 0, none⟩) (Kd.R_types HO_8.out BK1445.out (by decide)) (fun _ hk => hk.2) (.int .i64 ((rd_T101 (rd_L11 l1 x19_1) x25_2).f0))) (fun _ hk => hk.2) (.int .i64 ((rd_T101 (rd_L11 l1 x19_1) x25_2).f1))) (fun _ hk => hk.2) (.int .i64 ((rd_T101 (rd_L11 l1 x19_1) x25_2).f2))) (fun _ hk => hk.2) (.int .i64 ((rd_T101 (rd_L11 l1 x19_1) x25_2).f3))) (fun _ hk => hk.2) (.int .i64 ((rd_T101 (rd_L11 l1 x19_1) x25_2).f4))) (fun _ hk => trivial))); (case aS => exact (below_size (bx1 HB.out GE1445.out))); (case aL => have := LMc9.out; omega); intro v1447 w12 ho hb hg hat; rw [← Ny1446.out] at ho; replace HO_5 := am_ (Kd.S_after (ok := (fun _ => True)) (by refine sx_ ?_; exact Kd.S_mono (Kd.S_far (p := ⟨gb1445, 4, none⟩) (Kd.S_far (p := ⟨gb1445, 3, none⟩) (Kd.S_far (p := ⟨gb1445, 2, none⟩) (Kd.S_far (p := ⟨gb1445, 1, none⟩) (Kd.S_far (p := ⟨gb1445, 0, none⟩) (Kd.S_types HO_5.out BK1445.out (by decide)) (fun _ hk => hk.2) (.int .i64 ((rd_T101 (rd_L11 l1 x19_1) x25_2).f0))) (fun _ hk => hk.2) (.int .i64 ((rd_T101 (rd_L11 l1 x19_1) x25_2).f1))) (fun _ hk => hk.2) (.int .i64 ((rd_T101 (rd_L11 l1 x19_1) x25_2).f2))) (fun _ hk => hk.2) (.int .i64 ((rd_T101 (rd_L11 l1 x19_1) x25_2).f3))) (fun _ hk => hk.2) (.int .i64 ((rd_T101 (rd_L11 l1 x19_1) x25_2).f4))) (fun _ hk => ⟨trivial, hk.1⟩)) hg hat); replace BK1445 := am_ (blk_grown (g := gb1445) (o := .cells #[.int .i64 ((rd_T101 (rd_L11 l1 x19_1) x25_2).f0), .int .i64 ((rd_T101 (rd_L11 l1 x19_1) x25_2).f1), .int .i64 ((rd_T101 (rd_L11 l1 x19_1) x25_2).f2), .int .i64 ((rd_T101 (rd_L11 l1 x19_1) x25_2).f3), .int .i64 ((rd_T101 (rd_L11 l1 x19_1) x25_2).f4)] 101 (0, 0)) (by refine kx_ ?_; refine blk_put (cs := #[.int .i64 ((rd_T101 (rd_L11 l1 x19_1) x25_2).f0), .int .i64 ((rd_T101 (rd_L11 l1 x19_1) x25_2).f1), .int .i64 ((rd_T101 (rd_L11 l1 x19_1) x25_2).f2), .int .i64 ((rd_T101 (rd_L11 l1 x19_1) x25_2).f3), .int .i64 0]) ?_ 4 _ rfl; refine kx_ ?_; refine blk_put (cs := #[.int .i64 ((rd_T101 (rd_L11 l1 x19_1) x25_2).f0), .int .i64 ((rd_T101 (rd_L11 l1 x19_1) x25_2).f1), .int .i64 ((rd_T101 (rd_L11 l1 x19_1) x25_2).f2), .int .i64 0, .int .i64 0]) ?_ 3 _ rfl; refine kx_ ?_; refine blk_put (cs := #[.int .i64 ((rd_T101 (rd_L11 l1 x19_1) x25_2).f0), .int .i64 ((rd_T101 (rd_L11 l1 x19_1) x25_2).f1), .int .i64 0, .int .i64 0, .int .i64 0]) ?_ 2 _ rfl; refine kx_ ?_; refine blk_put (cs := #[.int .i64 ((rd_T101 (rd_L11 l1 x19_1) x25_2).f0), .int .i64 0, .int .i64 0, .int .i64 0, .int .i64 0]) ?_ 1 _ rfl; refine kx_ ?_; refine blk_put (cs := #[.int .i64 0, .int .i64 0, .int .i64 0, .int .i64 0, .int .i64 0]) ?_ 0 _ rfl; refine kx_ ?_; exact BK1445.out) hg (Kd.R_ne HO_8.out BK1445.out (by decide))); replace HB := am_ hb; have HO1448 := am_ ho; clear HO_8; clear ho hb hg hat))
                        go_roundg k2
                        case measure => have := HK1.out; have := HK2.out; omega
                        case rel => exact ⟨(y1446), (wrap64 (x25_2 + 1)), vt_, H', hl2_ HK1 HK2, ⟨by refine sx_ ?_; exact Kd.S_mono HO_5.out (fun _ hk => hk.2)⟩, rX_ HO1448, bX1_ HB GE1445⟩
                      · rw [if_neg c9] at H; exact absurd H (by simp)
                    · rw [if_neg c8] at H; exact absurd H (by simp)
                  · rw [if_neg c7] at H; exact absurd H (by simp)
                · rw [if_neg c6] at H; have c6b0 := decide_eq_false c6; clear c6; by_cases c13 : x5_1.length < 5864062014805
                  · rw [if_pos c13] at H; have LMc13 := am_ c13; clear c13; obtain ⟨y1449, hy1449⟩ : ∃ y_ : List (List Int), y_ = (x5_1 ++ [x8_2]) := ⟨_, rfl⟩; replace H : (impl_CellTable.l0 k2 y1449 l1 (l1.length : Int) (wrap64 (x19_1 + 1))) = some r := yH_ hy1449 H; have Ny1449 := am_ hy1449; clear hy1449; have H' := am_ H; clear H; obtain ⟨Ao15, co15, eo15⟩ := Kd.R_slice HO_8.out; subst eo15; go_wp2_with (first | ((with_reducible refine gate_builtin (b := .append) (xs := #[.tmp 35, .tmp 37]) rfl ?_); at_builtin; refine Kd.S_append (Kd.slice 3 (Kd.int .i64)) (w0 := w) w.heap.size rfl (.tmp 35) (.tmp 37) 39 34 (.slice none 0 0) 24 rfl Try.underlying39 info34 rfl (by decide) (by omega) u5 x5_1 x8_2 [.slice Ao15 x8_2.length co15] (fun _ => True) (fun k_ => some k_ = (.slice Ao15 x8_2.length co15 : Value).ownBlock) rfl rfl ?aP (fun k_ hk_ => ((Kd.R_mono (ok' := fun k_ => ((fun _ => True)) k_ ∧ some k_ ≠ (u5 : Value).ownBlock) (Kd.R_apart' (HO_8.out) (Kd.S_typed HO_5.out) (by decide)) (fun k_ hk => ⟨trivial, hk.2⟩))).1 k_ hk_.symm) ?aF ?aO ?aB ?aS ?aL ?_; (case aP => exact Kd.M_row (Kd.R_mono (Kd.R_tight rfl (Kd.R_mono (ok' := fun k_ => ((fun _ => True)) k_ ∧ some k_ ≠ (u5 : Value).ownBlock) (Kd.R_apart' (HO_8.out) (Kd.S_typed HO_5.out) (by decide)) (fun k_ hk => ⟨trivial, hk.2⟩))) (fun _ h_ => h_))); (case aB => exact (bx0 HB.out)); (case aF => exact (fun _ _ => trivial)); (case aO => exact (by refine sx_ ?_; exact Kd.S_mono HO_5.out (fun k_ hk => ⟨trivial, fun e_ => hk e_⟩))); (case aS => exact (below_size (bx0 HB.out))); (case aL => have := LMc13.out; omega); intro v1450 w14 ho hb hg hat; rw [← Ny1449.out] at ho; replace HB := am_ hb; have HO1451 := am_ ho; clear HO_5; clear HO_8; clear ho hb hg hat))
                    go_roundg k2
                    case measure => have := HK1.out; have := HK2.out; omega
                    case rel => exact ⟨(y1449), (wrap64 (x19_1 + 1)), vt_, H', hl2_ HK1 HK2, ⟨sx_ HO1451.out⟩, bX0_ HB⟩
                  · rw [if_neg c13] at H; exact absurd H (by simp)
          · rw [if_neg c5] at H; exact absurd H (by simp)
        · rw [if_neg c4] at H; exact absurd H (by simp)
      · rw [if_neg c3] at H; have c3b0 := decide_eq_false c3; clear c3; obtain rfl := Option.some.inj H; go_wp2; go_ret; exact ⟨_, by first | rfl | (simp [errW_none, errW_some] <;> rfl) | (simp [*, errW_none, errW_some] <;> rfl), Kd.S_lower (sx_ HO_5.out) (below_size HB00.out), below_step HB00.out (bx0 HB.out)⟩
end Go.Proofs.Ytoajlmlobaccdaa.P
