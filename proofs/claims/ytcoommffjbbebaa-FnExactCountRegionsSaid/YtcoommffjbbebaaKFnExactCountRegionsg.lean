/- What the law FnExactCountRegions reaches, part 7: functions as plain Lean functions with the proofs that their calls come to them, and plain lemmas over these. Put together by a program (wip/pack.py). -/
import Derived.Test.YtcoommffjbbebaaKFnExactCountRegionsa
import Derived.Test.YtcoommffjbbebaaKFnExactCountRegionse
import Derived.Test.YtcoommffjbbebaaKFnExactCountRegionsf
import Derived.Maps.OwnSet
import Derived.Maps.OwnOps
import Derived.Maps.RangeWalk
import Derived.DeepKeys4
import Derived.OpenShut
import Derived.WideKeyPair
import Derived.Test.YtcoommffjbbebaaKFnExactCountRegionsd
import Derived.Test.YtcoommffjbbebaaWWords
import Derived.ChangeArms
import Derived.Deep.Slices
import Derived.Deep.Fields
import Derived.WideShapes
import Derived.KernelRfl
namespace Go.Proofs.Ytcoommffjbbebaa.P
open Go.RowKit Go.Proofs.YtcoommffjbbebaaW.PrintWords Go.Proofs.YtcoommffjbbebaaW.PrintLast Go.Proofs.YtcoommffjbbebaaW.PrintMore
attribute [local go_sem] ptrOf_slice
set_option linter.unusedVariables false
set_option linter.unusedSimpArgs false
abbrev P3 := Int × Int × Int
def keyP (p : P3) : Value := .agg #[.int .i64 p.1, .int .i64 p.2.1, .int .i64 p.2.2]
def klP (p : P3) : Lit := .string (keyBytes [.int .i64 p.1, .int .i64 p.2.1, .int .i64 p.2.2])
def okB (p : P3) : Bool := (Lit.int .i64 p.1).wf && ((Lit.int .i64 p.2.1).wf && (Lit.int .i64 p.2.2).wf)
def okP (p : P3) : Prop := (Lit.int .i64 p.1).wf = true ∧ (Lit.int .i64 p.2.1).wf = true ∧ (Lit.int .i64 p.2.2).wf = true
theorem lawP : Maps.Keyed Try.prog 103 := Maps.Keyed.of_law (deep_law_laid (m := 2) (by kernel_rfl) (by decide) (of_decide_eq_true (by kernel_rfl)) (by kernel_rfl) (by kernel_rfl))
theorem cellsP : Try.prog.cellsOf 103 = 3 := by kernel_rfl
theorem cellsI : Try.prog.cellsOf 3 = 1 := by kernel_rfl
theorem ktP : Try.prog.keyType 103 = true := by kernel_rfl
theorem sizeP : ∃ m, Try.prog.types.size = m + 1 := ⟨Try.prog.types.size - 1, by kernel_rfl⟩
theorem hu3 : Try.prog.underlying 103 = some (.array 3 3) := by kernel_rfl
theorem keyOf_P (p : P3) (h : okP p) : keyOf Try.prog 103 (keyP p) = some (klP p) := by
  obtain ⟨wa, wb, wc⟩ := h
  obtain ⟨m, hm⟩ := sizeP
  unfold keyOf keyP klP
  simp only [hu3]
  rw [if_pos (by simp [ktP, Value.formed, hu3, cellsP]), hm]
  unfold Program.keyLits
  simp only [hu3, Value.cells]
  rw [if_pos (by rw [cellsP]; rfl), show List.range 3 = [0, 1, 2] from rfl, List.mapM_cons, List.mapM_cons, List.mapM_cons, List.mapM_nil]
  simp [cellsI, Program.keyLits, Try.underlying3, wa, wb, wc]
theorem klP_inj {p q : P3} (hp : okP p) (hq : okP q) (h : klP p = klP q) : p = q := by
  have e := lawP.inj (keyOf_P p hp) (h ▸ keyOf_P q hq)
  unfold keyP at e
  injection e with e
  have e0 := congrArg (fun a : Array Value => a.toList) e
  simp at e0
  obtain ⟨a, b, c⟩ := p
  obtain ⟨a', b', c'⟩ := q
  simp at e0
  simp [e0]
theorem klP_lit (p : P3) : WideAt.IsKeyLit (klP p) := trivial
set_option maxRecDepth 100000 in
theorem invP {key : Value} {kl : Lit} (h : keyOf Try.prog 103 key = some kl) : ∃ p, key = keyP p ∧ kl = klP p ∧ okP p := by
  obtain ⟨m, hm⟩ := sizeP
  unfold keyOf at h
  simp only [hu3] at h
  split at h
  · next hf =>
    rw [Bool.and_eq_true] at hf
    cases key with
    | agg cs =>
      have hs : cs.size = 3 := by have := hf.2; simp [Value.formed, hu3, cellsP] at this; exact this
      obtain ⟨l⟩ := cs
      obtain ⟨u, v, x, rfl⟩ : ∃ u v x, l = [u, v, x] := by
        clear h hf
        rcases l with _ | ⟨u, _ | ⟨v, _ | ⟨x, _ | ⟨y, l⟩⟩⟩⟩
        · simp at hs
        · simp at hs
        · simp at hs
        · exact ⟨u, v, x, rfl⟩
        · simp at hs
      rw [hm] at h
      unfold Program.keyLits at h
      simp only [hu3, Value.cells] at h
      rw [if_pos (by rw [cellsP]; rfl), show List.range 3 = [0, 1, 2] from rfl, List.mapM_cons, List.mapM_cons, List.mapM_cons, List.mapM_nil] at h
      simp only [Option.map_eq_some_iff] at h
      obtain ⟨ls, ⟨l2, hx, e1⟩, e2⟩ := h
      simp only [bind, Option.bind_eq_some_iff, pure, Option.some.injEq, cellsI] at hx
      obtain ⟨y0, h0, _, ⟨y1, h1, _, ⟨y2, h2, _, rfl, rfl⟩, rfl⟩, rfl⟩ := hx
      have key1 : ∀ (z : Value) (l : List Lit), Try.prog.keyLits (m + 1) 3 [z] = some l → ∃ n, z = .int .i64 n ∧ l = [.int .i64 n] ∧ (Lit.int .i64 n).wf = true := by
        intro z l hz
        unfold Program.keyLits at hz
        simp only [Try.underlying3] at hz
        cases z <;> simp at hz
        obtain ⟨⟨rfl, hw⟩, rfl⟩ := hz
        exact ⟨_, rfl, rfl, hw⟩
      obtain ⟨x1, rfl, rfl, w1⟩ := key1 u y0 h0
      obtain ⟨x2, rfl, rfl, w2⟩ := key1 v y1 h1
      obtain ⟨x3, rfl, rfl, w3⟩ := key1 x y2 h2
      exact ⟨(x1, x2, x3), rfl, by rw [← e2, ← e1]; rfl, w1, w2, w3⟩
    | _ => simp [Value.formed, hu3] at hf
  · cases h
def lookP (es : List (P3 × Int)) (p : P3) : Int := match es.find? (fun e => e.1 == p) with
  | some e => e.2
  | none => 0
def putE (es : List (P3 × Int)) (p : P3) (m : Int) : List (P3 × Int) := if es.any (fun e => e.1 == p) then es.map (fun e => if e.1 == p then (p, m) else e) else es ++ [(p, m)]
structure MapIs (D : DataW Unit) (es : List (P3 × Int)) : Prop where
  ok : ∀ e ∈ es, okP e.1 ∧ (Lit.int .i64 e.2).wf = true
  nd : (es.map Prod.fst).Nodup
  at_ : ∀ e ∈ es, ∀ z, D.atKey (klP e.1) z = .lit (.int .i64 e.2)
  has : ∀ kl, Maps.has D kl = true → ∃ e ∈ es, kl = klP e.1
theorem MapIs.nil : MapIs (.map []) [] := ⟨(fun _ h => by cases h), List.nodup_nil, (fun _ h => by cases h), (fun kl h => by simp [Maps.has] at h)⟩
theorem MapIs.look {D : DataW Unit} {es : List (P3 × Int)} (h : MapIs D es) {p : P3} (hp : okP p) {c : Int} (hc : D.atKey (klP p) (.lit (.int .i64 0)) = .lit (.int .i64 c)) : c = lookP es p := by
  unfold lookP
  cases hf : es.find? (fun e => e.1 == p) with
  | some e =>
    have hm := List.mem_of_find?_eq_some hf
    have hk : e.1 = p := by have := List.find?_some hf; simpa using this
    have h1 := h.at_ e hm (.lit (.int .i64 0))
    rw [hk, hc] at h1
    injection h1 with h1
    injection h1
  | none =>
    have hn : Maps.has D (klP p) = false := by
      cases hh : Maps.has D (klP p) with
      | false => rfl
      | true =>
        obtain ⟨e, he, ek⟩ := h.has _ hh
        have := List.find?_eq_none.1 hf e he
        exact absurd (klP_inj hp (h.ok e he).1 ek).symm (by simpa using this)
    have h1 := Maps.atKey_of_not_has hn (.lit (.int .i64 0))
    rw [hc] at h1
    injection h1 with h1
    injection h1
theorem putE_keys (es : List (P3 × Int)) (p : P3) (m : Int) : (putE es p m).map Prod.fst = if es.any (fun e => e.1 == p) then es.map Prod.fst else es.map Prod.fst ++ [p] := by
  unfold putE
  split
  · rw [List.map_map]
    apply List.map_congr_left
    intro e he
    show (if e.1 == p then (p, m) else e).1 = e.1
    split
    · next h => exact (by simpa using h : e.1 = p).symm
    · rfl
  · rw [List.map_append]
    rfl
theorem MapIs.put {D : DataW Unit} {es : List (P3 × Int)} (h : MapIs D es) (hD : Maps.IsMap D) {p : P3} (hp : okP p) {m : Int} (hm : (Lit.int .i64 m).wf = true) : MapIs (D.put (klP p) (.lit (.int .i64 m))) (putE es p m) := by
  have mem : ∀ e ∈ putE es p m, e = (p, m) ∨ (e ∈ es ∧ e.1 ≠ p) := by
    intro e he
    unfold putE at he
    split at he
    · obtain ⟨e0, h0, rfl⟩ := List.mem_map.1 he
      split
      · exact .inl rfl
      · next hne => exact .inr ⟨h0, by simpa using hne⟩
    · next hany =>
      rcases List.mem_append.1 he with he | he
      · refine .inr ⟨he, fun e1 => hany (List.any_eq_true.2 ⟨e, he, by simpa using e1⟩)⟩
      · exact .inl (List.mem_singleton.1 he)
  have has_p : (p, m) ∈ putE es p m := by
    unfold putE
    split
    · next hany =>
      obtain ⟨e, he, hk⟩ := List.any_eq_true.1 hany
      exact List.mem_map.2 ⟨e, he, by rw [if_pos hk]⟩
    · exact List.mem_append_right _ List.mem_cons_self
  have keep : ∀ e ∈ es, e.1 ≠ p → e ∈ putE es p m := by
    intro e he hne
    unfold putE
    split
    · exact List.mem_map.2 ⟨e, he, by rw [if_neg (by simpa using hne)]⟩
    · exact List.mem_append_left _ he
  refine ⟨fun e he => ?_, ?_, fun e he z => ?_, fun kl hk => ?_⟩
  · rcases mem e he with rfl | ⟨h1, _⟩
    · exact ⟨hp, hm⟩
    · exact h.ok e h1
  · rw [putE_keys]
    split
    · exact h.nd
    · next hany =>
      refine List.nodup_append.2 ⟨h.nd, by simp, fun a ha b hb e => ?_⟩
      rw [List.mem_singleton] at hb
      subst hb
      subst e
      obtain ⟨x, hx, rfl⟩ := List.mem_map.1 ha
      exact hany (List.any_eq_true.2 ⟨x, hx, by simp⟩)
  · rcases mem e he with rfl | ⟨h1, h2⟩
    · exact Maps.atKey_put_same hD (klP_lit p) _ z
    · rw [Maps.atKey_put_other (fun e1 => h2 (klP_inj (h.ok e h1).1 hp e1))]
      exact h.at_ e h1 z
  · by_cases e : kl = klP p
    · exact ⟨(p, m), has_p, e⟩
    · rw [Maps.has_put_other e] at hk
      obtain ⟨x, hx, e2⟩ := h.has kl hk
      exact ⟨x, keep x hx (fun e3 => e (by rw [e2, e3])), e2⟩
theorem isMap_of {w : World} {b n : Nat} {D : DataW Unit} {R : Value → Option (DataW Unit × List MemPlace)} (h : w.ownsMap Try.prog 103 R b n D) : Maps.IsMap D := by
  obtain ⟨es, clock, _, _, _, rfl⟩ := h
  exact ⟨_, rfl⟩
theorem map_step {w w1 : World} {b n : Nat} {D : DataW Unit} {R : Value → Option (DataW Unit × List MemPlace)} (h : w.ownsMap Try.prog 103 R b n D) (hm : w1.heap[b]? = w.heap[b]?) : w1.ownsMap Try.prog 103 R b n D := by
  obtain ⟨es, clock, hb, F, hs, hD⟩ := h
  exact ⟨es, clock, hm.trans hb, F, hs, hD⟩
theorem map_set {w : World} {b n g j : Nat} {u : Value} {D : DataW Unit} {R : Value → Option (DataW Unit × List MemPlace)} (h : w.ownsMap Try.prog 103 R b n D) (hne : b ≠ g) : (w.setCell ⟨g, j, none⟩ u).ownsMap Try.prog 103 R b n D := map_step h (Below.heap_setCell w ⟨g, j, none⟩ u b hne)
theorem zeroI (w : World) : (zeroValue 3).run Try.prog w = .ok (.int .i64 0) w := by kernel_rfl
abbrev GLine := S98
def meetIn (k : Nat) (a : GLine) (i : Int) : List GLine → Int → List (P3 × Int) → Option (List (P3 × Int))
  | [], _, es => some es
  | b :: r, j, es => (impl_MeetLines.f k a.f0 a.f1 a.f2 b.f0 b.f1 b.f2).bind fun t => if okB (t.1, t.2.1, t.2.2.1) = true then meetIn k a i r (wrap64 (j + 1)) (if t.2.2.2 = true then putE es (t.1, t.2.1, t.2.2.1) (Go.bits .or .i64 (Go.bits .or .i64 (lookP es (t.1, t.2.1, t.2.2.1)) (shl .i64 1 i)) (shl .i64 1 j)) else es) else none
theorem meetIn_mono (k : Nat) (a : GLine) (i : Int) : ∀ (l : List GLine) (j : Int) (es : List (P3 × Int)), LeO (meetIn k a i l j es) (meetIn (k + 1) a i l j es)
  | [], _, _ => LeO.refl _
  | b :: r, j, es => LeO.bind (impl_MeetLines.mono _ _ _ _ _ _ _) (fun _ => LeO.ite (meetIn_mono k a i r _ _) (LeO.refl _))
def meetOut (k : Nat) (l : List GLine) : Nat → Nat → List (P3 × Int) → Option (List (P3 × Int))
  | 0, _, es => some es
  | d + 1, i, es => (meetIn k (rd_T98 l (i : Int)) (i : Int) (l.take i) 0 es).bind fun es' => meetOut k l d (i + 1) es'
theorem meetOut_mono (k : Nat) (l : List GLine) : ∀ (d i : Nat) (es : List (P3 × Int)), LeO (meetOut k l d i es) (meetOut (k + 1) l d i es)
  | 0, _, _ => LeO.refl _
  | d + 1, i, es => LeO.bind (meetIn_mono _ _ _ _ _ _) (fun _ => meetOut_mono k l d _ _)
def impl_meetings.f (k : Nat) (l : List GLine) : Option (List (P3 × Int)) := if l.length ≤ 6 then meetOut k l l.length 0 [] else none
def meet10.T10 : Bool × List (List Nat × List Nat) := (true, [([], []), ([], []), ([], []), ([], []), ([1, 2, 3], [1, 2, 3]), ([], []), ([], []), ([], []), ([], []), ([6, 7, 8], [6, 7, 8]), ([5, 9], [5, 9]), ([], []), ([11], [11]), ([10, 12], [10, 12]), ([], []), ([14], [14]), ([13, 15], [13, 15]), ([0, 4, 16, 0, 1, 2, 3, 4, 5, 6, 7, 8, 9, 10, 11, 12, 13, 14, 15, 16], [0, 4, 16])])
def meet10.B10 : List Nat := [0, 0, 0, 0, 14, 0, 0, 0, 0, 448, 992, 0, 2048, 8160, 0, 16384, 65504, 131071]
theorem meet10.tab10 : rtab .any (opsOf Try.f84 10) = meet10.T10 := by kernel_rfl
theorem meet10.bits10 : waitsOk meet10.T10.2 meet10.B10 = true := by kernel_rfl
set_option maxHeartbeats 8000000 in
set_option maxRecDepth 100000 in
theorem impl_meetings.calls (k : Nat) (A0 : Option Addr) (c0 : Nat) (l0 : List GLine) (r : List (P3 × Int)) (w : World) (hr0 : Kd.C k98 w A0 l0.length l0) (hc0 : l0.length ≤ c0) (h : impl_meetings.f k l0 = some r) :
    Calls Try.prog 84 #[.slice A0 l0.length c0] w fun e w' => ∃ (B n : Nat) (D : DataW Unit), e = .returned (.map (some B)) ∧ w'.ownsMap Try.prog 103 (plainElem Try.prog 3) B n D ∧ MapIs D r ∧ w.heap.size ≤ B ∧ Below w.heap.size w w' := by
  unfold impl_meetings.f at h
  by_cases h6 : l0.length ≤ 6
  case neg => rw [if_neg h6] at h; cases h
  rw [if_pos h6] at h
  have HR := Aside0.mk hr0
  have H6 := Aside0.mk h6
  have HO := Aside0.mk h
  clear hr0 h6 h
  have hmm := @run_makeMap Try.prog
  go_enter Try.func84, Try.ntmps84
  go_wp2
  obtain ⟨B, hB⟩ : ∃ B, B = w.heap.size := ⟨_, rfl⟩
  rw [← hB]
  have HM := Aside0.mk (show (w.alloc (.map #[] 0)).ownsMap Try.prog 103 (plainElem Try.prog 3) B 0 (.map [] : DataW Unit) from by rw [hB]; exact World.ownsMap_made w _ _ _)
  have HB := Aside0.mk (below_alloc (Below.refl w.heap.size w) (.map #[] 0))
  have HBB := Aside0.mk (show w.heap.size ≤ B by omega)
  clear hB hmm
  go_loopg [15] (l0.length + 1) (fun kq v15 w' => ∃ (i n : Nat) (x15 : Int) (D : DataW Unit) (es : List (P3 × Int)), v15 = .int .i64 x15 ∧ Aside0 (x15 = (i : Int) ∧ i ≤ l0.length ∧ kq + i = l0.length + 1 ∧ n ≤ 6 * i) ∧ Aside0 (w'.ownsMap Try.prog 103 (plainElem Try.prog 3) B n D) ∧ Aside0 (MapIs D es) ∧ Aside0 (meetOut k l0 (l0.length - i) i es = some r) ∧ Aside0 (Below w.heap.size w w'))
  case atStart => exact ⟨0, 0, 0, .map [], [], rfl, ⟨rfl, Nat.zero_le _, rfl, Nat.le_refl _⟩, HM, ⟨MapIs.nil⟩, HO, HB⟩
  case round =>
    clear HM HB HO
    obtain ⟨i, n, x15, D, es, rfl, HI, HM, HD, HO, HB⟩ := hrel
    obtain ⟨gk_out, hgko⟩ : ∃ g, g = gk := ⟨_, rfl⟩
    obtain ⟨hi0, hi1, hi2, hi3⟩ := HI.out
    by_cases ci : i < l0.length
    · have hx0 : 0 ≤ x15 := by omega
      have hx1 : x15 < (l0.length : Int) := by omega
      obtain ⟨ad, e0, z0, z1, z2⟩ := at_T98 HR.out x15 hx0 hx1
      subst e0
      replace z0 := (HB.out.cell (World.block_lt_of_cell? w _ z0)).trans z0
      replace z1 := (HB.out.cell (World.block_lt_of_cell? w _ z1)).trans z1
      replace z2 := (HB.out.cell (World.block_lt_of_cell? w _ z2)).trans z2
      have ho := HO.out
      rw [show l0.length - i = (l0.length - (i + 1)) + 1 by omega, meetOut] at ho
      obtain ⟨es', hin, ho⟩ := Option.bind_eq_some_iff.mp ho
      rw [← hi0] at hin
      obtain ⟨a, ha⟩ : ∃ a, a = rd_T98 l0 x15 := ⟨_, rfl⟩
      rw [← ha] at z0 z1 z2 hin
      obtain ⟨si, hsi⟩ : ∃ s, shl .i64 1 x15 = s := ⟨_, rfl⟩
      have hsi_ : (IntKind.i64.wrap (1 * 2 ^ min x15.toNat 64)) = si := hsi
      have hsiz : x15 ≤ 64 → (IntKind.i64.wrap (1 * 2 ^ x15.toNat)) = si := shl_small hsi
      have hsiu : (IntKind.i64.wrap (2 ^ min x15.toNat 64)) = si := by have h_ := hsi_; rw [Int.one_mul] at h_; exact h_
      have hsiv : x15 ≤ 64 → (IntKind.i64.wrap (2 ^ x15.toNat)) = si := fun hle_ => by have h_ := hsiz hle_; rw [Int.one_mul] at h_; exact h_
      have hx64 : x15 ≤ 64 := by have := H6.out; omega
      have hsia := hsiz hx64
      have hsib := hsiv hx64
      have X0 := eq_true hx0
      have X1 := eq_true hx1
      have X64 := eq_true hx64
      have X0b : decide (0 ≤ x15) = true := decide_eq_true hx0
      have X1b : decide (x15 < (l0.length : Int)) = true := decide_eq_true hx1
      have hle : i ≤ l0.length := hi1
      have HIN := Aside0.mk hin
      have HO2 := Aside0.mk ho
      have HI1 := Aside0.mk (show x15 = (i : Int) ∧ i + 1 ≤ l0.length ∧ gk + i = l0.length + 1 ∧ n ≤ 6 * i from ⟨hi0, ci, hi2, hi3⟩)
      have hwr : Aside0 (wrap64 (x15 + 1) = ((i + 1 : Nat) : Int)) := ⟨by rw [hi0]; have := H6.out; unfold wrap64; omega⟩
      have HSI := Aside0.mk hsi
      clear hin ho hi0 hi1 hi2 hi3 ci HI HO hx0 hx1 hsiz hsiv hx64 hle ha hsi
      go_upto_region 5 with (first | ((with_reducible refine gate_dst (N := 5) rfl ?_); refine box_event ?hg (N := 5) ?hd (cs := #[.int .i64 0, .int .i64 0, .int .i64 0]) (t := 98) ?hr ?_; (case hd => rfl); (case hg => rfl); (case hr => first | (go_simp; done) | (go_simp; rfl)); intro g1 hg1 w6 hbox1 hb1; have BK1 := Aside0.mk hbox1; have GE1 := Aside0.mk (show w.heap.size ≤ g1 ∧ B ≠ g1 from by rw [hg1]; exact ⟨HB.out.size, Nat.ne_of_lt HM.out.lt⟩); have HB1 := Aside0.mk (below_step HB.out hb1); have HM1 := Aside0.mk (map_step HM.out (hb1.block B HM.out.lt)); clear hbox1 hb1 hg1; have y0 : w6.cell? ⟨g1, 0, none⟩ = some (.int .i64 0) := (blk_cell BK1.out 0).trans rfl; have y1 : w6.cell? ⟨g1, 1, none⟩ = some (.int .i64 0) := (blk_cell BK1.out 1).trans rfl; have y2 : w6.cell? ⟨g1, 2, none⟩ = some (.int .i64 0) := (blk_cell BK1.out 2).trans rfl; have f0 := blk_frozen BK1.out 0; have f1 := blk_frozen BK1.out 1; have f2 := blk_frozen BK1.out 2))
      have hbk : ((((w6.setCell ⟨g1, 0, none⟩ (.int .i64 a.f0)).setCell ⟨g1, 1, none⟩ (.int .i64 a.f1)).setCell ⟨g1, 2, none⟩ (.int .i64 a.f2))).heap[g1]? = some (.cells #[.int .i64 a.f0, .int .i64 a.f1, .int .i64 a.f2] 98 (0, 0)) := blk_put (cs := #[.int .i64 a.f0, .int .i64 a.f1, .int .i64 0]) (blk_put (cs := #[.int .i64 a.f0, .int .i64 0, .int .i64 0]) (blk_put BK1.out 0 _ rfl) 1 _ rfl) 2 _ rfl
      have hbm : ((((w6.setCell ⟨g1, 0, none⟩ (.int .i64 a.f0)).setCell ⟨g1, 1, none⟩ (.int .i64 a.f1)).setCell ⟨g1, 2, none⟩ (.int .i64 a.f2))).ownsMap Try.prog 103 (plainElem Try.prog 3) B n D := map_set (map_set (map_set HM1.out GE1.out.2) GE1.out.2) GE1.out.2
      have hbb : Below w.heap.size w ((((w6.setCell ⟨g1, 0, none⟩ (.int .i64 a.f0)).setCell ⟨g1, 1, none⟩ (.int .i64 a.f1)).setCell ⟨g1, 2, none⟩ (.int .i64 a.f2))) := below_set (below_set (below_set HB1.out GE1.out.1) GE1.out.1) GE1.out.1
      generalize (((w6.setCell ⟨g1, 0, none⟩ (.int .i64 a.f0)).setCell ⟨g1, 1, none⟩ (.int .i64 a.f1)).setCell ⟨g1, 2, none⟩ (.int .i64 a.f2)) = W1 at hbk hbm hbb ⊢
      have HK1 := Aside0.mk hbk
      have HM2 := Aside0.mk hbm
      have HB2 := Aside0.mk hbb
      clear hbk hbm hbb y0 y1 y2 f0 f1 f2 HM1 HB1 BK1 HM HB z0 z1 z2
      obtain ⟨i0_, hi0_, _⟩ := Option.map_eq_some_iff.1 info98
      have hcut := cut_to (P := Try.prog) 52 98 .i64 Try.underlying52 hi0_ (some ad) l0.length c0 x15 (of_eq_true X0) (by have := of_eq_true X1; omega) hc0
      obtain ⟨L1, hL1⟩ : ∃ L1, L1 = l0.take x15.toNat := ⟨_, rfl⟩
      have hLx : (L1.length : Int) = x15 := by rw [hL1, List.length_take]; have := of_eq_true X1; have := of_eq_true X0; omega
      have hLn : L1.length = x15.toNat := by omega
      have HCT := Aside0.mk (show Kd.C k98 w (some ad) L1.length L1 from by rw [hL1]; exact Kd.C_take (m := x15.toNat) HR.out (by have := of_eq_true X1; omega))
      rw [← hLn] at hcut
      have HLX := Aside0.mk hLx
      have HIN2 := Aside0.mk (show meetIn k a x15 (L1.drop 0) 0 es = some es' from by rw [hL1]; have h := HIN.out; rw [HI1.out.1] at h ⊢; simpa using h)
      clear hL1 hLx hLn
      clear HIN hi0_
      go_wp2
      go_loopg [24] (L1.length + 1) (fun kq v24 w' => ∃ (j m : Nat) (x24 : Int) (D2 : DataW Unit) (es2 : List (P3 × Int)), v24 = .int .i64 x24 ∧ Aside0 (x24 = (j : Int) ∧ j ≤ L1.length ∧ kq + j = L1.length + 1 ∧ m ≤ 6 * i + j) ∧ Aside0 (w'.ownsMap Try.prog 103 (plainElem Try.prog 3) B m D2) ∧ Aside0 (MapIs D2 es2) ∧ Aside0 (meetIn k a x15 (L1.drop j) x24 es2 = some es') ∧ Aside0 (w'.heap[g1]? = some (.cells #[.int .i64 a.f0, .int .i64 a.f1, .int .i64 a.f2] 98 (0, 0))) ∧ Aside0 (Below w.heap.size w w'))
      case atStart => exact ⟨0, n, 0, D, es, by first | rfl | (simp; done), ⟨rfl, Nat.zero_le _, by omega, by have := HI1.out.2.2.2; omega⟩, HM2, HD, HIN2, HK1, HB2⟩
      case round =>
        clear HM2 HD HIN2 HK1 HB2
        obtain ⟨j, m, x24, D2, es2, rfl, HJ, HM, HD, HIN, HK1, HB⟩ := hrel
        obtain ⟨hj0, hj1, hj2, hj3⟩ := HJ.out
        by_cases cj : j < L1.length
        · have hx0 : 0 ≤ x24 := by omega
          have hx1 : x24 < (L1.length : Int) := by omega
          obtain ⟨ad2, e2, z0, z1, z2⟩ := at_T98 HCT.out x24 hx0 hx1
          obtain rfl : ad = ad2 := by injection e2
          clear e2
          replace z0 := (HB.out.cell (World.block_lt_of_cell? w _ z0)).trans z0
          replace z1 := (HB.out.cell (World.block_lt_of_cell? w _ z1)).trans z1
          replace z2 := (HB.out.cell (World.block_lt_of_cell? w _ z2)).trans z2
          have hin := HIN.out
          have hlt : j < L1.length := cj
          rw [List.drop_eq_getElem_cons hlt] at hin
          obtain ⟨b, hb⟩ : ∃ b, b = rd_T98 L1 x24 := ⟨_, rfl⟩
          have hbj : L1[j] = b := by rw [hb, hj0]; unfold rd_T98; rw [Int.toNat_natCast, List.getD_eq_getElem?_getD, List.getElem?_eq_getElem hlt]; rfl
          rw [hbj, meetIn] at hin
          rw [← hb] at z0 z1 z2
          obtain ⟨⟨px, py, pd, pk⟩, hmt, hin⟩ := Option.bind_eq_some_iff.mp hin
          replace hin : (if okB (px, py, pd) = true then meetIn k a x15 (L1.drop (j + 1)) (wrap64 (x24 + 1)) (if pk = true then putE es2 (px, py, pd) (Go.bits .or .i64 (Go.bits .or .i64 (lookP es2 (px, py, pd)) (shl .i64 1 x15)) (shl .i64 1 x24)) else es2) else none) = some es' := hin
          by_cases hpk : okB (px, py, pd) = true
          case neg => rw [if_neg hpk] at hin; cases hin
          rw [if_pos hpk] at hin
          have HPB := Aside0.mk (show okP (px, py, pd) from by unfold okB at hpk; rw [Bool.and_eq_true, Bool.and_eq_true] at hpk; exact ⟨hpk.1, hpk.2.1, hpk.2.2⟩)
          clear hpk
          obtain ⟨sj, hsj⟩ : ∃ s, shl .i64 1 x24 = s := ⟨_, rfl⟩
          have hsj_ : (IntKind.i64.wrap (1 * 2 ^ min x24.toNat 64)) = sj := hsj
          have hsjz : x24 ≤ 64 → (IntKind.i64.wrap (1 * 2 ^ x24.toNat)) = sj := shl_small hsj
          have hsju : (IntKind.i64.wrap (2 ^ min x24.toNat 64)) = sj := by have h_ := hsj_; rw [Int.one_mul] at h_; exact h_
          have hsjv : x24 ≤ 64 → (IntKind.i64.wrap (2 ^ x24.toNat)) = sj := fun hle_ => by have h_ := hsjz hle_; rw [Int.one_mul] at h_; exact h_
          have hx64 : x24 ≤ 64 := by have := of_eq_true X64; have := HLX.out; omega
          have hsja := hsjz hx64
          have hsjb := hsjv hx64
          rw [HSI.out, hsj] at hin
          have Y0 := eq_true hx0
          have Y1 := eq_true hx1
          have Y64 := eq_true hx64
          have Y0b : decide (0 ≤ x24) = true := decide_eq_true hx0
          have Y1b : decide (x24 < (L1.length : Int)) = true := decide_eq_true hx1
          have HMT := Aside0.mk hmt
          have HIN1 := Aside0.mk hin
          have HJ1 := Aside0.mk (show x24 = (j : Int) ∧ j + 1 ≤ L1.length ∧ gk + j = L1.length + 1 ∧ m ≤ 6 * i + j from ⟨hj0, cj, hj2, hj3⟩)
          have hwj : Aside0 (wrap64 (x24 + 1) = ((j + 1 : Nat) : Int)) := ⟨by rw [hj0]; have := of_eq_true X64; have := HLX.out; unfold wrap64; omega⟩
          clear hmt hin hj0 hj1 hj2 hj3 cj hx0 hx1 hx64 hsjz hsjv hb hbj hlt HJ HIN hsj
          go_upto_region 8 with (first | ((with_reducible refine gate_dst (N := 7) rfl ?_); refine box_event ?hg (N := 7) ?hd (cs := #[.int .i64 0, .int .i64 0, .int .i64 0]) (t := 98) ?hr ?_; (case hd => rfl); (case hg => rfl); (case hr => first | (go_simp; done) | (go_simp; rfl)); intro g2 hg2 w7 hbox2 hb2; have BK2 := Aside0.mk hbox2; have GE2 := Aside0.mk (show w.heap.size ≤ g2 ∧ B ≠ g2 ∧ g1 ≠ g2 from by rw [hg2]; exact ⟨HB.out.size, Nat.ne_of_lt HM.out.lt, Nat.ne_of_lt (blk_lt HK1.out)⟩); have HB3 := Aside0.mk (below_step HB.out hb2); have HM3 := Aside0.mk (map_step HM.out (hb2.block B HM.out.lt)); have HK3 := Aside0.mk (blk_below HK1.out hb2); clear hbox2 hb2 hg2; have y0 : w7.cell? ⟨g2, 0, none⟩ = some (.int .i64 0) := (blk_cell BK2.out 0).trans rfl; have y1 : w7.cell? ⟨g2, 1, none⟩ = some (.int .i64 0) := (blk_cell BK2.out 1).trans rfl; have y2 : w7.cell? ⟨g2, 2, none⟩ = some (.int .i64 0) := (blk_cell BK2.out 2).trans rfl; have f0 := blk_frozen BK2.out 0; have f1 := blk_frozen BK2.out 1; have f2 := blk_frozen BK2.out 2))
          have hbk : ((((w7.setCell ⟨g2, 0, none⟩ (.int .i64 b.f0)).setCell ⟨g2, 1, none⟩ (.int .i64 b.f1)).setCell ⟨g2, 2, none⟩ (.int .i64 b.f2))).heap[g2]? = some (.cells #[.int .i64 b.f0, .int .i64 b.f1, .int .i64 b.f2] 98 (0, 0)) := blk_put (cs := #[.int .i64 b.f0, .int .i64 b.f1, .int .i64 0]) (blk_put (cs := #[.int .i64 b.f0, .int .i64 0, .int .i64 0]) (blk_put BK2.out 0 _ rfl) 1 _ rfl) 2 _ rfl
          have hbl : ((((w7.setCell ⟨g2, 0, none⟩ (.int .i64 b.f0)).setCell ⟨g2, 1, none⟩ (.int .i64 b.f1)).setCell ⟨g2, 2, none⟩ (.int .i64 b.f2))).heap[g1]? = some (.cells #[.int .i64 a.f0, .int .i64 a.f1, .int .i64 a.f2] 98 (0, 0)) := blk_far (p := ⟨g2, 2, none⟩) (blk_far (p := ⟨g2, 1, none⟩) (blk_far (p := ⟨g2, 0, none⟩) HK3.out GE2.out.2.2 _) GE2.out.2.2 _) GE2.out.2.2 _
          have hbm : ((((w7.setCell ⟨g2, 0, none⟩ (.int .i64 b.f0)).setCell ⟨g2, 1, none⟩ (.int .i64 b.f1)).setCell ⟨g2, 2, none⟩ (.int .i64 b.f2))).ownsMap Try.prog 103 (plainElem Try.prog 3) B m D2 := map_set (map_set (map_set HM3.out GE2.out.2.1) GE2.out.2.1) GE2.out.2.1
          have hbb : Below w.heap.size w ((((w7.setCell ⟨g2, 0, none⟩ (.int .i64 b.f0)).setCell ⟨g2, 1, none⟩ (.int .i64 b.f1)).setCell ⟨g2, 2, none⟩ (.int .i64 b.f2))) := below_set (below_set (below_set HB3.out GE2.out.1) GE2.out.1) GE2.out.1
          generalize (((w7.setCell ⟨g2, 0, none⟩ (.int .i64 b.f0)).setCell ⟨g2, 1, none⟩ (.int .i64 b.f1)).setCell ⟨g2, 2, none⟩ (.int .i64 b.f2)) = W2 at hbk hbl hbm hbb ⊢
          clear y0 y1 y2 f0 f1 f2 HM3 HB3 HK3 BK2 HM HB HK1 z0 z1 z2
          have HBK1 := Aside0.mk hbl
          have HBK2 := Aside0.mk hbk
          have HM2 := Aside0.mk hbm
          have HB2 := Aside0.mk hbb
          clear hbl hbk hbm hbb
          have a0_ : W2.cell? ⟨g1, 0, none⟩ = some (.int .i64 a.f0) := (blk_cell HBK1.out 0).trans rfl
          have a1_ : W2.cell? ⟨g1, 1, none⟩ = some (.int .i64 a.f1) := (blk_cell HBK1.out 1).trans rfl
          have a2_ : W2.cell? ⟨g1, 2, none⟩ = some (.int .i64 a.f2) := (blk_cell HBK1.out 2).trans rfl
          have b0_ : W2.cell? ⟨g2, 0, none⟩ = some (.int .i64 b.f0) := (blk_cell HBK2.out 0).trans rfl
          have b1_ : W2.cell? ⟨g2, 1, none⟩ = some (.int .i64 b.f1) := (blk_cell HBK2.out 1).trans rfl
          have b2_ : W2.cell? ⟨g2, 2, none⟩ = some (.int .i64 b.f2) := (blk_cell HBK2.out 2).trans rfl
          cases pk with
          | false =>
            go_wp2_with (first | (go_at_call 132; refine (impl_MeetLines.calls k a.f0 a.f1 a.f2 b.f0 b.f1 b.f2 px py pd false _ HMT.out).mono ?_; rintro e w9 ⟨rfl, hb9⟩; have HM := Aside0.mk (map_step HM2.out (hb9.block B HM2.out.lt)); have HBK3 := Aside0.mk (blk_below HBK1.out hb9); have HB := Aside0.mk (below_step HB2.out hb9); clear hb9 HM2 HB2 a0_ a1_ a2_ b0_ b1_ b2_))
            go_roundg (gk - 1)
            case measure => have := HJ1.out; omega
            case rel => exact ⟨j + 1, m, wrap64 (x24 + 1), D2, es2, by first | rfl | (simp; done), ⟨hwj.out, HJ1.out.2.1, by have := HJ1.out; omega, by have := HJ1.out; omega⟩, HM, HD, ⟨HIN1.out⟩, HBK3, HB⟩
          | true =>
            go_upto_region 10 with (first | (go_at_call 132; refine (impl_MeetLines.calls k a.f0 a.f1 a.f2 b.f0 b.f1 b.f2 px py pd true _ HMT.out).mono ?_; rintro e w9 ⟨rfl, hb9⟩; have HM := Aside0.mk (map_step HM2.out (hb9.block B HM2.out.lt)); have HBK3 := Aside0.mk (blk_below HBK1.out hb9); have HB := Aside0.mk (below_step HB2.out hb9); clear hb9 HM2 HB2 a0_ a1_ a2_ b0_ b1_ b2_))
            have hpk : okP (px, py, pd) := HPB.out
            obtain ⟨c, hlk, hat, hwc⟩ := World.ownsMap.lookup_int (World.ownsMap.drew HM.out) lawP Try.underlying101 Try.underlying3 (zeroI _) (keyOf_P (px, py, pd) hpk)
            replace hlk : (Instr.lookup 101 (.map (some B)) (.agg #[.int .i64 px, .int .i64 py, .int .i64 pd]) false).run Try.prog w9.drew = .ok (.int .i64 c) w9.drew := hlk
            have HC := Aside0.mk (MapIs.look HD.out hpk hat)
            have HP := Aside0.mk hpk
            have HN := Aside0.mk (show m < 1000 by have := HJ1.out; have := HI1.out; have := H6.out; have := HLX.out; omega)
            clear hat hwc hpk
            replace HM := Aside0.mk (World.ownsMap.drew HM.out)
            replace HB := Aside0.mk (below_drew1 HB.out)
            replace HBK3 := Aside0.mk (show w9.drew.heap[g1]? = some (.cells #[.int .i64 a.f0, .int .i64 a.f1, .int .i64 a.f2] 98 (0, 0)) from HBK3.out)
            refine start_ (n := 18) (S := fun w' => (Instr.lookup 101 (.map (some B)) (.agg #[.int .i64 px, .int .i64 py, .int .i64 pd]) false).run Try.prog w' = .ok (.int .i64 c) w') (ds := [17]) #[false, false, false, false, false, false, false, false, false, false, false, false, false, false, false, false, false, false] (by kernel_rfl) rfl rfl hlk (fun hHeld => ?_); refine with_tabW meet10.tab10 meet10.bits10 (fun HT_ HW_ => ?_)
            generalize w9.drew = w10 at HM HB HBK3 hHeld ⊢
            refine pure_ (i := 0) (N := some 38) (v := ?_) (a' := ?_) #[true, false, false, false, false, false, false, false, false, false, false, false, false, false, false, false, false, false] rfl rfl (any_of HT_.out (by kernel_rfl)) (fun _ _ _ h => h) (Or.inl ⟨by rfl, ?_⟩) ?_ ?_
            rotate_left
            · intro w'
              go_simp
              with_reducible rfl
            rotate_left
            · simp only [Act.put, List.setIfInBounds_toArray, List.set_cons_zero, List.set_cons_succ, i64_w, i32_w]
              rfl
            refine pure_ (i := 1) (N := some 39) (v := ?_) (a' := ?_) #[true, true, false, false, false, false, false, false, false, false, false, false, false, false, false, false, false, false] rfl rfl (any_of HT_.out (by kernel_rfl)) (fun _ _ _ h => h) (Or.inl ⟨by rfl, ?_⟩) ?_ ?_
            rotate_left
            · intro w'
              go_simp
              with_reducible rfl
            rotate_left
            · simp only [Act.put, List.setIfInBounds_toArray, List.set_cons_zero, List.set_cons_succ, i64_w, i32_w]
              rfl
            refine pure_ (i := 2) (N := some 40) (v := ?_) (a' := ?_) #[true, true, true, false, false, false, false, false, false, false, false, false, false, false, false, false, false, false] rfl rfl (any_of HT_.out (by kernel_rfl)) (fun _ _ _ h => h) (Or.inl ⟨by rfl, ?_⟩) ?_ ?_
            rotate_left
            · intro w'
              go_simp
              with_reducible rfl
            rotate_left
            · simp only [Act.put, List.setIfInBounds_toArray, List.set_cons_zero, List.set_cons_succ, i64_w, i32_w]
              rfl
            refine pure_ (i := 3) (N := some 41) (v := ?_) (a' := ?_) #[true, true, true, true, false, false, false, false, false, false, false, false, false, false, false, false, false, false] rfl rfl (any_of HT_.out (by kernel_rfl)) (fun _ _ _ h => h) (Or.inl ⟨by rfl, ?_⟩) ?_ ?_
            rotate_left
            · intro w'
              go_simp
              with_reducible rfl
            rotate_left
            · simp only [Act.put, List.setIfInBounds_toArray, List.set_cons_zero, List.set_cons_succ, i64_w, i32_w]
              rfl
            refine pure_ (i := 4) (N := some 42) (v := ?_) (a' := ?_) #[true, true, true, true, true, false, false, false, false, false, false, false, false, false, false, false, false, false] rfl rfl (any_of HT_.out (by kernel_rfl)) (fun _ _ _ h => h) (Or.inl ⟨by rfl, ?_⟩) ?_ ?_
            rotate_left
            · intro w'
              go_simp
              with_reducible rfl
            rotate_left
            · simp only [Act.put, List.setIfInBounds_toArray, List.set_cons_zero, List.set_cons_succ, i64_w, i32_w]
              rfl
            refine pure_ (i := 5) (N := some 43) (v := ?_) (a' := ?_) #[true, true, true, true, true, true, false, false, false, false, false, false, false, false, false, false, false, false] rfl rfl (any_of HT_.out (by kernel_rfl)) (fun _ _ _ h => h) (Or.inl ⟨by rfl, ?_⟩) ?_ ?_
            rotate_left
            · intro w'
              go_simp
              with_reducible rfl
            rotate_left
            · simp only [Act.put, List.setIfInBounds_toArray, List.set_cons_zero, List.set_cons_succ, i64_w, i32_w]
              rfl
            refine pure_ (i := 6) (N := some 44) (v := ?_) (a' := ?_) #[true, true, true, true, true, true, true, false, false, false, false, false, false, false, false, false, false, false] rfl rfl (any_of HT_.out (by kernel_rfl)) (fun _ _ _ h => h) (Or.inl ⟨by rfl, ?_⟩) ?_ ?_
            rotate_left
            · intro w'
              go_simp
              with_reducible rfl
            rotate_left
            · simp only [Act.put, List.setIfInBounds_toArray, List.set_cons_zero, List.set_cons_succ, i64_w, i32_w]
              rfl
            refine pure_ (i := 7) (N := some 45) (v := ?_) (a' := ?_) #[true, true, true, true, true, true, true, true, false, false, false, false, false, false, false, false, false, false] rfl rfl (any_of HT_.out (by kernel_rfl)) (fun _ _ _ h => h) (Or.inl ⟨by rfl, ?_⟩) ?_ ?_
            rotate_left
            · intro w'
              go_simp
              with_reducible rfl
            rotate_left
            · simp only [Act.put, List.setIfInBounds_toArray, List.set_cons_zero, List.set_cons_succ, i64_w, i32_w]
              rfl
            refine pure_ (i := 8) (N := some 46) (v := ?_) (a' := ?_) #[true, true, true, true, true, true, true, true, true, false, false, false, false, false, false, false, false, false] rfl rfl (any_of HT_.out (by kernel_rfl)) (fun _ _ _ h => h) (Or.inl ⟨by rfl, ?_⟩) ?_ ?_
            rotate_left
            · intro w'
              go_simp
              with_reducible rfl
            rotate_left
            · simp only [Act.put, List.setIfInBounds_toArray, List.set_cons_zero, List.set_cons_succ, i64_w, i32_w]
              rfl
            refine pure_ (i := 9) (N := some 47) (v := ?_) (a' := ?_) #[true, true, true, true, true, true, true, true, true, true, false, false, false, false, false, false, false, false] rfl rfl (any_of HT_.out (by kernel_rfl)) (fun _ _ _ h => h) (Or.inl ⟨by rfl, ?_⟩) ?_ ?_
            rotate_left
            · intro w'
              go_simp
              with_reducible rfl
            rotate_left
            · simp only [Act.put, List.setIfInBounds_toArray, List.set_cons_zero, List.set_cons_succ, i64_w, i32_w]
              rfl
            refine take_ (i := 10) (N := some 48) (v := ?_) (a' := ?_) #[true, true, true, true, true, true, true, true, true, true, true, false, false, false, false, false, false, false] rfl rfl (take_ofW HT_.out HW_.out (by kernel_rfl)) (fun _ _ _ h => h) (Or.inl ⟨by rfl, ?_⟩) hHeld ?_ ?_
            rotate_left
            · rintro w' s0
              go_simp
              with_reducible rfl
            rotate_left
            · simp only [Act.put, List.setIfInBounds_toArray, List.set_cons_zero, List.set_cons_succ, i64_w, i32_w]
              rfl
            refine pure_ (i := 11) (N := some 49) (v := ?_) (a' := ?_) #[true, true, true, true, true, true, true, true, true, true, true, true, false, false, false, false, false, false] rfl rfl (any_of HT_.out (by kernel_rfl)) (fun _ _ _ h => h) (Or.inl ⟨by rfl, ?_⟩) ?_ ?_
            rotate_left
            · intro w'
              go_simp
              with_reducible rfl
            rotate_left
            · simp only [Act.put, List.setIfInBounds_toArray, List.set_cons_zero, List.set_cons_succ, i64_w, i32_w]
              rfl
            refine pure_ (i := 12) (N := some 50) (v := ?_) (a' := ?_) #[true, true, true, true, true, true, true, true, true, true, true, true, true, false, false, false, false, false] rfl rfl (any_of HT_.out (by kernel_rfl)) (fun _ _ _ h => h) (Or.inl ⟨by rfl, ?_⟩) ?_ ?_
            rotate_left
            · intro w'
              go_simp
              with_reducible rfl
            rotate_left
            · simp only [Act.put, List.setIfInBounds_toArray, List.set_cons_zero, List.set_cons_succ, i64_w, i32_w]
              rfl
            refine pure_ (i := 13) (N := some 51) (v := ?_) (a' := ?_) #[true, true, true, true, true, true, true, true, true, true, true, true, true, true, false, false, false, false] rfl rfl (any_of HT_.out (by kernel_rfl)) (fun _ _ _ h => h) (Or.inl ⟨by rfl, ?_⟩) ?_ ?_
            rotate_left
            · intro w'
              go_simp
              with_reducible rfl
            rotate_left
            · simp only [Act.put, List.setIfInBounds_toArray, List.set_cons_zero, List.set_cons_succ, i64_w, i32_w]
              rfl
            refine pure_ (i := 14) (N := some 52) (v := ?_) (a' := ?_) #[true, true, true, true, true, true, true, true, true, true, true, true, true, true, true, false, false, false] rfl rfl (any_of HT_.out (by kernel_rfl)) (fun _ _ _ h => h) (Or.inl ⟨by rfl, ?_⟩) ?_ ?_
            rotate_left
            · intro w'
              go_simp
              with_reducible rfl
            rotate_left
            · simp only [Act.put, List.setIfInBounds_toArray, List.set_cons_zero, List.set_cons_succ, i64_w, i32_w]
              rfl
            refine pure_ (i := 15) (N := some 53) (v := ?_) (a' := ?_) #[true, true, true, true, true, true, true, true, true, true, true, true, true, true, true, true, false, false] rfl rfl (any_of HT_.out (by kernel_rfl)) (fun _ _ _ h => h) (Or.inl ⟨by rfl, ?_⟩) ?_ ?_
            rotate_left
            · intro w'
              go_simp
              with_reducible rfl
            rotate_left
            · simp only [Act.put, List.setIfInBounds_toArray, List.set_cons_zero, List.set_cons_succ, i64_w, i32_w]
              rfl
            refine pure_ (i := 16) (N := some 54) (v := ?_) (a' := ?_) #[true, true, true, true, true, true, true, true, true, true, true, true, true, true, true, true, true, false] rfl rfl (any_of HT_.out (by kernel_rfl)) (fun _ _ _ h => h) (Or.inl ⟨by rfl, ?_⟩) ?_ ?_
            rotate_left
            · intro w'
              go_simp
              with_reducible rfl
            rotate_left
            · simp only [Act.put, List.setIfInBounds_toArray, List.set_cons_zero, List.set_cons_succ, i64_w, i32_w]
              rfl
            obtain ⟨w11, hup, hown11, hg11⟩ := World.ownsMap.update HM.out lawP Try.underlying101 (show m < maxLen by have h1 := HN.out; unfold maxLen; omega) (keyOf_P (px, py, pd) HP.out) (plainElem_int (H := Unit) Try.underlying3 (wf_bits .or .i64 (Go.bits .or .i64 c si) sj))
            replace hup : (Instr.mapUpdate 101 (.map (some B)) (.agg #[.int .i64 px, .int .i64 py, .int .i64 pd]) (.int .i64 (Go.bits .or .i64 (Go.bits .or .i64 c si) sj))).run Try.prog w10 = .ok () w11 := hup
            refine last_ (i := 17) (N := none) #[true, true, true, true, true, true, true, true, true, true, true, true, true, true, true, true, true, true] rfl rfl (one_of HT_.out (by kernel_rfl)) (by decide) (fun K hK => ?_)
            refine skip_ (w1 := ?_) (by rfl) rfl ?_ ?_
            rotate_left
            · go_simp
              rfl
            refine hK.out _ _ ?_
            clear hK K
            refine done_ (done_of HT_.out (by kernel_rfl)) ?_
            try go_wp2
            go_roundg (gk - 1)
            case measure => have := HJ1.out; omega
            case rel => exact ⟨j + 1, m + 1, wrap64 (x24 + 1), _, _, by first | rfl | (simp; done), ⟨hwj.out, HJ1.out.2.1, by have := HJ1.out; omega, by have := HJ1.out; omega⟩, ⟨hown11⟩, ⟨MapIs.put HD.out (isMap_of HM.out) HP.out (wf_bits .or .i64 (Go.bits .or .i64 c si) sj)⟩, ⟨by rw [HC.out]; exact HIN1.out⟩, ⟨(hg11.block g1 (blk_lt HBK3.out) (fun e => by injection e with e; exact GE1.out.2 e.symm)).trans HBK3.out⟩, ⟨HB.out.grown hg11 HB.out.size (fun k e => by injection e with e; rw [← e]; exact HBB.out)⟩⟩
        · have ej : j = L1.length := by omega
          have hx1 : ¬ x24 < (L1.length : Int) := by omega
          have Y1b : decide (x24 < (L1.length : Int)) = false := decide_eq_false hx1
          have Y1 := eq_false hx1
          have hin := HIN.out
          rw [ej, List.drop_of_length_le (Nat.le_refl _)] at hin
          obtain rfl := Option.some.inj (show some es2 = some es' from hin)
          clear hin ej hx1 hj0 hj1 hj2 hj3
          go_wp2
          go_roundg (gk_out - 1)
          case measure => have := HI1.out; omega
          case rel => exact ⟨i + 1, m, wrap64 (x15 + 1), D2, es2, by first | rfl | (simp; done), ⟨hwr.out, HI1.out.2.1, by have := HI1.out; omega, by have := HJ.out; have := HI1.out; have := HLX.out; have := H6.out; omega⟩, HM, HD, ⟨by have h := HO2.out; exact h⟩, HB⟩
    · have ei : i = l0.length := by omega
      have hx1 : ¬ x15 < (l0.length : Int) := by omega
      have X1b : decide (x15 < (l0.length : Int)) = false := decide_eq_false hx1
      have X1 := eq_false hx1
      have ho := HO.out
      rw [ei, Nat.sub_self] at ho
      obtain rfl := Option.some.inj (show some es = some r from ho)
      clear ho ei hx1
      go_wp2
      go_ret
      exact ⟨B, n, D, rfl, HM.out, HD.out, HBB.out, HB.out⟩
def szF (k : Nat) (m : Int) : Int := ((impl_elementsOf.f k m).map fun x => (x.length : Int)).getD 0
def sizesL (k : Nat) : List (P3 × Int) → Option (List Int)
  | [] => some []
  | e :: r => (impl_elementsOf.f k e.2).bind fun x => if x.length < 1000000 then (sizesL k r).bind fun ys => some ((x.length : Int) :: ys) else none
theorem sizesL_mono (k : Nat) : ∀ es, LeO (sizesL k es) (sizesL (k + 1) es)
  | [] => LeO.refl _
  | e :: r => LeO.bind (impl_elementsOf.mono _ _) (fun _ => LeO.ite (LeO.bind (sizesL_mono k r) (fun _ => LeO.refl _)) (LeO.refl _))
theorem sizesL_spec (k : Nat) : ∀ (es : List (P3 × Int)) (xs : List Int), sizesL k es = some xs → xs = es.map (fun e => szF k e.2) ∧ ∀ e ∈ es, ∃ x, impl_elementsOf.f k e.2 = some x ∧ szF k e.2 = (x.length : Int)
  | [], xs, h => by
    obtain rfl := Option.some.inj (show some ([] : List Int) = some xs from h)
    exact ⟨rfl, fun e he => by cases he⟩
  | e :: r, xs, h => by
    obtain ⟨x, hx, h⟩ := Option.bind_eq_some_iff.mp h
    split at h
    · obtain ⟨ys, hy, h⟩ := Option.bind_eq_some_iff.mp h
      obtain rfl := Option.some.inj h
      obtain ⟨h1, h2⟩ := sizesL_spec k r ys hy
      have hs : szF k e.2 = (x.length : Int) := by unfold szF; rw [hx]; rfl
      refine ⟨by rw [List.map_cons, hs, h1], fun e' he => ?_⟩
      rcases List.mem_cons.1 he with rfl | he
      · exact ⟨x, hx, hs⟩
      · exact h2 e' he
    · cases h
def impl_MeetingRow.f (k : Nat) (l : List GLine) : Option (List Int) := (impl_AreLines.f k l).bind fun b => if b = true then ((impl_meetings.f k l).bind fun es => if es.length < 1000 then ((sizesL k es).bind fun xs => slices_Sort_Sint_int.f xs) else none) else some []
theorem impl_meetings.mono (k : Nat) (l : List GLine) : LeO (impl_meetings.f k l) (impl_meetings.f (k + 1) l) := LeO.ite (meetOut_mono k l _ _ _) (LeO.refl _)
theorem impl_MeetingRow.mono : ∀ l k, LeO (impl_MeetingRow.f k l) (impl_MeetingRow.f (k + 1) l) := fun l k => LeO.bind (impl_AreLines.mono _ _) (fun _ => LeO.ite (LeO.bind (impl_meetings.mono _ _) (fun _ => LeO.ite (LeO.bind (sizesL_mono _ _) (fun _ => LeO.refl _)) (LeO.refl _))) (LeO.refl _))
theorem sort_permI {l l' : List Int} (h : l.Perm l') : (l.mergeSort fun x y => decide (x ≤ y)) = l'.mergeSort fun x y => decide (x ≤ y) := by
  have tr : ∀ a b c : Int, decide (a ≤ b) = true → decide (b ≤ c) = true → decide (a ≤ c) = true := fun a b c h1 h2 => by simp at *; omega
  have tot : ∀ a b : Int, (decide (a ≤ b) || decide (b ≤ a)) = true := fun a b => by simp; omega
  refine List.Perm.eq_of_pairwise (le := fun a b => decide (a ≤ b) = true) (fun a b _ _ h1 h2 => by simp at *; omega) (List.pairwise_mergeSort tr tot l) (List.pairwise_mergeSort tr tot l') (((List.mergeSort_perm l _).trans h).trans (List.mergeSort_perm l' _).symm)
theorem grown_of_below {w w1 : World} (h : Below w.heap.size w w1) : w.grownBy w1 none := ⟨h.os, h.tape, h.output, h.size, fun k hk _ => h.block k hk⟩
theorem len_le_of_sub {α : Type} [DecidableEq α] : ∀ (a b : List α), a.Nodup → (∀ x ∈ a, x ∈ b) → a.length ≤ b.length
  | [], _, _, _ => Nat.zero_le _
  | x :: t, b, hn, hs => by
    obtain ⟨hx, ht⟩ := List.nodup_cons.1 hn
    have hb := hs x List.mem_cons_self
    have h := len_le_of_sub t (b.erase x) ht (fun y hy => (List.mem_erase_of_ne (fun e => hx (by rw [← e]; exact hy))).2 (hs y (List.mem_cons_of_mem _ hy)))
    have h1 := List.length_erase_of_mem hb
    have h2 : 0 < b.length := List.length_pos_of_mem hb
    rw [List.length_cons]
    omega
def Got (es : List (P3 × Int)) (left : Lit → Bool) (qs : List (P3 × Int)) : Prop := qs.Nodup ∧ (∀ e ∈ qs, e ∈ es) ∧ ∀ e ∈ es, e ∈ qs ↔ left (klP e.1) = false
theorem Got.start {D : DataW Unit} {es : List (P3 × Int)} (h : MapIs D es) : Got es (Maps.has D) [] := ⟨List.nodup_nil, (fun e he => by cases he), fun e he => by
  have := Maps.has_true_of_atKey (h.at_ e he)
  simp [this]⟩
theorem key_inj {D : DataW Unit} {es : List (P3 × Int)} (h : MapIs D es) {e e' : P3 × Int} (he : e ∈ es) (he' : e' ∈ es) (hk : e.1 = e'.1) : e = e' := by
  have h1 := h.at_ e he (.lit .nil)
  have h2 := h.at_ e' he' (.lit .nil)
  rw [hk, h2] at h1
  injection h1 with h1
  injection h1 with _ h1
  exact Prod.ext hk h1.symm
theorem Got.step {D : DataW Unit} {es : List (P3 × Int)} {left : Lit → Bool} {qs : List (P3 × Int)} (h : Got es left qs) (hD : MapIs D es) {e : P3 × Int} (he : e ∈ es) (hl : left (klP e.1) = true) : Got es (fun z => left z && !z.sameKey (klP e.1)) (qs ++ [e]) := by
  obtain ⟨h1, h2, h3⟩ := h
  have hne : e ∉ qs := fun hm => by have := (h3 e he).1 hm; rw [hl] at this; cases this
  refine ⟨List.nodup_append.2 ⟨h1, by simp, fun a ha b hb ee => ?_⟩, fun a ha => ?_, fun a ha => ?_⟩
  · rw [List.mem_singleton] at hb
    subst hb
    subst ee
    exact hne ha
  · rcases List.mem_append.1 ha with ha | ha
    · exact h2 a ha
    · rw [List.mem_singleton.1 ha]; exact he
  · rw [List.mem_append, List.mem_singleton, h3 a ha]
    by_cases hk : a = e
    · subst hk
      simp [klP, Lit.sameKey]
    · have hkl : klP a.1 ≠ klP e.1 := fun e1 => hk (key_inj hD ha he (klP_inj (hD.ok a ha).1 (hD.ok e he).1 e1))
      have hs : (klP a.1).sameKey (klP e.1) = false := Maps.sameKey_ne hkl
      simp [hk, hs]
theorem Got.perm {D : DataW Unit} {es : List (P3 × Int)} {left : Lit → Bool} {qs : List (P3 × Int)} (h : Got es left qs) (hD : MapIs D es) (hl : ∀ kl, left kl = false) : qs.Perm es := by
  refine (List.perm_ext_iff_of_nodup h.1 ?_).2 fun e => ⟨fun he => h.2.1 e he, fun he => (h.2.2 e he).2 (hl _)⟩
  have := hD.nd
  rw [List.nodup_iff_pairwise_ne, List.pairwise_map] at this
  exact this.imp (fun hne e => hne (by rw [e]))
set_option maxHeartbeats 8000000 in
set_option maxRecDepth 100000 in
theorem impl_MeetingRow.calls (k : Nat) (A0 : Option Addr) (c0 : Nat) (l0 : List GLine) (r : List Int) (w : World) (hr0 : Kd.C k98 w A0 l0.length l0) (hc0 : l0.length ≤ c0) (h : impl_MeetingRow.f k l0 = some r) :
    Calls Try.prog 38 #[.slice A0 l0.length c0] w fun e w' => ∃ v0_ : Value, e = .returned (v0_) ∧ Kd.R (Kd.int .i64) 3 w' w.heap.size (fun _ => True) v0_ r ∧ Below w.heap.size w w' := by
  have HR := Aside0.mk hr0
  have HC0 := Aside0.mk hc0
  clear hr0 hc0
  obtain ⟨b, A1_, H⟩ := Option.bind_eq_some_iff.mp h
  clear h
  have A1 := Aside0.mk A1_
  clear A1_
  cases b with
  | false =>
    obtain rfl := Option.some.inj (show some ([] : List Int) = some r from H)
    clear H
    go_enter Try.func38, Try.ntmps38
    go_wp2_with (first | (go_at_call 83; refine (impl_AreLines.calls k A0 c0 l0 false _ HR.out HC0.out A1.out).mono ?_; rintro e w3 ⟨rfl, hB3⟩; have HB3 := Aside0.mk hB3; clear hB3))
    go_ret
    exact ⟨_, rfl, Kd.R_nil _ _ _ _ _, HB3.out⟩
  | true =>
    obtain ⟨es, A2_, H⟩ := Option.bind_eq_some_iff.mp (show ((impl_meetings.f k l0).bind fun es => if es.length < 1000 then ((sizesL k es).bind fun xs => slices_Sort_Sint_int.f xs) else none) = some r from H)
    have A2 := Aside0.mk A2_
    clear A2_
    by_cases hn : es.length < 1000
    case neg => rw [if_neg hn] at H; cases H
    rw [if_pos hn] at H
    obtain ⟨xs, A3_, H⟩ := Option.bind_eq_some_iff.mp H
    obtain ⟨hxs, hsz⟩ := sizesL_spec k es xs A3_
    have HXS := Aside0.mk hxs
    have HSZ := Aside0.mk hsz
    have HN := Aside0.mk hn
    have A4 := Aside0.mk H
    clear A3_ H hxs hsz hn
    go_enter Try.func38, Try.ntmps38
    go_wp2_with (first
      | (go_at_call 83; refine (impl_AreLines.calls k A0 c0 l0 true _ HR.out HC0.out A1.out).mono ?_; rintro e w3 ⟨rfl, hB3⟩; have HB3 := Aside0.mk hB3; clear hB3)
      | (go_at_call 84
         refine (impl_meetings.calls k A0 c0 l0 es _ (Kd.C_below HR.out HB3.out) HC0.out A2.out).mono ?_
         rintro e w4 ⟨B, n, D, rfl, hM, hD, hBB, hB4⟩
         have HM := Aside0.mk hM
         have HD := Aside0.mk hD
         have HBB := Aside0.mk (Nat.le_trans HB3.out.size hBB)
         have HB := Aside0.mk (below_step HB3.out hB4)
         clear hM hD hBB hB4 HB3)
      | (at_range
         refine wpList_range_own _ rfl _ 101 rfl 103 3 lawP Try.underlying101 (plainElem Try.prog 3) B n D rfl HM.out ?_
         intro w5 hrg hg5 hs5
         obtain ⟨q, hq⟩ : ∃ q, q = w4.heap.size := ⟨_, rfl⟩
         rw [← hq] at hrg ⊢
         have HRG := Aside0.mk hrg
         have HB5 := Aside0.mk (HB.out.grown hg5 HB.out.size (fun j hj => by cases hj))
         have HQ := Aside0.mk (show w.heap.size ≤ q from by rw [hq]; exact HB.out.size)
         clear hrg hg5 hs5 hq HM HB))
    go_frame
    go_loopg [3] (Maps.size D + 1) (fun kq v3 w' => ∃ (left : Lit → Bool) (cnt : Nat) (qs : List (P3 × Int)), Aside0 (kq = cnt + 1) ∧ Aside0 (w'.ranges Try.prog 103 (plainElem Try.prog 3) B q n D left cnt) ∧ Aside0 (Got es left qs) ∧ Aside0 (Kd.R (Kd.int .i64) 3 w' w.heap.size (fun k_ => k_ ≠ B ∧ k_ ≠ q) v3 (qs.map fun e => szF k e.2)) ∧ Aside0 (Below w.heap.size w w'))
    case atStart => exact ⟨_, _, [], ⟨rfl⟩, HRG, ⟨Got.start HD.out⟩, ⟨Kd.R_nil _ _ _ _ _⟩, HB5⟩
    case round =>
      clear HRG HB5
      obtain ⟨left, cnt, qs, HK, HRG, HG, HO, HB⟩ := hrel
      have hlen : Aside0 (qs.length ≤ es.length) := ⟨len_le_of_sub _ _ HG.out.1 HG.out.2.1⟩
      go_wp2_with (first
        | (at_next
           refine wpList_next_ranges _ rfl _ rfl 103 lawP (plainElem Try.prog 3) keyP (Value.int .i64) (fun key kl hk => by obtain ⟨p, rfl, _, _⟩ := invP hk; exact ⟨p, rfl⟩) (fun v y hv => by obtain ⟨c, rfl, _⟩ := plainElem_int_inv Try.underlying3 hv; exact ⟨c, rfl⟩) B q n D left cnt rfl HRG.out ?_ ?_))
      · intro hc0 hl0
        have hp := HG.out.perm HD.out hl0
        have hso := A4.out
        unfold slices_Sort_Sint_int.f at hso
        have hxl : xs.length = es.length := by rw [HXS.out, List.length_map]
        rw [if_pos (by have := HN.out; omega)] at hso
        have hsq : slices_Sort_Sint_int.f (qs.map fun e => szF k e.2) = some r := by
          unfold slices_Sort_Sint_int.f
          rw [if_pos (by rw [List.length_map]; have := HN.out; have := hlen.out; omega), sort_permI (hp.map _), ← HXS.out]
          exact hso
        have HSQ := Aside0.mk hsq
        clear hsq hso hxl hp hc0 hl0
        go_wp2_with (first
          | (go_at_call 86
             refine (slices_Sort_Sint_int.calls (fun k_ => k_ ≠ B ∧ k_ ≠ q) _ (qs.map fun e => szF k e.2) r w _ HB.out HO.out HSQ.out).mono ?_
             rintro e w8 ⟨rfl, hR8, hB8, _⟩
             have HR8 := Aside0.mk hR8
             have HB8 := Aside0.mk hB8
             clear hR8 hB8))
        go_ret
        exact ⟨_, rfl, Kd.R_mono HR8.out (fun _ _ => trivial), HB8.out⟩
      · intro px py pd c kl yd yp w1 cnt1 hkey hlk hv hat hrg1 hlt hg1 hs1 hen
        obtain ⟨p', ep, rfl, hok⟩ := invP hkey
        obtain rfl : (px, py, pd) = p' := by
          unfold keyP at ep
          injection ep with ep
          have e0 := congrArg (fun a : Array Value => a.toList) ep
          simp at e0
          obtain ⟨a', b', d'⟩ := p'
          simp at e0
          simp [e0]
        obtain ⟨e, he, hke⟩ := HD.out.has _ (Maps.has_true_of_atKey hat)
        have hpe : (px, py, pd) = e.1 := klP_inj hok (HD.out.ok e he).1 hke
        rw [hpe] at hlk hrg1 hat
        obtain ⟨c', ec, hy, _⟩ := plainElem_int_inv Try.underlying3 hv
        obtain rfl : c = c' := by injection ec
        have hce : c = e.2 := by
          have h1 := hat (.lit .nil)
          rw [HD.out.at_ e he, (Prod.mk.inj hy).1] at h1
          injection h1 with h1
          injection h1 with _ h1
          exact h1.symm
        subst hce
        obtain ⟨x, hx, hxs⟩ := HSZ.out e he
        have HX := Aside0.mk hx
        have HXL := Aside0.mk hxs
        have HG1 := Aside0.mk (HG.out.step HD.out he hlk)
        have HRG1 := Aside0.mk hrg1
        have HK1 := Aside0.mk (show cnt1 + 1 < gk by have := HK.out; omega)
        have HO1 := Aside0.mk (Kd.R_grown HO.out hg1 (fun k_ hk e => by injection e with e; exact hk.2 e))
        have HB1 := Aside0.mk (HB.out.grown hg1 HB.out.size (fun j hj => by injection hj with hj; rw [← hj]; exact HQ.out))
        clear hx hxs hkey hlk hv hat hrg1 hlt hg1 hok he hke ec hy HG HRG HK HO HB
        go_wp2_with (first
          | (go_at_call 85
             refine (impl_elementsOf.calls k e.2 x _ HX.out).mono ?_
             rintro e9 w6 ⟨v6, rfl, hR6, hB6⟩
             obtain ⟨A6, c6, rfl⟩ := Kd.R_slice hR6
             have HRG2 := Aside0.mk (World.ranges.kept HRG1.out (grown_of_below hB6) (by simp) (by simp))
             have HO2 := Aside0.mk (Kd.R_below HO1.out hB6)
             have HB2 := Aside0.mk (below_step HB1.out hB6)
             clear hR6 hB6 HRG1 HO1 HB1)
          | ((with_reducible refine gate_builtin (b := .append) (xs := #[.tmp 16, .tmp 20]) rfl ?_); at_builtin
             refine Kd.R_append (Kd.int .i64) (w0 := w) w.heap.size rfl (.tmp 16) (.tmp 20) 35 3 (.int .i64 0) 8 rfl Try.underlying35 info3 rfl (by decide) (by omega) u3 (qs.map fun e => szF k e.2) (x.length : Int) [.int .i64 (x.length : Int)] (fun k_ => k_ ≠ B ∧ k_ ≠ q) (fun _ => False) rfl rfl rfl (fun _ h => h.elim) (fun k_ hk => ⟨by have := HRG2.out.owns.lt; omega, by have := HRG2.out.lt; omega⟩) HO2.out HB2.out HB2.out.size (by rw [List.length_map]; have := HN.out; have := hlen.out; omega) ?_
             intro v7 w7 hR7 hB7 hg7 hat7
             have HRG3 := Aside0.mk (World.ranges.kept HRG2.out hg7 (fun e => (HO2.out.1 B e.symm).1 rfl) (fun e => (HO2.out.1 q e.symm).2 rfl))
             have HO3 := Aside0.mk (show Kd.R (Kd.int .i64) 3 w7 w.heap.size (fun k_ => k_ ≠ B ∧ k_ ≠ q) v7 ((qs ++ [e]).map fun e => szF k e.2) from by rw [List.map_append, List.map_singleton, HXL.out]; exact hR7)
             have HB3 := Aside0.mk hB7
             clear hR7 hB7 hg7 hat7 HRG2 HO2 HB2))
        go_roundg (cnt1 + 1)
        case measure => exact HK1.out
        case rel => exact ⟨_, cnt1, qs ++ [e], ⟨rfl⟩, HRG3, HG1, HO3, HB3⟩
end Go.Proofs.Ytcoommffjbbebaa.P
namespace Go.Proofs.Ytcoommffjbbebaa.P
open Go.RowKit Go.Proofs.YtcoommffjbbebaaW.PrintWords Go.Proofs.YtcoommffjbbebaaW.PrintLast Go.Proofs.YtcoommffjbbebaaW.PrintMore
attribute [local go_sem] ptrOf_slice
attribute [local go_sem] min2_str max2_int min2_int max_two min_two max_three min_three max_four min_four
set_option linter.unusedVariables false
set_option linter.unusedSimpArgs false
def impl_excess.l0 : Nat → Int → List Int → Int → Int → Option (Int)
 | 0, _, _, _, _ => none
 | k + 1, x3, x7, x8, x9 => if x9 < x8 then (if 0 ≤ x9 then (if x9 < (x7.length : Int) then (impl_excess.l0 k (wrap64 ((wrap64 (x3 + (rd x7 x9))) - 1)) x7 x8 (wrap64 (x9 + 1))) else (none)) else (none)) else (some x3)
def impl_excess.f (k : Nat) (l0 : List (S98)) : Option (Int) := (impl_MeetingRow.f k l0).bind fun t1118 => (impl_excess.l0 k 0 t1118 (t1118.length : Int) 0)
set_option maxHeartbeats 8000000 in
set_option maxRecDepth 100000 in
theorem impl_excess.calls (k : Nat) (A0 : Option Addr) (c0 : Nat) (l0 : List (S98)) (r : Int) (w : World) (hr0 : Kd.C k98 w A0 l0.length l0) (hc0 : l0.length ≤ c0) (h : impl_excess.f k l0 = some r) :
  Calls Try.prog 89 #[.slice A0 l0.length c0] w fun e w' => e = .returned (.int .i64 r) ∧ Below w.heap.size w w' := by
 have HR0 := Aside0.mk hr0
 have HC0 := Aside0.mk hc0
 clear hr0 hc0
 have HB := Aside0.mk (Below.refl w.heap.size w)
 have H : ((impl_MeetingRow.f k l0).bind fun t1118 => (impl_excess.l0 k 0 t1118 (t1118.length : Int) 0)) = some r := h
 clear h
 replace H := Option.bind_eq_some_iff.mp H
 obtain ⟨t1118, A20, H⟩ := H
 replace H : (impl_excess.l0 k 0 t1118 (t1118.length : Int) 0) = some r := H
 have A2 := Aside0.mk A20
 clear A20
 have H' := Aside0.mk H
 clear H
 go_enter Try.func89, Try.ntmps89
 go_wp2_with (first | ((with_reducible refine gate_callee (f := 38) rfl ?_); refine goesL_ (some 7) rfl rfl Try.func38 (by kernel_rfl) rfl #[.slice A0 l0.length c0] rfl (by (try simp only [List.map_toArray, List.map_cons, List.map_nil]); first | done | rfl | (simp only [List.length_drop, List.length_take]; rfl)) ?_; (with_reducible refine (impl_MeetingRow.calls k _ _ l0 t1118 _ ?side1 ?side2 A2.out).mono ?_); (case side1 => repeat (first | exact HR0.out | (with_reducible refine Kd.C_alloc ?_ _) | (with_reducible refine Kd.C_drewN ?_ _) | (with_reducible refine Kd.C_drew ?_))); (case side2 => exact HC0.out); rintro e w3 ⟨v1119, rfl, ho0, hb⟩; refine ⟨_, rfl, ?_⟩; have n0_ := Aside0.mk (Kd.R_lower ho0 (below_size (by repeat (first | (with_reducible first | exact HB.out | apply below_alloc | apply pw_below_drewN | apply below_drew1) | exact HB.out)))); have n1_ := Aside0.mk (below_step (by repeat (first | (with_reducible first | exact HB.out | apply below_alloc | apply pw_below_drewN | apply below_drew1) | exact HB.out)) hb); clear HB; have HO1120 := n0_; have HB := n1_; clear n0_ n1_; (try clear hb); (try clear hb2); (try clear hk); (try clear hi); (try clear ho0); obtain ⟨Ao4, co4, eo4⟩ := Kd.R_slice HO1120.out; subst eo4))
 go_loopg [3, 9] k (fun kq v3 v9 w' => ∃ (x3_1 : Int) (x9_1 : Int), v3 = .int .i64 x3_1 ∧ v9 = .int .i64 x9_1 ∧ Aside0 (impl_excess.l0 kq x3_1 t1118 (t1118.length : Int) x9_1 = some r) ∧ Aside0 (kq ≤ k) ∧ Aside0 (Kd.R (Kd.int .i64) 3 w' w.heap.size (fun _ => True) (.slice Ao4 t1118.length co4) t1118) ∧ Aside0 (Below w.heap.size w w'))
 case atStart => exact ⟨(0), (0), (by first | rfl | (simp; done) | (simp [*]; done)), (by first | rfl | (simp; done) | (simp [*]; done)), H', ⟨Nat.le_refl _⟩, ⟨by (with_reducible repeat (first | apply Kd.R_alloc | apply Kd.R_drewN | apply Kd.R_drew)); exact HO1120.out⟩, ⟨by repeat (first | (with_reducible first | exact HB.out | apply below_alloc | apply pw_below_drewN | apply below_drew1) | exact HB.out)⟩⟩
 case round =>
  clear H'
  try clear p2
  try clear c3
  obtain ⟨x3_1, x9_1, rfl, rfl, HA, HK1, HO_7, HB⟩ := hrel
  cases gk with
  | zero => exact absurd HA.out (by simp [impl_excess.l0])
  | succ k1 =>
   have H := HA.out
   clear HA
   simp only [impl_excess.l0] at H
   by_cases c5 : x9_1 < (t1118.length : Int)
   ·rw [if_pos c5] at H
    have c5b0 : decide (x9_1 < (t1118.length : Int)) = true := decide_eq_true c5
    clear c5
    by_cases c6 : 0 ≤ x9_1
    ·rw [if_pos c6] at H
     have c6b0 : decide (0 ≤ x9_1) = true := decide_eq_true c6
     clear c6
     by_cases c7 : x9_1 < (t1118.length : Int)
     ·rw [if_pos c7] at H
      have c7b0 : decide (x9_1 < (t1118.length : Int)) = true := decide_eq_true c7
      clear c7
      have H' := Aside0.mk H
      clear H
      have p1121 : 0 ≤ (x9_1 : Int) := of_decide_eq_true (by first | (with_reducible assumption) | assumption)
      have q1121 : x9_1 < (t1118.length : Int) := of_decide_eq_true (by first | (with_reducible assumption) | assumption)
      obtain ⟨ad1121, e1121, hx1121_0⟩ := Kd.at_int (Kd.R_reads' HO_7.out).2.2 x9_1 p1121 q1121
      cases e1121
      replace p1121 := eq_true p1121
      replace q1121 := eq_true q1121
      go_wp2
      go_roundg k1
      case measure => have := HK1.out; omega
      case rel => exact ⟨(wrap64 ((wrap64 (x3_1 + (rd t1118 x9_1))) - 1)), (wrap64 (x9_1 + 1)), (by first | rfl | (simp; done) | (simp [*]; done)), (by first | rfl | (simp; done) | (simp [*]; done)), H', ⟨by have := HK1.out; omega⟩, ⟨by (with_reducible repeat (first | apply Kd.R_alloc | apply Kd.R_drewN | apply Kd.R_drew)); exact HO_7.out⟩, ⟨by repeat (first | (with_reducible first | exact HB.out | apply below_alloc | apply pw_below_drewN | apply below_drew1) | exact HB.out)⟩⟩
     ·rw [if_neg c7] at H
      exact absurd H (by simp)
    ·rw [if_neg c6] at H
     exact absurd H (by simp)
   ·rw [if_neg c5] at H
    have c5b0 : decide (x9_1 < (t1118.length : Int)) = false := decide_eq_false c5
    clear c5
    obtain rfl := Option.some.inj H
    go_wp2
    go_ret
    exact ⟨by first | rfl | (simp [errW_none, errW_some] <;> rfl) | (simp [*, errW_none, errW_some] <;> rfl), by repeat (first | (with_reducible first | exact HB.out | apply below_alloc | apply pw_below_drewN | apply below_drew1) | exact HB.out)⟩
def impl_CountRegions.f (k : Nat) (l0 : List (S98)) : Option (Int) := (impl_AreLines.f k l0).bind fun t1122 => (if t1122 = true then ((impl_excess.f k l0).bind fun t1123 => (some (wrap64 ((wrap64 (1 + (l0.length : Int))) + t1123)))) else (some (-1)))
set_option maxHeartbeats 8000000 in
set_option maxRecDepth 100000 in
theorem impl_CountRegions.calls (k : Nat) (A0 : Option Addr) (c0 : Nat) (l0 : List (S98)) (r : Int) (w : World) (hr0 : Kd.C k98 w A0 l0.length l0) (hc0 : l0.length ≤ c0) (h : impl_CountRegions.f k l0 = some r) :
  Calls Try.prog 42 #[.slice A0 l0.length c0] w fun e w' => e = .returned (.int .i64 r) ∧ Below w.heap.size w w' := by
 have HR0 := Aside0.mk hr0
 have HC0 := Aside0.mk hc0
 clear hr0 hc0
 have HB := Aside0.mk (Below.refl w.heap.size w)
 have H : ((impl_AreLines.f k l0).bind fun t1122 => (if t1122 = true then ((impl_excess.f k l0).bind fun t1123 => (some (wrap64 ((wrap64 (1 + (l0.length : Int))) + t1123)))) else (some (-1)))) = some r := h
 clear h
 replace H := Option.bind_eq_some_iff.mp H
 obtain ⟨t1122, A20, H⟩ := H
 replace H : (if t1122 = true then ((impl_excess.f k l0).bind fun t1123 => (some (wrap64 ((wrap64 (1 + (l0.length : Int))) + t1123)))) else (some (-1))) = some r := H
 have A2 := Aside0.mk A20
 clear A20
 by_cases c3 : t1122 = true
 ·subst c3
  have H1 : ((impl_excess.f k l0).bind fun t1123 => (some (wrap64 ((wrap64 (1 + (l0.length : Int))) + t1123)))) = some r := by rw [if_pos rfl] at H; exact H
  clear H
  have H := H1
  clear H1
  replace H := Option.bind_eq_some_iff.mp H
  obtain ⟨t1123, A40, H⟩ := H
  replace H : (some (wrap64 ((wrap64 (1 + (l0.length : Int))) + t1123))) = some r := H
  have A4 := Aside0.mk A40
  clear A40
  obtain rfl := Option.some.inj H
  go_enter Try.func42, Try.ntmps42
  go_wp2_with (first | ((with_reducible refine gate_callee (f := 83) rfl ?_); refine goesL_ (some 4) rfl rfl Try.func83 (by kernel_rfl) rfl #[.slice A0 l0.length c0] rfl (by (try simp only [List.map_toArray, List.map_cons, List.map_nil]); first | done | rfl | (simp only [List.length_drop, List.length_take]; rfl)) ?_; (with_reducible refine (impl_AreLines.calls k _ _ l0 true _ ?side1 ?side2 A2.out).mono ?_); (case side1 => repeat (first | exact HR0.out | (with_reducible refine Kd.C_alloc ?_ _) | (with_reducible refine Kd.C_drewN ?_ _) | (with_reducible refine Kd.C_drew ?_))); (case side2 => exact HC0.out); rintro e w5 ⟨rfl, hb⟩; refine ⟨_, rfl, ?_⟩; have n0_ := Aside0.mk (below_step (by repeat (first | (with_reducible first | exact HB.out | apply below_alloc | apply pw_below_drewN | apply below_drew1) | exact HB.out)) hb); clear HB; have HB := n0_; clear n0_; (try clear hb); (try clear hb2); (try clear hk); (try clear hi)) | ((with_reducible refine gate_callee (f := 89) rfl ?_); refine goesL_ (some 10) rfl rfl Try.func89 (by kernel_rfl) rfl #[.slice A0 l0.length c0] rfl (by (try simp only [List.map_toArray, List.map_cons, List.map_nil]); first | done | rfl | (simp only [List.length_drop, List.length_take]; rfl)) ?_; (with_reducible refine (impl_excess.calls k _ _ l0 t1123 _ ?side1 ?side2 A4.out).mono ?_); (case side1 => repeat (first | exact (Kd.C_below HR0.out HB.out) | (with_reducible refine Kd.C_alloc ?_ _) | (with_reducible refine Kd.C_drewN ?_ _) | (with_reducible refine Kd.C_drew ?_))); (case side2 => exact HC0.out); rintro e w6 ⟨rfl, hb⟩; refine ⟨_, rfl, ?_⟩; have n0_ := Aside0.mk (below_step (by repeat (first | (with_reducible first | exact HB.out | apply below_alloc | apply pw_below_drewN | apply below_drew1) | exact HB.out)) hb); clear HB; have HB := n0_; clear n0_; (try clear hb); (try clear hb2); (try clear hk); (try clear hi)))
  go_ret
  exact ⟨by first | rfl | (simp [errW_none, errW_some] <;> rfl) | (simp [*, errW_none, errW_some] <;> rfl), by repeat (first | (with_reducible first | exact HB.out | apply below_alloc | apply pw_below_drewN | apply below_drew1) | exact HB.out)⟩
 ·replace c3 := Bool.eq_false_iff.mpr c3
  subst c3
  have H1 : (some (-1)) = some r := by rw [if_neg (show ¬ (false = true) by decide)] at H; exact H
  clear H
  have H := H1
  clear H1
  obtain rfl := Option.some.inj H
  go_enter Try.func42, Try.ntmps42
  go_wp2_with (first | ((with_reducible refine gate_callee (f := 83) rfl ?_); refine goesL_ (some 4) rfl rfl Try.func83 (by kernel_rfl) rfl #[.slice A0 l0.length c0] rfl (by (try simp only [List.map_toArray, List.map_cons, List.map_nil]); first | done | rfl | (simp only [List.length_drop, List.length_take]; rfl)) ?_; (with_reducible refine (impl_AreLines.calls k _ _ l0 false _ ?side1 ?side2 A2.out).mono ?_); (case side1 => repeat (first | exact HR0.out | (with_reducible refine Kd.C_alloc ?_ _) | (with_reducible refine Kd.C_drewN ?_ _) | (with_reducible refine Kd.C_drew ?_))); (case side2 => exact HC0.out); rintro e w7 ⟨rfl, hb⟩; refine ⟨_, rfl, ?_⟩; have n0_ := Aside0.mk (below_step (by repeat (first | (with_reducible first | exact HB.out | apply below_alloc | apply pw_below_drewN | apply below_drew1) | exact HB.out)) hb); clear HB; have HB := n0_; clear n0_; (try clear hb); (try clear hb2); (try clear hk); (try clear hi)))
  go_ret
  exact ⟨by first | rfl | (simp [errW_none, errW_some] <;> rfl) | (simp [*, errW_none, errW_some] <;> rfl), by repeat (first | (with_reducible first | exact HB.out | apply below_alloc | apply pw_below_drewN | apply below_drew1) | exact HB.out)⟩
def laws_FnExactCountRegions.f (k : Nat) (l0 : List (S100)) : Option (Bool) := (laws_szLineS.f l0 1048576).bind fun t1124 => (if t1124 < 0 then (some true) else ((laws_toLineS.f k l0).bind fun t1125 => ((spec_CountRegions.f k t1125).bind fun t1128 => ((laws_toLineS.f k l0).bind fun t1129 => ((impl_CountRegions.f k t1129).bind fun t1132 => (if t1132 = t1128 then ((laws_toLineS.f k l0).bind fun t1133 => ((laws_eqLineS.f k t1129 t1133).bind fun t1136 => (if t1136 = true then (some true) else (some false)))) else (some false)))))))
set_option maxHeartbeats 8000000 in
set_option maxRecDepth 100000 in
theorem laws_FnExactCountRegions.calls (k : Nat) (A0 : Option Addr) (c0 : Nat) (l0 : List (S100)) (r : Bool) (w : World) (hr0 : Kd.C k100 w A0 l0.length l0) (hc0 : l0.length ≤ c0) (h : laws_FnExactCountRegions.f k l0 = some r) :
  Calls Try.prog 9 #[.slice A0 l0.length c0] w fun e w' => e = .returned (.bool r) ∧ Below w.heap.size w w' := by
 have HR0 := Aside0.mk hr0
 have HC0 := Aside0.mk hc0
 clear hr0 hc0
 have HB := Aside0.mk (Below.refl w.heap.size w)
 have H : ((laws_szLineS.f l0 1048576).bind fun t1124 => (if t1124 < 0 then (some true) else ((laws_toLineS.f k l0).bind fun t1125 => ((spec_CountRegions.f k t1125).bind fun t1128 => ((laws_toLineS.f k l0).bind fun t1129 => ((impl_CountRegions.f k t1129).bind fun t1132 => (if t1132 = t1128 then ((laws_toLineS.f k l0).bind fun t1133 => ((laws_eqLineS.f k t1129 t1133).bind fun t1136 => (if t1136 = true then (some true) else (some false)))) else (some false)))))))) = some r := h
 clear h
 replace H := Option.bind_eq_some_iff.mp H
 obtain ⟨t1124, A20, H⟩ := H
 replace H : (if t1124 < 0 then (some true) else ((laws_toLineS.f k l0).bind fun t1125 => ((spec_CountRegions.f k t1125).bind fun t1128 => ((laws_toLineS.f k l0).bind fun t1129 => ((impl_CountRegions.f k t1129).bind fun t1132 => (if t1132 = t1128 then ((laws_toLineS.f k l0).bind fun t1133 => ((laws_eqLineS.f k t1129 t1133).bind fun t1136 => (if t1136 = true then (some true) else (some false)))) else (some false))))))) = some r := H
 have A2 := Aside0.mk A20
 clear A20
 by_cases c3 : t1124 < 0
 ·rw [if_pos c3] at H
  have c3b0 : decide (t1124 < 0) = true := decide_eq_true c3
  clear c3
  obtain rfl := Option.some.inj H
  go_enter Try.func9, Try.ntmps9
  go_wp2_with (first | ((with_reducible refine gate_callee (f := 35) rfl ?_); refine goesL_ (some 9) rfl rfl Try.func35 (by kernel_rfl) rfl #[.slice A0 l0.length c0, .int .i64 1048576] rfl (by (try simp only [List.map_toArray, List.map_cons, List.map_nil]); first | done | rfl | (simp only [List.length_drop, List.length_take]; rfl)) ?_; (with_reducible refine (laws_szLineS.calls _ _ l0 1048576 t1124 _ ?side1 ?side2 A2.out).mono ?_); (case side1 => repeat (first | exact HR0.out | (with_reducible refine Kd.C_alloc ?_ _) | (with_reducible refine Kd.C_drewN ?_ _) | (with_reducible refine Kd.C_drew ?_))); (case side2 => exact HC0.out); rintro e w' ⟨rfl, ⟨nd, rfl⟩⟩; refine ⟨_, rfl, ?_⟩))
  go_ret
  exact ⟨by first | rfl | (simp [errW_none, errW_some] <;> rfl) | (simp [*, errW_none, errW_some] <;> rfl), by repeat (first | (with_reducible first | exact HB.out | apply below_alloc | apply pw_below_drewN | apply below_drew1) | exact HB.out)⟩
 ·rw [if_neg c3] at H
  have c3b0 : decide (t1124 < 0) = false := decide_eq_false c3
  clear c3
  replace H := Option.bind_eq_some_iff.mp H
  obtain ⟨t1125, A40, H⟩ := H
  replace H : ((spec_CountRegions.f k t1125).bind fun t1128 => ((laws_toLineS.f k l0).bind fun t1129 => ((impl_CountRegions.f k t1129).bind fun t1132 => (if t1132 = t1128 then ((laws_toLineS.f k l0).bind fun t1133 => ((laws_eqLineS.f k t1129 t1133).bind fun t1136 => (if t1136 = true then (some true) else (some false)))) else (some false))))) = some r := H
  have A4 := Aside0.mk A40
  clear A40
  replace H := Option.bind_eq_some_iff.mp H
  obtain ⟨t1128, A50, H⟩ := H
  replace H : ((laws_toLineS.f k l0).bind fun t1129 => ((impl_CountRegions.f k t1129).bind fun t1132 => (if t1132 = t1128 then ((laws_toLineS.f k l0).bind fun t1133 => ((laws_eqLineS.f k t1129 t1133).bind fun t1136 => (if t1136 = true then (some true) else (some false)))) else (some false)))) = some r := H
  have A5 := Aside0.mk A50
  clear A50
  replace H := Option.bind_eq_some_iff.mp H
  obtain ⟨t1129, A60, H⟩ := H
  replace H : ((impl_CountRegions.f k t1129).bind fun t1132 => (if t1132 = t1128 then ((laws_toLineS.f k l0).bind fun t1133 => ((laws_eqLineS.f k t1129 t1133).bind fun t1136 => (if t1136 = true then (some true) else (some false)))) else (some false))) = some r := H
  have A6 := Aside0.mk A60
  clear A60
  replace H := Option.bind_eq_some_iff.mp H
  obtain ⟨t1132, A70, H⟩ := H
  replace H : (if t1132 = t1128 then ((laws_toLineS.f k l0).bind fun t1133 => ((laws_eqLineS.f k t1129 t1133).bind fun t1136 => (if t1136 = true then (some true) else (some false)))) else (some false)) = some r := H
  have A7 := Aside0.mk A70
  clear A70
  by_cases c8 : t1132 = t1128
  ·rw [if_pos c8] at H
   have c8b0 : (t1132 == t1128) = true := beq_iff_eq.mpr c8
   have c8b1 : (t1132 != t1128) = false := bne_eq_false_iff_eq.mpr c8
   clear c8
   replace H := Option.bind_eq_some_iff.mp H
   obtain ⟨t1133, A90, H⟩ := H
   replace H : ((laws_eqLineS.f k t1129 t1133).bind fun t1136 => (if t1136 = true then (some true) else (some false))) = some r := H
   have A9 := Aside0.mk A90
   clear A90
   replace H := Option.bind_eq_some_iff.mp H
   obtain ⟨t1136, A100, H⟩ := H
   replace H : (if t1136 = true then (some true) else (some false)) = some r := H
   have A10 := Aside0.mk A100
   clear A100
   by_cases c11 : t1136 = true
   ·subst c11
    have H1 : (some true) = some r := by rw [if_pos rfl] at H; exact H
    clear H
    have H := H1
    clear H1
    obtain rfl := Option.some.inj H
    go_enter Try.func9, Try.ntmps9
    go_wp2_with (first | ((with_reducible refine gate_callee (f := 35) rfl ?_); refine goesL_ (some 9) rfl rfl Try.func35 (by kernel_rfl) rfl #[.slice A0 l0.length c0, .int .i64 1048576] rfl (by (try simp only [List.map_toArray, List.map_cons, List.map_nil]); first | done | rfl | (simp only [List.length_drop, List.length_take]; rfl)) ?_; (with_reducible refine (laws_szLineS.calls _ _ l0 1048576 t1124 _ ?side1 ?side2 A2.out).mono ?_); (case side1 => repeat (first | exact HR0.out | (with_reducible refine Kd.C_alloc ?_ _) | (with_reducible refine Kd.C_drewN ?_ _) | (with_reducible refine Kd.C_drew ?_))); (case side2 => exact HC0.out); rintro e w' ⟨rfl, ⟨nd, rfl⟩⟩; refine ⟨_, rfl, ?_⟩) | ((with_reducible refine gate_callee (f := 37) rfl ?_); refine goesL_ (some 13) rfl rfl Try.func37 (by kernel_rfl) rfl #[.slice A0 l0.length c0] rfl (by (try simp only [List.map_toArray, List.map_cons, List.map_nil]); first | done | rfl | (simp only [List.length_drop, List.length_take]; rfl)) ?_; (with_reducible refine (laws_toLineS.calls k _ _ l0 t1125 _ ?side1 ?side2 A4.out).mono ?_); (case side1 => repeat (first | exact HR0.out | (with_reducible refine Kd.C_alloc ?_ _) | (with_reducible refine Kd.C_drewN ?_ _) | (with_reducible refine Kd.C_drew ?_))); (case side2 => exact HC0.out); rintro e w12 ⟨v1126, rfl, ho0, hb⟩; refine ⟨_, rfl, ?_⟩; have n0_ := Aside0.mk (Kd.R_lower ho0 (below_size (by repeat (first | (with_reducible first | exact HB.out | apply below_alloc | apply pw_below_drewN | apply below_drew1) | exact HB.out)))); have n1_ := Aside0.mk (below_step (by repeat (first | (with_reducible first | exact HB.out | apply below_alloc | apply pw_below_drewN | apply below_drew1) | exact HB.out)) hb); clear HB; have HO1127 := n0_; have HB := n1_; clear n0_ n1_; (try clear hb); (try clear hb2); (try clear hk); (try clear hi); (try clear ho0); obtain ⟨Ao13, co13, eo13⟩ := Kd.R_slice HO1127.out; subst eo13) | ((with_reducible refine gate_callee (f := 41) rfl ?_); refine goesL_ (some 14) rfl rfl Try.func41 (by kernel_rfl) rfl #[.slice Ao13 t1125.length co13] rfl (by (try simp only [List.map_toArray, List.map_cons, List.map_nil]); first | done | rfl | (simp only [List.length_drop, List.length_take]; rfl)) ?_; (with_reducible refine (spec_CountRegions.calls k _ _ t1125 t1128 _ ?side1 ?side2 A5.out).mono ?_); (case side1 => repeat (first | exact (Kd.R_reads' HO1127.out).2.2 | (with_reducible refine Kd.C_alloc ?_ _) | (with_reducible refine Kd.C_drewN ?_ _) | (with_reducible refine Kd.C_drew ?_))); (case side2 => exact (Kd.R_reads' HO1127.out).2.1); rintro e w14 ⟨rfl, hb⟩; refine ⟨_, rfl, ?_⟩; have n0_ := Aside0.mk (Kd.R_below (by (with_reducible repeat (first | apply Kd.R_alloc | apply Kd.R_drewN | apply Kd.R_drew)); exact HO1127.out) hb); have n1_ := Aside0.mk (below_step (by repeat (first | (with_reducible first | exact HB.out | apply below_alloc | apply pw_below_drewN | apply below_drew1) | exact HB.out)) hb); clear HO1127; clear HB; have HO1127 := n0_; have HB := n1_; clear n0_ n1_; (try clear hb); (try clear hb2); (try clear hk); (try clear hi)) | ((with_reducible refine gate_callee (f := 37) rfl ?_); refine goesL_ (some 16) rfl rfl Try.func37 (by kernel_rfl) rfl #[.slice A0 l0.length c0] rfl (by (try simp only [List.map_toArray, List.map_cons, List.map_nil]); first | done | rfl | (simp only [List.length_drop, List.length_take]; rfl)) ?_; (with_reducible refine (laws_toLineS.calls k _ _ l0 t1129 _ ?side1 ?side2 A6.out).mono ?_); (case side1 => repeat (first | exact (Kd.C_below HR0.out HB.out) | (with_reducible refine Kd.C_alloc ?_ _) | (with_reducible refine Kd.C_drewN ?_ _) | (with_reducible refine Kd.C_drew ?_))); (case side2 => exact HC0.out); rintro e w15 ⟨v1130, rfl, ho0, hb⟩; refine ⟨_, rfl, ?_⟩; have n0_ := Aside0.mk (Kd.R_elder' (by (with_reducible repeat (first | apply Kd.R_alloc | apply Kd.R_drewN | apply Kd.R_drew)); exact HO1127.out) (Kd.R_base ho0) hb); have n1_ := Aside0.mk (Kd.R_lower (Kd.R_new' ho0 (Kd.R_lt (by (with_reducible repeat (first | apply Kd.R_alloc | apply Kd.R_drewN | apply Kd.R_drew)); exact HO1127.out))) (below_size (by repeat (first | (with_reducible first | exact HB.out | apply below_alloc | apply pw_below_drewN | apply below_drew1) | exact HB.out)))); have n2_ := Aside0.mk (below_step (by repeat (first | (with_reducible first | exact HB.out | apply below_alloc | apply pw_below_drewN | apply below_drew1) | exact HB.out)) hb); clear HO1127; clear HB; have HO1127 := n0_; have HO1131 := n1_; have HB := n2_; clear n0_ n1_ n2_; (try clear hb); (try clear hb2); (try clear hk); (try clear hi); (try clear ho0); obtain ⟨Ao16, co16, eo16⟩ := Kd.R_slice HO1131.out; subst eo16) | ((with_reducible refine gate_callee (f := 42) rfl ?_); refine goesL_ (some 18) rfl rfl Try.func42 (by kernel_rfl) rfl #[.slice Ao16 t1129.length co16] rfl (by (try simp only [List.map_toArray, List.map_cons, List.map_nil]); first | done | rfl | (simp only [List.length_drop, List.length_take]; rfl)) ?_; (with_reducible refine (impl_CountRegions.calls k _ _ t1129 t1132 _ ?side1 ?side2 A7.out).mono ?_); (case side1 => repeat (first | exact (Kd.R_reads' HO1131.out).2.2 | (with_reducible refine Kd.C_alloc ?_ _) | (with_reducible refine Kd.C_drewN ?_ _) | (with_reducible refine Kd.C_drew ?_))); (case side2 => exact (Kd.R_reads' HO1131.out).2.1); rintro e w17 ⟨rfl, hb⟩; refine ⟨_, rfl, ?_⟩; have n0_ := Aside0.mk (Kd.R_below (by (with_reducible repeat (first | apply Kd.R_alloc | apply Kd.R_drewN | apply Kd.R_drew)); exact HO1127.out) hb); have n1_ := Aside0.mk (Kd.R_below (by (with_reducible repeat (first | apply Kd.R_alloc | apply Kd.R_drewN | apply Kd.R_drew)); exact HO1131.out) hb); have n2_ := Aside0.mk (below_step (by repeat (first | (with_reducible first | exact HB.out | apply below_alloc | apply pw_below_drewN | apply below_drew1) | exact HB.out)) hb); clear HO1127; clear HO1131; clear HB; have HO1127 := n0_; have HO1131 := n1_; have HB := n2_; clear n0_ n1_ n2_; (try clear hb); (try clear hb2); (try clear hk); (try clear hi)) | ((with_reducible refine gate_callee (f := 37) rfl ?_); refine goesL_ (some 24) rfl rfl Try.func37 (by kernel_rfl) rfl #[.slice A0 l0.length c0] rfl (by (try simp only [List.map_toArray, List.map_cons, List.map_nil]); first | done | rfl | (simp only [List.length_drop, List.length_take]; rfl)) ?_; (with_reducible refine (laws_toLineS.calls k _ _ l0 t1133 _ ?side1 ?side2 A9.out).mono ?_); (case side1 => repeat (first | exact (Kd.C_below HR0.out HB.out) | (with_reducible refine Kd.C_alloc ?_ _) | (with_reducible refine Kd.C_drewN ?_ _) | (with_reducible refine Kd.C_drew ?_))); (case side2 => exact HC0.out); rintro e w18 ⟨v1134, rfl, ho0, hb⟩; refine ⟨_, rfl, ?_⟩; have n0_ := Aside0.mk (Kd.R_elder' (by (with_reducible repeat (first | apply Kd.R_alloc | apply Kd.R_drewN | apply Kd.R_drew)); exact HO1127.out) (Kd.R_base ho0) hb); have n1_ := Aside0.mk (Kd.R_elder' (by (with_reducible repeat (first | apply Kd.R_alloc | apply Kd.R_drewN | apply Kd.R_drew)); exact HO1131.out) (Kd.R_base ho0) hb); have n2_ := Aside0.mk (Kd.R_lower (Kd.R_new' (Kd.R_new' ho0 (Kd.R_lt (by (with_reducible repeat (first | apply Kd.R_alloc | apply Kd.R_drewN | apply Kd.R_drew)); exact HO1127.out))) (Kd.R_lt (by (with_reducible repeat (first | apply Kd.R_alloc | apply Kd.R_drewN | apply Kd.R_drew)); exact HO1131.out))) (below_size (by repeat (first | (with_reducible first | exact HB.out | apply below_alloc | apply pw_below_drewN | apply below_drew1) | exact HB.out)))); have n3_ := Aside0.mk (below_step (by repeat (first | (with_reducible first | exact HB.out | apply below_alloc | apply pw_below_drewN | apply below_drew1) | exact HB.out)) hb); clear HO1127; clear HO1131; clear HB; have HO1127 := n0_; have HO1131 := n1_; have HO1135 := n2_; have HB := n3_; clear n0_ n1_ n2_ n3_; (try clear hb); (try clear hb2); (try clear hk); (try clear hi); (try clear ho0); obtain ⟨Ao19, co19, eo19⟩ := Kd.R_slice HO1135.out; subst eo19) | ((with_reducible refine gate_callee (f := 39) rfl ?_); refine goesL_ (some 25) rfl rfl Try.func39 (by kernel_rfl) rfl #[.slice Ao16 t1129.length co16, .slice Ao19 t1133.length co19] rfl (by (try simp only [List.map_toArray, List.map_cons, List.map_nil]); first | done | rfl | (simp only [List.length_drop, List.length_take]; rfl)) ?_; (with_reducible refine (laws_eqLineS.calls k _ _ t1129 _ _ t1133 true _ ?side1 ?side2 ?side3 ?side4 A10.out).mono ?_); (case side1 => repeat (first | exact (Kd.R_reads' HO1131.out).2.2 | (with_reducible refine Kd.C_alloc ?_ _) | (with_reducible refine Kd.C_drewN ?_ _) | (with_reducible refine Kd.C_drew ?_))); (case side2 => exact (Kd.R_reads' HO1131.out).2.1); (case side3 => repeat (first | exact (Kd.R_reads' HO1135.out).2.2 | (with_reducible refine Kd.C_alloc ?_ _) | (with_reducible refine Kd.C_drewN ?_ _) | (with_reducible refine Kd.C_drew ?_))); (case side4 => exact (Kd.R_reads' HO1135.out).2.1); rintro e w20 ⟨rfl, hb⟩; refine ⟨_, rfl, ?_⟩; have n0_ := Aside0.mk (Kd.R_below (by (with_reducible repeat (first | apply Kd.R_alloc | apply Kd.R_drewN | apply Kd.R_drew)); exact HO1127.out) hb); have n1_ := Aside0.mk (Kd.R_below (by (with_reducible repeat (first | apply Kd.R_alloc | apply Kd.R_drewN | apply Kd.R_drew)); exact HO1131.out) hb); have n2_ := Aside0.mk (Kd.R_below (by (with_reducible repeat (first | apply Kd.R_alloc | apply Kd.R_drewN | apply Kd.R_drew)); exact HO1135.out) hb); have n3_ := Aside0.mk (below_step (by repeat (first | (with_reducible first | exact HB.out | apply below_alloc | apply pw_below_drewN | apply below_drew1) | exact HB.out)) hb); clear HO1127; clear HO1131; clear HO1135; clear HB; have HO1127 := n0_; have HO1131 := n1_; have HO1135 := n2_; have HB := n3_; clear n0_ n1_ n2_ n3_; (try clear hb); (try clear hb2); (try clear hk); (try clear hi)))
    go_ret
    exact ⟨by first | rfl | (simp [errW_none, errW_some] <;> rfl) | (simp [*, errW_none, errW_some] <;> rfl), by repeat (first | (with_reducible first | exact HB.out | apply below_alloc | apply pw_below_drewN | apply below_drew1) | exact HB.out)⟩
   ·replace c11 := Bool.eq_false_iff.mpr c11
    subst c11
    have H1 : (some false) = some r := by rw [if_neg (show ¬ (false = true) by decide)] at H; exact H
    clear H
    have H := H1
    clear H1
    obtain rfl := Option.some.inj H
    go_enter Try.func9, Try.ntmps9
    go_wp2_with (first | ((with_reducible refine gate_callee (f := 35) rfl ?_); refine goesL_ (some 9) rfl rfl Try.func35 (by kernel_rfl) rfl #[.slice A0 l0.length c0, .int .i64 1048576] rfl (by (try simp only [List.map_toArray, List.map_cons, List.map_nil]); first | done | rfl | (simp only [List.length_drop, List.length_take]; rfl)) ?_; (with_reducible refine (laws_szLineS.calls _ _ l0 1048576 t1124 _ ?side1 ?side2 A2.out).mono ?_); (case side1 => repeat (first | exact HR0.out | (with_reducible refine Kd.C_alloc ?_ _) | (with_reducible refine Kd.C_drewN ?_ _) | (with_reducible refine Kd.C_drew ?_))); (case side2 => exact HC0.out); rintro e w' ⟨rfl, ⟨nd, rfl⟩⟩; refine ⟨_, rfl, ?_⟩) | ((with_reducible refine gate_callee (f := 37) rfl ?_); refine goesL_ (some 13) rfl rfl Try.func37 (by kernel_rfl) rfl #[.slice A0 l0.length c0] rfl (by (try simp only [List.map_toArray, List.map_cons, List.map_nil]); first | done | rfl | (simp only [List.length_drop, List.length_take]; rfl)) ?_; (with_reducible refine (laws_toLineS.calls k _ _ l0 t1125 _ ?side1 ?side2 A4.out).mono ?_); (case side1 => repeat (first | exact HR0.out | (with_reducible refine Kd.C_alloc ?_ _) | (with_reducible refine Kd.C_drewN ?_ _) | (with_reducible refine Kd.C_drew ?_))); (case side2 => exact HC0.out); rintro e w21 ⟨v1126, rfl, ho0, hb⟩; refine ⟨_, rfl, ?_⟩; have n0_ := Aside0.mk (Kd.R_lower ho0 (below_size (by repeat (first | (with_reducible first | exact HB.out | apply below_alloc | apply pw_below_drewN | apply below_drew1) | exact HB.out)))); have n1_ := Aside0.mk (below_step (by repeat (first | (with_reducible first | exact HB.out | apply below_alloc | apply pw_below_drewN | apply below_drew1) | exact HB.out)) hb); clear HB; have HO1127 := n0_; have HB := n1_; clear n0_ n1_; (try clear hb); (try clear hb2); (try clear hk); (try clear hi); (try clear ho0); obtain ⟨Ao22, co22, eo22⟩ := Kd.R_slice HO1127.out; subst eo22) | ((with_reducible refine gate_callee (f := 41) rfl ?_); refine goesL_ (some 14) rfl rfl Try.func41 (by kernel_rfl) rfl #[.slice Ao22 t1125.length co22] rfl (by (try simp only [List.map_toArray, List.map_cons, List.map_nil]); first | done | rfl | (simp only [List.length_drop, List.length_take]; rfl)) ?_; (with_reducible refine (spec_CountRegions.calls k _ _ t1125 t1128 _ ?side1 ?side2 A5.out).mono ?_); (case side1 => repeat (first | exact (Kd.R_reads' HO1127.out).2.2 | (with_reducible refine Kd.C_alloc ?_ _) | (with_reducible refine Kd.C_drewN ?_ _) | (with_reducible refine Kd.C_drew ?_))); (case side2 => exact (Kd.R_reads' HO1127.out).2.1); rintro e w23 ⟨rfl, hb⟩; refine ⟨_, rfl, ?_⟩; have n0_ := Aside0.mk (Kd.R_below (by (with_reducible repeat (first | apply Kd.R_alloc | apply Kd.R_drewN | apply Kd.R_drew)); exact HO1127.out) hb); have n1_ := Aside0.mk (below_step (by repeat (first | (with_reducible first | exact HB.out | apply below_alloc | apply pw_below_drewN | apply below_drew1) | exact HB.out)) hb); clear HO1127; clear HB; have HO1127 := n0_; have HB := n1_; clear n0_ n1_; (try clear hb); (try clear hb2); (try clear hk); (try clear hi)) | ((with_reducible refine gate_callee (f := 37) rfl ?_); refine goesL_ (some 16) rfl rfl Try.func37 (by kernel_rfl) rfl #[.slice A0 l0.length c0] rfl (by (try simp only [List.map_toArray, List.map_cons, List.map_nil]); first | done | rfl | (simp only [List.length_drop, List.length_take]; rfl)) ?_; (with_reducible refine (laws_toLineS.calls k _ _ l0 t1129 _ ?side1 ?side2 A6.out).mono ?_); (case side1 => repeat (first | exact (Kd.C_below HR0.out HB.out) | (with_reducible refine Kd.C_alloc ?_ _) | (with_reducible refine Kd.C_drewN ?_ _) | (with_reducible refine Kd.C_drew ?_))); (case side2 => exact HC0.out); rintro e w24 ⟨v1130, rfl, ho0, hb⟩; refine ⟨_, rfl, ?_⟩; have n0_ := Aside0.mk (Kd.R_elder' (by (with_reducible repeat (first | apply Kd.R_alloc | apply Kd.R_drewN | apply Kd.R_drew)); exact HO1127.out) (Kd.R_base ho0) hb); have n1_ := Aside0.mk (Kd.R_lower (Kd.R_new' ho0 (Kd.R_lt (by (with_reducible repeat (first | apply Kd.R_alloc | apply Kd.R_drewN | apply Kd.R_drew)); exact HO1127.out))) (below_size (by repeat (first | (with_reducible first | exact HB.out | apply below_alloc | apply pw_below_drewN | apply below_drew1) | exact HB.out)))); have n2_ := Aside0.mk (below_step (by repeat (first | (with_reducible first | exact HB.out | apply below_alloc | apply pw_below_drewN | apply below_drew1) | exact HB.out)) hb); clear HO1127; clear HB; have HO1127 := n0_; have HO1131 := n1_; have HB := n2_; clear n0_ n1_ n2_; (try clear hb); (try clear hb2); (try clear hk); (try clear hi); (try clear ho0); obtain ⟨Ao25, co25, eo25⟩ := Kd.R_slice HO1131.out; subst eo25) | ((with_reducible refine gate_callee (f := 42) rfl ?_); refine goesL_ (some 18) rfl rfl Try.func42 (by kernel_rfl) rfl #[.slice Ao25 t1129.length co25] rfl (by (try simp only [List.map_toArray, List.map_cons, List.map_nil]); first | done | rfl | (simp only [List.length_drop, List.length_take]; rfl)) ?_; (with_reducible refine (impl_CountRegions.calls k _ _ t1129 t1132 _ ?side1 ?side2 A7.out).mono ?_); (case side1 => repeat (first | exact (Kd.R_reads' HO1131.out).2.2 | (with_reducible refine Kd.C_alloc ?_ _) | (with_reducible refine Kd.C_drewN ?_ _) | (with_reducible refine Kd.C_drew ?_))); (case side2 => exact (Kd.R_reads' HO1131.out).2.1); rintro e w26 ⟨rfl, hb⟩; refine ⟨_, rfl, ?_⟩; have n0_ := Aside0.mk (Kd.R_below (by (with_reducible repeat (first | apply Kd.R_alloc | apply Kd.R_drewN | apply Kd.R_drew)); exact HO1127.out) hb); have n1_ := Aside0.mk (Kd.R_below (by (with_reducible repeat (first | apply Kd.R_alloc | apply Kd.R_drewN | apply Kd.R_drew)); exact HO1131.out) hb); have n2_ := Aside0.mk (below_step (by repeat (first | (with_reducible first | exact HB.out | apply below_alloc | apply pw_below_drewN | apply below_drew1) | exact HB.out)) hb); clear HO1127; clear HO1131; clear HB; have HO1127 := n0_; have HO1131 := n1_; have HB := n2_; clear n0_ n1_ n2_; (try clear hb); (try clear hb2); (try clear hk); (try clear hi)) | ((with_reducible refine gate_callee (f := 37) rfl ?_); refine goesL_ (some 24) rfl rfl Try.func37 (by kernel_rfl) rfl #[.slice A0 l0.length c0] rfl (by (try simp only [List.map_toArray, List.map_cons, List.map_nil]); first | done | rfl | (simp only [List.length_drop, List.length_take]; rfl)) ?_; (with_reducible refine (laws_toLineS.calls k _ _ l0 t1133 _ ?side1 ?side2 A9.out).mono ?_); (case side1 => repeat (first | exact (Kd.C_below HR0.out HB.out) | (with_reducible refine Kd.C_alloc ?_ _) | (with_reducible refine Kd.C_drewN ?_ _) | (with_reducible refine Kd.C_drew ?_))); (case side2 => exact HC0.out); rintro e w27 ⟨v1134, rfl, ho0, hb⟩; refine ⟨_, rfl, ?_⟩; have n0_ := Aside0.mk (Kd.R_elder' (by (with_reducible repeat (first | apply Kd.R_alloc | apply Kd.R_drewN | apply Kd.R_drew)); exact HO1127.out) (Kd.R_base ho0) hb); have n1_ := Aside0.mk (Kd.R_elder' (by (with_reducible repeat (first | apply Kd.R_alloc | apply Kd.R_drewN | apply Kd.R_drew)); exact HO1131.out) (Kd.R_base ho0) hb); have n2_ := Aside0.mk (Kd.R_lower (Kd.R_new' (Kd.R_new' ho0 (Kd.R_lt (by (with_reducible repeat (first | apply Kd.R_alloc | apply Kd.R_drewN | apply Kd.R_drew)); exact HO1127.out))) (Kd.R_lt (by (with_reducible repeat (first | apply Kd.R_alloc | apply Kd.R_drewN | apply Kd.R_drew)); exact HO1131.out))) (below_size (by repeat (first | (with_reducible first | exact HB.out | apply below_alloc | apply pw_below_drewN | apply below_drew1) | exact HB.out)))); have n3_ := Aside0.mk (below_step (by repeat (first | (with_reducible first | exact HB.out | apply below_alloc | apply pw_below_drewN | apply below_drew1) | exact HB.out)) hb); clear HO1127; clear HO1131; clear HB; have HO1127 := n0_; have HO1131 := n1_; have HO1135 := n2_; have HB := n3_; clear n0_ n1_ n2_ n3_; (try clear hb); (try clear hb2); (try clear hk); (try clear hi); (try clear ho0); obtain ⟨Ao28, co28, eo28⟩ := Kd.R_slice HO1135.out; subst eo28) | ((with_reducible refine gate_callee (f := 39) rfl ?_); refine goesL_ (some 25) rfl rfl Try.func39 (by kernel_rfl) rfl #[.slice Ao25 t1129.length co25, .slice Ao28 t1133.length co28] rfl (by (try simp only [List.map_toArray, List.map_cons, List.map_nil]); first | done | rfl | (simp only [List.length_drop, List.length_take]; rfl)) ?_; (with_reducible refine (laws_eqLineS.calls k _ _ t1129 _ _ t1133 false _ ?side1 ?side2 ?side3 ?side4 A10.out).mono ?_); (case side1 => repeat (first | exact (Kd.R_reads' HO1131.out).2.2 | (with_reducible refine Kd.C_alloc ?_ _) | (with_reducible refine Kd.C_drewN ?_ _) | (with_reducible refine Kd.C_drew ?_))); (case side2 => exact (Kd.R_reads' HO1131.out).2.1); (case side3 => repeat (first | exact (Kd.R_reads' HO1135.out).2.2 | (with_reducible refine Kd.C_alloc ?_ _) | (with_reducible refine Kd.C_drewN ?_ _) | (with_reducible refine Kd.C_drew ?_))); (case side4 => exact (Kd.R_reads' HO1135.out).2.1); rintro e w29 ⟨rfl, hb⟩; refine ⟨_, rfl, ?_⟩; have n0_ := Aside0.mk (Kd.R_below (by (with_reducible repeat (first | apply Kd.R_alloc | apply Kd.R_drewN | apply Kd.R_drew)); exact HO1127.out) hb); have n1_ := Aside0.mk (Kd.R_below (by (with_reducible repeat (first | apply Kd.R_alloc | apply Kd.R_drewN | apply Kd.R_drew)); exact HO1131.out) hb); have n2_ := Aside0.mk (Kd.R_below (by (with_reducible repeat (first | apply Kd.R_alloc | apply Kd.R_drewN | apply Kd.R_drew)); exact HO1135.out) hb); have n3_ := Aside0.mk (below_step (by repeat (first | (with_reducible first | exact HB.out | apply below_alloc | apply pw_below_drewN | apply below_drew1) | exact HB.out)) hb); clear HO1127; clear HO1131; clear HO1135; clear HB; have HO1127 := n0_; have HO1131 := n1_; have HO1135 := n2_; have HB := n3_; clear n0_ n1_ n2_ n3_; (try clear hb); (try clear hb2); (try clear hk); (try clear hi)))
    go_ret
    exact ⟨by first | rfl | (simp [errW_none, errW_some] <;> rfl) | (simp [*, errW_none, errW_some] <;> rfl), by repeat (first | (with_reducible first | exact HB.out | apply below_alloc | apply pw_below_drewN | apply below_drew1) | exact HB.out)⟩
  ·rw [if_neg c8] at H
   have c8b0 : (t1132 == t1128) = false := beq_eq_false_iff_ne.mpr c8
   have c8b1 : (t1132 != t1128) = true := bne_iff_ne.mpr c8
   obtain rfl := Option.some.inj H
   go_enter Try.func9, Try.ntmps9
   go_wp2_with (first | ((with_reducible refine gate_callee (f := 35) rfl ?_); refine goesL_ (some 9) rfl rfl Try.func35 (by kernel_rfl) rfl #[.slice A0 l0.length c0, .int .i64 1048576] rfl (by (try simp only [List.map_toArray, List.map_cons, List.map_nil]); first | done | rfl | (simp only [List.length_drop, List.length_take]; rfl)) ?_; (with_reducible refine (laws_szLineS.calls _ _ l0 1048576 t1124 _ ?side1 ?side2 A2.out).mono ?_); (case side1 => repeat (first | exact HR0.out | (with_reducible refine Kd.C_alloc ?_ _) | (with_reducible refine Kd.C_drewN ?_ _) | (with_reducible refine Kd.C_drew ?_))); (case side2 => exact HC0.out); rintro e w' ⟨rfl, ⟨nd, rfl⟩⟩; refine ⟨_, rfl, ?_⟩) | ((with_reducible refine gate_callee (f := 37) rfl ?_); refine goesL_ (some 13) rfl rfl Try.func37 (by kernel_rfl) rfl #[.slice A0 l0.length c0] rfl (by (try simp only [List.map_toArray, List.map_cons, List.map_nil]); first | done | rfl | (simp only [List.length_drop, List.length_take]; rfl)) ?_; (with_reducible refine (laws_toLineS.calls k _ _ l0 t1125 _ ?side1 ?side2 A4.out).mono ?_); (case side1 => repeat (first | exact HR0.out | (with_reducible refine Kd.C_alloc ?_ _) | (with_reducible refine Kd.C_drewN ?_ _) | (with_reducible refine Kd.C_drew ?_))); (case side2 => exact HC0.out); rintro e w30 ⟨v1126, rfl, ho0, hb⟩; refine ⟨_, rfl, ?_⟩; have n0_ := Aside0.mk (Kd.R_lower ho0 (below_size (by repeat (first | (with_reducible first | exact HB.out | apply below_alloc | apply pw_below_drewN | apply below_drew1) | exact HB.out)))); have n1_ := Aside0.mk (below_step (by repeat (first | (with_reducible first | exact HB.out | apply below_alloc | apply pw_below_drewN | apply below_drew1) | exact HB.out)) hb); clear HB; have HO1127 := n0_; have HB := n1_; clear n0_ n1_; (try clear hb); (try clear hb2); (try clear hk); (try clear hi); (try clear ho0); obtain ⟨Ao31, co31, eo31⟩ := Kd.R_slice HO1127.out; subst eo31) | ((with_reducible refine gate_callee (f := 41) rfl ?_); refine goesL_ (some 14) rfl rfl Try.func41 (by kernel_rfl) rfl #[.slice Ao31 t1125.length co31] rfl (by (try simp only [List.map_toArray, List.map_cons, List.map_nil]); first | done | rfl | (simp only [List.length_drop, List.length_take]; rfl)) ?_; (with_reducible refine (spec_CountRegions.calls k _ _ t1125 t1128 _ ?side1 ?side2 A5.out).mono ?_); (case side1 => repeat (first | exact (Kd.R_reads' HO1127.out).2.2 | (with_reducible refine Kd.C_alloc ?_ _) | (with_reducible refine Kd.C_drewN ?_ _) | (with_reducible refine Kd.C_drew ?_))); (case side2 => exact (Kd.R_reads' HO1127.out).2.1); rintro e w32 ⟨rfl, hb⟩; refine ⟨_, rfl, ?_⟩; have n0_ := Aside0.mk (Kd.R_below (by (with_reducible repeat (first | apply Kd.R_alloc | apply Kd.R_drewN | apply Kd.R_drew)); exact HO1127.out) hb); have n1_ := Aside0.mk (below_step (by repeat (first | (with_reducible first | exact HB.out | apply below_alloc | apply pw_below_drewN | apply below_drew1) | exact HB.out)) hb); clear HO1127; clear HB; have HO1127 := n0_; have HB := n1_; clear n0_ n1_; (try clear hb); (try clear hb2); (try clear hk); (try clear hi)) | ((with_reducible refine gate_callee (f := 37) rfl ?_); refine goesL_ (some 16) rfl rfl Try.func37 (by kernel_rfl) rfl #[.slice A0 l0.length c0] rfl (by (try simp only [List.map_toArray, List.map_cons, List.map_nil]); first | done | rfl | (simp only [List.length_drop, List.length_take]; rfl)) ?_; (with_reducible refine (laws_toLineS.calls k _ _ l0 t1129 _ ?side1 ?side2 A6.out).mono ?_); (case side1 => repeat (first | exact (Kd.C_below HR0.out HB.out) | (with_reducible refine Kd.C_alloc ?_ _) | (with_reducible refine Kd.C_drewN ?_ _) | (with_reducible refine Kd.C_drew ?_))); (case side2 => exact HC0.out); rintro e w33 ⟨v1130, rfl, ho0, hb⟩; refine ⟨_, rfl, ?_⟩; have n0_ := Aside0.mk (Kd.R_elder' (by (with_reducible repeat (first | apply Kd.R_alloc | apply Kd.R_drewN | apply Kd.R_drew)); exact HO1127.out) (Kd.R_base ho0) hb); have n1_ := Aside0.mk (Kd.R_lower (Kd.R_new' ho0 (Kd.R_lt (by (with_reducible repeat (first | apply Kd.R_alloc | apply Kd.R_drewN | apply Kd.R_drew)); exact HO1127.out))) (below_size (by repeat (first | (with_reducible first | exact HB.out | apply below_alloc | apply pw_below_drewN | apply below_drew1) | exact HB.out)))); have n2_ := Aside0.mk (below_step (by repeat (first | (with_reducible first | exact HB.out | apply below_alloc | apply pw_below_drewN | apply below_drew1) | exact HB.out)) hb); clear HO1127; clear HB; have HO1127 := n0_; have HO1131 := n1_; have HB := n2_; clear n0_ n1_ n2_; (try clear hb); (try clear hb2); (try clear hk); (try clear hi); (try clear ho0); obtain ⟨Ao34, co34, eo34⟩ := Kd.R_slice HO1131.out; subst eo34) | ((with_reducible refine gate_callee (f := 42) rfl ?_); refine goesL_ (some 18) rfl rfl Try.func42 (by kernel_rfl) rfl #[.slice Ao34 t1129.length co34] rfl (by (try simp only [List.map_toArray, List.map_cons, List.map_nil]); first | done | rfl | (simp only [List.length_drop, List.length_take]; rfl)) ?_; (with_reducible refine (impl_CountRegions.calls k _ _ t1129 t1132 _ ?side1 ?side2 A7.out).mono ?_); (case side1 => repeat (first | exact (Kd.R_reads' HO1131.out).2.2 | (with_reducible refine Kd.C_alloc ?_ _) | (with_reducible refine Kd.C_drewN ?_ _) | (with_reducible refine Kd.C_drew ?_))); (case side2 => exact (Kd.R_reads' HO1131.out).2.1); rintro e w35 ⟨rfl, hb⟩; refine ⟨_, rfl, ?_⟩; have n0_ := Aside0.mk (Kd.R_below (by (with_reducible repeat (first | apply Kd.R_alloc | apply Kd.R_drewN | apply Kd.R_drew)); exact HO1127.out) hb); have n1_ := Aside0.mk (Kd.R_below (by (with_reducible repeat (first | apply Kd.R_alloc | apply Kd.R_drewN | apply Kd.R_drew)); exact HO1131.out) hb); have n2_ := Aside0.mk (below_step (by repeat (first | (with_reducible first | exact HB.out | apply below_alloc | apply pw_below_drewN | apply below_drew1) | exact HB.out)) hb); clear HO1127; clear HO1131; clear HB; have HO1127 := n0_; have HO1131 := n1_; have HB := n2_; clear n0_ n1_ n2_; (try clear hb); (try clear hb2); (try clear hk); (try clear hi)))
   go_ret
   exact ⟨by first | rfl | (simp [errW_none, errW_some] <;> rfl) | (simp [*, errW_none, errW_some] <;> rfl), by repeat (first | (with_reducible first | exact HB.out | apply below_alloc | apply pw_below_drewN | apply below_drew1) | exact HB.out)⟩
end Go.Proofs.Ytcoommffjbbebaa.P
namespace Go.Proofs.Ytcoommffjbbebaa.Rk
open Go.RowKit Go.ChangeShapes Go.WideShapes Go.Deep Go.Proofs.YtcoommffjbbebaaW.PrintWords
def I64 (n : Int) : Prop := -9223372036854775808 ≤ n ∧ n ≤ 9223372036854775807
theorem I64_of {n : Int} (h : (Lit.int .i64 n).wf = true) : I64 n := by
  have e1 : IntKind.i64.min = -9223372036854775808 := by decide
  have e2 : IntKind.i64.max = 9223372036854775807 := by decide
  simp [Lit.wf, e1, e2] at h
  unfold I64
  omega
section
variable {H : Type} {enc : TypeId × Value → H} {P : Program} {w : World} {base : Nat} {spare : Nat → Bool} {held : Bool} {α : Type}
def Elem (enc : TypeId × Value → H) (P : Program) (w : World) (base : Nat) (spare : Nat → Bool) (held : Bool) (e : TypeId) (d : Kd α) (Q : α → Prop) : Prop :=
  ∀ (fuel : Nat) (cs : List Value) (x : DataW H × List MemPlace), DataW.trod enc P w base spare held fuel e cs = some x → ∃ y, d.K w y cs ∧ Q y
theorem row_of [Inhabited α] {t e : TypeId} {d : Kd α} {Q : α → Prop} {a : Option Addr} {len cap : Nat} {D : DataW H} {ps : List MemPlace} (ht : P.underlying t = some (.slice e)) (hC : P.cellsOf e = d.sz) (he : Elem enc P w base spare held e d Q)
    (h : DataW.Trod enc P w base spare held t (.slice a len cap) D ps) : ∃ l : List α, len = l.length ∧ d.C w a l.length l ∧ l.length ≤ cap ∧ l.length ≤ 9223372036854775807 ∧ ∀ y ∈ l, Q y := by
  obtain ⟨fuel, hf⟩ := h
  rcases open_slice ht hf with ⟨hcs, _⟩ | ⟨ad, len', cap', m, n, D', Pl, hcs, _, hl, hm, hmm, _, hi⟩
  · simp [Value.cells] at hcs
    obtain ⟨rfl, rfl, rfl⟩ := hcs
    exact ⟨[], rfl, Kd.C_nil d w, Nat.zero_le _, by simp, fun y hy => by simp at hy⟩
  · simp [Value.cells] at hcs
    obtain ⟨rfl, rfl, rfl⟩ := hcs
    have hlm : len ≤ m := by rw [hmm]; split <;> omega
    have key : ∀ i, i < len → ∃ y : α, ∃ cs : List Value, cs.length = d.sz ∧ d.K w y cs ∧ Q y ∧ ∀ j u, cs[j]? = some u → w.cell? (ad.add (i * d.sz + j)) = some u := by
      intro i hil
      obtain ⟨cs', hc, htr⟩ := hi i (by omega)
      rw [hC] at hc
      obtain ⟨_, hcl, hat⟩ := World.cells?_some hc
      obtain ⟨y, hK, hQ⟩ := he _ _ _ htr
      refine ⟨y, cs', hcl, hK, hQ, fun j u hu => ?_⟩
      have hj : j < d.sz := by rw [← hcl]; exact (List.getElem?_eq_some_iff.1 hu).1
      rw [← Deep.add_add, hat j hj]
      exact hu
    obtain ⟨f, hff⟩ := choose_lt key
    unfold maxLen at hm
    refine ⟨(List.range len).map f, by simp, ⟨rfl, by simp; omega, fun hn => ⟨ad, rfl, fun j p hp => ?_⟩⟩, by simpa using hl, by simp; omega, fun y hy => ?_⟩
    · have hjl : j < len := by simpa using (List.getElem?_eq_some_iff.1 hp).1
      have : p = f j := by simpa [hjl] using hp.symm
      subst this
      obtain ⟨cs, h1, h2, _, h4⟩ := hff j hjl
      exact ⟨cs, h1, h2, h4⟩
    · obtain ⟨i, hi2, rfl⟩ := List.mem_map.1 hy
      exact (hff i (List.mem_range.1 hi2)).choose_spec.2.2.1
end
end Go.Proofs.Ytcoommffjbbebaa.Rk
namespace Go.Proofs.Ytcoommffjbbebaa.P
open Go.RowKit Go.ChangeShapes Go.WideShapes Go.Deep Go.Proofs.Ytcoommffjbbebaa.Rk Go.Proofs.YtcoommffjbbebaaW.PrintWords
theorem cells_3 : Try.prog.cellsOf 3 = 1 := by kernel_rfl
def Q72 (x : S72) : Prop := I64 x.f0 ∧ I64 x.f1
instance : Inhabited S72 := ⟨z72⟩
def Q28 (x : S28) : Prop := I64 x.f0 ∧ x.f1.size ≤ 9223372036854775807
instance : Inhabited S28 := ⟨z28⟩
def Q100 (x : S100) : Prop := I64 x.f0 ∧ I64 x.f1 ∧ I64 x.f2
instance : Inhabited S100 := ⟨z100⟩
theorem cells_100 : Try.prog.cellsOf 100 = 3 := by kernel_rfl
set_option maxRecDepth 100000 in
theorem elem100 {H : Type} {enc : TypeId × Value → H} {w : World} {base : Nat} {spare : Nat → Bool} {held : Bool} : Elem enc Try.prog w base spare held 100 k100 Q100 := by
  intro fuel cs x h
  obtain ⟨xs, n, _, _, hlen, hxl, hf⟩ := DataW.trod_struct Try.underlying100 h
  rw [cells_100] at hlen
  match cs, hlen with
  | [c0, c1, c2], _ =>
    have h0 : DataW.trod enc Try.prog w base spare held n 3 (List.take (Try.prog.cellsOf 3) (List.drop 0 [c0, c1, c2])) = xs[0]? := hf 0 _ rfl
    rw [cells_3] at h0
    have y0 : xs[0]? = some (xs[0]'(by rw [hxl]; decide)) := List.getElem?_eq_getElem _
    rw [y0] at h0
    obtain ⟨n0, e0, _, w0⟩ := DataW.trod_int Try.underlying3 h0
    have e0' : c0 = .int .i64 n0 := by simpa using e0
    have h1 : DataW.trod enc Try.prog w base spare held n 3 (List.take (Try.prog.cellsOf 3) (List.drop 1 [c0, c1, c2])) = xs[1]? := hf 1 _ rfl
    rw [cells_3] at h1
    have y1 : xs[1]? = some (xs[1]'(by rw [hxl]; decide)) := List.getElem?_eq_getElem _
    rw [y1] at h1
    obtain ⟨n1, e1, _, w1⟩ := DataW.trod_int Try.underlying3 h1
    have e1' : c1 = .int .i64 n1 := by simpa using e1
    have h2 : DataW.trod enc Try.prog w base spare held n 3 (List.take (Try.prog.cellsOf 3) (List.drop 2 [c0, c1, c2])) = xs[2]? := hf 2 _ rfl
    rw [cells_3] at h2
    have y2 : xs[2]? = some (xs[2]'(by rw [hxl]; decide)) := List.getElem?_eq_getElem _
    rw [y2] at h2
    obtain ⟨n2, e2, _, w2⟩ := DataW.trod_int Try.underlying3 h2
    have e2' : c2 = .int .i64 n2 := by simpa using e2
    subst e0' e1' e2'
    exact ⟨⟨n0, n1, n2⟩, k100_mk w ⟨n0, n1, n2⟩, I64_of w0, I64_of w1, I64_of w2⟩
def Q98 (x : S98) : Prop := I64 x.f0 ∧ I64 x.f1 ∧ I64 x.f2
instance : Inhabited S98 := ⟨z98⟩
def Q23 (x : S23) : Prop := I64 x.f0 ∧ x.f1.size ≤ 9223372036854775807
instance : Inhabited S23 := ⟨z23⟩
end Go.Proofs.Ytcoommffjbbebaa.P
