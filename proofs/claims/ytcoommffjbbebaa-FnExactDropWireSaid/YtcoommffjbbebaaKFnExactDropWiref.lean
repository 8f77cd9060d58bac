/- What the law FnExactDropWire reaches, part 6: functions as plain Lean functions with the proofs that their calls come to them, and plain lemmas over these. Put together by a program (wip/pack.py). -/
import Derived.Test.YtcoommffjbbebaaKFnExactDropWirea
import Derived.Test.YtcoommffjbbebaaKFnExactDropWired
import Derived.Test.YtcoommffjbbebaaKFnExactDropWiree
import Derived.Test.YtcoommffjbbebaaKFnExactDropWireb
import Derived.Test.YtcoommffjbbebaaWWords
import Derived.ChangeArms
import Derived.Deep.Slices
import Derived.Deep.Fields
import Derived.WideShapes
import Derived.KernelRfl
namespace Go.Proofs.Ytcoommffjbbebaa.P
open Go.RowKit Go.Proofs.YtcoommffjbbebaaW.PrintWords Go.Proofs.YtcoommffjbbebaaW.PrintLast Go.Proofs.YtcoommffjbbebaaW.PrintMore
attribute [local go_sem] ptrOf_slice
attribute [local go_sem] min2_str max2_int min2_int max_two min_two max_three min_three max_four min_four
set_option linter.unusedVariables false
set_option linter.unusedSimpArgs false
def slices_Contains_Sint_int.f (k : Nat) (l0 : List Int) (a1 : Int) : Option (Bool) := (slices_Index_Sint_int.f k l0 a1).bind fun t494 => (some (decide (t494 ≥ 0)))
theorem slices_Contains_Sint_int.mono : ∀ a0 a1 k, LeO (slices_Contains_Sint_int.f k a0 a1) (slices_Contains_Sint_int.f (k + 1) a0 a1) := by
 intro a0 a1 k
 unfold slices_Contains_Sint_int.f
 repeat' first
   | (with_reducible exact slices_Index_Sint_int.mono _ _ _)
   | (with_reducible exact LeO.refl _)
   | (with_reducible exact LeO.none _)
   | (with_reducible refine LeO.ite ?_ ?_)
   | (with_reducible refine LeO.bind ?_ (fun _ => ?_))
   | exact slices_Index_Sint_int.mono _ _ _
   | exact LeO.none _
   | refine LeO.ite ?_ ?_
   | refine LeO.bind ?_ (fun _ => ?_)
set_option maxHeartbeats 8000000 in
set_option maxRecDepth 100000 in
theorem slices_Contains_Sint_int.calls (k : Nat) (A0 : Option Addr) (c0 : Nat) (l0 : List Int) (a1 : Int) (r : Bool) (w : World) (hr0 : Kd.C (Kd.int .i64) w A0 l0.length l0) (hc0 : l0.length ≤ c0) (h : slices_Contains_Sint_int.f k l0 a1 = some r) :
  Calls Try.prog 70 #[.slice A0 l0.length c0, .int .i64 a1] w fun e w' => e = .returned (.bool r) ∧ Drawn0 w w' := by
 have HR0 := Aside0.mk hr0
 have HC0 := Aside0.mk hc0
 clear hr0 hc0
 have H : ((slices_Index_Sint_int.f k l0 a1).bind fun t494 => (some (decide (t494 ≥ 0)))) = some r := h
 clear h
 replace H := Option.bind_eq_some_iff.mp H
 obtain ⟨t494, A30, H⟩ := H
 replace H : (some (decide (t494 ≥ 0))) = some r := H
 have A3 := Aside0.mk A30
 clear A30
 obtain rfl := Option.some.inj H
 go_enter Try.func70, Try.ntmps70
 go_wp2_with (first | ((with_reducible refine gate_callee (f := 119) rfl ?_); refine goesL_ (some 7) rfl rfl Try.func119 (by kernel_rfl) rfl #[.slice A0 l0.length c0, .int .i64 a1] rfl (by (try simp only [List.map_toArray, List.map_cons, List.map_nil]); first | done | rfl | (simp only [List.length_drop, List.length_take]; rfl)) ?_; (with_reducible refine (slices_Index_Sint_int.calls k _ _ l0 a1 t494 _ ?side1 ?side2 A3.out).mono ?_); (case side1 => repeat (first | exact HR0.out | (with_reducible refine Kd.C_alloc ?_ _) | (with_reducible refine Kd.C_drewN ?_ _) | (with_reducible refine Kd.C_drew ?_))); (case side2 => exact HC0.out); rintro e w' ⟨rfl, ⟨nd, rfl⟩⟩; refine ⟨_, rfl, ?_⟩))
 go_ret
 exact ⟨by first | rfl | (simp; done) | (simp [*]; done), by repeat (first | exact Drawn0.refl _ | apply Drawn0.step)⟩
end Go.Proofs.Ytcoommffjbbebaa.P
namespace Go.Proofs.Ytcoommffjbbebaa.P
open Go.RowKit Go.Proofs.YtcoommffjbbebaaW.PrintWords Go.Proofs.YtcoommffjbbebaaW.PrintLast Go.Proofs.YtcoommffjbbebaaW.PrintMore
attribute [local go_sem] ptrOf_slice
set_option linter.unusedVariables false
set_option linter.unusedSimpArgs false
def decW (i y : Int) : Int := if y > i then wrap64 (y - 1) else y
def dropS (k : Nat) (i : Int) : List (List Int) → Option (List (List Int))
  | [] => some []
  | x :: r => (slices_Contains_Sint_int.f k x i).bind fun c => (dropS k i r).bind fun ys => some (if c = true then ys else x.map (decW i) :: ys)
theorem dropS_mono (k : Nat) (i : Int) : ∀ l, LeO (dropS k i l) (dropS (k + 1) i l)
  | [] => LeO.refl _
  | x :: r => LeO.bind (slices_Contains_Sint_int.mono _ _ _) (fun _ => LeO.bind (dropS_mono k i r) (fun _ => LeO.refl _))
def impl_DropWire.f (k : Nat) (a0 : Int) (l1 : List Int) (a2 : Int) : Option (List Int × Bool) := (impl_IsWiring.f k a0 l1).bind fun b => if b = true then (if a0 = 3 then some ([], false) else ((impl_isElement.f a0 a2).bind fun e => if e = true then ((impl_SwapsOf.f k a0 l1).bind fun xs => if xs.length < 5864062014805 then ((dropS k a2 xs).bind fun ys => impl_WiringFrom.f k (wrap64 (a0 - 1)) ys) else none) else some ([], false))) else some ([], false)
theorem impl_DropWire.mono : ∀ a0 a1 a2 k, LeO (impl_DropWire.f k a0 a1 a2) (impl_DropWire.f (k + 1) a0 a1 a2) := fun a0 a1 a2 k => LeO.bind (impl_IsWiring.mono _ _ _) (fun _ => LeO.ite (LeO.ite (LeO.refl _) (LeO.bind (LeO.refl _) (fun _ => LeO.ite (LeO.bind (impl_SwapsOf.mono _ _ _) (fun _ => LeO.ite (LeO.bind (dropS_mono _ _ _) (fun _ => impl_WiringFrom.mono _ _ _)) (LeO.refl _))) (LeO.refl _)))) (LeO.refl _))
theorem at_hdr {w : World} {A : Option Addr} {n : Nat} {xs : List (Option Addr × Nat × Nat)} (h : hdr.C w A n xs) (i : Int) (h0 : 0 ≤ i) (h1 : i < n) : ∃ ad, A = some ad ∧ w.cell? (ad.add i.toNat) = some (.slice (rdOf (none, 0, 0) xs i).1 (rdOf (none, 0, 0) xs i).2.1 (rdOf (none, 0, 0) xs i).2.2) :=
  ReadsOf.at_ (Kd.reads_of_C (enc := fun h : Option Addr × Nat × Nat => Value.slice h.1 h.2.1 h.2.2) (d := (none, 0, 0)) (h1 := fun _ => rfl) h) i h0 h1
theorem C_pair {w : World} {b : Nat} {u v : Int} (h : w.heap[b]? = some (.cells #[.int .i64 u, .int .i64 v] 3 (0, 0))) : (Kd.int .i64).C w (some ⟨b, 0, none⟩) ([u, v] : List Int).length [u, v] := by
  refine Kd.C_of_reads (enc := Value.int .i64) (d := (0 : Int)) (h1 := fun _ => rfl) ⟨rfl, by simp, fun _ => ⟨⟨b, 0, none⟩, rfl, fun j hj => ?_⟩⟩
  match j, hj with
  | 0, _ => exact (blk_cell h 0).trans rfl
  | 1, _ => exact (blk_cell h 1).trans rfl
def InS (w : World) (sel : List Nat) (ys : List (List Int)) : Prop := sel.length = ys.length ∧ ∀ (m b : Nat) (y : List Int), sel[m]? = some b → ys[m]? = some y → y.length = 2 ∧ w.heap[b]? = some (.cells #[.int .i64 (rd y 0), .int .i64 (rd y 1)] 3 (0, 0))
theorem InS_step {w w1 : World} {sel : List Nat} {ys : List (List Int)} (h : InS w sel ys) (hm : ∀ k c, k ∈ sel → w.heap[k]? = some (.cells c 3 (0, 0)) → w1.heap[k]? = some (.cells c 3 (0, 0))) : InS w1 sel ys :=
  ⟨h.1, fun m b y hb hy => ⟨(h.2 m b y hb hy).1, hm b _ (List.mem_of_getElem? hb) (h.2 m b y hb hy).2⟩⟩
theorem InS_snoc {w : World} {b : Nat} {sel : List Nat} {ys : List (List Int)} {x y : Int} (h : InS w sel ys) (hx : w.heap[b]? = some (.cells #[.int .i64 x, .int .i64 y] 3 (0, 0))) : InS w (sel ++ [b]) (ys ++ [[x, y]]) := by
  refine ⟨by rw [List.length_append, List.length_append, h.1]; rfl, fun j b' x' hb' hx' => ?_⟩
  rcases Nat.lt_or_ge j sel.length with hj | hj
  · rw [List.getElem?_append_left hj] at hb'
    rw [List.getElem?_append_left (by have := h.1; omega)] at hx'
    exact h.2 j b' x' hb' hx'
  · rw [List.getElem?_append_right hj] at hb'
    rw [List.getElem?_append_right (by have := h.1; omega), ← h.1] at hx'
    cases hk : j - sel.length with
    | zero =>
      rw [hk] at hb' hx'
      have e1 : b = b' := by simpa using hb'
      have e2 : [x, y] = x' := by simpa using hx'
      subst e1
      subst e2
      exact ⟨rfl, hx⟩
    | succ m => rw [hk] at hb'; simp at hb'
theorem two_of_len {x : List Int} (h : x.length = 2) : x = [rd x 0, rd x 1] := by
  match x, h with
  | [u, v], _ => rfl
theorem C_rows {w : World} {A : Option Addr} {sel : List Nat} {ys : List (List Int)} (h : hdr.C w A sel.length (sel.map hd2)) (hS : InS w sel ys) : (Kd.slice 3 (Kd.int .i64)).C w A ys.length ys := by
  obtain ⟨h1, h2, h3⟩ := h
  refine ⟨rfl, by rw [← hS.1]; exact h2, fun hn => ?_⟩
  obtain ⟨ad, e, hc⟩ := h3 (by have := hS.1; omega)
  refine ⟨ad, e, fun j y hy => ?_⟩
  have hj : j < sel.length := by have := (List.getElem?_eq_some_iff.1 hy).1; have := hS.1; omega
  obtain ⟨c, hl, hK, hcell⟩ := hc j (hd2 sel[j]) (by rw [List.getElem?_map, List.getElem?_eq_getElem hj]; rfl)
  obtain ⟨g1, g2⟩ := hS.2 j sel[j] y (List.getElem?_eq_getElem hj) hy
  have hK' : c = [.slice (some ⟨sel[j], 0, none⟩) 2 2] := hK
  refine ⟨c, hl, ⟨some ⟨sel[j], 0, none⟩, 2, by rw [hK', g1], by omega, ?_⟩, hcell⟩
  have hp := C_pair g2
  rw [← two_of_len g1] at hp
  exact hp
theorem Inn_lower {w : World} {base base' : Nat} {bs : List Nat} {xs : List (List Int)} (h : Inn w base bs xs) (hb : base' ≤ base) : Inn w base' bs xs := ⟨h.1, h.2.1, fun j b x h1 h2 => by obtain ⟨g1, g2, g3⟩ := h.2.2 j b x h1 h2; exact ⟨by omega, g2, g3⟩⟩
theorem Inn_cons {w : World} {base b : Nat} {bs : List Nat} {x : List Int} {xs : List (List Int)} (h : Inn w base (b :: bs) (x :: xs)) : Inn w base bs xs ∧ base ≤ b ∧ x.length = 2 ∧ w.heap[b]? = some (.cells #[.int .i64 (rd x 0), .int .i64 (rd x 1)] 3 (0, 0)) ∧ b ∉ bs := by
  obtain ⟨h1, h2, h3⟩ := h
  obtain ⟨g1, g2, g3⟩ := h3 0 b x rfl rfl
  exact ⟨⟨by simpa using h1, (List.nodup_cons.1 h2).2, fun j b' x' hb hx => h3 (j + 1) b' x' (by simpa using hb) (by simpa using hx)⟩, g1, g2, g3, (List.nodup_cons.1 h2).1⟩
theorem hdr_tight {w w1 : World} {base : Nat} {ok : Nat → Prop} {v : Value} {xs : List (Option Addr × Nat × Nat)} (h : hdr.R 35 w base ok v xs) (hm : ∀ k, v.ownBlock = some k → k < w.heap.size → w1.heap[k]? = w.heap[k]?) : hdr.R 35 w1 base ok v xs := by
  have h1 := Kd.R_tight rfl h
  have h2 := Kd.R_step h1 (fun k hk hlt => hm k hk.symm hlt)
  exact Kd.R_mono h2 (fun k hk => h.1 k hk.symm)
theorem drewN_heap (w : World) : ∀ n : Nat, (w.drewN n).heap = w.heap
  | 0 => rfl
  | n + 1 => rfl
set_option maxHeartbeats 8000000 in
set_option maxRecDepth 100000 in
theorem impl_DropWire.calls (k : Nat) (a0 : Int) (A1 : Option Addr) (c1 : Nat) (l1 : List Int) (a2 : Int) (r1 : List Int) (r2 : Bool) (w : World) (hr1 : Kd.C (Kd.int .i64) w A1 l1.length l1) (hc1 : l1.length ≤ c1) (h : impl_DropWire.f k a0 l1 a2 = some (r1, r2)) :
    Calls Try.prog 27 #[.int .i64 a0, .slice A1 l1.length c1, .int .i64 a2] w fun e w' => ∃ v0_ : Value, e = .returned (.tuple #[v0_, .bool r2]) ∧ Kd.R (Kd.int .i64) 3 w' w.heap.size (fun _ => True) v0_ r1 ∧ Below w.heap.size w w' := by
  have HR1 := Aside0.mk hr1
  have HC1 := Aside0.mk hc1
  clear hr1 hc1
  obtain ⟨b, A1_, H⟩ := Option.bind_eq_some_iff.mp h
  clear h
  have A2 := Aside0.mk A1_
  clear A1_
  cases b with
  | false =>
    obtain ⟨rfl, rfl⟩ := Prod.mk.inj (Option.some.inj (show some (([] : List Int), false) = some (r1, r2) from H))
    clear H
    go_enter Try.func27, Try.ntmps27
    go_wp2_with (first | (go_at_call 62; refine (impl_IsWiring.calls k a0 A1 c1 l1 false _ HR1.out HC1.out A2.out).mono ?_; rintro e w3 ⟨rfl, hB3⟩; have HB3 := Aside0.mk hB3; clear hB3))
    go_ret2
    exact ⟨_, rfl, Kd.R_nil _ _ _ _ _, HB3.out⟩
  | true =>
    replace H : (if a0 = 3 then some ([], false) else ((impl_isElement.f a0 a2).bind fun e => if e = true then ((impl_SwapsOf.f k a0 l1).bind fun xs => if xs.length < 5864062014805 then ((dropS k a2 xs).bind fun ys => impl_WiringFrom.f k (wrap64 (a0 - 1)) ys) else none) else some ([], false))) = some (r1, r2) := H
    by_cases c3 : a0 = 3
    · rw [if_pos c3] at H
      obtain ⟨rfl, rfl⟩ := Prod.mk.inj (Option.some.inj H)
      clear H
      subst c3
      go_enter Try.func27, Try.ntmps27
      go_wp2_with (first | (go_at_call 62; refine (impl_IsWiring.calls k 3 A1 c1 l1 true _ HR1.out HC1.out A2.out).mono ?_; rintro e w3 ⟨rfl, hB3⟩; have HB3 := Aside0.mk hB3; clear hB3))
      go_ret2
      exact ⟨_, rfl, Kd.R_nil _ _ _ _ _, HB3.out⟩
    rw [if_neg c3] at H
    have c3b : decide (a0 = 3) = false := decide_eq_false c3
    have c3c : (a0 == 3) = false := by simpa using c3
    clear c3
    obtain ⟨e, A4_, H⟩ := Option.bind_eq_some_iff.mp H
    have A4 := Aside0.mk A4_
    clear A4_
    cases e with
    | false =>
      obtain ⟨rfl, rfl⟩ := Prod.mk.inj (Option.some.inj (show some (([] : List Int), false) = some (r1, r2) from H))
      clear H
      go_enter Try.func27, Try.ntmps27
      go_wp2_with (first
        | (go_at_call 62; refine (impl_IsWiring.calls k a0 A1 c1 l1 true _ HR1.out HC1.out A2.out).mono ?_; rintro e w3 ⟨rfl, hB3⟩; have HB3 := Aside0.mk hB3; clear hB3)
        | (go_at_call 68; refine (impl_isElement.calls a0 a2 false _ A4.out).mono ?_; rintro e w4 ⟨rfl, ⟨nd, rfl⟩⟩))
      go_ret2
      exact ⟨_, rfl, Kd.R_nil _ _ _ _ _, by repeat (first | exact HB3.out | apply pw_below_drewN)⟩
    | true =>
      obtain ⟨xs, A5_, H⟩ := Option.bind_eq_some_iff.mp (show ((impl_SwapsOf.f k a0 l1).bind fun xs => if xs.length < 5864062014805 then ((dropS k a2 xs).bind fun ys => impl_WiringFrom.f k (wrap64 (a0 - 1)) ys) else none) = some (r1, r2) from H)
      have A5 := Aside0.mk A5_
      clear A5_
      by_cases cL : xs.length < 5864062014805
      case neg => rw [if_neg cL] at H; exact absurd H (by simp)
      rw [if_pos cL] at H
      have LM := Aside0.mk cL
      clear cL
      obtain ⟨YS, A6_, H⟩ := Option.bind_eq_some_iff.mp H
      have A6 := Aside0.mk A6_
      clear A6_
      obtain ⟨n1, hn1⟩ : ∃ n1, wrap64 (a0 - 1) = n1 := ⟨_, rfl⟩
      rw [hn1] at H
      have hn1w : IntKind.i64.wrap (a0 - 1) = n1 := (i64_w _).trans hn1
      have A7 := Aside0.mk H
      clear H
      go_enter Try.func27, Try.ntmps27
      go_wp2_with (first
        | (go_at_call 62; refine (impl_IsWiring.calls k a0 A1 c1 l1 true _ HR1.out HC1.out A2.out).mono ?_; rintro e w3 ⟨rfl, hB3⟩; have HB3 := Aside0.mk hB3; clear hB3)
        | (go_at_call 68; refine (impl_isElement.calls a0 a2 true _ A4.out).mono ?_; rintro e w4 ⟨rfl, ⟨nd, rfl⟩⟩)
        | (go_at_call 69
           refine (impl_SwapsOf.calls k a0 A1 c1 l1 xs _ (Kd.C_below HR1.out (by repeat (first | exact HB3.out | apply pw_below_drewN))) HC1.out A5.out).mono ?_
           rintro e w5 ⟨V, bs, rfl, hR, hI, hB⟩
           obtain ⟨AT, cT, hV⟩ := Kd.R_slice hR
           rw [List.length_map] at hV
           subst hV
           have HTR := Aside0.mk (Kd.R_lower hR (below_size (w := w) (by repeat (first | exact HB3.out | apply pw_below_drewN))))
           have HIN := Aside0.mk (Inn_lower hI (below_size (w := w) (by repeat (first | exact HB3.out | apply pw_below_drewN))))
           have HB := Aside0.mk (below_step (w := w) (by repeat (first | exact HB3.out | apply pw_below_drewN)) hB)
           clear hR hI hB HB3))
      have hlen : Aside0 (bs.length = xs.length) := ⟨HIN.out.1⟩
      go_loopg [8, 30] (xs.length + 1) (fun kq v8 v30 w' => ∃ (j : Nat) (x30 : Int) (AS : Option Addr) (cS : Nat) (sel : List Nat) (ys zs : List (List Int)), v8 = .slice AS sel.length cS ∧ v30 = .int .i64 x30 ∧ Aside0 (x30 = (j : Int) ∧ j ≤ xs.length ∧ kq + j = xs.length + 1) ∧ Aside0 (dropS k a2 (xs.drop j) = some zs ∧ ys ++ zs = YS ∧ sel.length ≤ j) ∧ Aside0 (hdr.R 35 w' w.heap.size (fun _ => True) (.slice AT bs.length cT) (bs.map hd2)) ∧ Aside0 (hdr.R 35 w' w.heap.size (fun k => some k ≠ (Value.slice AT bs.length cT).ownBlock) (.slice AS sel.length cS) (sel.map hd2)) ∧ Aside0 (Inn w' w.heap.size (bs.drop j) (xs.drop j)) ∧ Aside0 (InS w' sel ys) ∧ Aside0 (∀ b ∈ sel, b ∉ bs.drop j) ∧ Aside0 (Below w.heap.size w w'))
      case atStart => exact ⟨0, 0, none, 0, [], [], YS, rfl, rfl, ⟨rfl, Nat.zero_le _, rfl⟩, ⟨A6.out, rfl, Nat.le_refl _⟩, HTR, ⟨Kd.R_nil _ _ _ _ _⟩, HIN, ⟨rfl, fun m b y hb _ => by simp at hb⟩, ⟨fun b hb => by cases hb⟩, HB⟩
      case round =>
        clear HTR HIN HB A6
        obtain ⟨j, x30, AS, cS, sel, ys, zs, rfl, rfl, HJ, HZ, HTR, HSR, HIN, HIS, HSE, HB⟩ := hrel
        obtain ⟨hj0, hj1, hj2⟩ := HJ.out
        by_cases cj : j < xs.length
        · have hjb : j < bs.length := by have := hlen.out; omega
          have ex : xs.drop j = xs[j] :: xs.drop (j + 1) := List.drop_eq_getElem_cons cj
          have eb : bs.drop j = bs[j] :: bs.drop (j + 1) := List.drop_eq_getElem_cons hjb
          obtain ⟨x, hx⟩ : ∃ x, x = xs[j] := ⟨_, rfl⟩
          obtain ⟨b, hb⟩ : ∃ b, b = bs[j] := ⟨_, rfl⟩
          rw [← hx] at ex
          rw [← hb] at eb
          have hI0 := HIN.out
          rw [ex, eb] at hI0
          obtain ⟨hIr, hbb, hx2, hbc, hbn⟩ := Inn_cons hI0
          have hz := HZ.out
          rw [ex] at hz
          obtain ⟨hz1, hz2, hz3⟩ := hz
          obtain ⟨c, hc, hz1⟩ := Option.bind_eq_some_iff.mp (show ((slices_Contains_Sint_int.f k x a2).bind fun c => (dropS k a2 (xs.drop (j + 1))).bind fun ys => some (if c = true then ys else x.map (decW a2) :: ys)) = some zs from hz1)
          obtain ⟨zr, hzr, hz1⟩ := Option.bind_eq_some_iff.mp hz1
          replace hz1 := Option.some.inj hz1
          obtain ⟨u, hu⟩ : ∃ u, u = rd x 0 := ⟨_, rfl⟩
          obtain ⟨v, hv⟩ : ∃ v, v = rd x 1 := ⟨_, rfl⟩
          have hxe : x = [u, v] := by rw [hu, hv]; exact two_of_len hx2
          rw [← hu, ← hv] at hbc
          rw [hxe] at hc hz1
          have hxj : x30 < (bs.length : Int) := by omega
          have hx0 : 0 ≤ x30 := by omega
          obtain ⟨ad, e0, hcell⟩ := at_hdr (Kd.R_reads' HTR.out).2.2 x30 hx0 (by rw [List.length_map]; exact hxj)
          have hrd : rdOf (none, 0, 0) (bs.map hd2) x30 = (some ⟨b, 0, none⟩, 2, 2) := by
            unfold rdOf
            rw [hj0, Int.toNat_natCast, List.getD_eq_getElem?_getD, List.getElem?_map, List.getElem?_eq_getElem hjb, ← hb]
            rfl
          rw [hrd] at hcell
          replace hcell : wr.cell? (ad.add x30.toNat) = some (.slice (some ⟨b, 0, none⟩) 2 2) := hcell
          subst e0
          have hsel : b ∉ sel := fun hm => HSE.out b hm (by rw [eb]; exact List.mem_cons_self)
          have hselr : ∀ b' ∈ sel, b' ∉ bs.drop (j + 1) := fun b' hb' hm => HSE.out b' hb' (by rw [eb]; exact List.mem_cons_of_mem _ hm)
          have X0 := eq_true hx0
          have X1 := eq_true hxj
          have X0b : decide (0 ≤ x30) = true := decide_eq_true hx0
          have X1b : decide (x30 < (bs.length : Int)) = true := decide_eq_true hxj
          have HC := Aside0.mk hc
          have HBC := Aside0.mk hbc
          have HIR := Aside0.mk hIr
          have HBB := Aside0.mk hbb
          have HBN := Aside0.mk hbn
          have HSEL := Aside0.mk hsel
          have HSLR := Aside0.mk hselr
          have HZR := Aside0.mk (show dropS k a2 (xs.drop (j + 1)) = some zr from hzr)
          have HZ1 := Aside0.mk hz1
          have HZ2 := Aside0.mk hz2
          have HZ3 := Aside0.mk hz3
          have HJ1 := Aside0.mk (show x30 = (j : Int) ∧ j + 1 ≤ xs.length ∧ gk + j = xs.length + 1 from ⟨hj0, cj, hj2⟩)
          have hwr : Aside0 (wrap64 (x30 + 1) = ((j + 1 : Nat) : Int)) := ⟨by rw [hj0]; have := LM.out; unfold wrap64; omega⟩
          clear hc hbc hIr hbb hbn hsel hselr hzr hz1 hz2 hz3 hj0 hj1 hj2 cj hI0 HZ HJ HIN HSE ex eb hx hb hxe hu hv hx2 hjb hrd hx0 hxj
          cases c with
          | true =>
            go_wp2_with (first | (go_at_call 70; refine (slices_Contains_Sint_int.calls k (some ⟨b, 0, none⟩) 2 [u, v] a2 true _ (C_pair HBC.out) (by simp) HC.out).mono ?_; rintro e w' ⟨rfl, ⟨nd2, rfl⟩⟩))
            go_roundg (gk - 1)
            case measure => have := HJ1.out; omega
            case rel => exact ⟨j + 1, wrap64 (x30 + 1), AS, cS, sel, ys, zr, rfl, (by first | rfl | (simp; done)), ⟨hwr.out, HJ1.out.2.1, by have := HJ1.out; omega⟩, ⟨HZR.out, by rw [← HZ2.out, ← HZ1.out]; rfl, by have := HZ3.out; omega⟩, ⟨Kd.R_drewN HTR.out _⟩, ⟨Kd.R_drewN HSR.out _⟩, ⟨Inn_step HIR.out (fun k c _ hk => by rw [drewN_heap]; exact hk)⟩, ⟨InS_step HIS.out (fun k c _ hk => by rw [drewN_heap]; exact hk)⟩, HSLR, ⟨pw_below_drewN HB.out _⟩⟩
          | false =>
            go_wp2_with (first | (go_at_call 70; refine (slices_Contains_Sint_int.calls k (some ⟨b, 0, none⟩) 2 [u, v] a2 false _ (C_pair HBC.out) (by simp) HC.out).mono ?_; rintro e w' ⟨rfl, ⟨nd2, rfl⟩⟩))
            go_loopg [39] 3 (fun kq v39 w' => ∃ (x39 p q : Int), v39 = .int .i64 x39 ∧ Aside0 (kq = 3 ∧ x39 = 0 ∧ p = u ∧ q = v ∨ kq = 2 ∧ x39 = 1 ∧ p = decW a2 u ∧ q = v ∨ kq = 1 ∧ x39 = 2 ∧ p = decW a2 u ∧ q = decW a2 v) ∧ Aside0 (w'.heap[b]? = some (.cells #[.int .i64 p, .int .i64 q] 3 (0, 0))) ∧ Aside0 (hdr.R 35 w' w.heap.size (fun _ => True) (.slice (some ad) bs.length cT) (bs.map hd2)) ∧ Aside0 (hdr.R 35 w' w.heap.size (fun k => some k ≠ (Value.slice (some ad) bs.length cT).ownBlock) (.slice AS sel.length cS) (sel.map hd2)) ∧ Aside0 (Inn w' w.heap.size (bs.drop (j + 1)) (xs.drop (j + 1))) ∧ Aside0 (InS w' sel ys) ∧ Aside0 (Below w.heap.size w w'))
            case atStart => exact ⟨0, u, v, rfl, ⟨.inl ⟨rfl, rfl, rfl, rfl⟩⟩, ⟨by rw [drewN_heap]; exact HBC.out⟩, ⟨Kd.R_drewN HTR.out _⟩, ⟨Kd.R_drewN HSR.out _⟩, ⟨Inn_step HIR.out (fun k c _ hk => by rw [drewN_heap]; exact hk)⟩, ⟨InS_step HIS.out (fun k c _ hk => by rw [drewN_heap]; exact hk)⟩, ⟨pw_below_drewN HB.out _⟩⟩
            case round =>
              clear HTR HSR HIR HIS HB HBC hcell
              obtain ⟨x39, p, q, rfl, HM, HBC, HTR, HSR, HIR, HIS, HB⟩ := hrel
              have z0 : wr.cell? ⟨b, 0, none⟩ = some (.int .i64 p) := (blk_cell HBC.out 0).trans rfl
              have z1 : wr.cell? ⟨b, 1, none⟩ = some (.int .i64 q) := (blk_cell HBC.out 1).trans rfl
              have f0 := blk_frozen HBC.out 0
              have f1 := blk_frozen HBC.out 1
              rcases HM.out with ⟨rfl, rfl, rfl, rfl⟩ | ⟨rfl, rfl, rfl, rfl⟩ | ⟨rfl, rfl, rfl, rfl⟩
              · by_cases cu : p > a2
                · have cub : decide (a2 < p) = true := decide_eq_true cu
                  obtain ⟨d, hd⟩ : ∃ d, wrap64 (p - 1) = d := ⟨_, rfl⟩
                  have hdw : IntKind.i64.wrap (p - 1) = d := (i64_w _).trans hd
                  have HD := Aside0.mk (show d = decW a2 p from by unfold decW; rw [if_pos cu, hd])
                  clear cu
                  go_wp2
                  go_roundg 2
                  case measure => omega
                  case rel => exact ⟨1, d, q, by first | rfl | (simp; done), ⟨.inr (.inl ⟨rfl, rfl, HD.out, rfl⟩)⟩, ⟨blk_put HBC.out 0 (.int .i64 d) rfl⟩, ⟨Kd.R_set HTR.out HBC.out (by decide) 0 _⟩, ⟨Kd.R_set HSR.out HBC.out (by decide) 0 _⟩, ⟨Inn_step HIR.out (fun k c hk hc => blk_far hc (p := ⟨b, 0, none⟩) (fun e => HBN.out ((show k = b from e) ▸ hk)) _)⟩, ⟨InS_step HIS.out (fun k c hk hc => blk_far hc (p := ⟨b, 0, none⟩) (fun e => HSEL.out ((show k = b from e) ▸ hk)) _)⟩, ⟨below_set HB.out HBB.out⟩⟩
                · have cub : decide (a2 < p) = false := decide_eq_false cu
                  have HD := Aside0.mk (show p = decW a2 p from by unfold decW; rw [if_neg cu])
                  clear cu
                  go_wp2
                  go_roundg 2
                  case measure => omega
                  case rel => exact ⟨1, p, q, by first | rfl | (simp; done), ⟨.inr (.inl ⟨rfl, rfl, HD.out, rfl⟩)⟩, HBC, HTR, HSR, HIR, HIS, HB⟩
              · by_cases cu : q > a2
                · have cub : decide (a2 < q) = true := decide_eq_true cu
                  obtain ⟨d, hd⟩ : ∃ d, wrap64 (q - 1) = d := ⟨_, rfl⟩
                  have hdw : IntKind.i64.wrap (q - 1) = d := (i64_w _).trans hd
                  have HD := Aside0.mk (show d = decW a2 q from by unfold decW; rw [if_pos cu, hd])
                  clear cu
                  go_wp2
                  go_roundg 1
                  case measure => omega
                  case rel => exact ⟨2, decW a2 u, d, by first | rfl | (simp; done), ⟨.inr (.inr ⟨rfl, rfl, rfl, HD.out⟩)⟩, ⟨blk_put HBC.out 1 (.int .i64 d) rfl⟩, ⟨Kd.R_set HTR.out HBC.out (by decide) 1 _⟩, ⟨Kd.R_set HSR.out HBC.out (by decide) 1 _⟩, ⟨Inn_step HIR.out (fun k c hk hc => blk_far hc (p := ⟨b, 1, none⟩) (fun e => HBN.out ((show k = b from e) ▸ hk)) _)⟩, ⟨InS_step HIS.out (fun k c hk hc => blk_far hc (p := ⟨b, 1, none⟩) (fun e => HSEL.out ((show k = b from e) ▸ hk)) _)⟩, ⟨below_set HB.out HBB.out⟩⟩
                · have cub : decide (a2 < q) = false := decide_eq_false cu
                  have HD := Aside0.mk (show q = decW a2 q from by unfold decW; rw [if_neg cu])
                  clear cu
                  go_wp2
                  go_roundg 1
                  case measure => omega
                  case rel => exact ⟨2, decW a2 u, q, by first | rfl | (simp; done), ⟨.inr (.inr ⟨rfl, rfl, rfl, HD.out⟩)⟩, HBC, HTR, HSR, HIR, HIS, HB⟩
              · clear z0 z1 f0 f1
                go_wp2_with (first
                  | ((with_reducible refine gate_builtin (b := .append) (xs := #[.tmp 55, .tmp 57]) rfl ?_); at_builtin
                     refine Kd.R_append hdr (w0 := w) w.heap.size rfl (.tmp 55) (.tmp 57) 44 35 (.slice none 0 0) 24 rfl Try.underlying44 info35 rfl (by decide) (by omega) (.slice AS sel.length cS) (sel.map hd2) (hd2 b) [.slice (some ⟨b, 0, none⟩) 2 2] (fun k => some k ≠ (Value.slice (some ad) bs.length cT).ownBlock) (fun _ => False) rfl rfl rfl (fun _ h => h.elim) (fun k hk e => by have h1 := Kd.R_lt HTR.out k e.symm; omega) HSR.out HB.out HB.out.size (by rw [List.length_map]; have h1 := HZ3.out; have h2 := HJ1.out.2.1; have h3 := LM.out; omega) ?_
                     intro v1 w1 hR1 hB1 hg1 hat1
                     obtain ⟨A1', c1', hv1⟩ := Kd.R_slice hR1
                     rw [show (sel.map hd2 ++ [hd2 b]).length = (sel ++ [b]).length by simp] at hv1
                     subst hv1
                     have st : ∀ (k : Nat) (c : Array Value), wr.heap[k]? = some (.cells c 3 (0, 0)) → w1.heap[k]? = some (.cells c 3 (0, 0)) := fun k c hk => (hg1.block k (blk_lt hk) (Kd.R_ne HSR.out hk (by decide))).trans hk
                     have N1 := Aside0.mk (hdr_tight HTR.out (fun k hk hlt => hg1.block k hlt (fun e => HSR.out.1 k e.symm (by rw [hk]))))
                     have N2 := Aside0.mk (show hdr.R 35 w1 w.heap.size (fun k => some k ≠ (Value.slice (some ad) bs.length cT).ownBlock) (.slice A1' (sel ++ [b]).length c1') ((sel ++ [b]).map hd2) from by rw [List.map_append]; exact hR1)
                     have N3 := Aside0.mk (Inn_step HIR.out (fun k c _ hk => st k c hk))
                     have N4 := Aside0.mk (InS_snoc (InS_step HIS.out (fun k c _ hk => st k c hk)) (st b _ HBC.out))
                     have N5 := Aside0.mk hB1
                     clear HTR HSR HIR HIS HB HBC hR1 hB1 hg1 hat1 st))
                go_roundg (gk - 1)
                case measure => have := HJ1.out; omega
                case rel => exact ⟨j + 1, wrap64 (x30 + 1), A1', c1', sel ++ [b], ys ++ [[decW a2 u, decW a2 v]], zr, (by rw [List.length_append]; rfl), (by first | rfl | (simp; done)), ⟨hwr.out, HJ1.out.2.1, by have := HJ1.out; omega⟩, ⟨HZR.out, by rw [← HZ2.out, ← HZ1.out, List.append_assoc]; rfl, by rw [List.length_append, List.length_singleton]; have := HZ3.out; omega⟩, N1, N2, N3, N4, ⟨fun b' hb' hm => by
                  rcases List.mem_append.1 hb' with h | h
                  · exact HSLR.out b' h hm
                  · rw [List.mem_singleton] at h; subst h; exact HBN.out hm⟩, N5⟩
        · have ej : j = xs.length := by omega
          have hxj : ¬ x30 < (bs.length : Int) := by have := hlen.out; omega
          have X1b : decide (x30 < (bs.length : Int)) = false := decide_eq_false hxj
          have X1 := eq_false hxj
          have hz := HZ.out
          rw [ej, List.drop_of_length_le (Nat.le_refl _)] at hz
          obtain ⟨hz1, hz2, hz3⟩ := hz
          obtain rfl := Option.some.inj (show some ([] : List (List Int)) = some zs from hz1)
          rw [List.append_nil] at hz2
          subst hz2
          clear hz1 hz3 ej hxj HZ HJ hj0 hj1 hj2 cj HIN HSE
          go_wp2_with (first
            | (go_at_call 71
               have e1_ := HIS.out.1
               rw [e1_]
               refine (impl_WiringFrom.calls k n1 AS cS ys r1 r2 _ (C_rows (by have h := (Kd.R_reads' HSR.out).2.2; rw [List.length_map] at h; exact h) HIS.out) (by rw [← e1_]; have h := (Kd.R_reads' HSR.out).2.1; exact h) A7.out).mono ?_
               rintro e w9 ⟨v0, rfl, hR, hB9⟩
               have HRR := Aside0.mk (Kd.R_lower hR HB.out.size)
               have HB9 := Aside0.mk (below_step HB.out hB9)
               clear hR hB9))
          go_ret2
          exact ⟨_, rfl, HRR.out, HB9.out⟩
end Go.Proofs.Ytcoommffjbbebaa.P
namespace Go.Proofs.Ytcoommffjbbebaa.P
open Go.RowKit Go.Proofs.YtcoommffjbbebaaW.PrintWords Go.Proofs.YtcoommffjbbebaaW.PrintLast Go.Proofs.YtcoommffjbbebaaW.PrintMore
attribute [local go_sem] ptrOf_slice
attribute [local go_sem] min2_str max2_int min2_int max_two min_two max_three min_three max_four min_four
set_option linter.unusedVariables false
set_option linter.unusedSimpArgs false
mutual
def laws_FnExactDropWire.j0 : Nat → Int → List Int → Int → List Int → Bool → List Int → List Int → Bool → Bool → Option (Bool)
 | 0, _, _, _, _, _, _, _, _, _ => none
 | k + 1, x0, x1, x2, x7, x8, x9, x10, x11, x45 => if x45 = true then (some false) else ((laws_toIntS.f k x1).bind fun t539 => ((laws_eqIntS.f k x9 t539).bind fun t542 => (if t542 = true then ((laws_markIntS.f k x9 1).bind fun bt543 => (if bt543.1 < 0 then (laws_FnExactDropWire.j1 k x0 x1 x2 x7 x8 x10 true) else ((laws_eqIntS.f k x10 x7).bind fun t545 => (if t545 = true then (laws_FnExactDropWire.j1 k x0 x1 x2 x7 x8 x10 (x11 != x8)) else (laws_FnExactDropWire.j1 k x0 x1 x2 x7 x8 x10 true))))) else (some false))))
def laws_FnExactDropWire.j1 : Nat → Int → List Int → Int → List Int → Bool → List Int → Bool → Option (Bool)
 | 0, _, _, _, _, _, _, _ => none
 | k + 1, x0, x1, x2, x7, x8, x10, x66 => if x66 = true then (some false) else ((laws_markIntS.f k x10 1).bind fun bt546 => ((laws_heldIntS.f k bt546.2 1).bind fun t548 => (if t548 < 0 then (some false) else (if t548 = bt546.1 then ((laws_toIntS.f k x1).bind fun t549 => ((impl_DropWire.f k x0 t549 x2).bind fun bt552 => ((laws_eqIntS.f k bt552.1 x7).bind fun t556 => (if t556 = true then (laws_FnExactDropWire.j2 k bt546.2 bt546.1 (bt552.2 != x8)) else (laws_FnExactDropWire.j2 k bt546.2 bt546.1 true))))) else (some false)))))
def laws_FnExactDropWire.j2 : Nat → List Int → Int → Bool → Option (Bool)
 | 0, _, _, _ => none
 | k + 1, x10, x13, x94 => if x94 = true then (some false) else ((laws_heldIntS.f k x10 1).bind fun t557 => (if t557 < 0 then (some false) else (if t557 = x13 then (some true) else (some false))))
end
def laws_FnExactDropWire.f (k : Nat) (a0 : Int) (l1 : List Int) (a2 : Int) : Option (Bool) := if (l1.length : Int) > 1048576 then (some true) else ((laws_toIntS.f k l1).bind fun t524 => ((spec_DropWire.f k a0 t524 a2).bind fun bt527 => ((laws_toIntS.f k l1).bind fun t531 => ((impl_DropWire.f k a0 t531 a2).bind fun bt534 => ((laws_eqIntS.f k bt534.1 bt527.1).bind fun t538 => (if t538 = true then (laws_FnExactDropWire.j0 k a0 l1 a2 bt527.1 bt527.2 t531 bt534.1 bt534.2 (bt534.2 != bt527.2)) else (laws_FnExactDropWire.j0 k a0 l1 a2 bt527.1 bt527.2 t531 bt534.1 bt534.2 true)))))))
set_option maxHeartbeats 8000000 in
set_option maxRecDepth 100000 in
theorem laws_FnExactDropWire.calls (k : Nat) (a0 : Int) (A1 : Option Addr) (c1 : Nat) (l1 : List Int) (a2 : Int) (r : Bool) (w : World) (hr1 : Kd.C (Kd.int .i64) w A1 l1.length l1) (hc1 : l1.length ≤ c1) (h : laws_FnExactDropWire.f k a0 l1 a2 = some r) :
  Calls Try.prog 6 #[.int .i64 a0, .slice A1 l1.length c1, .int .i64 a2] w fun e w' => e = .returned (.bool r) ∧ Below w.heap.size w w' := by
 have HR1 := Aside0.mk hr1
 have HC1 := Aside0.mk hc1
 clear hr1 hc1
 have HB := Aside0.mk (Below.refl w.heap.size w)
 have H : (if (l1.length : Int) > 1048576 then (some true) else ((laws_toIntS.f k l1).bind fun t524 => ((spec_DropWire.f k a0 t524 a2).bind fun bt527 => ((laws_toIntS.f k l1).bind fun t531 => ((impl_DropWire.f k a0 t531 a2).bind fun bt534 => ((laws_eqIntS.f k bt534.1 bt527.1).bind fun t538 => (if t538 = true then (laws_FnExactDropWire.j0 k a0 l1 a2 bt527.1 bt527.2 t531 bt534.1 bt534.2 (bt534.2 != bt527.2)) else (laws_FnExactDropWire.j0 k a0 l1 a2 bt527.1 bt527.2 t531 bt534.1 bt534.2 true)))))))) = some r := h
 clear h
 by_cases c4 : (l1.length : Int) > 1048576
 ·rw [if_pos c4] at H
  have c4b0 : decide (1048576 < (l1.length : Int)) = true := decide_eq_true c4
  have c4b1 : decide (1048576 < l1.length) = true := decide_eq_true (by omega)
  clear c4
  obtain rfl := Option.some.inj H
  go_enter Try.func6, Try.ntmps6
  go_wp2
  go_ret
  exact ⟨by first | rfl | (simp [errW_none, errW_some] <;> rfl) | (simp [*, errW_none, errW_some] <;> rfl), by repeat (first | (with_reducible first | exact HB.out | apply below_alloc | apply pw_below_drewN | apply below_drew1) | exact HB.out)⟩
 ·rw [if_neg c4] at H
  have c4b0 : decide (1048576 < (l1.length : Int)) = false := decide_eq_false c4
  have c4b1 : decide (1048576 < l1.length) = false := decide_eq_false (by omega)
  clear c4
  replace H := Option.bind_eq_some_iff.mp H
  obtain ⟨t524, A50, H⟩ := H
  replace H : ((spec_DropWire.f k a0 t524 a2).bind fun bt527 => ((laws_toIntS.f k l1).bind fun t531 => ((impl_DropWire.f k a0 t531 a2).bind fun bt534 => ((laws_eqIntS.f k bt534.1 bt527.1).bind fun t538 => (if t538 = true then (laws_FnExactDropWire.j0 k a0 l1 a2 bt527.1 bt527.2 t531 bt534.1 bt534.2 (bt534.2 != bt527.2)) else (laws_FnExactDropWire.j0 k a0 l1 a2 bt527.1 bt527.2 t531 bt534.1 bt534.2 true)))))) = some r := H
  have A5 := Aside0.mk A50
  clear A50
  replace H := Option.bind_eq_some_iff.mp H
  obtain ⟨⟨t527, t528⟩, A60, H⟩ := H
  replace H : ((laws_toIntS.f k l1).bind fun t531 => ((impl_DropWire.f k a0 t531 a2).bind fun bt534 => ((laws_eqIntS.f k bt534.1 t527).bind fun t538 => (if t538 = true then (laws_FnExactDropWire.j0 k a0 l1 a2 t527 t528 t531 bt534.1 bt534.2 (bt534.2 != t528)) else (laws_FnExactDropWire.j0 k a0 l1 a2 t527 t528 t531 bt534.1 bt534.2 true))))) = some r := H
  have A6 := Aside0.mk A60
  clear A60
  replace H := Option.bind_eq_some_iff.mp H
  obtain ⟨t531, A70, H⟩ := H
  replace H : ((impl_DropWire.f k a0 t531 a2).bind fun bt534 => ((laws_eqIntS.f k bt534.1 t527).bind fun t538 => (if t538 = true then (laws_FnExactDropWire.j0 k a0 l1 a2 t527 t528 t531 bt534.1 bt534.2 (bt534.2 != t528)) else (laws_FnExactDropWire.j0 k a0 l1 a2 t527 t528 t531 bt534.1 bt534.2 true)))) = some r := H
  have A7 := Aside0.mk A70
  clear A70
  replace H := Option.bind_eq_some_iff.mp H
  obtain ⟨⟨t534, t535⟩, A80, H⟩ := H
  replace H : ((laws_eqIntS.f k t534 t527).bind fun t538 => (if t538 = true then (laws_FnExactDropWire.j0 k a0 l1 a2 t527 t528 t531 t534 t535 (t535 != t528)) else (laws_FnExactDropWire.j0 k a0 l1 a2 t527 t528 t531 t534 t535 true))) = some r := H
  have A8 := Aside0.mk A80
  clear A80
  have HC9 := Aside0.mk H
  clear H
  go_enter Try.func6, Try.ntmps6
  go_upto_region 6 with (first | ((with_reducible refine gate_callee (f := 23) rfl ?_); refine goesL_ (some 23) rfl rfl Try.func23 (by kernel_rfl) rfl #[.slice A1 l1.length c1] rfl (by (try simp only [List.map_toArray, List.map_cons, List.map_nil]); first | done | rfl | (simp only [List.length_drop, List.length_take]; rfl)) ?_; (with_reducible refine (laws_toIntS.calls k _ _ l1 t524 _ ?side1 ?side2 A5.out).mono ?_); (case side1 => repeat (first | exact HR1.out | (with_reducible refine Kd.C_alloc ?_ _) | (with_reducible refine Kd.C_drewN ?_ _) | (with_reducible refine Kd.C_drew ?_))); (case side2 => exact HC1.out); rintro e w10 ⟨v525, rfl, ho0, hb⟩; refine ⟨_, rfl, ?_⟩; have n0_ := Aside0.mk (Kd.R_lower ho0 (below_size (by repeat (first | (with_reducible first | exact HB.out | apply below_alloc | apply pw_below_drewN | apply below_drew1) | exact HB.out)))); have n1_ := Aside0.mk (below_step (by repeat (first | (with_reducible first | exact HB.out | apply below_alloc | apply pw_below_drewN | apply below_drew1) | exact HB.out)) hb); clear HB; have HO526 := n0_; have HB := n1_; clear n0_ n1_; (try clear hb); (try clear hb2); (try clear hk); (try clear hi); (try clear ho0); obtain ⟨Ao11, co11, eo11⟩ := Kd.R_slice HO526.out; subst eo11) | ((with_reducible refine gate_callee (f := 26) rfl ?_); refine goesL_ (some 25) rfl rfl Try.func26 (by kernel_rfl) rfl #[.int .i64 a0, .slice Ao11 t524.length co11, .int .i64 a2] rfl (by (try simp only [List.map_toArray, List.map_cons, List.map_nil]); first | done | rfl | (simp only [List.length_drop, List.length_take]; rfl)) ?_; (with_reducible refine (spec_DropWire.calls k a0 _ _ t524 a2 t527 t528 _ ?side1 ?side2 A6.out).mono ?_); (case side1 => repeat (first | exact (Kd.R_reads' HO526.out).2.2 | (with_reducible refine Kd.C_alloc ?_ _) | (with_reducible refine Kd.C_drewN ?_ _) | (with_reducible refine Kd.C_drew ?_))); (case side2 => exact (Kd.R_reads' HO526.out).2.1); rintro e w12 ⟨v529, rfl, ho0, hb⟩; refine ⟨_, rfl, ?_⟩; have n0_ := Aside0.mk (Kd.R_elder' (by (with_reducible repeat (first | apply Kd.R_alloc | apply Kd.R_drewN | apply Kd.R_drew)); exact HO526.out) (Kd.R_base ho0) hb); have n1_ := Aside0.mk (Kd.R_lower (Kd.R_new' ho0 (Kd.R_lt (by (with_reducible repeat (first | apply Kd.R_alloc | apply Kd.R_drewN | apply Kd.R_drew)); exact HO526.out))) (below_size (by repeat (first | (with_reducible first | exact HB.out | apply below_alloc | apply pw_below_drewN | apply below_drew1) | exact HB.out)))); have n2_ := Aside0.mk (below_step (by repeat (first | (with_reducible first | exact HB.out | apply below_alloc | apply pw_below_drewN | apply below_drew1) | exact HB.out)) hb); clear HO526; clear HB; have HO526 := n0_; have HO530 := n1_; have HB := n2_; clear n0_ n1_ n2_; (try clear hb); (try clear hb2); (try clear hk); (try clear hi); (try clear ho0)) | ((with_reducible refine gate_callee (f := 23) rfl ?_); refine goesL_ (some 29) rfl rfl Try.func23 (by kernel_rfl) rfl #[.slice A1 l1.length c1] rfl (by (try simp only [List.map_toArray, List.map_cons, List.map_nil]); first | done | rfl | (simp only [List.length_drop, List.length_take]; rfl)) ?_; (with_reducible refine (laws_toIntS.calls k _ _ l1 t531 _ ?side1 ?side2 A7.out).mono ?_); (case side1 => repeat (first | exact (Kd.C_below HR1.out HB.out) | (with_reducible refine Kd.C_alloc ?_ _) | (with_reducible refine Kd.C_drewN ?_ _) | (with_reducible refine Kd.C_drew ?_))); (case side2 => exact HC1.out); rintro e w13 ⟨v532, rfl, ho0, hb⟩; refine ⟨_, rfl, ?_⟩; have n0_ := Aside0.mk (Kd.R_elder' (by (with_reducible repeat (first | apply Kd.R_alloc | apply Kd.R_drewN | apply Kd.R_drew)); exact HO526.out) (Kd.R_base ho0) hb); have n1_ := Aside0.mk (Kd.R_elder' (by (with_reducible repeat (first | apply Kd.R_alloc | apply Kd.R_drewN | apply Kd.R_drew)); exact HO530.out) (Kd.R_base ho0) hb); have n2_ := Aside0.mk (Kd.R_lower (Kd.R_new' (Kd.R_new' ho0 (Kd.R_lt (by (with_reducible repeat (first | apply Kd.R_alloc | apply Kd.R_drewN | apply Kd.R_drew)); exact HO526.out))) (Kd.R_lt (by (with_reducible repeat (first | apply Kd.R_alloc | apply Kd.R_drewN | apply Kd.R_drew)); exact HO530.out))) (below_size (by repeat (first | (with_reducible first | exact HB.out | apply below_alloc | apply pw_below_drewN | apply below_drew1) | exact HB.out)))); have n3_ := Aside0.mk (below_step (by repeat (first | (with_reducible first | exact HB.out | apply below_alloc | apply pw_below_drewN | apply below_drew1) | exact HB.out)) hb); clear HO526; clear HO530; clear HB; have HO526 := n0_; have HO530 := n1_; have HO533 := n2_; have HB := n3_; clear n0_ n1_ n2_ n3_; (try clear hb); (try clear hb2); (try clear hk); (try clear hi); (try clear ho0); obtain ⟨Ao14, co14, eo14⟩ := Kd.R_slice HO533.out; subst eo14) | ((with_reducible refine gate_callee (f := 27) rfl ?_); refine goesL_ (some 34) rfl rfl Try.func27 (by kernel_rfl) rfl #[.int .i64 a0, .slice Ao14 t531.length co14, .int .i64 a2] rfl (by (try simp only [List.map_toArray, List.map_cons, List.map_nil]); first | done | rfl | (simp only [List.length_drop, List.length_take]; rfl)) ?_; (with_reducible refine (impl_DropWire.calls k a0 _ _ t531 a2 t534 t535 _ ?side1 ?side2 A8.out).mono ?_); (case side1 => repeat (first | exact (Kd.R_reads' HO533.out).2.2 | (with_reducible refine Kd.C_alloc ?_ _) | (with_reducible refine Kd.C_drewN ?_ _) | (with_reducible refine Kd.C_drew ?_))); (case side2 => exact (Kd.R_reads' HO533.out).2.1); rintro e w15 ⟨v536, rfl, ho0, hb⟩; refine ⟨_, rfl, ?_⟩; have n0_ := Aside0.mk (Kd.R_elder' (by (with_reducible repeat (first | apply Kd.R_alloc | apply Kd.R_drewN | apply Kd.R_drew)); exact HO526.out) (Kd.R_base ho0) hb); have n1_ := Aside0.mk (Kd.R_elder' (by (with_reducible repeat (first | apply Kd.R_alloc | apply Kd.R_drewN | apply Kd.R_drew)); exact HO530.out) (Kd.R_base ho0) hb); have n2_ := Aside0.mk (Kd.R_elder' (by (with_reducible repeat (first | apply Kd.R_alloc | apply Kd.R_drewN | apply Kd.R_drew)); exact HO533.out) (Kd.R_base ho0) hb); have n3_ := Aside0.mk (Kd.R_lower (Kd.R_new' (Kd.R_new' (Kd.R_new' ho0 (Kd.R_lt (by (with_reducible repeat (first | apply Kd.R_alloc | apply Kd.R_drewN | apply Kd.R_drew)); exact HO526.out))) (Kd.R_lt (by (with_reducible repeat (first | apply Kd.R_alloc | apply Kd.R_drewN | apply Kd.R_drew)); exact HO530.out))) (Kd.R_lt (by (with_reducible repeat (first | apply Kd.R_alloc | apply Kd.R_drewN | apply Kd.R_drew)); exact HO533.out))) (below_size (by repeat (first | (with_reducible first | exact HB.out | apply below_alloc | apply pw_below_drewN | apply below_drew1) | exact HB.out)))); have n4_ := Aside0.mk (below_step (by repeat (first | (with_reducible first | exact HB.out | apply below_alloc | apply pw_below_drewN | apply below_drew1) | exact HB.out)) hb); clear HO526; clear HO530; clear HO533; clear HB; have HO526 := n0_; have HO530 := n1_; have HO533 := n2_; have HO537 := n3_; have HB := n4_; clear n0_ n1_ n2_ n3_ n4_; (try clear hb); (try clear hb2); (try clear hk); (try clear hi); (try clear ho0)))
  (try simp only [Act.put, List.setIfInBounds_toArray, List.set_cons_zero, List.set_cons_succ])
  go_cut [45] (fun v45 wc => ∃ (kq : Nat) (x45_8 : Bool), v45 = .bool x45_8 ∧ Aside0 (laws_FnExactDropWire.j0 kq a0 l1 a2 t527 t528 t531 t534 t535 x45_8 = some r) ∧ Aside0 (kq ≤ k) ∧ Aside0 (Kd.R (Kd.int .i64) 3 wc w.heap.size (fun k_ => some k_ ≠ ((.slice Ao14 t531.length co14) : Value).ownBlock ∧ some k_ ≠ (v536 : Value).ownBlock) v529 t527) ∧ Aside0 (Kd.R (Kd.int .i64) 3 wc w.heap.size (fun k_ => some k_ ≠ (v529 : Value).ownBlock ∧ some k_ ≠ (v536 : Value).ownBlock) (.slice Ao14 t531.length co14) t531) ∧ Aside0 (Kd.R (Kd.int .i64) 3 wc w.heap.size (fun k_ => some k_ ≠ (v529 : Value).ownBlock ∧ some k_ ≠ ((.slice Ao14 t531.length co14) : Value).ownBlock) v536 t534) ∧ Aside0 (Below w.heap.size w wc))
  case first =>
   have H := HC9.out
   clear HC9
   replace H := Option.bind_eq_some_iff.mp H
   obtain ⟨t538, A160, H⟩ := H
   replace H : (if t538 = true then (laws_FnExactDropWire.j0 k a0 l1 a2 t527 t528 t531 t534 t535 (t535 != t528)) else (laws_FnExactDropWire.j0 k a0 l1 a2 t527 t528 t531 t534 t535 true)) = some r := H
   have A16 := Aside0.mk A160
   clear A160
   by_cases c17 : t538 = true
   ·subst c17
    have H1 : (laws_FnExactDropWire.j0 k a0 l1 a2 t527 t528 t531 t534 t535 (t535 != t528)) = some r := by rw [if_pos rfl] at H; exact H
    clear H
    have H := H1
    clear H1
    have H' := Aside0.mk H
    clear H
    obtain ⟨Ao18, co18, eo18⟩ := Kd.R_slice HO537.out
    subst eo18
    obtain ⟨Ao19, co19, eo19⟩ := Kd.R_slice HO530.out
    subst eo19
    go_wp2_with (first | ((with_reducible refine gate_callee (f := 25) rfl ?_); refine goesL_ (some 39) rfl rfl Try.func25 (by kernel_rfl) rfl #[.slice Ao18 t534.length co18, .slice Ao19 t527.length co19] rfl (by (try simp only [List.map_toArray, List.map_cons, List.map_nil]); first | done | rfl | (simp only [List.length_drop, List.length_take]; rfl)) ?_; (with_reducible refine (laws_eqIntS.calls k _ _ t534 _ _ t527 true _ ?side1 ?side2 ?side3 ?side4 A16.out).mono ?_); (case side1 => repeat (first | exact (Kd.R_reads' HO537.out).2.2 | (with_reducible refine Kd.C_alloc ?_ _) | (with_reducible refine Kd.C_drewN ?_ _) | (with_reducible refine Kd.C_drew ?_))); (case side2 => exact (Kd.R_reads' HO537.out).2.1); (case side3 => repeat (first | exact (Kd.R_reads' HO530.out).2.2 | (with_reducible refine Kd.C_alloc ?_ _) | (with_reducible refine Kd.C_drewN ?_ _) | (with_reducible refine Kd.C_drew ?_))); (case side4 => exact (Kd.R_reads' HO530.out).2.1); rintro e w' ⟨rfl, ⟨nd, rfl⟩⟩; refine ⟨_, rfl, ?_⟩))
    go_meet
    case rel => exact ⟨_, ((t535 != t528)), (by first | rfl | (simp; done) | (simp [*]; done)), H', ⟨by first | omega | exact Nat.le_refl _⟩, ⟨by (with_reducible repeat (first | apply Kd.R_alloc | apply Kd.R_drewN | apply Kd.R_drew)); exact Kd.R_mono HO530.out (fun _ hk => ⟨hk.1.2, hk.2⟩)⟩, ⟨by (with_reducible repeat (first | apply Kd.R_alloc | apply Kd.R_drewN | apply Kd.R_drew)); exact Kd.R_mono HO533.out (fun _ hk => ⟨hk.1.2, hk.2⟩)⟩, ⟨by (with_reducible repeat (first | apply Kd.R_alloc | apply Kd.R_drewN | apply Kd.R_drew)); exact Kd.R_mono HO537.out (fun _ hk => ⟨hk.1.2, hk.2⟩)⟩, ⟨by repeat (first | (with_reducible first | exact HB.out | apply below_alloc | apply pw_below_drewN | apply below_drew1) | exact HB.out)⟩⟩
   ·replace c17 := Bool.eq_false_iff.mpr c17
    subst c17
    have H1 : (laws_FnExactDropWire.j0 k a0 l1 a2 t527 t528 t531 t534 t535 true) = some r := by rw [if_neg (show ¬ (false = true) by decide)] at H; exact H
    clear H
    have H := H1
    clear H1
    have H' := Aside0.mk H
    clear H
    obtain ⟨Ao20, co20, eo20⟩ := Kd.R_slice HO537.out
    subst eo20
    obtain ⟨Ao21, co21, eo21⟩ := Kd.R_slice HO530.out
    subst eo21
    go_wp2_with (first | ((with_reducible refine gate_callee (f := 25) rfl ?_); refine goesL_ (some 39) rfl rfl Try.func25 (by kernel_rfl) rfl #[.slice Ao20 t534.length co20, .slice Ao21 t527.length co21] rfl (by (try simp only [List.map_toArray, List.map_cons, List.map_nil]); first | done | rfl | (simp only [List.length_drop, List.length_take]; rfl)) ?_; (with_reducible refine (laws_eqIntS.calls k _ _ t534 _ _ t527 false _ ?side1 ?side2 ?side3 ?side4 A16.out).mono ?_); (case side1 => repeat (first | exact (Kd.R_reads' HO537.out).2.2 | (with_reducible refine Kd.C_alloc ?_ _) | (with_reducible refine Kd.C_drewN ?_ _) | (with_reducible refine Kd.C_drew ?_))); (case side2 => exact (Kd.R_reads' HO537.out).2.1); (case side3 => repeat (first | exact (Kd.R_reads' HO530.out).2.2 | (with_reducible refine Kd.C_alloc ?_ _) | (with_reducible refine Kd.C_drewN ?_ _) | (with_reducible refine Kd.C_drew ?_))); (case side4 => exact (Kd.R_reads' HO530.out).2.1); rintro e w' ⟨rfl, ⟨nd, rfl⟩⟩; refine ⟨_, rfl, ?_⟩))
    go_meet
    case rel => exact ⟨_, (true), (by first | rfl | (simp; done) | (simp [*]; done)), H', ⟨by first | omega | exact Nat.le_refl _⟩, ⟨by (with_reducible repeat (first | apply Kd.R_alloc | apply Kd.R_drewN | apply Kd.R_drew)); exact Kd.R_mono HO530.out (fun _ hk => ⟨hk.1.2, hk.2⟩)⟩, ⟨by (with_reducible repeat (first | apply Kd.R_alloc | apply Kd.R_drewN | apply Kd.R_drew)); exact Kd.R_mono HO533.out (fun _ hk => ⟨hk.1.2, hk.2⟩)⟩, ⟨by (with_reducible repeat (first | apply Kd.R_alloc | apply Kd.R_drewN | apply Kd.R_drew)); exact Kd.R_mono HO537.out (fun _ hk => ⟨hk.1.2, hk.2⟩)⟩, ⟨by repeat (first | (with_reducible first | exact HB.out | apply below_alloc | apply pw_below_drewN | apply below_drew1) | exact HB.out)⟩⟩
  case rest =>
   clear HC9
   try clear c1
   try clear c2
   try clear p2
   try clear c4
   try clear c4b0
   try clear c4b1
   try clear c6
   try clear c17
   obtain ⟨kq, x45_8, rfl, HA, HJ8, HO_7, HO_9, HO_10, HB⟩ := hcut
   cases kq with
   | zero => exact absurd HA.out (by simp [laws_FnExactDropWire.j0])
   | succ kj8 =>
    have H := HA.out
    clear HA
    simp only [laws_FnExactDropWire.j0] at H
    by_cases c22 : x45_8 = true
    ·subst c22
     have H1 : (some false) = some r := by rw [if_pos rfl] at H; exact H
     clear H
     have H := H1
     clear H1
     obtain rfl := Option.some.inj H
     go_wp2
     go_ret
     exact ⟨by first | rfl | (simp [errW_none, errW_some] <;> rfl) | (simp [*, errW_none, errW_some] <;> rfl), by repeat (first | (with_reducible first | exact HB.out | apply below_alloc | apply pw_below_drewN | apply below_drew1) | exact HB.out)⟩
    ·replace c22 := Bool.eq_false_iff.mpr c22
     subst c22
     have H1 : ((laws_toIntS.f kj8 l1).bind fun t539 => ((laws_eqIntS.f kj8 t531 t539).bind fun t542 => (if t542 = true then ((laws_markIntS.f kj8 t531 1).bind fun bt543 => (if bt543.1 < 0 then (laws_FnExactDropWire.j1 kj8 a0 l1 a2 t527 t528 t534 true) else ((laws_eqIntS.f kj8 t534 t527).bind fun t545 => (if t545 = true then (laws_FnExactDropWire.j1 kj8 a0 l1 a2 t527 t528 t534 (t535 != t528)) else (laws_FnExactDropWire.j1 kj8 a0 l1 a2 t527 t528 t534 true))))) else (some false)))) = some r := by rw [if_neg (show ¬ (false = true) by decide)] at H; exact H
     clear H
     have H := H1
     clear H1
     replace H := Option.bind_eq_some_iff.mp H
     obtain ⟨t539, A230, H⟩ := H
     replace H : ((laws_eqIntS.f kj8 t531 t539).bind fun t542 => (if t542 = true then ((laws_markIntS.f kj8 t531 1).bind fun bt543 => (if bt543.1 < 0 then (laws_FnExactDropWire.j1 kj8 a0 l1 a2 t527 t528 t534 true) else ((laws_eqIntS.f kj8 t534 t527).bind fun t545 => (if t545 = true then (laws_FnExactDropWire.j1 kj8 a0 l1 a2 t527 t528 t534 (t535 != t528)) else (laws_FnExactDropWire.j1 kj8 a0 l1 a2 t527 t528 t534 true))))) else (some false))) = some r := H
     have A23 := Aside0.mk A230
     clear A230
     replace H := Option.bind_eq_some_iff.mp H
     obtain ⟨t542, A240, H⟩ := H
     replace H : (if t542 = true then ((laws_markIntS.f kj8 t531 1).bind fun bt543 => (if bt543.1 < 0 then (laws_FnExactDropWire.j1 kj8 a0 l1 a2 t527 t528 t534 true) else ((laws_eqIntS.f kj8 t534 t527).bind fun t545 => (if t545 = true then (laws_FnExactDropWire.j1 kj8 a0 l1 a2 t527 t528 t534 (t535 != t528)) else (laws_FnExactDropWire.j1 kj8 a0 l1 a2 t527 t528 t534 true))))) else (some false)) = some r := H
     have A24 := Aside0.mk A240
     clear A240
     by_cases c25 : t542 = true
     ·subst c25
      have H1 : ((laws_markIntS.f kj8 t531 1).bind fun bt543 => (if bt543.1 < 0 then (laws_FnExactDropWire.j1 kj8 a0 l1 a2 t527 t528 t534 true) else ((laws_eqIntS.f kj8 t534 t527).bind fun t545 => (if t545 = true then (laws_FnExactDropWire.j1 kj8 a0 l1 a2 t527 t528 t534 (t535 != t528)) else (laws_FnExactDropWire.j1 kj8 a0 l1 a2 t527 t528 t534 true))))) = some r := by rw [if_pos rfl] at H; exact H
      clear H
      have H := H1
      clear H1
      replace H := Option.bind_eq_some_iff.mp H
      obtain ⟨⟨t543, t544⟩, A260, H⟩ := H
      replace H : (if t543 < 0 then (laws_FnExactDropWire.j1 kj8 a0 l1 a2 t527 t528 t534 true) else ((laws_eqIntS.f kj8 t534 t527).bind fun t545 => (if t545 = true then (laws_FnExactDropWire.j1 kj8 a0 l1 a2 t527 t528 t534 (t535 != t528)) else (laws_FnExactDropWire.j1 kj8 a0 l1 a2 t527 t528 t534 true)))) = some r := H
      have A26 := Aside0.mk A260
      clear A260
      have HC27 := Aside0.mk H
      clear H
      go_upto_region 12 with (first | ((with_reducible refine gate_callee (f := 23) rfl ?_); refine goesL_ (some 48) rfl rfl Try.func23 (by kernel_rfl) rfl #[.slice A1 l1.length c1] rfl (by (try simp only [List.map_toArray, List.map_cons, List.map_nil]); first | done | rfl | (simp only [List.length_drop, List.length_take]; rfl)) ?_; (with_reducible refine (laws_toIntS.calls kj8 _ _ l1 t539 _ ?side1 ?side2 A23.out).mono ?_); (case side1 => repeat (first | exact (Kd.C_below HR1.out HB.out) | (with_reducible refine Kd.C_alloc ?_ _) | (with_reducible refine Kd.C_drewN ?_ _) | (with_reducible refine Kd.C_drew ?_))); (case side2 => exact HC1.out); rintro e w28 ⟨v540, rfl, ho0, hb⟩; refine ⟨_, rfl, ?_⟩; have n0_ := Aside0.mk (Kd.R_elder' (by (with_reducible repeat (first | apply Kd.R_alloc | apply Kd.R_drewN | apply Kd.R_drew)); exact HO_7.out) (Kd.R_base ho0) hb); have n1_ := Aside0.mk (Kd.R_elder' (by (with_reducible repeat (first | apply Kd.R_alloc | apply Kd.R_drewN | apply Kd.R_drew)); exact HO_9.out) (Kd.R_base ho0) hb); have n2_ := Aside0.mk (Kd.R_elder' (by (with_reducible repeat (first | apply Kd.R_alloc | apply Kd.R_drewN | apply Kd.R_drew)); exact HO_10.out) (Kd.R_base ho0) hb); have n3_ := Aside0.mk (Kd.R_lower (Kd.R_new' (Kd.R_new' (Kd.R_new' ho0 (Kd.R_lt (by (with_reducible repeat (first | apply Kd.R_alloc | apply Kd.R_drewN | apply Kd.R_drew)); exact HO_7.out))) (Kd.R_lt (by (with_reducible repeat (first | apply Kd.R_alloc | apply Kd.R_drewN | apply Kd.R_drew)); exact HO_9.out))) (Kd.R_lt (by (with_reducible repeat (first | apply Kd.R_alloc | apply Kd.R_drewN | apply Kd.R_drew)); exact HO_10.out))) (below_size (by repeat (first | (with_reducible first | exact HB.out | apply below_alloc | apply pw_below_drewN | apply below_drew1) | exact HB.out)))); have n4_ := Aside0.mk (below_step (by repeat (first | (with_reducible first | exact HB.out | apply below_alloc | apply pw_below_drewN | apply below_drew1) | exact HB.out)) hb); clear HO_7; clear HO_9; clear HO_10; clear HB; have HO_7 := n0_; have HO_9 := n1_; have HO_10 := n2_; have HO541 := n3_; have HB := n4_; clear n0_ n1_ n2_ n3_ n4_; (try clear hb); (try clear hb2); (try clear hk); (try clear hi); (try clear ho0); obtain ⟨Ao29, co29, eo29⟩ := Kd.R_slice HO541.out; subst eo29) | ((with_reducible refine gate_callee (f := 25) rfl ?_); refine goesL_ (some 49) rfl rfl Try.func25 (by kernel_rfl) rfl #[.slice Ao14 t531.length co14, .slice Ao29 t539.length co29] rfl (by (try simp only [List.map_toArray, List.map_cons, List.map_nil]); first | done | rfl | (simp only [List.length_drop, List.length_take]; rfl)) ?_; (with_reducible refine (laws_eqIntS.calls kj8 _ _ t531 _ _ t539 true _ ?side1 ?side2 ?side3 ?side4 A24.out).mono ?_); (case side1 => repeat (first | exact (Kd.R_reads' HO_9.out).2.2 | (with_reducible refine Kd.C_alloc ?_ _) | (with_reducible refine Kd.C_drewN ?_ _) | (with_reducible refine Kd.C_drew ?_))); (case side2 => exact (Kd.R_reads' HO_9.out).2.1); (case side3 => repeat (first | exact (Kd.R_reads' HO541.out).2.2 | (with_reducible refine Kd.C_alloc ?_ _) | (with_reducible refine Kd.C_drewN ?_ _) | (with_reducible refine Kd.C_drew ?_))); (case side4 => exact (Kd.R_reads' HO541.out).2.1); rintro e w' ⟨rfl, ⟨nd, rfl⟩⟩; refine ⟨_, rfl, ?_⟩) | ((with_reducible refine gate_callee (f := 28) rfl ?_); refine goesL_ (some 53) rfl rfl Try.func28 (by kernel_rfl) rfl #[.slice Ao14 t531.length co14, .int .i64 1] rfl (by (try simp only [List.map_toArray, List.map_cons, List.map_nil]); first | done | rfl | (simp only [List.length_drop, List.length_take]; rfl)) ?_; (with_reducible refine (laws_markIntS.calls kj8 (fun k_ => some k_ = (.slice Ao14 t531.length co14 : Value).ownBlock) (.slice Ao14 t531.length co14) t531 1 t543 t544 w _ ?side1 ?side2 A26.out).mono ?_); (case side1 => repeat (first | (with_reducible first | exact HB.out | apply below_alloc | apply pw_below_drewN | apply below_drew1) | exact HB.out)); (case side2 => exact Kd.R_tight rfl HO_9.out); rintro e w30 ⟨rfl, hy0, hb, hkp⟩; refine ⟨_, rfl, ?_⟩; have n0_ := Aside0.mk (Kd.R_mono (ok' := fun k_ => some k_ ≠ (.slice Ao14 t531.length co14 : Value).ownBlock ∧ some k_ ≠ (v536 : Value).ownBlock ∧ some k_ ≠ (.slice Ao29 t539.length co29 : Value).ownBlock) (Kd.R_keptB (HO_7.out) hkp (fun k_ hk_ hs_ => (hk_.1.1) hs_)) (fun k_ hk_ => ⟨hk_.1.1.1, hk_.1.1.2, hk_.1.2⟩)); have n1_ := Aside0.mk (Kd.R_reok rfl hy0 (fun k_ e_ => HO_9.out.1 k_ e_)); have n2_ := Aside0.mk (Kd.R_mono (ok' := fun k_ => some k_ ≠ (v529 : Value).ownBlock ∧ some k_ ≠ (.slice Ao14 t531.length co14 : Value).ownBlock ∧ some k_ ≠ (.slice Ao29 t539.length co29 : Value).ownBlock) (Kd.R_keptB (HO_10.out) hkp (fun k_ hk_ hs_ => (hk_.1.2) hs_)) (fun k_ hk_ => ⟨hk_.1.1.1, hk_.1.1.2, hk_.1.2⟩)); have n3_ := Aside0.mk (Kd.R_mono (ok' := fun k_ => some k_ ≠ (v529 : Value).ownBlock ∧ some k_ ≠ (.slice Ao14 t531.length co14 : Value).ownBlock ∧ some k_ ≠ (v536 : Value).ownBlock) (Kd.R_keptB (HO541.out) hkp (fun k_ hk_ hs_ => (hk_.1.2) hs_)) (fun k_ hk_ => ⟨hk_.1.1.1.2, hk_.1.1.2, hk_.1.2⟩)); have n4_ := Aside0.mk (hb); clear HO_7; clear HO_9; clear HO_10; clear HO541; clear HB; have HO_7 := n0_; have HO_9 := n1_; have HO_10 := n2_; have HO541 := n3_; have HB := n4_; clear n0_ n1_ n2_ n3_ n4_; (try clear hb); (try clear hkp); (try clear hy0)))
      (try simp only [Act.put, List.setIfInBounds_toArray, List.set_cons_zero, List.set_cons_succ])
      go_cut [66] (fun v66 wc => ∃ (kq : Nat) (x66_26 : Bool), v66 = .bool x66_26 ∧ Aside0 (laws_FnExactDropWire.j1 kq a0 l1 a2 t527 t528 t534 x66_26 = some r) ∧ Aside0 (kq ≤ kj8) ∧ Aside0 (Kd.R (Kd.int .i64) 3 wc w.heap.size (fun k_ => some k_ ≠ (v536 : Value).ownBlock) v529 t527) ∧ Aside0 (Kd.R (Kd.int .i64) 3 wc w.heap.size (fun k_ => some k_ ≠ (v529 : Value).ownBlock) v536 t534) ∧ Aside0 (Below w.heap.size w wc))
      case first =>
       have H := HC27.out
       clear HC27
       by_cases c31 : t543 < 0
       ·rw [if_pos c31] at H
        have c31b0 : decide (t543 < 0) = true := decide_eq_true c31
        clear c31
        (first | rw [c31b0] | (simp only [i64_w, i32_w]; rw [c31b0]) | skip)
        have H' := Aside0.mk H
        clear H
        go_wp2
        go_meet
        case rel => exact ⟨_, (true), (by first | rfl | (simp; done) | (simp [*]; done)), H', ⟨by have := HJ8.out; first | omega | exact Nat.le_refl _⟩, ⟨by (with_reducible repeat (first | apply Kd.R_alloc | apply Kd.R_drewN | apply Kd.R_drew)); exact Kd.R_mono HO_7.out (fun _ hk => hk.2.1)⟩, ⟨by (with_reducible repeat (first | apply Kd.R_alloc | apply Kd.R_drewN | apply Kd.R_drew)); exact Kd.R_mono HO_10.out (fun _ hk => hk.1)⟩, ⟨by repeat (first | (with_reducible first | exact HB.out | apply below_alloc | apply pw_below_drewN | apply below_drew1) | exact HB.out)⟩⟩
       ·rw [if_neg c31] at H
        have c31b0 : decide (t543 < 0) = false := decide_eq_false c31
        clear c31
        (first | rw [c31b0] | (simp only [i64_w, i32_w]; rw [c31b0]) | skip)
        replace H := Option.bind_eq_some_iff.mp H
        obtain ⟨t545, A320, H⟩ := H
        replace H : (if t545 = true then (laws_FnExactDropWire.j1 kj8 a0 l1 a2 t527 t528 t534 (t535 != t528)) else (laws_FnExactDropWire.j1 kj8 a0 l1 a2 t527 t528 t534 true)) = some r := H
        have A32 := Aside0.mk A320
        clear A320
        by_cases c33 : t545 = true
        ·subst c33
         have H1 : (laws_FnExactDropWire.j1 kj8 a0 l1 a2 t527 t528 t534 (t535 != t528)) = some r := by rw [if_pos rfl] at H; exact H
         clear H
         have H := H1
         clear H1
         have H' := Aside0.mk H
         clear H
         obtain ⟨Ao34, co34, eo34⟩ := Kd.R_slice HO_10.out
         subst eo34
         obtain ⟨Ao35, co35, eo35⟩ := Kd.R_slice HO_7.out
         subst eo35
         go_wp2_with (first | (go_at_call 25; (with_reducible refine (laws_eqIntS.calls kj8 _ _ t534 _ _ t527 true _ ?side1 ?side2 ?side3 ?side4 A32.out).mono ?_); (case side1 => repeat (first | exact (Kd.R_reads' HO_10.out).2.2 | (with_reducible refine Kd.C_alloc ?_ _) | (with_reducible refine Kd.C_drewN ?_ _) | (with_reducible refine Kd.C_drew ?_))); (case side2 => exact (Kd.R_reads' HO_10.out).2.1); (case side3 => repeat (first | exact (Kd.R_reads' HO_7.out).2.2 | (with_reducible refine Kd.C_alloc ?_ _) | (with_reducible refine Kd.C_drewN ?_ _) | (with_reducible refine Kd.C_drew ?_))); (case side4 => exact (Kd.R_reads' HO_7.out).2.1); rintro e w' ⟨rfl, ⟨nd, rfl⟩⟩))
         go_meet
         case rel => exact ⟨_, ((t535 != t528)), (by first | rfl | (simp; done) | (simp [*]; done)), H', ⟨by have := HJ8.out; first | omega | exact Nat.le_refl _⟩, ⟨by (with_reducible repeat (first | apply Kd.R_alloc | apply Kd.R_drewN | apply Kd.R_drew)); exact Kd.R_mono HO_7.out (fun _ hk => hk.2.1)⟩, ⟨by (with_reducible repeat (first | apply Kd.R_alloc | apply Kd.R_drewN | apply Kd.R_drew)); exact Kd.R_mono HO_10.out (fun _ hk => hk.1)⟩, ⟨by repeat (first | (with_reducible first | exact HB.out | apply below_alloc | apply pw_below_drewN | apply below_drew1) | exact HB.out)⟩⟩
        ·replace c33 := Bool.eq_false_iff.mpr c33
         subst c33
         have H1 : (laws_FnExactDropWire.j1 kj8 a0 l1 a2 t527 t528 t534 true) = some r := by rw [if_neg (show ¬ (false = true) by decide)] at H; exact H
         clear H
         have H := H1
         clear H1
         have H' := Aside0.mk H
         clear H
         obtain ⟨Ao36, co36, eo36⟩ := Kd.R_slice HO_10.out
         subst eo36
         obtain ⟨Ao37, co37, eo37⟩ := Kd.R_slice HO_7.out
         subst eo37
         go_wp2_with (first | (go_at_call 25; (with_reducible refine (laws_eqIntS.calls kj8 _ _ t534 _ _ t527 false _ ?side1 ?side2 ?side3 ?side4 A32.out).mono ?_); (case side1 => repeat (first | exact (Kd.R_reads' HO_10.out).2.2 | (with_reducible refine Kd.C_alloc ?_ _) | (with_reducible refine Kd.C_drewN ?_ _) | (with_reducible refine Kd.C_drew ?_))); (case side2 => exact (Kd.R_reads' HO_10.out).2.1); (case side3 => repeat (first | exact (Kd.R_reads' HO_7.out).2.2 | (with_reducible refine Kd.C_alloc ?_ _) | (with_reducible refine Kd.C_drewN ?_ _) | (with_reducible refine Kd.C_drew ?_))); (case side4 => exact (Kd.R_reads' HO_7.out).2.1); rintro e w' ⟨rfl, ⟨nd, rfl⟩⟩))
         go_meet
         case rel => exact ⟨_, (true), (by first | rfl | (simp; done) | (simp [*]; done)), H', ⟨by have := HJ8.out; first | omega | exact Nat.le_refl _⟩, ⟨by (with_reducible repeat (first | apply Kd.R_alloc | apply Kd.R_drewN | apply Kd.R_drew)); exact Kd.R_mono HO_7.out (fun _ hk => hk.2.1)⟩, ⟨by (with_reducible repeat (first | apply Kd.R_alloc | apply Kd.R_drewN | apply Kd.R_drew)); exact Kd.R_mono HO_10.out (fun _ hk => hk.1)⟩, ⟨by repeat (first | (with_reducible first | exact HB.out | apply below_alloc | apply pw_below_drewN | apply below_drew1) | exact HB.out)⟩⟩
      case rest =>
       clear HC27
       try clear c1
       try clear c2
       try clear p2
       try clear c3
       try clear c4
       try clear c4b0
       try clear c4b1
       try clear c6
       try clear c17
       try clear c22
       try clear c23
       try clear c25
       try clear c26
       try clear c27
       try clear c28
       try clear c31
       try clear c31b0
       try clear c33
       try clear p2
       obtain ⟨kq, x66_26, rfl, HA, HJ26, HO_7, HO_10, HB⟩ := hcut
       cases kq with
       | zero => exact absurd HA.out (by simp [laws_FnExactDropWire.j1])
       | succ kj26 =>
        have H := HA.out
        clear HA
        simp only [laws_FnExactDropWire.j1] at H
        by_cases c38 : x66_26 = true
        ·subst c38
         have H1 : (some false) = some r := by rw [if_pos rfl] at H; exact H
         clear H
         have H := H1
         clear H1
         obtain rfl := Option.some.inj H
         go_wp2
         go_ret
         exact ⟨by first | rfl | (simp [errW_none, errW_some] <;> rfl) | (simp [*, errW_none, errW_some] <;> rfl), by repeat (first | (with_reducible first | exact HB.out | apply below_alloc | apply pw_below_drewN | apply below_drew1) | exact HB.out)⟩
        ·replace c38 := Bool.eq_false_iff.mpr c38
         subst c38
         have H1 : ((laws_markIntS.f kj26 t534 1).bind fun bt546 => ((laws_heldIntS.f kj26 bt546.2 1).bind fun t548 => (if t548 < 0 then (some false) else (if t548 = bt546.1 then ((laws_toIntS.f kj26 l1).bind fun t549 => ((impl_DropWire.f kj26 a0 t549 a2).bind fun bt552 => ((laws_eqIntS.f kj26 bt552.1 t527).bind fun t556 => (if t556 = true then (laws_FnExactDropWire.j2 kj26 bt546.2 bt546.1 (bt552.2 != t528)) else (laws_FnExactDropWire.j2 kj26 bt546.2 bt546.1 true))))) else (some false))))) = some r := by rw [if_neg (show ¬ (false = true) by decide)] at H; exact H
         clear H
         have H := H1
         clear H1
         replace H := Option.bind_eq_some_iff.mp H
         obtain ⟨⟨t546, t547⟩, A390, H⟩ := H
         replace H : ((laws_heldIntS.f kj26 t547 1).bind fun t548 => (if t548 < 0 then (some false) else (if t548 = t546 then ((laws_toIntS.f kj26 l1).bind fun t549 => ((impl_DropWire.f kj26 a0 t549 a2).bind fun bt552 => ((laws_eqIntS.f kj26 bt552.1 t527).bind fun t556 => (if t556 = true then (laws_FnExactDropWire.j2 kj26 t547 t546 (bt552.2 != t528)) else (laws_FnExactDropWire.j2 kj26 t547 t546 true))))) else (some false)))) = some r := H
         have A39 := Aside0.mk A390
         clear A390
         replace H := Option.bind_eq_some_iff.mp H
         obtain ⟨t548, A400, H⟩ := H
         replace H : (if t548 < 0 then (some false) else (if t548 = t546 then ((laws_toIntS.f kj26 l1).bind fun t549 => ((impl_DropWire.f kj26 a0 t549 a2).bind fun bt552 => ((laws_eqIntS.f kj26 bt552.1 t527).bind fun t556 => (if t556 = true then (laws_FnExactDropWire.j2 kj26 t547 t546 (bt552.2 != t528)) else (laws_FnExactDropWire.j2 kj26 t547 t546 true))))) else (some false))) = some r := H
         have A40 := Aside0.mk A400
         clear A400
         by_cases c41 : t548 < 0
         ·rw [if_pos c41] at H
          have c41b0 : decide (t548 < 0) = true := decide_eq_true c41
          clear c41
          obtain rfl := Option.some.inj H
          obtain ⟨Ao42, co42, eo42⟩ := Kd.R_slice HO_10.out
          subst eo42
          go_wp2_with (first | ((with_reducible refine gate_callee (f := 28) rfl ?_); refine goesL_ (some 69) rfl rfl Try.func28 (by kernel_rfl) rfl #[.slice Ao42 t534.length co42, .int .i64 1] rfl (by (try simp only [List.map_toArray, List.map_cons, List.map_nil]); first | done | rfl | (simp only [List.length_drop, List.length_take]; rfl)) ?_; (with_reducible refine (laws_markIntS.calls kj26 (fun k_ => some k_ = (.slice Ao42 t534.length co42 : Value).ownBlock) (.slice Ao42 t534.length co42) t534 1 t546 t547 w _ ?side1 ?side2 A39.out).mono ?_); (case side1 => repeat (first | (with_reducible first | exact HB.out | apply below_alloc | apply pw_below_drewN | apply below_drew1) | exact HB.out)); (case side2 => exact Kd.R_tight rfl HO_10.out); rintro e w43 ⟨rfl, hy0, hb, hkp⟩; refine ⟨_, rfl, ?_⟩; have n0_ := Aside0.mk (Kd.R_mono (ok' := fun k_ => some k_ ≠ (.slice Ao42 t534.length co42 : Value).ownBlock) (Kd.R_keptB (HO_7.out) hkp (fun k_ hk_ hs_ => (hk_) hs_)) (fun k_ hk_ => hk_.1)); have n1_ := Aside0.mk (Kd.R_reok rfl hy0 (fun k_ e_ => HO_10.out.1 k_ e_)); have n2_ := Aside0.mk (hb); clear HO_7; clear HO_10; clear HB; have HO_7 := n0_; have HO_10 := n1_; have HB := n2_; clear n0_ n1_ n2_; (try clear hb); (try clear hkp); (try clear hy0)) | ((with_reducible refine gate_callee (f := 29) rfl ?_); refine goesL_ (some 72) rfl rfl Try.func29 (by kernel_rfl) rfl #[.slice Ao42 t547.length co42, .int .i64 1] rfl (by (try simp only [List.map_toArray, List.map_cons, List.map_nil]); first | done | (rw [show t547.length = t534.length from (Kd.R_reads' HO_10.out).1.symm] <;> rfl) | rfl | (simp only [List.length_drop, List.length_take]; rfl)) ?_; (with_reducible refine (laws_heldIntS.calls kj26 _ _ t547 1 t548 _ ?side1 ?side2 A40.out).mono ?_); (case side1 => repeat (first | exact (Kd.R_reads' HO_10.out).2.2 | (with_reducible refine Kd.C_alloc ?_ _) | (with_reducible refine Kd.C_drewN ?_ _) | (with_reducible refine Kd.C_drew ?_))); (case side2 => rw [show t547.length = t534.length from (Kd.R_reads' HO_10.out).1.symm]; exact (Kd.R_reads' HO_10.out).2.1); rintro e w' ⟨rfl, ⟨nd, rfl⟩⟩; refine ⟨_, rfl, ?_⟩))
          go_ret
          exact ⟨by first | rfl | (simp [errW_none, errW_some] <;> rfl) | (simp [*, errW_none, errW_some] <;> rfl), by repeat (first | (with_reducible first | exact HB.out | apply below_alloc | apply pw_below_drewN | apply below_drew1) | exact HB.out)⟩
         ·rw [if_neg c41] at H
          have c41b0 : decide (t548 < 0) = false := decide_eq_false c41
          clear c41
          by_cases c44 : t548 = t546
          ·rw [if_pos c44] at H
           have c44b0 : (t548 == t546) = true := beq_iff_eq.mpr c44
           have c44b1 : (t548 != t546) = false := bne_eq_false_iff_eq.mpr c44
           clear c44
           replace H := Option.bind_eq_some_iff.mp H
           obtain ⟨t549, A450, H⟩ := H
           replace H : ((impl_DropWire.f kj26 a0 t549 a2).bind fun bt552 => ((laws_eqIntS.f kj26 bt552.1 t527).bind fun t556 => (if t556 = true then (laws_FnExactDropWire.j2 kj26 t547 t546 (bt552.2 != t528)) else (laws_FnExactDropWire.j2 kj26 t547 t546 true)))) = some r := H
           have A45 := Aside0.mk A450
           clear A450
           replace H := Option.bind_eq_some_iff.mp H
           obtain ⟨⟨t552, t553⟩, A460, H⟩ := H
           replace H : ((laws_eqIntS.f kj26 t552 t527).bind fun t556 => (if t556 = true then (laws_FnExactDropWire.j2 kj26 t547 t546 (t553 != t528)) else (laws_FnExactDropWire.j2 kj26 t547 t546 true))) = some r := H
           have A46 := Aside0.mk A460
           clear A460
           have HC47 := Aside0.mk H
           clear H
           obtain ⟨Ao48, co48, eo48⟩ := Kd.R_slice HO_10.out
           subst eo48
           go_upto_region 23 with (first | ((with_reducible refine gate_callee (f := 28) rfl ?_); refine goesL_ (some 69) rfl rfl Try.func28 (by kernel_rfl) rfl #[.slice Ao48 t534.length co48, .int .i64 1] rfl (by (try simp only [List.map_toArray, List.map_cons, List.map_nil]); first | done | rfl | (simp only [List.length_drop, List.length_take]; rfl)) ?_; (with_reducible refine (laws_markIntS.calls kj26 (fun k_ => some k_ = (.slice Ao48 t534.length co48 : Value).ownBlock) (.slice Ao48 t534.length co48) t534 1 t546 t547 w _ ?side1 ?side2 A39.out).mono ?_); (case side1 => repeat (first | (with_reducible first | exact HB.out | apply below_alloc | apply pw_below_drewN | apply below_drew1) | exact HB.out)); (case side2 => exact Kd.R_tight rfl HO_10.out); rintro e w49 ⟨rfl, hy0, hb, hkp⟩; refine ⟨_, rfl, ?_⟩; have n0_ := Aside0.mk (Kd.R_mono (ok' := fun k_ => some k_ ≠ (.slice Ao48 t534.length co48 : Value).ownBlock) (Kd.R_keptB (HO_7.out) hkp (fun k_ hk_ hs_ => (hk_) hs_)) (fun k_ hk_ => hk_.1)); have n1_ := Aside0.mk (Kd.R_reok rfl hy0 (fun k_ e_ => HO_10.out.1 k_ e_)); have n2_ := Aside0.mk (hb); clear HO_7; clear HO_10; clear HB; have HO_7 := n0_; have HO_10 := n1_; have HB := n2_; clear n0_ n1_ n2_; (try clear hb); (try clear hkp); (try clear hy0)) | ((with_reducible refine gate_callee (f := 29) rfl ?_); refine goesL_ (some 72) rfl rfl Try.func29 (by kernel_rfl) rfl #[.slice Ao48 t547.length co48, .int .i64 1] rfl (by (try simp only [List.map_toArray, List.map_cons, List.map_nil]); first | done | (rw [show t547.length = t534.length from (Kd.R_reads' HO_10.out).1.symm] <;> rfl) | rfl | (simp only [List.length_drop, List.length_take]; rfl)) ?_; (with_reducible refine (laws_heldIntS.calls kj26 _ _ t547 1 t548 _ ?side1 ?side2 A40.out).mono ?_); (case side1 => repeat (first | exact (Kd.R_reads' HO_10.out).2.2 | (with_reducible refine Kd.C_alloc ?_ _) | (with_reducible refine Kd.C_drewN ?_ _) | (with_reducible refine Kd.C_drew ?_))); (case side2 => rw [show t547.length = t534.length from (Kd.R_reads' HO_10.out).1.symm]; exact (Kd.R_reads' HO_10.out).2.1); rintro e w' ⟨rfl, ⟨nd, rfl⟩⟩; refine ⟨_, rfl, ?_⟩) | ((with_reducible refine gate_callee (f := 23) rfl ?_); refine goesL_ (some 81) rfl rfl Try.func23 (by kernel_rfl) rfl #[.slice A1 l1.length c1] rfl (by (try simp only [List.map_toArray, List.map_cons, List.map_nil]); first | done | rfl | (simp only [List.length_drop, List.length_take]; rfl)) ?_; (with_reducible refine (laws_toIntS.calls kj26 _ _ l1 t549 _ ?side1 ?side2 A45.out).mono ?_); (case side1 => repeat (first | exact (Kd.C_below HR1.out (by repeat (first | (with_reducible first | exact HB.out | apply below_alloc | apply pw_below_drewN | apply below_drew1) | exact HB.out))) | (with_reducible refine Kd.C_alloc ?_ _) | (with_reducible refine Kd.C_drewN ?_ _) | (with_reducible refine Kd.C_drew ?_))); (case side2 => exact HC1.out); rintro e w50 ⟨v550, rfl, ho0, hb⟩; refine ⟨_, rfl, ?_⟩; have n0_ := Aside0.mk (Kd.R_elder' (by (with_reducible repeat (first | apply Kd.R_alloc | apply Kd.R_drewN | apply Kd.R_drew)); exact HO_7.out) (Kd.R_base ho0) hb); have n1_ := Aside0.mk (Kd.R_elder' (by (with_reducible repeat (first | apply Kd.R_alloc | apply Kd.R_drewN | apply Kd.R_drew)); exact HO_10.out) (Kd.R_base ho0) hb); have n2_ := Aside0.mk (Kd.R_lower (Kd.R_new' (Kd.R_new' ho0 (Kd.R_lt (by (with_reducible repeat (first | apply Kd.R_alloc | apply Kd.R_drewN | apply Kd.R_drew)); exact HO_7.out))) (Kd.R_lt (by (with_reducible repeat (first | apply Kd.R_alloc | apply Kd.R_drewN | apply Kd.R_drew)); exact HO_10.out))) (below_size (by repeat (first | (with_reducible first | exact HB.out | apply below_alloc | apply pw_below_drewN | apply below_drew1) | exact HB.out)))); have n3_ := Aside0.mk (below_step (by repeat (first | (with_reducible first | exact HB.out | apply below_alloc | apply pw_below_drewN | apply below_drew1) | exact HB.out)) hb); clear HO_7; clear HO_10; clear HB; have HO_7 := n0_; have HO_10 := n1_; have HO551 := n2_; have HB := n3_; clear n0_ n1_ n2_ n3_; (try clear hb); (try clear hb2); (try clear hk); (try clear hi); (try clear ho0); obtain ⟨Ao51, co51, eo51⟩ := Kd.R_slice HO551.out; subst eo51) | ((with_reducible refine gate_callee (f := 27) rfl ?_); refine goesL_ (some 83) rfl rfl Try.func27 (by kernel_rfl) rfl #[.int .i64 a0, .slice Ao51 t549.length co51, .int .i64 a2] rfl (by (try simp only [List.map_toArray, List.map_cons, List.map_nil]); first | done | rfl | (simp only [List.length_drop, List.length_take]; rfl)) ?_; (with_reducible refine (impl_DropWire.calls kj26 a0 _ _ t549 a2 t552 t553 _ ?side1 ?side2 A46.out).mono ?_); (case side1 => repeat (first | exact (Kd.R_reads' HO551.out).2.2 | (with_reducible refine Kd.C_alloc ?_ _) | (with_reducible refine Kd.C_drewN ?_ _) | (with_reducible refine Kd.C_drew ?_))); (case side2 => exact (Kd.R_reads' HO551.out).2.1); rintro e w52 ⟨v554, rfl, ho0, hb⟩; refine ⟨_, rfl, ?_⟩; have n0_ := Aside0.mk (Kd.R_elder' (by (with_reducible repeat (first | apply Kd.R_alloc | apply Kd.R_drewN | apply Kd.R_drew)); exact HO_7.out) (Kd.R_base ho0) hb); have n1_ := Aside0.mk (Kd.R_elder' (by (with_reducible repeat (first | apply Kd.R_alloc | apply Kd.R_drewN | apply Kd.R_drew)); exact HO_10.out) (Kd.R_base ho0) hb); have n2_ := Aside0.mk (Kd.R_elder' (by (with_reducible repeat (first | apply Kd.R_alloc | apply Kd.R_drewN | apply Kd.R_drew)); exact HO551.out) (Kd.R_base ho0) hb); have n3_ := Aside0.mk (Kd.R_lower (Kd.R_new' (Kd.R_new' (Kd.R_new' ho0 (Kd.R_lt (by (with_reducible repeat (first | apply Kd.R_alloc | apply Kd.R_drewN | apply Kd.R_drew)); exact HO_7.out))) (Kd.R_lt (by (with_reducible repeat (first | apply Kd.R_alloc | apply Kd.R_drewN | apply Kd.R_drew)); exact HO_10.out))) (Kd.R_lt (by (with_reducible repeat (first | apply Kd.R_alloc | apply Kd.R_drewN | apply Kd.R_drew)); exact HO551.out))) (below_size (by repeat (first | (with_reducible first | exact HB.out | apply below_alloc | apply pw_below_drewN | apply below_drew1) | exact HB.out)))); have n4_ := Aside0.mk (below_step (by repeat (first | (with_reducible first | exact HB.out | apply below_alloc | apply pw_below_drewN | apply below_drew1) | exact HB.out)) hb); clear HO_7; clear HO_10; clear HO551; clear HB; have HO_7 := n0_; have HO_10 := n1_; have HO551 := n2_; have HO555 := n3_; have HB := n4_; clear n0_ n1_ n2_ n3_ n4_; (try clear hb); (try clear hb2); (try clear hk); (try clear hi); (try clear ho0)))
           (try simp only [Act.put, List.setIfInBounds_toArray, List.set_cons_zero, List.set_cons_succ])
           go_cut [94] (fun v94 wc => ∃ (kq : Nat) (x94_46 : Bool), v94 = .bool x94_46 ∧ Aside0 (laws_FnExactDropWire.j2 kq t547 t546 x94_46 = some r) ∧ Aside0 (kq ≤ kj26) ∧ Aside0 (Kd.R (Kd.int .i64) 3 wc w.heap.size (fun _ => True) (.slice Ao48 t534.length co48) t547) ∧ Aside0 (Below w.heap.size w wc))
           case first =>
            have H := HC47.out
            clear HC47
            replace H := Option.bind_eq_some_iff.mp H
            obtain ⟨t556, A530, H⟩ := H
            replace H : (if t556 = true then (laws_FnExactDropWire.j2 kj26 t547 t546 (t553 != t528)) else (laws_FnExactDropWire.j2 kj26 t547 t546 true)) = some r := H
            have A53 := Aside0.mk A530
            clear A530
            by_cases c54 : t556 = true
            ·subst c54
             have H1 : (laws_FnExactDropWire.j2 kj26 t547 t546 (t553 != t528)) = some r := by rw [if_pos rfl] at H; exact H
             clear H
             have H := H1
             clear H1
             have H' := Aside0.mk H
             clear H
             obtain ⟨Ao55, co55, eo55⟩ := Kd.R_slice HO555.out
             subst eo55
             obtain ⟨Ao56, co56, eo56⟩ := Kd.R_slice HO_7.out
             subst eo56
             go_wp2_with (first | ((with_reducible refine gate_callee (f := 25) rfl ?_); refine goesL_ (some 88) rfl rfl Try.func25 (by kernel_rfl) rfl #[.slice Ao55 t552.length co55, .slice Ao56 t527.length co56] rfl (by (try simp only [List.map_toArray, List.map_cons, List.map_nil]); first | done | rfl | (simp only [List.length_drop, List.length_take]; rfl)) ?_; (with_reducible refine (laws_eqIntS.calls kj26 _ _ t552 _ _ t527 true _ ?side1 ?side2 ?side3 ?side4 A53.out).mono ?_); (case side1 => repeat (first | exact (Kd.R_reads' HO555.out).2.2 | (with_reducible refine Kd.C_alloc ?_ _) | (with_reducible refine Kd.C_drewN ?_ _) | (with_reducible refine Kd.C_drew ?_))); (case side2 => exact (Kd.R_reads' HO555.out).2.1); (case side3 => repeat (first | exact (Kd.R_reads' HO_7.out).2.2 | (with_reducible refine Kd.C_alloc ?_ _) | (with_reducible refine Kd.C_drewN ?_ _) | (with_reducible refine Kd.C_drew ?_))); (case side4 => exact (Kd.R_reads' HO_7.out).2.1); rintro e w' ⟨rfl, ⟨nd, rfl⟩⟩; refine ⟨_, rfl, ?_⟩))
             go_meet
             case rel => exact ⟨_, ((t553 != t528)), (by first | rfl | (simp; done) | (simp [*]; done)), H', ⟨by have := HJ8.out; have := HJ26.out; first | omega | exact Nat.le_refl _⟩, ⟨by (with_reducible repeat (first | apply Kd.R_alloc | apply Kd.R_drewN | apply Kd.R_drew)); exact Kd.R_mono HO_10.out (fun _ hk => trivial)⟩, ⟨by repeat (first | (with_reducible first | exact HB.out | apply below_alloc | apply pw_below_drewN | apply below_drew1) | exact HB.out)⟩⟩
            ·replace c54 := Bool.eq_false_iff.mpr c54
             subst c54
             have H1 : (laws_FnExactDropWire.j2 kj26 t547 t546 true) = some r := by rw [if_neg (show ¬ (false = true) by decide)] at H; exact H
             clear H
             have H := H1
             clear H1
             have H' := Aside0.mk H
             clear H
             obtain ⟨Ao57, co57, eo57⟩ := Kd.R_slice HO555.out
             subst eo57
             obtain ⟨Ao58, co58, eo58⟩ := Kd.R_slice HO_7.out
             subst eo58
             go_wp2_with (first | ((with_reducible refine gate_callee (f := 25) rfl ?_); refine goesL_ (some 88) rfl rfl Try.func25 (by kernel_rfl) rfl #[.slice Ao57 t552.length co57, .slice Ao58 t527.length co58] rfl (by (try simp only [List.map_toArray, List.map_cons, List.map_nil]); first | done | rfl | (simp only [List.length_drop, List.length_take]; rfl)) ?_; (with_reducible refine (laws_eqIntS.calls kj26 _ _ t552 _ _ t527 false _ ?side1 ?side2 ?side3 ?side4 A53.out).mono ?_); (case side1 => repeat (first | exact (Kd.R_reads' HO555.out).2.2 | (with_reducible refine Kd.C_alloc ?_ _) | (with_reducible refine Kd.C_drewN ?_ _) | (with_reducible refine Kd.C_drew ?_))); (case side2 => exact (Kd.R_reads' HO555.out).2.1); (case side3 => repeat (first | exact (Kd.R_reads' HO_7.out).2.2 | (with_reducible refine Kd.C_alloc ?_ _) | (with_reducible refine Kd.C_drewN ?_ _) | (with_reducible refine Kd.C_drew ?_))); (case side4 => exact (Kd.R_reads' HO_7.out).2.1); rintro e w' ⟨rfl, ⟨nd, rfl⟩⟩; refine ⟨_, rfl, ?_⟩))
             go_meet
             case rel => exact ⟨_, (true), (by first | rfl | (simp; done) | (simp [*]; done)), H', ⟨by have := HJ8.out; have := HJ26.out; first | omega | exact Nat.le_refl _⟩, ⟨by (with_reducible repeat (first | apply Kd.R_alloc | apply Kd.R_drewN | apply Kd.R_drew)); exact Kd.R_mono HO_10.out (fun _ hk => trivial)⟩, ⟨by repeat (first | (with_reducible first | exact HB.out | apply below_alloc | apply pw_below_drewN | apply below_drew1) | exact HB.out)⟩⟩
           case rest =>
            clear HC47
            try clear c1
            try clear c2
            try clear p2
            try clear c3
            try clear c4
            try clear c4b0
            try clear c4b1
            try clear c5
            try clear c6
            try clear c17
            try clear c22
            try clear c23
            try clear c25
            try clear c26
            try clear c27
            try clear c28
            try clear c29
            try clear c31
            try clear c31b0
            try clear c33
            try clear c38
            try clear c41
            try clear c41b0
            try clear c44
            try clear c44b0
            try clear c44b1
            try clear c54
            try clear p2
            obtain ⟨kq, x94_46, rfl, HA, HJ46, HO_10, HB⟩ := hcut
            have hl10_46 := (Kd.R_reads' HO_10.out).1
            rw [hl10_46] at HO_10
            (try simp only [hl10_46])
            cases kq with
            | zero => exact absurd HA.out (by simp [laws_FnExactDropWire.j2])
            | succ kj46 =>
             have H := HA.out
             clear HA
             simp only [laws_FnExactDropWire.j2] at H
             by_cases c59 : x94_46 = true
             ·subst c59
              have H1 : (some false) = some r := by rw [if_pos rfl] at H; exact H
              clear H
              have H := H1
              clear H1
              obtain rfl := Option.some.inj H
              go_wp2
              go_ret
              exact ⟨by first | rfl | (simp [errW_none, errW_some] <;> rfl) | (simp [*, errW_none, errW_some] <;> rfl), by repeat (first | (with_reducible first | exact HB.out | apply below_alloc | apply pw_below_drewN | apply below_drew1) | exact HB.out)⟩
             ·replace c59 := Bool.eq_false_iff.mpr c59
              subst c59
              have H1 : ((laws_heldIntS.f kj46 t547 1).bind fun t557 => (if t557 < 0 then (some false) else (if t557 = t546 then (some true) else (some false)))) = some r := by rw [if_neg (show ¬ (false = true) by decide)] at H; exact H
              clear H
              have H := H1
              clear H1
              replace H := Option.bind_eq_some_iff.mp H
              obtain ⟨t557, A600, H⟩ := H
              replace H : (if t557 < 0 then (some false) else (if t557 = t546 then (some true) else (some false))) = some r := H
              have A60 := Aside0.mk A600
              clear A600
              by_cases c61 : t557 < 0
              ·rw [if_pos c61] at H
               have c61b0 : decide (t557 < 0) = true := decide_eq_true c61
               clear c61
               obtain rfl := Option.some.inj H
               go_wp2_with (first | ((with_reducible refine gate_callee (f := 29) rfl ?_); refine goesL_ (some 97) rfl rfl Try.func29 (by kernel_rfl) rfl #[.slice Ao48 t547.length co48, .int .i64 1] rfl (by (try simp only [List.map_toArray, List.map_cons, List.map_nil]); first | done | rfl | (simp only [List.length_drop, List.length_take]; rfl)) ?_; (with_reducible refine (laws_heldIntS.calls kj46 _ _ t547 1 t557 _ ?side1 ?side2 A60.out).mono ?_); (case side1 => repeat (first | exact (Kd.R_reads' HO_10.out).2.2 | (with_reducible refine Kd.C_alloc ?_ _) | (with_reducible refine Kd.C_drewN ?_ _) | (with_reducible refine Kd.C_drew ?_))); (case side2 => exact (Kd.R_reads' HO_10.out).2.1); rintro e w' ⟨rfl, ⟨nd, rfl⟩⟩; refine ⟨_, rfl, ?_⟩))
               go_ret
               exact ⟨by first | rfl | (simp [errW_none, errW_some] <;> rfl) | (simp [*, errW_none, errW_some] <;> rfl), by repeat (first | (with_reducible first | exact HB.out | apply below_alloc | apply pw_below_drewN | apply below_drew1) | exact HB.out)⟩
              ·rw [if_neg c61] at H
               have c61b0 : decide (t557 < 0) = false := decide_eq_false c61
               clear c61
               by_cases c62 : t557 = t546
               ·rw [if_pos c62] at H
                have c62b0 : (t557 == t546) = true := beq_iff_eq.mpr c62
                have c62b1 : (t557 != t546) = false := bne_eq_false_iff_eq.mpr c62
                clear c62
                obtain rfl := Option.some.inj H
                go_wp2_with (first | ((with_reducible refine gate_callee (f := 29) rfl ?_); refine goesL_ (some 97) rfl rfl Try.func29 (by kernel_rfl) rfl #[.slice Ao48 t547.length co48, .int .i64 1] rfl (by (try simp only [List.map_toArray, List.map_cons, List.map_nil]); first | done | rfl | (simp only [List.length_drop, List.length_take]; rfl)) ?_; (with_reducible refine (laws_heldIntS.calls kj46 _ _ t547 1 t557 _ ?side1 ?side2 A60.out).mono ?_); (case side1 => repeat (first | exact (Kd.R_reads' HO_10.out).2.2 | (with_reducible refine Kd.C_alloc ?_ _) | (with_reducible refine Kd.C_drewN ?_ _) | (with_reducible refine Kd.C_drew ?_))); (case side2 => exact (Kd.R_reads' HO_10.out).2.1); rintro e w' ⟨rfl, ⟨nd, rfl⟩⟩; refine ⟨_, rfl, ?_⟩))
                go_ret
                exact ⟨by first | rfl | (simp [errW_none, errW_some] <;> rfl) | (simp [*, errW_none, errW_some] <;> rfl), by repeat (first | (with_reducible first | exact HB.out | apply below_alloc | apply pw_below_drewN | apply below_drew1) | exact HB.out)⟩
               ·rw [if_neg c62] at H
                have c62b0 : (t557 == t546) = false := beq_eq_false_iff_ne.mpr c62
                have c62b1 : (t557 != t546) = true := bne_iff_ne.mpr c62
                obtain rfl := Option.some.inj H
                go_wp2_with (first | ((with_reducible refine gate_callee (f := 29) rfl ?_); refine goesL_ (some 97) rfl rfl Try.func29 (by kernel_rfl) rfl #[.slice Ao48 t547.length co48, .int .i64 1] rfl (by (try simp only [List.map_toArray, List.map_cons, List.map_nil]); first | done | rfl | (simp only [List.length_drop, List.length_take]; rfl)) ?_; (with_reducible refine (laws_heldIntS.calls kj46 _ _ t547 1 t557 _ ?side1 ?side2 A60.out).mono ?_); (case side1 => repeat (first | exact (Kd.R_reads' HO_10.out).2.2 | (with_reducible refine Kd.C_alloc ?_ _) | (with_reducible refine Kd.C_drewN ?_ _) | (with_reducible refine Kd.C_drew ?_))); (case side2 => exact (Kd.R_reads' HO_10.out).2.1); rintro e w' ⟨rfl, ⟨nd, rfl⟩⟩; refine ⟨_, rfl, ?_⟩))
                go_ret
                exact ⟨by first | rfl | (simp [errW_none, errW_some] <;> rfl) | (simp [*, errW_none, errW_some] <;> rfl), by repeat (first | (with_reducible first | exact HB.out | apply below_alloc | apply pw_below_drewN | apply below_drew1) | exact HB.out)⟩
          ·rw [if_neg c44] at H
           have c44b0 : (t548 == t546) = false := beq_eq_false_iff_ne.mpr c44
           have c44b1 : (t548 != t546) = true := bne_iff_ne.mpr c44
           obtain rfl := Option.some.inj H
           obtain ⟨Ao63, co63, eo63⟩ := Kd.R_slice HO_10.out
           subst eo63
           go_wp2_with (first | ((with_reducible refine gate_callee (f := 28) rfl ?_); refine goesL_ (some 69) rfl rfl Try.func28 (by kernel_rfl) rfl #[.slice Ao63 t534.length co63, .int .i64 1] rfl (by (try simp only [List.map_toArray, List.map_cons, List.map_nil]); first | done | rfl | (simp only [List.length_drop, List.length_take]; rfl)) ?_; (with_reducible refine (laws_markIntS.calls kj26 (fun k_ => some k_ = (.slice Ao63 t534.length co63 : Value).ownBlock) (.slice Ao63 t534.length co63) t534 1 t546 t547 w _ ?side1 ?side2 A39.out).mono ?_); (case side1 => repeat (first | (with_reducible first | exact HB.out | apply below_alloc | apply pw_below_drewN | apply below_drew1) | exact HB.out)); (case side2 => exact Kd.R_tight rfl HO_10.out); rintro e w64 ⟨rfl, hy0, hb, hkp⟩; refine ⟨_, rfl, ?_⟩; have n0_ := Aside0.mk (Kd.R_mono (ok' := fun k_ => some k_ ≠ (.slice Ao63 t534.length co63 : Value).ownBlock) (Kd.R_keptB (HO_7.out) hkp (fun k_ hk_ hs_ => (hk_) hs_)) (fun k_ hk_ => hk_.1)); have n1_ := Aside0.mk (Kd.R_reok rfl hy0 (fun k_ e_ => HO_10.out.1 k_ e_)); have n2_ := Aside0.mk (hb); clear HO_7; clear HO_10; clear HB; have HO_7 := n0_; have HO_10 := n1_; have HB := n2_; clear n0_ n1_ n2_; (try clear hb); (try clear hkp); (try clear hy0)) | ((with_reducible refine gate_callee (f := 29) rfl ?_); refine goesL_ (some 72) rfl rfl Try.func29 (by kernel_rfl) rfl #[.slice Ao63 t547.length co63, .int .i64 1] rfl (by (try simp only [List.map_toArray, List.map_cons, List.map_nil]); first | done | (rw [show t547.length = t534.length from (Kd.R_reads' HO_10.out).1.symm] <;> rfl) | rfl | (simp only [List.length_drop, List.length_take]; rfl)) ?_; (with_reducible refine (laws_heldIntS.calls kj26 _ _ t547 1 t548 _ ?side1 ?side2 A40.out).mono ?_); (case side1 => repeat (first | exact (Kd.R_reads' HO_10.out).2.2 | (with_reducible refine Kd.C_alloc ?_ _) | (with_reducible refine Kd.C_drewN ?_ _) | (with_reducible refine Kd.C_drew ?_))); (case side2 => rw [show t547.length = t534.length from (Kd.R_reads' HO_10.out).1.symm]; exact (Kd.R_reads' HO_10.out).2.1); rintro e w' ⟨rfl, ⟨nd, rfl⟩⟩; refine ⟨_, rfl, ?_⟩))
           go_ret
           exact ⟨by first | rfl | (simp [errW_none, errW_some] <;> rfl) | (simp [*, errW_none, errW_some] <;> rfl), by repeat (first | (with_reducible first | exact HB.out | apply below_alloc | apply pw_below_drewN | apply below_drew1) | exact HB.out)⟩
     ·replace c25 := Bool.eq_false_iff.mpr c25
      subst c25
      have H1 : (some false) = some r := by rw [if_neg (show ¬ (false = true) by decide)] at H; exact H
      clear H
      have H := H1
      clear H1
      obtain rfl := Option.some.inj H
      go_wp2_with (first | ((with_reducible refine gate_callee (f := 23) rfl ?_); refine goesL_ (some 48) rfl rfl Try.func23 (by kernel_rfl) rfl #[.slice A1 l1.length c1] rfl (by (try simp only [List.map_toArray, List.map_cons, List.map_nil]); first | done | rfl | (simp only [List.length_drop, List.length_take]; rfl)) ?_; (with_reducible refine (laws_toIntS.calls kj8 _ _ l1 t539 _ ?side1 ?side2 A23.out).mono ?_); (case side1 => repeat (first | exact (Kd.C_below HR1.out HB.out) | (with_reducible refine Kd.C_alloc ?_ _) | (with_reducible refine Kd.C_drewN ?_ _) | (with_reducible refine Kd.C_drew ?_))); (case side2 => exact HC1.out); rintro e w65 ⟨v540, rfl, ho0, hb⟩; refine ⟨_, rfl, ?_⟩; have n0_ := Aside0.mk (Kd.R_elder' (by (with_reducible repeat (first | apply Kd.R_alloc | apply Kd.R_drewN | apply Kd.R_drew)); exact HO_7.out) (Kd.R_base ho0) hb); have n1_ := Aside0.mk (Kd.R_elder' (by (with_reducible repeat (first | apply Kd.R_alloc | apply Kd.R_drewN | apply Kd.R_drew)); exact HO_9.out) (Kd.R_base ho0) hb); have n2_ := Aside0.mk (Kd.R_elder' (by (with_reducible repeat (first | apply Kd.R_alloc | apply Kd.R_drewN | apply Kd.R_drew)); exact HO_10.out) (Kd.R_base ho0) hb); have n3_ := Aside0.mk (Kd.R_lower (Kd.R_new' (Kd.R_new' (Kd.R_new' ho0 (Kd.R_lt (by (with_reducible repeat (first | apply Kd.R_alloc | apply Kd.R_drewN | apply Kd.R_drew)); exact HO_7.out))) (Kd.R_lt (by (with_reducible repeat (first | apply Kd.R_alloc | apply Kd.R_drewN | apply Kd.R_drew)); exact HO_9.out))) (Kd.R_lt (by (with_reducible repeat (first | apply Kd.R_alloc | apply Kd.R_drewN | apply Kd.R_drew)); exact HO_10.out))) (below_size (by repeat (first | (with_reducible first | exact HB.out | apply below_alloc | apply pw_below_drewN | apply below_drew1) | exact HB.out)))); have n4_ := Aside0.mk (below_step (by repeat (first | (with_reducible first | exact HB.out | apply below_alloc | apply pw_below_drewN | apply below_drew1) | exact HB.out)) hb); clear HO_7; clear HO_9; clear HO_10; clear HB; have HO_7 := n0_; have HO_9 := n1_; have HO_10 := n2_; have HO541 := n3_; have HB := n4_; clear n0_ n1_ n2_ n3_ n4_; (try clear hb); (try clear hb2); (try clear hk); (try clear hi); (try clear ho0); obtain ⟨Ao66, co66, eo66⟩ := Kd.R_slice HO541.out; subst eo66) | ((with_reducible refine gate_callee (f := 25) rfl ?_); refine goesL_ (some 49) rfl rfl Try.func25 (by kernel_rfl) rfl #[.slice Ao14 t531.length co14, .slice Ao66 t539.length co66] rfl (by (try simp only [List.map_toArray, List.map_cons, List.map_nil]); first | done | rfl | (simp only [List.length_drop, List.length_take]; rfl)) ?_; (with_reducible refine (laws_eqIntS.calls kj8 _ _ t531 _ _ t539 false _ ?side1 ?side2 ?side3 ?side4 A24.out).mono ?_); (case side1 => repeat (first | exact (Kd.R_reads' HO_9.out).2.2 | (with_reducible refine Kd.C_alloc ?_ _) | (with_reducible refine Kd.C_drewN ?_ _) | (with_reducible refine Kd.C_drew ?_))); (case side2 => exact (Kd.R_reads' HO_9.out).2.1); (case side3 => repeat (first | exact (Kd.R_reads' HO541.out).2.2 | (with_reducible refine Kd.C_alloc ?_ _) | (with_reducible refine Kd.C_drewN ?_ _) | (with_reducible refine Kd.C_drew ?_))); (case side4 => exact (Kd.R_reads' HO541.out).2.1); rintro e w' ⟨rfl, ⟨nd, rfl⟩⟩; refine ⟨_, rfl, ?_⟩))
      go_ret
      exact ⟨by first | rfl | (simp [errW_none, errW_some] <;> rfl) | (simp [*, errW_none, errW_some] <;> rfl), by repeat (first | (with_reducible first | exact HB.out | apply below_alloc | apply pw_below_drewN | apply below_drew1) | exact HB.out)⟩
def laws_FnExactDropWire.Pure : Prop := ∀ (a0 : Int) (l1 : List Int) (a2 : Int), (Lit.int .i64 a0).wf = true → l1.length ≤ maxLen → l1.length * 8 ≤ 140737488351232 → (∀ x ∈ l1, (Lit.int .i64 x).wf = true) → (Lit.int .i64 a2).wf = true → ∃ k, laws_FnExactDropWire.f k a0 l1 a2 = some true
end Go.Proofs.Ytcoommffjbbebaa.P
namespace Go.Proofs.Ytcoommffjbbebaa.Rk
open Go.RowKit Go.ChangeShapes Go.WideShapes Go.Deep Go.Proofs.YtcoommffjbbebaaW.PrintWords
def I64 (n : Int) : Prop := -9223372036854775808 ≤ n ∧ n ≤ 9223372036854775807
theorem I64_of {n : Int} (h : (Lit.int .i64 n).wf = true) : I64 n := by
  have e1 : IntKind.i64.min = -9223372036854775808 := by decide
  have e2 : IntKind.i64.max = 9223372036854775807 := by decide
  simp [Lit.wf, e1, e2] at h
  unfold I64
  omega
section
variable {H : Type} {enc : TypeId × Value → H} {P : Program} {w : World} {base : Nat} {spare : Nat → Bool} {held : Bool} {α : Type}
def Elem (enc : TypeId × Value → H) (P : Program) (w : World) (base : Nat) (spare : Nat → Bool) (held : Bool) (e : TypeId) (d : Kd α) (Q : α → Prop) : Prop :=
  ∀ (fuel : Nat) (cs : List Value) (x : DataW H × List MemPlace), DataW.trod enc P w base spare held fuel e cs = some x → ∃ y, d.K w y cs ∧ Q y
theorem row_of [Inhabited α] {t e : TypeId} {d : Kd α} {Q : α → Prop} {a : Option Addr} {len cap : Nat} {D : DataW H} {ps : List MemPlace} (ht : P.underlying t = some (.slice e)) (hC : P.cellsOf e = d.sz) (he : Elem enc P w base spare held e d Q)
    (h : DataW.Trod enc P w base spare held t (.slice a len cap) D ps) : ∃ l : List α, len = l.length ∧ d.C w a l.length l ∧ l.length ≤ cap ∧ l.length ≤ 9223372036854775807 ∧ ∀ y ∈ l, Q y := by
  obtain ⟨fuel, hf⟩ := h
  rcases open_slice ht hf with ⟨hcs, _⟩ | ⟨ad, len', cap', m, n, D', Pl, hcs, _, hl, hm, hmm, _, hi⟩
  · simp [Value.cells] at hcs
    obtain ⟨rfl, rfl, rfl⟩ := hcs
    exact ⟨[], rfl, Kd.C_nil d w, Nat.zero_le _, by simp, fun y hy => by simp at hy⟩
  · simp [Value.cells] at hcs
    obtain ⟨rfl, rfl, rfl⟩ := hcs
    have hlm : len ≤ m := by rw [hmm]; split <;> omega
    have key : ∀ i, i < len → ∃ y : α, ∃ cs : List Value, cs.length = d.sz ∧ d.K w y cs ∧ Q y ∧ ∀ j u, cs[j]? = some u → w.cell? (ad.add (i * d.sz + j)) = some u := by
      intro i hil
      obtain ⟨cs', hc, htr⟩ := hi i (by omega)
      rw [hC] at hc
      obtain ⟨_, hcl, hat⟩ := World.cells?_some hc
      obtain ⟨y, hK, hQ⟩ := he _ _ _ htr
      refine ⟨y, cs', hcl, hK, hQ, fun j u hu => ?_⟩
      have hj : j < d.sz := by rw [← hcl]; exact (List.getElem?_eq_some_iff.1 hu).1
      rw [← Deep.add_add, hat j hj]
      exact hu
    obtain ⟨f, hff⟩ := choose_lt key
    unfold maxLen at hm
    refine ⟨(List.range len).map f, by simp, ⟨rfl, by simp; omega, fun hn => ⟨ad, rfl, fun j p hp => ?_⟩⟩, by simpa using hl, by simp; omega, fun y hy => ?_⟩
    · have hjl : j < len := by simpa using (List.getElem?_eq_some_iff.1 hp).1
      have : p = f j := by simpa [hjl] using hp.symm
      subst this
      obtain ⟨cs, h1, h2, _, h4⟩ := hff j hjl
      exact ⟨cs, h1, h2, h4⟩
    · obtain ⟨i, hi2, rfl⟩ := List.mem_map.1 hy
      exact (hff i (List.mem_range.1 hi2)).choose_spec.2.2.1
theorem ints_of {t e : TypeId} {k : IntKind} {a : Option Addr} {len cap : Nat} {D : DataW H} {ps : List MemPlace} (ht : P.underlying t = some (.slice e)) (hu : P.underlying e = some (.int k)) (hC : P.cellsOf e = 1)
    (h : DataW.Trod enc P w base spare held t (.slice a len cap) D ps) : ∃ l : List Int, len = l.length ∧ (Kd.int k).C w a l.length l ∧ l.length ≤ cap ∧ l.length ≤ 9223372036854775807 ∧ ∀ y ∈ l, (Lit.int k y).wf = true :=
  row_of (d := Kd.int k) (Q := fun y => (Lit.int k y).wf = true) ht hC (fun fuel cs x hx => by
    obtain ⟨n, rfl, _, hw⟩ := DataW.trod_int hu hx
    exact ⟨n, rfl, hw⟩) h
end
end Go.Proofs.Ytcoommffjbbebaa.Rk
namespace Go.Proofs.Ytcoommffjbbebaa.P
open Go.RowKit Go.ChangeShapes Go.WideShapes Go.Deep Go.Proofs.Ytcoommffjbbebaa.Rk Go.Proofs.YtcoommffjbbebaaW.PrintWords
def Q72 (x : S72) : Prop := I64 x.f0 ∧ I64 x.f1
instance : Inhabited S72 := ⟨z72⟩
def Q28 (x : S28) : Prop := I64 x.f0 ∧ x.f1.size ≤ 9223372036854775807
instance : Inhabited S28 := ⟨z28⟩
def Q100 (x : S100) : Prop := I64 x.f0 ∧ I64 x.f1 ∧ I64 x.f2
instance : Inhabited S100 := ⟨z100⟩
def Q98 (x : S98) : Prop := I64 x.f0 ∧ I64 x.f1 ∧ I64 x.f2
instance : Inhabited S98 := ⟨z98⟩
def Q23 (x : S23) : Prop := I64 x.f0 ∧ x.f1.size ≤ 9223372036854775807
instance : Inhabited S23 := ⟨z23⟩
end Go.Proofs.Ytcoommffjbbebaa.P
namespace Go.Proofs.Ytcoommffjbbebaa.Pl
set_option linter.unusedSimpArgs false
set_option linter.unusedVariables false
open Go.RowKit Go.Proofs.YtcoommffjbbebaaW.PrintWords
theorem wrap_in {n : Int} (h0 : -9223372036854775808 ≤ n) (h1 : n ≤ 9223372036854775807) : wrap64 n = n := by
  unfold wrap64
  omega
theorem wrap_nat (i : Nat) (h : i < 9223372036854775807) : wrap64 ((i : Int) + 1) = ((i + 1 : Nat) : Int) := by
  unfold wrap64
  omega
theorem Ev.const {α : Type} {x : Option α} {r : α} (h : x = some r) : Ev (fun _ => x) r := ⟨0, fun _ _ => h⟩
theorem Ev.ite_pos {α : Type} {c : Prop} [Decidable c] {g f : Nat → Option α} {r : α} (h : c) (k : Ev g r) : Ev (fun n => if c then g n else f n) r := by
  simpa only [if_pos h] using k
theorem Ev.ite_neg {α : Type} {c : Prop} [Decidable c] {g f : Nat → Option α} {r : α} (h : ¬ c) (k : Ev f r) : Ev (fun n => if c then g n else f n) r := by
  simpa only [if_neg h] using k
theorem Ev.bind0 {α β : Type} {x : Option α} {f : Nat → α → Option β} {a : α} {r : β} (h : x = some a) (k : Ev (fun n => f n a) r) : Ev (fun n => x.bind (f n)) r := by
  subst h
  exact k
theorem Ev.loop {ρ : Type} (g : Nat → Nat → Option ρ) (n : Nat) (r : ρ) (hend : Ev (g n) r) (hstep : ∀ i, i < n → Ev (g (i + 1)) r → Ev (g i) r) : ∀ i, i ≤ n → Ev (g i) r := by
  have key : ∀ d i, i + d = n → Ev (g i) r := by
    intro d
    induction d with
    | zero => intro i hi; obtain rfl : i = n := by omega
              exact hend
    | succ d ih => intro i hi; exact hstep i (by omega) (ih (i + 1) (by omega))
  intro i hi
  exact key (n - i) i (by omega)
theorem getD_lt {α : Type} (l : List α) (d : α) (i : Nat) (h : i < l.length) : l.getD i d = l[i] := by
  rw [List.getD_eq_getElem?_getD, List.getElem?_eq_getElem h]
  rfl
theorem fill_set {α : Type} (l : List α) (z : α) (n i : Nat) (hl : l.length = n) (hi : i < n) : (l.take i ++ List.replicate (n - i) z).set i (l[i]'(by omega)) = l.take (i + 1) ++ List.replicate (n - (i + 1)) z := by
  rw [List.set_append_right _ _ (by rw [List.length_take]; omega)]
  have h1 : i - (l.take i).length = 0 := by rw [List.length_take]; omega
  rw [h1, show n - i = (n - (i + 1)) + 1 by omega, List.replicate_succ, List.set_cons_zero, List.take_succ_eq_append_getElem (by omega), List.append_assoc]
  rfl
end Go.Proofs.Ytcoommffjbbebaa.Pl
