/- What the law FnExactChangedBy reaches, part 12: functions as plain Lean functions with the proofs that their calls come to them, and plain lemmas over these. Put together by a program (wip/pack.py). -/
import Derived.Test.YtajogmlblknfdaaKFnExactChangedBya
import Derived.ChangeArms
import Derived.Deep.Slices
import Derived.Deep.Fields
import Derived.WideShapes
import Derived.Test.YtajogmlblknfdaaKFnExactChangedByc
import Derived.KernelRfl
import Derived.Test.YtajogmlblknfdaaKFnExactChangedByj
import Derived.Test.YtajogmlblknfdaaKFnExactChangedByg
import Derived.Test.YtajogmlblknfdaaKFnExactChangedByd
import Derived.Test.YtajogmlblknfdaaKFnExactChangedByh
import Derived.Test.YtajogmlblknfdaaKFnExactChangedByf
import Derived.Test.YtajogmlblknfdaaKFnExactChangedByi
namespace Go.Proofs.Ytajogmlblknfdaa.Rk
open Go.RowKit Go.ChangeShapes Go.WideShapes Go.Deep Go.Proofs.YtajogmlblknfdaaW.PrintWords
def I64 (n : Int) : Prop := -9223372036854775808 ≤ n ∧ n ≤ 9223372036854775807
theorem I64_of {n : Int} (h : (Lit.int .i64 n).wf = true) : I64 n := by
  have e1 : IntKind.i64.min = -9223372036854775808 := by decide
  have e2 : IntKind.i64.max = 9223372036854775807 := by decide
  simp [Lit.wf, e1, e2] at h
  unfold I64
  omega
section
variable {H : Type} {enc : TypeId × Value → H} {P : Program} {w : World} {base : Nat} {spare : Nat → Bool} {held : Bool} {α : Type}
def Elem (enc : TypeId × Value → H) (P : Program) (w : World) (base : Nat) (spare : Nat → Bool) (held : Bool) (e : TypeId) (d : Kd α) (Q : α → Prop) : Prop :=
  ∀ (fuel : Nat) (cs : List Value) (x : DataW H × List MemPlace), DataW.trod enc P w base spare held fuel e cs = some x → ∃ y, d.K w y cs ∧ Q y
theorem row_of [Inhabited α] {t e : TypeId} {d : Kd α} {Q : α → Prop} {a : Option Addr} {len cap : Nat} {D : DataW H} {ps : List MemPlace} (ht : P.underlying t = some (.slice e)) (hC : P.cellsOf e = d.sz) (he : Elem enc P w base spare held e d Q)
    (h : DataW.Trod enc P w base spare held t (.slice a len cap) D ps) : ∃ l : List α, len = l.length ∧ d.C w a l.length l ∧ l.length ≤ cap ∧ l.length ≤ 9223372036854775807 ∧ ∀ y ∈ l, Q y := by
  obtain ⟨fuel, hf⟩ := h
  rcases open_slice ht hf with ⟨hcs, _⟩ | ⟨ad, len', cap', m, n, D', Pl, hcs, _, hl, hm, hmm, _, hi⟩
  · simp [Value.cells] at hcs
    obtain ⟨rfl, rfl, rfl⟩ := hcs
    exact ⟨[], rfl, Kd.C_nil d w, Nat.zero_le _, by simp, fun y hy => by simp at hy⟩
  · simp [Value.cells] at hcs
    obtain ⟨rfl, rfl, rfl⟩ := hcs
    have hlm : len ≤ m := by rw [hmm]; split <;> omega
    have key : ∀ i, i < len → ∃ y : α, ∃ cs : List Value, cs.length = d.sz ∧ d.K w y cs ∧ Q y ∧ ∀ j u, cs[j]? = some u → w.cell? (ad.add (i * d.sz + j)) = some u := by
      intro i hil
      obtain ⟨cs', hc, htr⟩ := hi i (by omega)
      rw [hC] at hc
      obtain ⟨_, hcl, hat⟩ := World.cells?_some hc
      obtain ⟨y, hK, hQ⟩ := he _ _ _ htr
      refine ⟨y, cs', hcl, hK, hQ, fun j u hu => ?_⟩
      have hj : j < d.sz := by rw [← hcl]; exact (List.getElem?_eq_some_iff.1 hu).1
      rw [← Deep.add_add, hat j hj]
      exact hu
    obtain ⟨f, hff⟩ := choose_lt key
    unfold maxLen at hm
    refine ⟨(List.range len).map f, by simp, ⟨rfl, by simp; omega, fun hn => ⟨ad, rfl, fun j p hp => ?_⟩⟩, by simpa using hl, by simp; omega, fun y hy => ?_⟩
    · have hjl : j < len := by simpa using (List.getElem?_eq_some_iff.1 hp).1
      have : p = f j := by simpa [hjl] using hp.symm
      subst this
      obtain ⟨cs, h1, h2, _, h4⟩ := hff j hjl
      exact ⟨cs, h1, h2, h4⟩
    · obtain ⟨i, hi2, rfl⟩ := List.mem_map.1 hy
      exact (hff i (List.mem_range.1 hi2)).choose_spec.2.2.1
end
end Go.Proofs.Ytajogmlblknfdaa.Rk
namespace Go.Proofs.Ytajogmlblknfdaa.P
open Go.RowKit Go.ChangeShapes Go.WideShapes Go.Deep Go.Proofs.Ytajogmlblknfdaa.Rk Go.Proofs.YtajogmlblknfdaaW.PrintWords
theorem cells_3 : Try.prog.cellsOf 3 = 1 := by kernel_rfl
def Q24 (x : S24) : Prop := I64 x.f0 ∧ I64 x.f1
instance : Inhabited S24 := ⟨z24⟩
theorem cells_24 : Try.prog.cellsOf 24 = 2 := by kernel_rfl
set_option maxRecDepth 100000 in
theorem elem24 {H : Type} {enc : TypeId × Value → H} {w : World} {base : Nat} {spare : Nat → Bool} {held : Bool} : Elem enc Try.prog w base spare held 24 k24 Q24 := by
  intro fuel cs x h
  obtain ⟨xs, n, _, _, hlen, hxl, hf⟩ := DataW.trod_struct Try.underlying24 h
  rw [cells_24] at hlen
  match cs, hlen with
  | [c0, c1], _ =>
    have h0 : DataW.trod enc Try.prog w base spare held n 3 (List.take (Try.prog.cellsOf 3) (List.drop 0 [c0, c1])) = xs[0]? := hf 0 _ rfl
    rw [cells_3] at h0
    have y0 : xs[0]? = some (xs[0]'(by rw [hxl]; decide)) := List.getElem?_eq_getElem _
    rw [y0] at h0
    obtain ⟨n0, e0, _, w0⟩ := DataW.trod_int Try.underlying3 h0
    have e0' : c0 = .int .i64 n0 := by simpa using e0
    have h1 : DataW.trod enc Try.prog w base spare held n 3 (List.take (Try.prog.cellsOf 3) (List.drop 1 [c0, c1])) = xs[1]? := hf 1 _ rfl
    rw [cells_3] at h1
    have y1 : xs[1]? = some (xs[1]'(by rw [hxl]; decide)) := List.getElem?_eq_getElem _
    rw [y1] at h1
    obtain ⟨n1, e1, _, w1⟩ := DataW.trod_int Try.underlying3 h1
    have e1' : c1 = .int .i64 n1 := by simpa using e1
    subst e0' e1'
    exact ⟨⟨n0, n1⟩, k24_mk w ⟨n0, n1⟩, I64_of w0, I64_of w1⟩
def Q30 (x : S30) : Prop := I64 x.f0 ∧ I64 x.f1
instance : Inhabited S30 := ⟨z30⟩
def Q38 (x : S38) : Prop := I64 x.f0 ∧ x.f1.size ≤ 9223372036854775807
instance : Inhabited S38 := ⟨z38⟩
end Go.Proofs.Ytajogmlblknfdaa.P
namespace Go.Proofs.Ytajogmlblknfdaa.Pl
set_option linter.unusedSimpArgs false
set_option linter.unusedVariables false
open Go.RowKit Go.Proofs.YtajogmlblknfdaaW.PrintWords
theorem wrap_in {n : Int} (h0 : -9223372036854775808 ≤ n) (h1 : n ≤ 9223372036854775807) : wrap64 n = n := by
  unfold wrap64
  omega
theorem wrap_nat (i : Nat) (h : i < 9223372036854775807) : wrap64 ((i : Int) + 1) = ((i + 1 : Nat) : Int) := by
  unfold wrap64
  omega
theorem Ev.const {α : Type} {x : Option α} {r : α} (h : x = some r) : Ev (fun _ => x) r := ⟨0, fun _ _ => h⟩
theorem Ev.ite_pos {α : Type} {c : Prop} [Decidable c] {g f : Nat → Option α} {r : α} (h : c) (k : Ev g r) : Ev (fun n => if c then g n else f n) r := by
  simpa only [if_pos h] using k
theorem Ev.ite_neg {α : Type} {c : Prop} [Decidable c] {g f : Nat → Option α} {r : α} (h : ¬ c) (k : Ev f r) : Ev (fun n => if c then g n else f n) r := by
  simpa only [if_neg h] using k
theorem Ev.bind0 {α β : Type} {x : Option α} {f : Nat → α → Option β} {a : α} {r : β} (h : x = some a) (k : Ev (fun n => f n a) r) : Ev (fun n => x.bind (f n)) r := by
  subst h
  exact k
theorem Ev.loop {ρ : Type} (g : Nat → Nat → Option ρ) (n : Nat) (r : ρ) (hend : Ev (g n) r) (hstep : ∀ i, i < n → Ev (g (i + 1)) r → Ev (g i) r) : ∀ i, i ≤ n → Ev (g i) r := by
  have key : ∀ d i, i + d = n → Ev (g i) r := by
    intro d
    induction d with
    | zero => intro i hi; obtain rfl : i = n := by omega
              exact hend
    | succ d ih => intro i hi; exact hstep i (by omega) (ih (i + 1) (by omega))
  intro i hi
  exact key (n - i) i (by omega)
theorem Ev.loop_to {ρ : Type} (g : Nat → Nat → Option ρ) (n : Nat) (R : Nat → ρ) (hend : Ev (g n) (R n)) (hstep : ∀ i, i < n → Ev (g (i + 1)) (R (i + 1)) → Ev (g i) (R i)) : ∀ i, i ≤ n → Ev (g i) (R i) := by
  have key : ∀ d i, i + d = n → Ev (g i) (R i) := by
    intro d
    induction d with
    | zero => intro i hi; obtain rfl : i = n := by omega
              exact hend
    | succ d ih => intro i hi; exact hstep i (by omega) (ih (i + 1) (by omega))
  intro i hi
  exact key (n - i) i (by omega)
theorem getD_lt {α : Type} (l : List α) (d : α) (i : Nat) (h : i < l.length) : l.getD i d = l[i] := by
  rw [List.getD_eq_getElem?_getD, List.getElem?_eq_getElem h]
  rfl
theorem fill_set {α : Type} (l : List α) (z : α) (n i : Nat) (hl : l.length = n) (hi : i < n) : (l.take i ++ List.replicate (n - i) z).set i (l[i]'(by omega)) = l.take (i + 1) ++ List.replicate (n - (i + 1)) z := by
  rw [List.set_append_right _ _ (by rw [List.length_take]; omega)]
  have h1 : i - (l.take i).length = 0 := by rw [List.length_take]; omega
  rw [h1, show n - i = (n - (i + 1)) + 1 by omega, List.replicate_succ, List.set_cons_zero, List.take_succ_eq_append_getElem (by omega), List.append_assoc]
  rfl
end Go.Proofs.Ytajogmlblknfdaa.Pl
namespace Go.Proofs.Ytajogmlblknfdaa.Pure
set_option linter.unusedSimpArgs false
set_option linter.unusedVariables false
open Go.RowKit Go.Proofs.YtajogmlblknfdaaW.PrintWords Go.Proofs.Ytajogmlblknfdaa.P Go.Proofs.Ytajogmlblknfdaa.Pl
abbrev LPt := S24
abbrev Pt := S30
abbrev rdP (l : List Pt) (i : Nat) : Pt := rd_T30 l (i : Int)
def toP (x : LPt) : Pt := ⟨x.f0, x.f1⟩
theorem rdP_lt (l : List Pt) (i : Nat) (h : i < l.length) : rdP l i = l[i] := by
  unfold rdP rd_T30
  rw [Int.toNat_natCast, getD_lt _ _ _ h]
theorem szPointS_eq (l : List LPt) (a : Int) (h0 : 0 ≤ a) (h1 : a ≤ 1048576) (hl : l.length ≤ 9223372036854775807) : laws_szPointS.f l a = some (if a < l.length then -1 else a - l.length) := by
  unfold laws_szPointS.f
  rw [wrap_in (by omega) (by omega)]
  by_cases h : a < (l.length : Int)
  · rw [if_pos h, if_pos (by omega)]
  · rw [if_neg h, if_neg (by omega)]
theorem toPointS_ev (l : List LPt) (hl : l.length ≤ 1048576) : Ev (fun k => laws_toPointS.f k l) (l.map toP) := by
  have hm : (l.map toP).length = l.length := List.length_map ..
  have key := Ev.loop (fun i k => laws_toPointS.l0 k l ((l.map toP).take i ++ List.replicate (l.length - i) z30) i) l.length (l.map toP) ?_ ?_ 0 (by omega)
  · unfold laws_toPointS.f
    simp only [Int.toNat_natCast]
    exact Ev.ite_pos (by omega) (Ev.ite_pos (by omega) (by simpa using key))
  · refine Ev.step (fun k => laws_toPointS.l0.eq_2 ..) ?_
    refine Ev.ite_neg (by omega) (Ev.const ?_)
    rw [List.take_of_length_le (by omega)]
    simp
  · intro i hi ih
    refine Ev.step (fun k => laws_toPointS.l0.eq_2 ..) ?_
    refine Ev.ite_pos (by omega) (Ev.ite_pos (by omega) ?_)
    refine Ev.bind0 rfl ?_
    refine Ev.ite_pos (by simp; omega) ?_
    rw [wrap_nat i (by omega)]
    have hx : (⟨(rd_T24 l i).f0, (rd_T24 l i).f1⟩ : Pt) = (l.map toP)[i]'(by omega) := by
      simp only [List.getElem_map, toP, rd_T24, Int.toNat_natCast]
      rw [getD_lt _ _ _ hi]
    have hs := fill_set (l.map toP) z30 l.length i hm hi
    rw [← hs, ← hx] at ih
    exact ih
theorem eqPointS_self (l : List Pt) (hl : l.length ≤ 1048576) : Ev (fun k => laws_eqPointS.f k l l) true := by
  unfold laws_eqPointS.f
  refine Ev.ite_pos rfl ?_
  refine Ev.loop (fun i k => laws_eqPointS.l0 k l l i) l.length true ?_ ?_ 0 (by omega)
  · refine Ev.step (fun k => laws_eqPointS.l0.eq_2 ..) ?_
    exact Ev.ite_neg (by omega) (Ev.now _)
  · intro i hi ih
    refine Ev.step (fun k => laws_eqPointS.l0.eq_2 ..) ?_
    refine Ev.ite_pos (by omega) (Ev.ite_pos (by omega) (Ev.ite_pos (by omega) ?_))
    refine Ev.bind0 (a := true) (by unfold laws_eqPoint.f; simp) ?_
    refine Ev.ite_pos rfl ?_
    rw [wrap_nat i (by omega)]
    exact ih
def markP (i : Nat) : Pt := ⟨((2 * i + 1 : Nat) : Int), ((2 * i + 2 : Nat) : Int)⟩
def marksP (n : Nat) : List Pt := (List.range n).map markP
theorem marksP_length (n : Nat) : (marksP n).length = n := by simp [marksP]
theorem marksP_set (l : List Pt) (n i : Nat) (hl : l.length = n) (hi : i < n) : (marksP i ++ l.drop i).set i (markP i) = marksP (i + 1) ++ l.drop (i + 1) := by
  have h0 : (marksP i).length = i := marksP_length i
  rw [List.set_append_right _ _ (by omega), h0, Nat.sub_self, List.drop_eq_getElem_cons (by omega), List.set_cons_zero]
  simp [marksP, List.range_succ]
theorem markPointS_ev (l : List Pt) (hl : l.length ≤ 1048576) : Ev (fun k => laws_markPointS.f k l 1) (((2 * l.length + 1 : Nat) : Int), marksP l.length) := by
  have key := Ev.loop (fun i k => laws_markPointS.l0 k (marksP i ++ l.drop i) ((2 * i + 1 : Nat) : Int) i) l.length (((2 * l.length + 1 : Nat) : Int), marksP l.length) ?_ ?_ 0 (by omega)
  · unfold laws_markPointS.f
    simpa [marksP] using key
  · refine Ev.step (fun k => laws_markPointS.l0.eq_2 ..) ?_
    refine Ev.ite_neg (by simp [marksP_length]) (Ev.const ?_)
    simp
  · intro i hi ih
    have hlen : i < (marksP i ++ l.drop i).length := by simp [marksP_length]; omega
    have hset := marksP_set l l.length i rfl hi
    generalize marksP i ++ l.drop i = L at hlen hset ⊢
    refine Ev.step (fun k => laws_markPointS.l0.eq_2 ..) ?_
    refine Ev.ite_pos (by omega) (Ev.ite_pos (by omega) (Ev.bind0 rfl ?_))
    have e1 : wrap64 (((2 * i + 1 : Nat) : Int) + 1) = ((2 * i + 2 : Nat) : Int) := wrap_nat (2 * i + 1) (by omega)
    have e2 : wrap64 (((2 * i + 2 : Nat) : Int) + 1) = ((2 * (i + 1) + 1 : Nat) : Int) := wrap_nat (2 * i + 2) (by omega)
    rw [e1, e2, wrap_nat i (by omega), Int.toNat_natCast]
    have e3 : ∀ b, (rd_T30 (L.set i (⟨((2 * i + 1 : Nat) : Int), b⟩ : Pt)) (i : Int)).f0 = ((2 * i + 1 : Nat) : Int) := by
      intro b
      have := rdP_lt (L.set i (⟨((2 * i + 1 : Nat) : Int), b⟩ : Pt)) i (by rw [List.length_set]; exact hlen)
      rw [List.getElem_set_self] at this
      exact congrArg (fun p : Pt => p.f0) this
    rw [e3, List.set_set]
    rw [← hset] at ih
    exact ih
end Go.Proofs.Ytajogmlblknfdaa.Pure
namespace Go.Proofs.Ytajogmlblknfdaa.P
open Go.RowKit Go.Proofs.YtajogmlblknfdaaW.PrintWords Go.Proofs.YtajogmlblknfdaaW.PrintLast Go.Proofs.YtajogmlblknfdaaW.PrintMore
def ix (i j k : Int) : Nat := 1 + i.toNat * 49 + j.toNat * 7 + k.toNat
def setL (l : List Int) (i j k v : Int) : List Int := ((l.set (1 + i.toNat * 49 + j.toNat * 7 + k.toNat) v).set (1 + j.toNat * 49 + k.toNat * 7 + i.toNat) v).set (1 + k.toNat * 49 + i.toNat * 7 + j.toNat) v
def chiSet (l : List Int) (i j k v : Int) : List Int := setL (setL l i j k v) i k j (wrap64 (-v))
def impl_chi_set.f (l : List Int) (i j k v : Int) : Option (List Int) :=
  if l.length = 344 ∧ (0 ≤ i ∧ i < 7) ∧ (0 ≤ j ∧ j < 7) ∧ (0 ≤ k ∧ k < 7) then some (chiSet l i j k v) else none
abbrev TBL (w : World) (base : Nat) (ok : Nat → Prop) (v : Value) (l : List Int) : Prop := Kd.R (Kd.int .i64) 97 w base ok v l
theorem tbl_cell {w : World} {base g n cap : Nat} {ok : Nat → Prop} {l : List Int} (h : TBL w base ok (.slice (some ⟨g, 0, none⟩) n cap) l) (o : Nat) (ho : o < n) : ∃ v, w.cell? ⟨g, o, none⟩ = some v ∧ w.frozen? ⟨g, o, none⟩ = false := by
  have := Kd.R_celln 0 h (o : Int) (by omega) (by omega)
  rw [Int.toNat_natCast] at this
  exact ⟨_, this⟩
theorem tbl_set {w : World} {base g n cap : Nat} {ok : Nat → Prop} {l : List Int} (h : TBL w base ok (.slice (some ⟨g, 0, none⟩) n cap) l) (o : Nat) (v : Int) : TBL (w.setCell ⟨g, o, none⟩ (.int .i64 v)) base ok (.slice (some ⟨g, 0, none⟩) n cap) (l.set o v) := by
  have := Kd.R_putn h (o : Int) v
  rw [Int.toNat_natCast] at this
  exact this
end Go.Proofs.Ytajogmlblknfdaa.P
namespace Go.Proofs.Ytajogmlblknfdaa.Pure
set_option linter.unusedSimpArgs false
set_option linter.unusedVariables false
open Go.RowKit Go.Proofs.YtajogmlblknfdaaW.PrintWords Go.Proofs.Ytajogmlblknfdaa.P Go.Proofs.Ytajogmlblknfdaa.Pl
abbrev T3 := S60
def tri : Nat → List T3
  | 3 => [⟨0, 1, 2⟩]
  | 4 => [⟨0, 1, 2⟩, ⟨0, 1, 3⟩, ⟨0, 2, 3⟩, ⟨1, 2, 3⟩]
  | 5 => [⟨0, 1, 2⟩, ⟨0, 1, 3⟩, ⟨0, 1, 4⟩, ⟨0, 2, 3⟩, ⟨0, 2, 4⟩, ⟨0, 3, 4⟩, ⟨1, 2, 3⟩, ⟨1, 2, 4⟩, ⟨1, 3, 4⟩, ⟨2, 3, 4⟩]
  | 6 => [⟨0, 1, 2⟩, ⟨0, 1, 3⟩, ⟨0, 1, 4⟩, ⟨0, 1, 5⟩, ⟨0, 2, 3⟩, ⟨0, 2, 4⟩, ⟨0, 2, 5⟩, ⟨0, 3, 4⟩, ⟨0, 3, 5⟩, ⟨0, 4, 5⟩, ⟨1, 2, 3⟩, ⟨1, 2, 4⟩, ⟨1, 2, 5⟩, ⟨1, 3, 4⟩, ⟨1, 3, 5⟩, ⟨1, 4, 5⟩, ⟨2, 3, 4⟩, ⟨2, 3, 5⟩, ⟨2, 4, 5⟩, ⟨3, 4, 5⟩]
  | 7 => [⟨0, 1, 2⟩, ⟨0, 1, 3⟩, ⟨0, 1, 4⟩, ⟨0, 1, 5⟩, ⟨0, 1, 6⟩, ⟨0, 2, 3⟩, ⟨0, 2, 4⟩, ⟨0, 2, 5⟩, ⟨0, 2, 6⟩, ⟨0, 3, 4⟩, ⟨0, 3, 5⟩, ⟨0, 3, 6⟩, ⟨0, 4, 5⟩, ⟨0, 4, 6⟩, ⟨0, 5, 6⟩, ⟨1, 2, 3⟩, ⟨1, 2, 4⟩, ⟨1, 2, 5⟩, ⟨1, 2, 6⟩, ⟨1, 3, 4⟩, ⟨1, 3, 5⟩, ⟨1, 3, 6⟩, ⟨1, 4, 5⟩, ⟨1, 4, 6⟩, ⟨1, 5, 6⟩, ⟨2, 3, 4⟩, ⟨2, 3, 5⟩, ⟨2, 3, 6⟩, ⟨2, 4, 5⟩, ⟨2, 4, 6⟩, ⟨2, 5, 6⟩, ⟨3, 4, 5⟩, ⟨3, 4, 6⟩, ⟨3, 5, 6⟩, ⟨4, 5, 6⟩]
  | _ => []
theorem tri_some : ∀ n : Nat, n ≤ 7 → impl_triplesOf.f 500 n = some (tri n)
  | 0, _ => by kernel_rfl
  | 1, _ => by kernel_rfl
  | 2, _ => by kernel_rfl
  | 3, _ => by kernel_rfl
  | 4, _ => by kernel_rfl
  | 5, _ => by kernel_rfl
  | 6, _ => by kernel_rfl
  | 7, _ => by kernel_rfl
  | n + 8, h => absurd h (by omega)
theorem triplesOf_ev (n : Nat) (h : n ≤ 7) : Ev (fun k => impl_triplesOf.f k n) (tri n) := Ev.of (impl_triplesOf.mono _) (tri_some n h)
def okT (n : Nat) (t : T3) : Bool := decide (0 ≤ t.f0 ∧ t.f0 < t.f1 ∧ t.f1 < t.f2 ∧ t.f2 < n)
theorem tri_ok (n : Nat) (h : n ≤ 7) : (tri n).all (okT n) = true := by
  have : (List.range 8).all (fun n => (tri n).all (okT n)) = true := by decide +kernel
  rw [List.all_eq_true] at this
  exact this n (by simp; omega)
def put3 (l : List Int) (t : T3) (v : Int) : List Int := chiSet l t.f0 t.f1 t.f2 v
def fill (v : Nat → Int) : List T3 → Nat → List Int → List Int
  | [], _, l => l
  | t :: ts, m, l => fill v ts (m + 1) (put3 l t (v m))
def par (t : T3) (x y z : Int) : Option Bool :=
  if (x = t.f0 ∧ y = t.f1 ∧ z = t.f2) ∨ (x = t.f1 ∧ y = t.f2 ∧ z = t.f0) ∨ (x = t.f2 ∧ y = t.f0 ∧ z = t.f1) then some true
  else if (x = t.f0 ∧ y = t.f2 ∧ z = t.f1) ∨ (x = t.f2 ∧ y = t.f1 ∧ z = t.f0) ∨ (x = t.f1 ∧ y = t.f0 ∧ z = t.f2) then some false else none
def src : List T3 → Nat → Int → Int → Int → Option (Nat × Bool)
  | [], _, _, _, _ => none
  | t :: ts, m, x, y, z => (src ts (m + 1) x y z).or ((par t x y z).map fun b => (m, b))
def sval (v : Nat → Int) (o : Int) : Option (Nat × Bool) → Int
  | some (m, true) => v m
  | some (m, false) => wrap64 (-v m)
  | none => o
def sgn (x : Int) : Int := if x < 0 then -1 else if x > 0 then 1 else 0
theorem signOf_eq (x : Int) : impl_signOf.f x = some (sgn x) := by
  unfold impl_signOf.f cmp_Compare_int.f cmp_isNaN_int.f sgn
  simp only [bne_self_eq_false, Option.bind_some, Bool.false_eq_true, if_false]
  by_cases h : x < 0
  · simp [h]
  · by_cases h2 : x > 0
    · simp [h, h2]
    · simp [h, h2]
theorem l2Sign_eq (x : Int) : spec_l2Sign.f x = some (sgn x) := by
  unfold spec_l2Sign.f spec_l1Bit.f sgn
  by_cases h : x < 0
  · have h2 : ¬ x > 0 := by omega
    simp [h, h2, wrap64]
  · by_cases h2 : x > 0
    · simp [h, h2, wrap64]
    · simp [h, h2, wrap64]
def nearB (b : Int) (p : Pt) : Bool := decide (-b ≤ p.f0 ∧ p.f0 ≤ b) && decide (-b ≤ p.f1 ∧ p.f1 ≤ b)
def areaP (a b c : Pt) : Int := wrap64 ((wrap64 ((wrap64 (b.f0 - a.f0)) * (wrap64 (c.f1 - a.f1)))) - (wrap64 ((wrap64 (b.f1 - a.f1)) * (wrap64 (c.f0 - a.f0)))))
theorem range_dropP (n i : Nat) (h : i < n) : (List.range n).drop i = i :: (List.range n).drop (i + 1) := by
  rw [List.drop_eq_getElem_cons (by simpa using h)]
  simp
theorem l1In_p (x a b : Int) : spec_l1In.f x a b = some (decide (a ≤ x ∧ x ≤ b)) := by
  unfold spec_l1In.f
  by_cases h : x ≥ a
  · rw [if_pos h]
    simp [h]
  · rw [if_neg h]
    simp [show ¬ a ≤ x by omega]
theorem isFar_p (x b : Int) (hb : 0 ≤ b ∧ b ≤ 1000000) : impl_isFar.f x b = some (!decide (-b ≤ x ∧ x ≤ b)) := by
  unfold impl_isFar.f
  rw [wrap_in (by omega) (by omega)]
  by_cases h : x < -b
  · rw [if_pos h]
    simp [show ¬ -b ≤ x by omega]
  · rw [if_neg h]
    by_cases h2 : x ≤ b
    · simp [h2, show -b ≤ x by omega, show ¬ x > b by omega]
    · simp [h2, show x > b by omega]
theorem fits_eq (p : Pt) (b : Int) (hb : 0 ≤ b ∧ b ≤ 1000000) : spec_l2Fits.f p.f0 p.f1 b = some (nearB b p) := by
  unfold spec_l2Fits.f nearB
  rw [wrap_in (by omega) (by omega), l1In_p, l1In_p]
  by_cases h : -b ≤ p.f0 ∧ p.f0 ≤ b
  · simp [h]
  · simp [h]
theorem near1_eq (p : Pt) (b : Int) (hb : 0 ≤ b ∧ b ≤ 1000000) : impl_areNear_1.f p.f0 p.f1 b = some (!nearB b p) := by
  unfold impl_areNear_1.f nearB
  rw [isFar_p _ _ hb, isFar_p _ _ hb]
  by_cases h : -b ≤ p.f0 ∧ p.f0 ≤ b
  · simp [h]
  · simp [h]
def nearAll (b : Int) (l : List Pt) : Bool := (List.range l.length).all fun i => nearB b (rdP l i)
theorem areNear_ev (b : Int) (hb : 0 ≤ b ∧ b ≤ 1000000) (l : List Pt) (hl : l.length ≤ 1048576) : Ev (fun k => impl_areNear.f k b l) (nearAll b l) := by
  have key : ∀ d i, i + d = l.length → ∃ r, Ev (fun k => slices_IndexFunc_Simpl_Point_impl_Point_impl_areNear_1.l0 k l l.length i b) r ∧ decide (r ≥ 0) = !((List.range l.length).drop i).all fun j => nearB b (rdP l j) := by
    intro d
    induction d with
    | zero =>
      intro i hi
      refine ⟨-1, Ev.step (fun k => slices_IndexFunc_Simpl_Point_impl_Point_impl_areNear_1.l0.eq_2 ..) (Ev.ite_neg (by omega) (Ev.now _)), ?_⟩
      rw [List.drop_of_length_le (by simp; omega)]
      rfl
    | succ d ih =>
      intro i hi
      obtain ⟨r, hr, he⟩ := ih (i + 1) (by omega)
      rw [range_dropP _ i (by omega), List.all_cons]
      cases hn : nearB b (rdP l i) with
      | false =>
        refine ⟨i, Ev.step (fun k => slices_IndexFunc_Simpl_Point_impl_Point_impl_areNear_1.l0.eq_2 ..) (Ev.ite_pos (by omega) (Ev.ite_pos (by omega) (Ev.ite_pos (by omega) (Ev.bind0 (near1_eq _ _ hb) (Ev.ite_pos (by rw [hn]; rfl) (Ev.now _)))))), ?_⟩
        simp
      | true =>
        refine ⟨r, Ev.step (fun k => slices_IndexFunc_Simpl_Point_impl_Point_impl_areNear_1.l0.eq_2 ..) (Ev.ite_pos (by omega) (Ev.ite_pos (by omega) (Ev.ite_pos (by omega) (Ev.bind0 (near1_eq _ _ hb) (Ev.ite_neg (by rw [hn]; decide) ?_))))), ?_⟩
        · rw [wrap_nat i (by omega)]
          exact hr
        · rw [he, Bool.true_and]
  obtain ⟨r, hr, he⟩ := key l.length 0 (by omega)
  unfold impl_areNear.f slices_ContainsFunc_Simpl_Point_impl_Point_impl_areNear_1.f slices_IndexFunc_Simpl_Point_impl_Point_impl_areNear_1.f
  refine Ev.bind (Ev.bind hr (Ev.now _)) (Ev.const ?_)
  rw [he, List.drop_zero, Bool.not_not]
  rfl
theorem TurnOf_ev (a b c : Pt) (ha : nearB 50 a = true) (hb : nearB 50 b = true) (hc : nearB 50 c = true) : Ev (fun k => impl_TurnOf.f k a.f0 a.f1 b.f0 b.f1 c.f0 c.f1) (sgn (areaP a b c)) := by
  unfold impl_TurnOf.f
  have h := areNear_ev 1000 (by omega) [a, b, c] (by simp)
  have e : nearAll 1000 [a, b, c] = true := by
    unfold nearB at ha hb hc
    simp only [Bool.and_eq_true, decide_eq_true_eq] at ha hb hc
    simp only [nearAll, List.length_cons, List.length_nil, List.range_succ, List.range_zero, List.nil_append, List.cons_append, List.all_cons, List.all_nil, Bool.and_true, Bool.and_eq_true]
    refine ⟨?_, ?_, ?_⟩
    · show nearB 1000 a = true
      unfold nearB
      simp only [Bool.and_eq_true, decide_eq_true_eq]
      omega
    · show nearB 1000 b = true
      unfold nearB
      simp only [Bool.and_eq_true, decide_eq_true_eq]
      omega
    · show nearB 1000 c = true
      unfold nearB
      simp only [Bool.and_eq_true, decide_eq_true_eq]
      omega
  rw [e] at h
  exact Ev.bind h (Ev.ite_pos rfl (Ev.bind0 rfl (Ev.bind0 (signOf_eq _) (Ev.now _))))
theorem sgn_zero (x : Int) : sgn x = 0 ↔ x = 0 := by
  unfold sgn
  split
  · omega
  · split <;> omega
def bentT (l : List Pt) (t : T3) : Bool := areaP (rd_T30 l t.f0) (rd_T30 l t.f1) (rd_T30 l t.f2) != 0
def bent (l : List Pt) (k j i : Nat) : Bool := areaP (rdP l k) (rdP l j) (rdP l i) != 0
def areP (l : List Pt) : Bool := decide (3 ≤ l.length ∧ l.length ≤ 7) && (nearAll 50 l && (tri l.length).all (bentT l))
theorem nearAll_at {b : Int} {l : List Pt} (h : nearAll b l = true) (i : Nat) (hi : i < l.length) : nearB b (rdP l i) = true := by
  unfold nearAll at h
  rw [List.all_eq_true] at h
  exact h i (by simpa using hi)
theorem impl_ArePoints_ev (l : List Pt) (hl : l.length ≤ 1048576) : Ev (fun k => impl_ArePoints.f k l) (areP l) := by
  unfold impl_ArePoints.f areP
  have no : Ev (fun k => impl_ArePoints.j0 k l true) false := Ev.step (fun k => impl_ArePoints.j0.eq_2 ..) (Ev.ite_pos rfl (Ev.now _))
  by_cases h3 : (l.length : Int) < 3
  · rw [show decide (3 ≤ l.length ∧ l.length ≤ 7) = false from decide_eq_false (by omega), Bool.false_and]
    exact Ev.ite_pos h3 no
  refine Ev.ite_neg h3 ?_
  by_cases h7 : (l.length : Int) > 7
  · rw [show decide (3 ≤ l.length ∧ l.length ≤ 7) = false from decide_eq_false (by omega), Bool.false_and]
    exact Ev.ite_pos h7 no
  refine Ev.ite_neg h7 (Ev.bind (areNear_ev 50 (by omega) l hl) ?_)
  rw [show decide (3 ≤ l.length ∧ l.length ≤ 7) = true from decide_eq_true (by omega), Bool.true_and]
  cases hn : nearAll 50 l with
  | false => exact no
  | true =>
    rw [Bool.true_and]
    refine Ev.step (fun k => impl_ArePoints.j0.eq_2 ..) (Ev.ite_neg (by simp) (Ev.bind (triplesOf_ev l.length (by omega)) ?_))
    have h35 : (tri l.length).length ≤ 1000 := by
      have : (List.range 8).all (fun n => decide ((tri n).length ≤ 1000)) = true := by decide +kernel
      rw [List.all_eq_true] at this
      simpa using this l.length (by simp; omega)
    have key := Ev.loop_to (fun i k => impl_ArePoints.l0 k l (tri l.length) (tri l.length).length i) (tri l.length).length (fun i => ((tri l.length).drop i).all (bentT l)) ?_ ?_ 0 (by omega)
    · simpa using key
    · refine Ev.step (fun k => impl_ArePoints.l0.eq_2 ..) (Ev.ite_neg (by omega) (Ev.const ?_))
      rw [List.drop_of_length_le (by omega)]
      rfl
    · intro i hi ih
      have ht := tri_ok l.length (by omega)
      rw [List.all_eq_true] at ht
      have ht := ht _ (List.getElem_mem hi)
      rw [List.drop_eq_getElem_cons hi, List.all_cons]
      refine Ev.step (fun k => impl_ArePoints.l0.eq_2 ..) (Ev.ite_pos (by omega) (Ev.ite_pos (by omega) (Ev.ite_pos (by omega) ?_)))
      have hr : rd_T60 (tri l.length) (i : Int) = (tri l.length)[i] := by
        unfold rd_T60
        rw [Int.toNat_natCast, getD_lt _ _ _ hi]
      rw [hr]
      generalize (tri l.length)[i] = t at ht ⊢
      unfold okT at ht
      rw [decide_eq_true_eq] at ht
      refine Ev.ite_pos (by omega) (Ev.ite_pos (by omega) (Ev.ite_pos (by omega) (Ev.ite_pos (by omega) (Ev.ite_pos (by omega) (Ev.ite_pos (by omega) ?_)))))
      have hnear : ∀ x : Int, 0 ≤ x → x < (l.length : Int) → nearB 50 (rd_T30 l x) = true := by
        intro x h0 h1
        obtain ⟨x, rfl⟩ := Int.eq_ofNat_of_zero_le h0
        exact nearAll_at hn x (by omega)
      refine Ev.bind (TurnOf_ev _ _ _ (hnear t.f0 (by omega) (by omega)) (hnear t.f1 (by omega) (by omega)) (hnear t.f2 (by omega) (by omega))) ?_
      rw [wrap_nat i (by omega)]
      by_cases hz : areaP (rd_T30 l t.f0) (rd_T30 l t.f1) (rd_T30 l t.f2) = 0
      · rw [show bentT l t = false by unfold bentT; simpa using hz, Bool.false_and]
        exact Ev.ite_pos ((sgn_zero _).mpr hz) (Ev.now _)
      · rw [show bentT l t = true by unfold bentT; simpa using hz, Bool.true_and]
        exact Ev.ite_neg (fun h => hz ((sgn_zero _).mp h)) ih
def okPt (l : List Pt) (i : Nat) : Bool := nearB 50 (rdP l i) && (List.range i).all fun j => (List.range j).all fun k => bent l k j i
theorem spec_loop_p (l : List Pt) (hl : l.length ≤ 1048576) : Ev (fun k => spec_ArePoints.l0 k l ((0 : Nat) : Int)) ((List.range l.length).all (okPt l)) := by
  have key := Ev.loop_to (fun i k => spec_ArePoints.l0 k l i) l.length (fun i => ((List.range l.length).drop i).all (okPt l)) ?_ ?_ 0 (by omega)
  · simpa using key
  · refine Ev.step (fun k => spec_ArePoints.l0.eq_2 ..) (Ev.ite_neg (by omega) (Ev.const ?_))
    rw [List.drop_of_length_le (by simp)]
    rfl
  · intro i hi ih
    rw [range_dropP _ i hi, List.all_cons, show okPt l i = (nearB 50 (rdP l i) && (List.range i).all fun j => (List.range j).all fun k => bent l k j i) from rfl]
    refine Ev.step (fun k => spec_ArePoints.l0.eq_2 ..) (Ev.ite_pos (by omega) (Ev.ite_pos (by omega) (Ev.bind0 (fits_eq _ 50 (by omega)) ?_)))
    cases hn : nearB 50 (rdP l i) with
    | false => exact Ev.ite_neg (by simp) (Ev.now _)
    | true =>
      refine Ev.ite_pos rfl ?_
      rw [Bool.true_and]
      have key1 := Ev.loop_to (fun j k => spec_ArePoints.l1 k l i j) i (fun j => (((List.range i).drop j).all fun j => (List.range j).all fun k => bent l k j i) && ((List.range l.length).drop (i + 1)).all (okPt l)) ?_ ?_ 0 (by omega)
      · simpa using key1
      · refine Ev.step (fun k => spec_ArePoints.l1.eq_2 ..) (Ev.ite_neg (by omega) ?_)
        rw [List.drop_of_length_le (by simp), wrap_nat i (by omega)]
        simpa using ih
      · intro j hj ih1
        rw [range_dropP _ j hj, List.all_cons]
        refine Ev.step (fun k => spec_ArePoints.l1.eq_2 ..) (Ev.ite_pos (by omega) ?_)
        have key2 := Ev.loop_to (fun m k => spec_ArePoints.l2 k l i j m) j (fun m => (((List.range j).drop m).all fun k => bent l k j i) && ((((List.range i).drop (j + 1)).all fun j => (List.range j).all fun k => bent l k j i) && ((List.range l.length).drop (i + 1)).all (okPt l))) ?_ ?_ 0 (by omega)
        · rw [Bool.and_assoc]
          simpa using key2
        · refine Ev.step (fun k => spec_ArePoints.l2.eq_2 ..) (Ev.ite_neg (by omega) ?_)
          rw [List.drop_of_length_le (by simp), wrap_nat j (by omega)]
          simpa using ih1
        · intro m hm ih2
          rw [range_dropP _ m hm, List.all_cons]
          refine Ev.step (fun k => spec_ArePoints.l2.eq_2 ..) (Ev.ite_pos (by omega) (Ev.ite_pos (by omega) (Ev.ite_pos (by omega) (Ev.ite_pos (by omega) (Ev.ite_pos (by omega) (Ev.ite_pos (by omega) (Ev.ite_pos (by omega) (Ev.bind0 (a := areaP (rdP l m) (rdP l j) (rdP l i)) rfl ?_))))))))
          rw [wrap_nat m (by omega)]
          by_cases hz : areaP (rdP l m) (rdP l j) (rdP l i) = 0
          · rw [show bent l m j i = false by unfold bent; simpa using hz, Bool.false_and, Bool.false_and]
            exact Ev.ite_pos hz (Ev.now _)
          · rw [show bent l m j i = true by unfold bent; simpa using hz, Bool.true_and]
            exact Ev.ite_neg hz ih2
theorem all_in : (List.range 8).all (fun n => (List.range n).all fun i => (List.range i).all fun j => (List.range j).all fun k => (tri n).any fun t => t.f0 == (k : Int) && t.f1 == (j : Int) && t.f2 == (i : Int)) = true := by decide +kernel
theorem tri_in (n i j k : Nat) (hn : n ≤ 7) (hi : i < n) (hj : j < i) (hk : k < j) : ∃ t ∈ tri n, t = (⟨k, j, i⟩ : T3) := by
  have h := all_in
  rw [List.all_eq_true] at h
  have h := h n (by simp; omega)
  rw [List.all_eq_true] at h
  have h := h i (by simpa using hi)
  rw [List.all_eq_true] at h
  have h := h j (by simpa using hj)
  rw [List.all_eq_true] at h
  have h := h k (by simpa using hk)
  obtain ⟨t, ht, he⟩ := List.any_eq_true.mp h
  refine ⟨t, ht, ?_⟩
  simp only [Bool.and_eq_true, beq_iff_eq] at he
  obtain ⟨a, b, c⟩ := t
  obtain ⟨⟨rfl, rfl⟩, rfl⟩ := he
  rfl
theorem areP_eq (l : List Pt) (h : 3 ≤ l.length ∧ l.length ≤ 7) : (List.range l.length).all (okPt l) = (nearAll 50 l && (tri l.length).all (bentT l)) := by
  rw [Bool.eq_iff_iff, Bool.and_eq_true, List.all_eq_true, List.all_eq_true]
  unfold nearAll
  rw [List.all_eq_true]
  constructor
  · intro g
    constructor
    · intro i hi
      have := g i hi
      unfold okPt at this
      rw [Bool.and_eq_true] at this
      exact this.1
    · intro t ht
      have hk := tri_ok l.length h.2
      rw [List.all_eq_true] at hk
      have hk := hk t ht
      obtain ⟨a, b, c⟩ := t
      unfold okT at hk
      rw [decide_eq_true_eq] at hk
      dsimp only at hk
      obtain ⟨a, rfl⟩ := Int.eq_ofNat_of_zero_le hk.1
      obtain ⟨b, rfl⟩ := Int.eq_ofNat_of_zero_le (show 0 ≤ b by omega)
      obtain ⟨c, rfl⟩ := Int.eq_ofNat_of_zero_le (show 0 ≤ c by omega)
      have := g c (by simp; omega)
      unfold okPt at this
      rw [Bool.and_eq_true, List.all_eq_true] at this
      have := this.2 b (by simp; omega)
      rw [List.all_eq_true] at this
      have := this a (by simp; omega)
      unfold bent at this
      unfold bentT
      exact this
  · rintro ⟨g1, g2⟩ i hi
    unfold okPt
    rw [Bool.and_eq_true, List.all_eq_true]
    refine ⟨g1 i hi, fun j hj => ?_⟩
    rw [List.all_eq_true]
    intro k hk
    rw [List.mem_range] at hi hj hk
    obtain ⟨t, ht, e⟩ := tri_in l.length i j k h.2 hi hj hk
    have g := g2 t ht
    rw [e] at g
    unfold bentT at g
    unfold bent
    exact g
theorem spec_ArePoints_ev (l : List Pt) (hl : l.length ≤ 1048576) : Ev (fun k => spec_ArePoints.f k l) (areP l) := by
  unfold spec_ArePoints.f areP
  refine Ev.bind0 (l1In_p ..) ?_
  by_cases h : 3 ≤ l.length ∧ l.length ≤ 7
  · rw [show decide (3 ≤ l.length ∧ l.length ≤ 7) = true from decide_eq_true h, Bool.true_and, ← areP_eq l h]
    exact Ev.ite_pos (decide_eq_true (by omega)) (spec_loop_p l hl)
  · rw [show decide (3 ≤ l.length ∧ l.length ≤ 7) = false from decide_eq_false h, Bool.false_and]
    exact Ev.ite_neg (by simp; omega) (Ev.now _)
theorem areP_len {l : List Pt} (h : areP l = true) : 3 ≤ l.length ∧ l.length ≤ 7 := by
  unfold areP at h
  rw [Bool.and_eq_true, decide_eq_true_eq] at h
  exact h.1
def mvP (l : List Pt) (i : Int) (p : Pt) : List Pt × Bool := if areP l = true ∧ 0 ≤ i ∧ i < (l.length : Int) ∧ areP (l.set i.toNat p) = true then (l.set i.toNat p, true) else ([], false)
theorem spec_Move_ev (l : List Pt) (hl : l.length ≤ 1048576) (i : Int) (p : Pt) : Ev (fun k => spec_MovePoint.f k l i p.f0 p.f1) (mvP l i p) := by
  unfold spec_MovePoint.f mvP
  have no : Ev (fun k => spec_MovePoint.j0 k l i true p.f0 p.f1) (([] : List Pt), false) := Ev.step (fun k => spec_MovePoint.j0.eq_2 ..) (Ev.ite_pos rfl (Ev.now _))
  refine Ev.bind (spec_ArePoints_ev l hl) ?_
  cases hA : areP l with
  | false =>
    rw [if_neg (by simp)]
    exact Ev.ite_neg (by simp) no
  | true =>
    refine Ev.ite_pos rfl (Ev.bind0 (l1In_p ..) ?_)
    rw [wrap_in (by omega) (by omega)]
    by_cases hi : 0 ≤ i ∧ i ≤ (l.length : Int) - 1
    · rw [decide_eq_true hi]
      refine Ev.step (fun k => spec_MovePoint.j0.eq_2 ..) (Ev.ite_neg (by simp) (Ev.bind0 rfl (Ev.ite_pos (by simp; omega) (Ev.bind0 rfl ?_))))
      rw [List.nil_append]
      refine Ev.ite_pos (by omega) (Ev.ite_pos (by omega) (Ev.bind0 rfl (Ev.bind (spec_ArePoints_ev _ (by rw [List.length_set]; exact hl)) ?_)))
      change Ev (fun k => if areP (l.set i.toNat p) = true then some (l.set i.toNat p, true) else some (([] : List Pt), false)) _
      by_cases hB : areP (l.set i.toNat p) = true
      · rw [if_pos (show true = true ∧ 0 ≤ i ∧ i < (l.length : Int) ∧ areP (l.set i.toNat p) = true from ⟨rfl, by omega, by omega, hB⟩)]
        exact Ev.ite_pos hB (Ev.now _)
      · rw [if_neg (show ¬ (true = true ∧ 0 ≤ i ∧ i < (l.length : Int) ∧ areP (l.set i.toNat p) = true) from fun h => hB h.2.2.2)]
        exact Ev.ite_neg hB (Ev.now _)
    · rw [decide_eq_false hi, if_neg (fun h => hi (by omega))]
      exact no
theorem impl_Move_ev (l : List Pt) (hl : l.length ≤ 1048576) (i : Int) (p : Pt) : Ev (fun k => impl_MovePoint.f k l i p.f0 p.f1) (mvP l i p) := by
  unfold impl_MovePoint.f mvP
  have no : Ev (fun k => impl_MovePoint.j0 k l i true p.f0 p.f1) (([] : List Pt), false) := Ev.step (fun k => impl_MovePoint.j0.eq_2 ..) (Ev.ite_pos rfl (Ev.now _))
  refine Ev.bind (impl_ArePoints_ev l hl) ?_
  cases hA : areP l with
  | false =>
    rw [if_neg (by simp)]
    exact Ev.ite_neg (by simp) no
  | true =>
    by_cases hi : 0 ≤ i ∧ i < (l.length : Int)
    · refine Ev.ite_pos rfl (Ev.bind0 (a := true) (by unfold impl_isElement.f; rw [if_pos hi.1]; simp [hi.2]) ?_)
      refine Ev.step (fun k => impl_MovePoint.j0.eq_2 ..) (Ev.ite_neg (by simp) (Ev.bind0 (a := l) (by unfold slices_Clone_Simpl_Point_impl_Point.f; simp; omega) ?_))
      refine Ev.ite_pos (by omega) (Ev.ite_pos (by omega) (Ev.bind0 rfl (Ev.bind (impl_ArePoints_ev _ (by rw [List.length_set]; exact hl)) ?_)))
      change Ev (fun k => if areP (l.set i.toNat p) = true then some (l.set i.toNat p, true) else some (([] : List Pt), false)) _
      by_cases hB : areP (l.set i.toNat p) = true
      · rw [if_pos (show true = true ∧ 0 ≤ i ∧ i < (l.length : Int) ∧ areP (l.set i.toNat p) = true from ⟨rfl, by omega, by omega, hB⟩)]
        exact Ev.ite_pos hB (Ev.now _)
      · rw [if_neg (show ¬ (true = true ∧ 0 ≤ i ∧ i < (l.length : Int) ∧ areP (l.set i.toNat p) = true) from fun h => hB h.2.2.2)]
        exact Ev.ite_neg hB (Ev.now _)
    · rw [if_neg (fun h => hi ⟨h.2.1, h.2.2.1⟩)]
      refine Ev.ite_pos rfl (Ev.bind0 (a := false) ?_ no)
      unfold impl_isElement.f
      by_cases h0 : i ≥ 0
      · rw [if_pos h0]
        exact congrArg some (decide_eq_false (by omega))
      · rw [if_neg h0]
def tup3 (q : T3) : Int × Int × Int := (q.f0, q.f1, q.f2)
def untup3 (q : Int × Int × Int) : T3 := ⟨q.1, q.2.1, q.2.2⟩
theorem untup3_map (l : List T3) : (l.map tup3).map untup3 = l := by
  rw [List.map_map]
  exact (List.map_congr_left (fun a _ => rfl)).trans (List.map_id l)
def list3 (n : Nat) : List T3 :=
  ((List.range n).drop 0).flatMap fun a : Nat => ((List.range n).drop (a + 1)).flatMap fun b : Nat => ((List.range n).drop (b + 1)).map fun c : Nat => (⟨a, b, c⟩ : T3)
theorem all_3 : (List.range 8).all (fun n => (list3 n).map tup3 == (tri n).map tup3) = true := by decide +kernel
theorem list3_eq (n : Nat) (hn : n ≤ 7) : list3 n = tri n := by
  have h := all_3
  rw [List.all_eq_true] at h
  have h := congrArg (List.map untup3) (eq_of_beq (h n (by simp; omega)))
  rwa [untup3_map, untup3_map] at h
end Go.Proofs.Ytajogmlblknfdaa.Pure
namespace Go.Proofs.Ytajogmlblknfdaa.P
open Go.RowKit Go.Proofs.YtajogmlblknfdaaW.PrintWords Go.Proofs.YtajogmlblknfdaaW.PrintLast Go.Proofs.YtajogmlblknfdaaW.PrintMore
set_option linter.unusedVariables false
set_option linter.unusedSimpArgs false
def impl_chi_set.T0 : Bool × List (List Nat × List Nat) := (true, [([], []), ([], []), ([], []), ([], []), ([], []), ([], []), ([], []), ([], []), ([], []), ([], []), ([], []), ([], []), ([], []), ([], []), ([], []), ([0], [0]), ([15], [15]), ([16, 1], [1, 16]), ([17, 2], [2, 17]), ([18, 3, 0, 1, 2, 3, 12], [3, 18]), ([19, 12, 0, 1, 2, 3, 12], [12, 19]), ([4], [4]), ([21], [21]), ([22, 5], [5, 22]), ([23, 6], [6, 23]), ([24, 7, 0, 1, 2, 3, 4, 5, 6, 7, 12, 13, 15, 16, 17, 18, 19, 20], [7, 24]), ([25, 13, 20, 0, 1, 2, 3, 4, 5, 6, 7, 12, 13, 15, 16, 17, 18, 19, 20], [13, 25]), ([8], [8]), ([27], [27]), ([28, 9], [9, 28]), ([29, 10], [10, 29]), ([30, 11, 0, 1, 2, 3, 4, 5, 6, 7, 8, 9, 10, 11, 12, 13, 14, 15, 16, 17, 18, 19, 20, 21, 22, 23, 24, 25, 26], [11, 30]), ([31, 14, 26, 0, 1, 2, 3, 4, 5, 6, 7, 8, 9, 10, 11, 12, 13, 14, 15, 16, 17, 18, 19, 20, 21, 22, 23, 24, 25, 26], [14, 31])])
def impl_chi_set.B0 : List Nat := [0, 0, 0, 0, 0, 0, 0, 0, 0, 0, 0, 0, 0, 0, 0, 1, 32769, 98307, 229383, 495631, 1019919, 16, 2097168, 6291504, 14680176, 33534207, 67088639, 256, 134217984, 402653952, 939525888, 2147483647, 4294967295]
theorem impl_chi_set.tab0 : rtab .any (opsOf Try.f93 0) = impl_chi_set.T0 := by kernel_rfl
theorem impl_chi_set.bits0 : waitsOk impl_chi_set.T0.2 impl_chi_set.B0 = true := by kernel_rfl
def impl_chi_set.T1 : Bool × List (List Nat × List Nat) := (true, [([], []), ([], []), ([], []), ([], []), ([], []), ([], []), ([], []), ([], []), ([], []), ([], []), ([], []), ([], []), ([], []), ([12], [12]), ([], []), ([14], [14]), ([], []), ([16], [16]), ([0], [0]), ([18], [18]), ([19, 1], [1, 19]), ([20, 2], [2, 20]), ([21, 3, 0, 1, 2, 3, 12, 13], [3, 21]), ([22, 13, 0, 1, 2, 3, 12, 13], [13, 22]), ([4], [4]), ([24], [24]), ([25, 5], [5, 25]), ([26, 6], [6, 26]), ([27, 7, 0, 1, 2, 3, 4, 5, 6, 7, 12, 13, 14, 15, 18, 19, 20, 21, 22, 23], [7, 27]), ([28, 15, 23, 0, 1, 2, 3, 4, 5, 6, 7, 12, 13, 14, 15, 18, 19, 20, 21, 22, 23], [15, 28]), ([8], [8]), ([30], [30]), ([31, 9], [9, 31]), ([32, 10], [10, 32]), ([33, 11, 0, 1, 2, 3, 4, 5, 6, 7, 8, 9, 10, 11, 12, 13, 14, 15, 16, 17, 18, 19, 20, 21, 22, 23, 24, 25, 26, 27, 28, 29], [11, 33]), ([34, 17, 29, 0, 1, 2, 3, 4, 5, 6, 7, 8, 9, 10, 11, 12, 13, 14, 15, 16, 17, 18, 19, 20, 21, 22, 23, 24, 25, 26, 27, 28, 29], [17, 34])])
def impl_chi_set.B1 : List Nat := [0, 0, 0, 0, 0, 0, 0, 0, 0, 0, 0, 0, 0, 4096, 0, 16384, 0, 65536, 1, 262145, 786435, 1835015, 3944463, 8138767, 16, 16777232, 50331696, 117440624, 268235007, 536670463, 256, 1073742080, 3221226240, 7516194560, 17179869183, 34359738367]
theorem impl_chi_set.tab1 : rtab .any (opsOf Try.f93 1) = impl_chi_set.T1 := by kernel_rfl
theorem impl_chi_set.bits1 : waitsOk impl_chi_set.T1.2 impl_chi_set.B1 = true := by kernel_rfl
set_option maxHeartbeats 8000000 in
set_option maxRecDepth 100000 in
theorem impl_chi_set.calls (P0_ : Nat → Prop) (u9000_ : Value) (l : List Int) (i j k v : Int) (r : List Int) (w0 w : World) (hB : Below w0.heap.size w0 w) (ho0 : Kd.R (Kd.int .i64) 97 w w0.heap.size P0_ u9000_ l) (h : impl_chi_set.f l i j k v = some r) :
    Calls Try.prog 93 #[ptrOf u9000_, .int .i64 i, .int .i64 j, .int .i64 k, .int .i64 v] w fun e w' => e = .returned (.tuple #[]) ∧ Kd.R (Kd.int .i64) 97 w' w0.heap.size (fun k_ => (P0_ k_ ∨ w.heap.size ≤ k_)) u9000_ r ∧ Below w0.heap.size w0 w' ∧ Kept w w' (fun k_ => P0_ k_) := by
  unfold impl_chi_set.f at h
  by_cases hc : l.length = 344 ∧ (0 ≤ i ∧ i < 7) ∧ (0 ≤ j ∧ j < 7) ∧ (0 ≤ k ∧ k < 7)
  case neg => rw [if_neg hc] at h; cases h
  rw [if_pos hc] at h
  obtain rfl := Option.some.inj h
  clear h
  obtain ⟨hl, ⟨i0, i7⟩, ⟨j0, j7⟩, ⟨k0, k7⟩⟩ := hc
  have HS := ho0.1
  obtain ⟨g, cap, rfl, hge, _, _⟩ := Kd.R_form ho0 (by omega)
  have GE := Aside0.mk hge
  have HG := Aside0.mk (HS g rfl)
  have HB := Aside0.mk (show TBL w w0.heap.size (fun k_ => (P0_ k_ ∨ w.heap.size ≤ k_)) (.slice (some ⟨g, 0, none⟩) l.length cap) l from Kd.R_mono ho0 (fun k_ hk => (.inl hk)))
  have HK := Aside0.mk (Kept.refl w (fun k_ => P0_ k_))
  have HD := Aside0.mk hB
  clear hB ho0 HS hge
  have HL := Aside0.mk hl
  rw [ptrOf_slice]
  have b1 : 1 + i.toNat * 49 + j.toNat * 7 + k.toNat < l.length := by omega
  have b2 : 1 + j.toNat * 49 + k.toNat * 7 + i.toNat < l.length := by omega
  have b3 : 1 + k.toNat * 49 + i.toNat * 7 + j.toNat < l.length := by omega
  have b4 : 1 + i.toNat * 49 + k.toNat * 7 + j.toNat < l.length := by omega
  have b5 : 1 + k.toNat * 49 + j.toNat * 7 + i.toNat < l.length := by omega
  have b6 : 1 + j.toNat * 49 + i.toNat * 7 + k.toNat < l.length := by omega
  have B1 := Aside0.mk b1; have B2 := Aside0.mk b2; have B3 := Aside0.mk b3; have B4 := Aside0.mk b4; have B5 := Aside0.mk b5; have B6 := Aside0.mk b6
  clear b1 b2 b3 b4 b5 b6 hl
  replace i0 := eq_true i0; replace i7 := eq_true i7; replace j0 := eq_true j0; replace j7 := eq_true j7; replace k0 := eq_true k0; replace k7 := eq_true k7
  go_enter Try.func93, Try.ntmps93
  go_upto_region 0 with (fail)
  go_cut [] (fun wc => Aside0 (TBL wc w0.heap.size (fun k_ => (P0_ k_ ∨ w.heap.size ≤ k_)) (.slice (some ⟨g, 0, none⟩) l.length cap) (setL l i j k v)) ∧ Aside0 (Kept w wc (fun k_ => P0_ k_)) ∧ Aside0 (Below w0.heap.size w0 wc))
  case first =>
    refine start_ (n := 33) (S := fun _ => True) (ds := []) #[false, false, false, false, false, false, false, false, false, false, false, false, false, false, false, false, false, false, false, false, false, false, false, false, false, false, false, false, false, false, false, false, false] (by kernel_rfl) rfl rfl trivial (fun _ => ?_)
    refine with_tabW impl_chi_set.tab0 impl_chi_set.bits0 (fun HT_ HW_ => ?_)
    have HB2 := Aside0.mk (Kd.R_drew HB.out)
    have HK2 := Aside0.mk (Kept.drew HK.out)
    have HD2 := Aside0.mk (below_drew1 HD.out)
    clear HB HK HD
    generalize w.drew = wx at HB2 HK2 HD2 ⊢
    refine pure_ (i := 0) (N := some 10) (v := ?_) (a' := ?_) #[true, false, false, false, false, false, false, false, false, false, false, false, false, false, false, false, false, false, false, false, false, false, false, false, false, false, false, false, false, false, false, false, false] rfl rfl (any_of HT_.out (by kernel_rfl)) (fun _ _ _ h => h) (Or.inl ⟨by rfl, ?_⟩) ?_ ?_
    rotate_left
    · intro w'
      go_simp
      with_reducible rfl
    rotate_left
    · simp only [Act.put, List.setIfInBounds_toArray, List.set_cons_zero, List.set_cons_succ, i64_w, i32_w]
      rfl
    refine pure_ (i := 1) (N := some 11) (v := ?_) (a' := ?_) #[true, true, false, false, false, false, false, false, false, false, false, false, false, false, false, false, false, false, false, false, false, false, false, false, false, false, false, false, false, false, false, false, false] rfl rfl (any_of HT_.out (by kernel_rfl)) (fun _ _ _ h => h) (Or.inl ⟨by rfl, ?_⟩) ?_ ?_
    rotate_left
    · intro w'
      go_simp
      with_reducible rfl
    rotate_left
    · simp only [Act.put, List.setIfInBounds_toArray, List.set_cons_zero, List.set_cons_succ, i64_w, i32_w]
      rfl
    refine pure_ (i := 2) (N := some 12) (v := ?_) (a' := ?_) #[true, true, true, false, false, false, false, false, false, false, false, false, false, false, false, false, false, false, false, false, false, false, false, false, false, false, false, false, false, false, false, false, false] rfl rfl (any_of HT_.out (by kernel_rfl)) (fun _ _ _ h => h) (Or.inl ⟨by rfl, ?_⟩) ?_ ?_
    rotate_left
    · intro w'
      go_simp
      with_reducible rfl
    rotate_left
    · simp only [Act.put, List.setIfInBounds_toArray, List.set_cons_zero, List.set_cons_succ, i64_w, i32_w]
      rfl
    refine pure_ (i := 3) (N := some 13) (v := ?_) (a' := ?_) #[true, true, true, true, false, false, false, false, false, false, false, false, false, false, false, false, false, false, false, false, false, false, false, false, false, false, false, false, false, false, false, false, false] rfl rfl (any_of HT_.out (by kernel_rfl)) (fun _ _ _ h => h) (Or.inl ⟨by rfl, ?_⟩) ?_ ?_
    rotate_left
    · intro w'
      go_simp
      with_reducible rfl
    rotate_left
    · simp only [Act.put, List.setIfInBounds_toArray, List.set_cons_zero, List.set_cons_succ, i64_w, i32_w]
      rfl
    refine pure_ (i := 4) (N := some 14) (v := ?_) (a' := ?_) #[true, true, true, true, true, false, false, false, false, false, false, false, false, false, false, false, false, false, false, false, false, false, false, false, false, false, false, false, false, false, false, false, false] rfl rfl (any_of HT_.out (by kernel_rfl)) (fun _ _ _ h => h) (Or.inl ⟨by rfl, ?_⟩) ?_ ?_
    rotate_left
    · intro w'
      go_simp
      with_reducible rfl
    rotate_left
    · simp only [Act.put, List.setIfInBounds_toArray, List.set_cons_zero, List.set_cons_succ, i64_w, i32_w]
      rfl
    refine pure_ (i := 5) (N := some 15) (v := ?_) (a' := ?_) #[true, true, true, true, true, true, false, false, false, false, false, false, false, false, false, false, false, false, false, false, false, false, false, false, false, false, false, false, false, false, false, false, false] rfl rfl (any_of HT_.out (by kernel_rfl)) (fun _ _ _ h => h) (Or.inl ⟨by rfl, ?_⟩) ?_ ?_
    rotate_left
    · intro w'
      go_simp
      with_reducible rfl
    rotate_left
    · simp only [Act.put, List.setIfInBounds_toArray, List.set_cons_zero, List.set_cons_succ, i64_w, i32_w]
      rfl
    refine pure_ (i := 6) (N := some 16) (v := ?_) (a' := ?_) #[true, true, true, true, true, true, true, false, false, false, false, false, false, false, false, false, false, false, false, false, false, false, false, false, false, false, false, false, false, false, false, false, false] rfl rfl (any_of HT_.out (by kernel_rfl)) (fun _ _ _ h => h) (Or.inl ⟨by rfl, ?_⟩) ?_ ?_
    rotate_left
    · intro w'
      go_simp
      with_reducible rfl
    rotate_left
    · simp only [Act.put, List.setIfInBounds_toArray, List.set_cons_zero, List.set_cons_succ, i64_w, i32_w]
      rfl
    refine pure_ (i := 7) (N := some 17) (v := ?_) (a' := ?_) #[true, true, true, true, true, true, true, true, false, false, false, false, false, false, false, false, false, false, false, false, false, false, false, false, false, false, false, false, false, false, false, false, false] rfl rfl (any_of HT_.out (by kernel_rfl)) (fun _ _ _ h => h) (Or.inl ⟨by rfl, ?_⟩) ?_ ?_
    rotate_left
    · intro w'
      go_simp
      with_reducible rfl
    rotate_left
    · simp only [Act.put, List.setIfInBounds_toArray, List.set_cons_zero, List.set_cons_succ, i64_w, i32_w]
      rfl
    refine pure_ (i := 8) (N := some 18) (v := ?_) (a' := ?_) #[true, true, true, true, true, true, true, true, true, false, false, false, false, false, false, false, false, false, false, false, false, false, false, false, false, false, false, false, false, false, false, false, false] rfl rfl (any_of HT_.out (by kernel_rfl)) (fun _ _ _ h => h) (Or.inl ⟨by rfl, ?_⟩) ?_ ?_
    rotate_left
    · intro w'
      go_simp
      with_reducible rfl
    rotate_left
    · simp only [Act.put, List.setIfInBounds_toArray, List.set_cons_zero, List.set_cons_succ, i64_w, i32_w]
      rfl
    refine pure_ (i := 9) (N := some 19) (v := ?_) (a' := ?_) #[true, true, true, true, true, true, true, true, true, true, false, false, false, false, false, false, false, false, false, false, false, false, false, false, false, false, false, false, false, false, false, false, false] rfl rfl (any_of HT_.out (by kernel_rfl)) (fun _ _ _ h => h) (Or.inl ⟨by rfl, ?_⟩) ?_ ?_
    rotate_left
    · intro w'
      go_simp
      with_reducible rfl
    rotate_left
    · simp only [Act.put, List.setIfInBounds_toArray, List.set_cons_zero, List.set_cons_succ, i64_w, i32_w]
      rfl
    refine pure_ (i := 10) (N := some 20) (v := ?_) (a' := ?_) #[true, true, true, true, true, true, true, true, true, true, true, false, false, false, false, false, false, false, false, false, false, false, false, false, false, false, false, false, false, false, false, false, false] rfl rfl (any_of HT_.out (by kernel_rfl)) (fun _ _ _ h => h) (Or.inl ⟨by rfl, ?_⟩) ?_ ?_
    rotate_left
    · intro w'
      go_simp
      with_reducible rfl
    rotate_left
    · simp only [Act.put, List.setIfInBounds_toArray, List.set_cons_zero, List.set_cons_succ, i64_w, i32_w]
      rfl
    refine pure_ (i := 11) (N := some 21) (v := ?_) (a' := ?_) #[true, true, true, true, true, true, true, true, true, true, true, true, false, false, false, false, false, false, false, false, false, false, false, false, false, false, false, false, false, false, false, false, false] rfl rfl (any_of HT_.out (by kernel_rfl)) (fun _ _ _ h => h) (Or.inl ⟨by rfl, ?_⟩) ?_ ?_
    rotate_left
    · intro w'
      go_simp
      with_reducible rfl
    rotate_left
    · simp only [Act.put, List.setIfInBounds_toArray, List.set_cons_zero, List.set_cons_succ, i64_w, i32_w]
      rfl
    refine pure_ (i := 12) (N := some 22) (v := ?_) (a' := ?_) #[true, true, true, true, true, true, true, true, true, true, true, true, true, false, false, false, false, false, false, false, false, false, false, false, false, false, false, false, false, false, false, false, false] rfl rfl (any_of HT_.out (by kernel_rfl)) (fun _ _ _ h => h) (Or.inl ⟨by rfl, ?_⟩) ?_ ?_
    rotate_left
    · intro w'
      go_simp
      with_reducible rfl
    rotate_left
    · simp only [Act.put, List.setIfInBounds_toArray, List.set_cons_zero, List.set_cons_succ, i64_w, i32_w]
      rfl
    refine pure_ (i := 13) (N := some 23) (v := ?_) (a' := ?_) #[true, true, true, true, true, true, true, true, true, true, true, true, true, true, false, false, false, false, false, false, false, false, false, false, false, false, false, false, false, false, false, false, false] rfl rfl (any_of HT_.out (by kernel_rfl)) (fun _ _ _ h => h) (Or.inl ⟨by rfl, ?_⟩) ?_ ?_
    rotate_left
    · intro w'
      go_simp
      with_reducible rfl
    rotate_left
    · simp only [Act.put, List.setIfInBounds_toArray, List.set_cons_zero, List.set_cons_succ, i64_w, i32_w]
      rfl
    refine pure_ (i := 14) (N := some 24) (v := ?_) (a' := ?_) #[true, true, true, true, true, true, true, true, true, true, true, true, true, true, true, false, false, false, false, false, false, false, false, false, false, false, false, false, false, false, false, false, false] rfl rfl (any_of HT_.out (by kernel_rfl)) (fun _ _ _ h => h) (Or.inl ⟨by rfl, ?_⟩) ?_ ?_
    rotate_left
    · intro w'
      go_simp
      with_reducible rfl
    rotate_left
    · simp only [Act.put, List.setIfInBounds_toArray, List.set_cons_zero, List.set_cons_succ, i64_w, i32_w]
      rfl
    refine pure_ (i := 15) (N := some 25) (v := ?_) (a' := ?_) #[true, true, true, true, true, true, true, true, true, true, true, true, true, true, true, true, false, false, false, false, false, false, false, false, false, false, false, false, false, false, false, false, false] rfl rfl (any_of HT_.out (by kernel_rfl)) (fun _ _ _ h => h) (Or.inl ⟨by rfl, ?_⟩) ?_ ?_
    rotate_left
    · intro w'
      go_simp
      with_reducible rfl
    rotate_left
    · simp only [Act.put, List.setIfInBounds_toArray, List.set_cons_zero, List.set_cons_succ, i64_w, i32_w]
      rfl
    refine pure_ (i := 16) (N := some 26) (v := ?_) (a' := ?_) #[true, true, true, true, true, true, true, true, true, true, true, true, true, true, true, true, true, false, false, false, false, false, false, false, false, false, false, false, false, false, false, false, false] rfl rfl (any_of HT_.out (by kernel_rfl)) (fun _ _ _ h => h) (Or.inl ⟨by rfl, ?_⟩) ?_ ?_
    rotate_left
    · intro w'
      go_simp
      with_reducible rfl
    rotate_left
    · simp only [Act.put, List.setIfInBounds_toArray, List.set_cons_zero, List.set_cons_succ, i64_w, i32_w]
      rfl
    refine pure_ (i := 17) (N := some 27) (v := ?_) (a' := ?_) #[true, true, true, true, true, true, true, true, true, true, true, true, true, true, true, true, true, true, false, false, false, false, false, false, false, false, false, false, false, false, false, false, false] rfl rfl (any_of HT_.out (by kernel_rfl)) (fun _ _ _ h => h) (Or.inl ⟨by rfl, ?_⟩) ?_ ?_
    rotate_left
    · intro w'
      go_simp
      with_reducible rfl
    rotate_left
    · simp only [Act.put, List.setIfInBounds_toArray, List.set_cons_zero, List.set_cons_succ, i64_w, i32_w]
      rfl
    refine pure_ (i := 18) (N := some 28) (v := ?_) (a' := ?_) #[true, true, true, true, true, true, true, true, true, true, true, true, true, true, true, true, true, true, true, false, false, false, false, false, false, false, false, false, false, false, false, false, false] rfl rfl (any_of HT_.out (by kernel_rfl)) (fun _ _ _ h => h) (Or.inl ⟨by rfl, ?_⟩) ?_ ?_
    rotate_left
    · intro w'
      go_simp
      with_reducible rfl
    rotate_left
    · simp only [Act.put, List.setIfInBounds_toArray, List.set_cons_zero, List.set_cons_succ, i64_w, i32_w]
      rfl
    refine pure_ (i := 19) (N := some 29) (v := ?_) (a' := ?_) #[true, true, true, true, true, true, true, true, true, true, true, true, true, true, true, true, true, true, true, true, false, false, false, false, false, false, false, false, false, false, false, false, false] rfl rfl (any_of HT_.out (by kernel_rfl)) (fun _ _ _ h => h) (Or.inl ⟨by rfl, ?_⟩) ?_ ?_
    rotate_left
    · intro w'
      go_simp
      with_reducible rfl
    rotate_left
    · simp only [Act.put, List.setIfInBounds_toArray, List.set_cons_zero, List.set_cons_succ, i64_w, i32_w]
      rfl
    refine pure_ (i := 21) (N := some 30) (v := ?_) (a' := ?_) #[true, true, true, true, true, true, true, true, true, true, true, true, true, true, true, true, true, true, true, true, false, true, false, false, false, false, false, false, false, false, false, false, false] rfl rfl (any_of HT_.out (by kernel_rfl)) (fun _ _ _ h => h) (Or.inl ⟨by rfl, ?_⟩) ?_ ?_
    rotate_left
    · intro w'
      go_simp
      with_reducible rfl
    rotate_left
    · simp only [Act.put, List.setIfInBounds_toArray, List.set_cons_zero, List.set_cons_succ, i64_w, i32_w]
      rfl
    refine pure_ (i := 22) (N := some 31) (v := ?_) (a' := ?_) #[true, true, true, true, true, true, true, true, true, true, true, true, true, true, true, true, true, true, true, true, false, true, true, false, false, false, false, false, false, false, false, false, false] rfl rfl (any_of HT_.out (by kernel_rfl)) (fun _ _ _ h => h) (Or.inl ⟨by rfl, ?_⟩) ?_ ?_
    rotate_left
    · intro w'
      go_simp
      with_reducible rfl
    rotate_left
    · simp only [Act.put, List.setIfInBounds_toArray, List.set_cons_zero, List.set_cons_succ, i64_w, i32_w]
      rfl
    refine pure_ (i := 23) (N := some 32) (v := ?_) (a' := ?_) #[true, true, true, true, true, true, true, true, true, true, true, true, true, true, true, true, true, true, true, true, false, true, true, true, false, false, false, false, false, false, false, false, false] rfl rfl (any_of HT_.out (by kernel_rfl)) (fun _ _ _ h => h) (Or.inl ⟨by rfl, ?_⟩) ?_ ?_
    rotate_left
    · intro w'
      go_simp
      with_reducible rfl
    rotate_left
    · simp only [Act.put, List.setIfInBounds_toArray, List.set_cons_zero, List.set_cons_succ, i64_w, i32_w]
      rfl
    refine pure_ (i := 24) (N := some 33) (v := ?_) (a' := ?_) #[true, true, true, true, true, true, true, true, true, true, true, true, true, true, true, true, true, true, true, true, false, true, true, true, true, false, false, false, false, false, false, false, false] rfl rfl (any_of HT_.out (by kernel_rfl)) (fun _ _ _ h => h) (Or.inl ⟨by rfl, ?_⟩) ?_ ?_
    rotate_left
    · intro w'
      go_simp
      with_reducible rfl
    rotate_left
    · simp only [Act.put, List.setIfInBounds_toArray, List.set_cons_zero, List.set_cons_succ, i64_w, i32_w]
      rfl
    refine pure_ (i := 27) (N := some 35) (v := ?_) (a' := ?_) #[true, true, true, true, true, true, true, true, true, true, true, true, true, true, true, true, true, true, true, true, false, true, true, true, true, false, false, true, false, false, false, false, false] rfl rfl (any_of HT_.out (by kernel_rfl)) (fun _ _ _ h => h) (Or.inl ⟨by rfl, ?_⟩) ?_ ?_
    rotate_left
    · intro w'
      go_simp
      with_reducible rfl
    rotate_left
    · simp only [Act.put, List.setIfInBounds_toArray, List.set_cons_zero, List.set_cons_succ, i64_w, i32_w]
      rfl
    refine pure_ (i := 28) (N := some 36) (v := ?_) (a' := ?_) #[true, true, true, true, true, true, true, true, true, true, true, true, true, true, true, true, true, true, true, true, false, true, true, true, true, false, false, true, true, false, false, false, false] rfl rfl (any_of HT_.out (by kernel_rfl)) (fun _ _ _ h => h) (Or.inl ⟨by rfl, ?_⟩) ?_ ?_
    rotate_left
    · intro w'
      go_simp
      with_reducible rfl
    rotate_left
    · simp only [Act.put, List.setIfInBounds_toArray, List.set_cons_zero, List.set_cons_succ, i64_w, i32_w]
      rfl
    refine pure_ (i := 29) (N := some 37) (v := ?_) (a' := ?_) #[true, true, true, true, true, true, true, true, true, true, true, true, true, true, true, true, true, true, true, true, false, true, true, true, true, false, false, true, true, true, false, false, false] rfl rfl (any_of HT_.out (by kernel_rfl)) (fun _ _ _ h => h) (Or.inl ⟨by rfl, ?_⟩) ?_ ?_
    rotate_left
    · intro w'
      go_simp
      with_reducible rfl
    rotate_left
    · simp only [Act.put, List.setIfInBounds_toArray, List.set_cons_zero, List.set_cons_succ, i64_w, i32_w]
      rfl
    refine pure_ (i := 30) (N := some 38) (v := ?_) (a' := ?_) #[true, true, true, true, true, true, true, true, true, true, true, true, true, true, true, true, true, true, true, true, false, true, true, true, true, false, false, true, true, true, true, false, false] rfl rfl (any_of HT_.out (by kernel_rfl)) (fun _ _ _ h => h) (Or.inl ⟨by rfl, ?_⟩) ?_ ?_
    rotate_left
    · intro w'
      go_simp
      with_reducible rfl
    rotate_left
    · simp only [Act.put, List.setIfInBounds_toArray, List.set_cons_zero, List.set_cons_succ, i64_w, i32_w]
      rfl
    obtain ⟨x0_, hc0_, hf0_⟩ := tbl_cell HB2.out (1 + i.toNat * 49 + j.toNat * 7 + k.toNat) B1.out
    refine one_ (i := 20) (N := none) #[true, true, true, true, true, true, true, true, true, true, true, true, true, true, true, true, true, true, true, true, true, true, true, true, true, false, false, true, true, true, true, false, false] rfl rfl (one_of HT_.out (by kernel_rfl)) (by decide) (fun K hK => ?_)
    refine skip_ (w1 := ?_) (by rfl) rfl ?_ ?_
    rotate_left
    · go_simp
      rfl
    refine hK.out _ _ trivial (fun _ => ?_)
    clear hK K hc0_ hf0_
    have HB20 := Aside0.mk (tbl_set HB2.out (1 + i.toNat * 49 + j.toNat * 7 + k.toNat) v)
    have HK20 := Aside0.mk (Kept.setCell (p := ⟨g, (1 + i.toNat * 49 + j.toNat * 7 + k.toNat), none⟩) HK2.out (.inl HG.out) (.int .i64 v))
    have HD20 := Aside0.mk (below_set (g := g) (j := (1 + i.toNat * 49 + j.toNat * 7 + k.toNat)) (v := .int .i64 v) HD2.out GE.out)
    refine pure_ (i := 25) (N := some 34) (v := ?_) (a' := ?_) #[true, true, true, true, true, true, true, true, true, true, true, true, true, true, true, true, true, true, true, true, true, true, true, true, true, true, false, true, true, true, true, false, false] rfl rfl (any_of HT_.out (by kernel_rfl)) (fun _ _ _ h => h) (Or.inl ⟨by rfl, ?_⟩) ?_ ?_
    rotate_left
    · intro w'
      go_simp
      with_reducible rfl
    rotate_left
    · simp only [Act.put, List.setIfInBounds_toArray, List.set_cons_zero, List.set_cons_succ, i64_w, i32_w]
      rfl
    obtain ⟨x1_, hc1_, hf1_⟩ := tbl_cell HB20.out (1 + j.toNat * 49 + k.toNat * 7 + i.toNat) B2.out
    refine one_ (i := 26) (N := none) #[true, true, true, true, true, true, true, true, true, true, true, true, true, true, true, true, true, true, true, true, true, true, true, true, true, true, true, true, true, true, true, false, false] rfl rfl (one_of HT_.out (by kernel_rfl)) (by decide) (fun K hK => ?_)
    refine skip_ (w1 := ?_) (by rfl) rfl ?_ ?_
    rotate_left
    · go_simp
      rfl
    refine hK.out _ _ trivial (fun _ => ?_)
    clear hK K hc1_ hf1_
    have HB201 := Aside0.mk (tbl_set HB20.out (1 + j.toNat * 49 + k.toNat * 7 + i.toNat) v)
    have HK201 := Aside0.mk (Kept.setCell (p := ⟨g, (1 + j.toNat * 49 + k.toNat * 7 + i.toNat), none⟩) HK20.out (.inl HG.out) (.int .i64 v))
    have HD201 := Aside0.mk (below_set (g := g) (j := (1 + j.toNat * 49 + k.toNat * 7 + i.toNat)) (v := .int .i64 v) HD20.out GE.out)
    refine pure_ (i := 31) (N := some 39) (v := ?_) (a' := ?_) #[true, true, true, true, true, true, true, true, true, true, true, true, true, true, true, true, true, true, true, true, true, true, true, true, true, true, true, true, true, true, true, true, false] rfl rfl (any_of HT_.out (by kernel_rfl)) (fun _ _ _ h => h) (Or.inl ⟨by rfl, ?_⟩) ?_ ?_
    rotate_left
    · intro w'
      go_simp
      with_reducible rfl
    rotate_left
    · simp only [Act.put, List.setIfInBounds_toArray, List.set_cons_zero, List.set_cons_succ, i64_w, i32_w]
      rfl
    obtain ⟨x2_, hc2_, hf2_⟩ := tbl_cell HB201.out (1 + k.toNat * 49 + i.toNat * 7 + j.toNat) B3.out
    refine one_ (i := 32) (N := none) #[true, true, true, true, true, true, true, true, true, true, true, true, true, true, true, true, true, true, true, true, true, true, true, true, true, true, true, true, true, true, true, true, true] rfl rfl (one_of HT_.out (by kernel_rfl)) (by decide) (fun K hK => ?_)
    refine skip_ (w1 := ?_) (by rfl) rfl ?_ ?_
    rotate_left
    · go_simp
      rfl
    refine hK.out _ _ trivial (fun _ => ?_)
    clear hK K hc2_ hf2_
    have HB2012 := Aside0.mk (tbl_set HB201.out (1 + k.toNat * 49 + i.toNat * 7 + j.toNat) v)
    have HK2012 := Aside0.mk (Kept.setCell (p := ⟨g, (1 + k.toNat * 49 + i.toNat * 7 + j.toNat), none⟩) HK201.out (.inl HG.out) (.int .i64 v))
    have HD2012 := Aside0.mk (below_set (g := g) (j := (1 + k.toNat * 49 + i.toNat * 7 + j.toNat)) (v := .int .i64 v) HD201.out GE.out)
    refine done_ (done_of HT_.out (by kernel_rfl)) ?_
    clear HT_ HW_
    try go_wp2
    go_meet
    case rel => exact ⟨HB2012, HK2012, HD2012⟩
  case rest =>
    clear HB HK HD
    obtain ⟨HB, HK, HD⟩ := hcut
    try go_wp2
    refine start_ (n := 36) (S := fun _ => True) (ds := []) #[false, false, false, false, false, false, false, false, false, false, false, false, false, false, false, false, false, false, false, false, false, false, false, false, false, false, false, false, false, false, false, false, false, false, false, false] (by kernel_rfl) rfl rfl trivial (fun _ => ?_)
    refine with_tabW impl_chi_set.tab1 impl_chi_set.bits1 (fun HT_ HW_ => ?_)
    have HB2 := Aside0.mk (Kd.R_drew HB.out)
    have HK2 := Aside0.mk (Kept.drew HK.out)
    have HD2 := Aside0.mk (below_drew1 HD.out)
    clear HB HK HD
    generalize wc.drew = wx at HB2 HK2 HD2 ⊢
    refine pure_ (i := 0) (N := some 40) (v := ?_) (a' := ?_) #[true, false, false, false, false, false, false, false, false, false, false, false, false, false, false, false, false, false, false, false, false, false, false, false, false, false, false, false, false, false, false, false, false, false, false, false] rfl rfl (any_of HT_.out (by kernel_rfl)) (fun _ _ _ h => h) (Or.inl ⟨by rfl, ?_⟩) ?_ ?_
    rotate_left
    · intro w'
      go_simp
      with_reducible rfl
    rotate_left
    · simp only [Act.put, List.setIfInBounds_toArray, List.set_cons_zero, List.set_cons_succ, i64_w, i32_w]
      rfl
    refine pure_ (i := 1) (N := some 41) (v := ?_) (a' := ?_) #[true, true, false, false, false, false, false, false, false, false, false, false, false, false, false, false, false, false, false, false, false, false, false, false, false, false, false, false, false, false, false, false, false, false, false, false] rfl rfl (any_of HT_.out (by kernel_rfl)) (fun _ _ _ h => h) (Or.inl ⟨by rfl, ?_⟩) ?_ ?_
    rotate_left
    · intro w'
      go_simp
      with_reducible rfl
    rotate_left
    · simp only [Act.put, List.setIfInBounds_toArray, List.set_cons_zero, List.set_cons_succ, i64_w, i32_w]
      rfl
    refine pure_ (i := 2) (N := some 42) (v := ?_) (a' := ?_) #[true, true, true, false, false, false, false, false, false, false, false, false, false, false, false, false, false, false, false, false, false, false, false, false, false, false, false, false, false, false, false, false, false, false, false, false] rfl rfl (any_of HT_.out (by kernel_rfl)) (fun _ _ _ h => h) (Or.inl ⟨by rfl, ?_⟩) ?_ ?_
    rotate_left
    · intro w'
      go_simp
      with_reducible rfl
    rotate_left
    · simp only [Act.put, List.setIfInBounds_toArray, List.set_cons_zero, List.set_cons_succ, i64_w, i32_w]
      rfl
    refine pure_ (i := 3) (N := some 43) (v := ?_) (a' := ?_) #[true, true, true, true, false, false, false, false, false, false, false, false, false, false, false, false, false, false, false, false, false, false, false, false, false, false, false, false, false, false, false, false, false, false, false, false] rfl rfl (any_of HT_.out (by kernel_rfl)) (fun _ _ _ h => h) (Or.inl ⟨by rfl, ?_⟩) ?_ ?_
    rotate_left
    · intro w'
      go_simp
      with_reducible rfl
    rotate_left
    · simp only [Act.put, List.setIfInBounds_toArray, List.set_cons_zero, List.set_cons_succ, i64_w, i32_w]
      rfl
    refine pure_ (i := 4) (N := some 44) (v := ?_) (a' := ?_) #[true, true, true, true, true, false, false, false, false, false, false, false, false, false, false, false, false, false, false, false, false, false, false, false, false, false, false, false, false, false, false, false, false, false, false, false] rfl rfl (any_of HT_.out (by kernel_rfl)) (fun _ _ _ h => h) (Or.inl ⟨by rfl, ?_⟩) ?_ ?_
    rotate_left
    · intro w'
      go_simp
      with_reducible rfl
    rotate_left
    · simp only [Act.put, List.setIfInBounds_toArray, List.set_cons_zero, List.set_cons_succ, i64_w, i32_w]
      rfl
    refine pure_ (i := 5) (N := some 45) (v := ?_) (a' := ?_) #[true, true, true, true, true, true, false, false, false, false, false, false, false, false, false, false, false, false, false, false, false, false, false, false, false, false, false, false, false, false, false, false, false, false, false, false] rfl rfl (any_of HT_.out (by kernel_rfl)) (fun _ _ _ h => h) (Or.inl ⟨by rfl, ?_⟩) ?_ ?_
    rotate_left
    · intro w'
      go_simp
      with_reducible rfl
    rotate_left
    · simp only [Act.put, List.setIfInBounds_toArray, List.set_cons_zero, List.set_cons_succ, i64_w, i32_w]
      rfl
    refine pure_ (i := 6) (N := some 46) (v := ?_) (a' := ?_) #[true, true, true, true, true, true, true, false, false, false, false, false, false, false, false, false, false, false, false, false, false, false, false, false, false, false, false, false, false, false, false, false, false, false, false, false] rfl rfl (any_of HT_.out (by kernel_rfl)) (fun _ _ _ h => h) (Or.inl ⟨by rfl, ?_⟩) ?_ ?_
    rotate_left
    · intro w'
      go_simp
      with_reducible rfl
    rotate_left
    · simp only [Act.put, List.setIfInBounds_toArray, List.set_cons_zero, List.set_cons_succ, i64_w, i32_w]
      rfl
    refine pure_ (i := 7) (N := some 47) (v := ?_) (a' := ?_) #[true, true, true, true, true, true, true, true, false, false, false, false, false, false, false, false, false, false, false, false, false, false, false, false, false, false, false, false, false, false, false, false, false, false, false, false] rfl rfl (any_of HT_.out (by kernel_rfl)) (fun _ _ _ h => h) (Or.inl ⟨by rfl, ?_⟩) ?_ ?_
    rotate_left
    · intro w'
      go_simp
      with_reducible rfl
    rotate_left
    · simp only [Act.put, List.setIfInBounds_toArray, List.set_cons_zero, List.set_cons_succ, i64_w, i32_w]
      rfl
    refine pure_ (i := 8) (N := some 48) (v := ?_) (a' := ?_) #[true, true, true, true, true, true, true, true, true, false, false, false, false, false, false, false, false, false, false, false, false, false, false, false, false, false, false, false, false, false, false, false, false, false, false, false] rfl rfl (any_of HT_.out (by kernel_rfl)) (fun _ _ _ h => h) (Or.inl ⟨by rfl, ?_⟩) ?_ ?_
    rotate_left
    · intro w'
      go_simp
      with_reducible rfl
    rotate_left
    · simp only [Act.put, List.setIfInBounds_toArray, List.set_cons_zero, List.set_cons_succ, i64_w, i32_w]
      rfl
    refine pure_ (i := 9) (N := some 49) (v := ?_) (a' := ?_) #[true, true, true, true, true, true, true, true, true, true, false, false, false, false, false, false, false, false, false, false, false, false, false, false, false, false, false, false, false, false, false, false, false, false, false, false] rfl rfl (any_of HT_.out (by kernel_rfl)) (fun _ _ _ h => h) (Or.inl ⟨by rfl, ?_⟩) ?_ ?_
    rotate_left
    · intro w'
      go_simp
      with_reducible rfl
    rotate_left
    · simp only [Act.put, List.setIfInBounds_toArray, List.set_cons_zero, List.set_cons_succ, i64_w, i32_w]
      rfl
    refine pure_ (i := 10) (N := some 50) (v := ?_) (a' := ?_) #[true, true, true, true, true, true, true, true, true, true, true, false, false, false, false, false, false, false, false, false, false, false, false, false, false, false, false, false, false, false, false, false, false, false, false, false] rfl rfl (any_of HT_.out (by kernel_rfl)) (fun _ _ _ h => h) (Or.inl ⟨by rfl, ?_⟩) ?_ ?_
    rotate_left
    · intro w'
      go_simp
      with_reducible rfl
    rotate_left
    · simp only [Act.put, List.setIfInBounds_toArray, List.set_cons_zero, List.set_cons_succ, i64_w, i32_w]
      rfl
    refine pure_ (i := 11) (N := some 51) (v := ?_) (a' := ?_) #[true, true, true, true, true, true, true, true, true, true, true, true, false, false, false, false, false, false, false, false, false, false, false, false, false, false, false, false, false, false, false, false, false, false, false, false] rfl rfl (any_of HT_.out (by kernel_rfl)) (fun _ _ _ h => h) (Or.inl ⟨by rfl, ?_⟩) ?_ ?_
    rotate_left
    · intro w'
      go_simp
      with_reducible rfl
    rotate_left
    · simp only [Act.put, List.setIfInBounds_toArray, List.set_cons_zero, List.set_cons_succ, i64_w, i32_w]
      rfl
    refine pure_ (i := 12) (N := some 52) (v := ?_) (a' := ?_) #[true, true, true, true, true, true, true, true, true, true, true, true, true, false, false, false, false, false, false, false, false, false, false, false, false, false, false, false, false, false, false, false, false, false, false, false] rfl rfl (any_of HT_.out (by kernel_rfl)) (fun _ _ _ h => h) (Or.inl ⟨by rfl, ?_⟩) ?_ ?_
    rotate_left
    · intro w'
      go_simp
      with_reducible rfl
    rotate_left
    · simp only [Act.put, List.setIfInBounds_toArray, List.set_cons_zero, List.set_cons_succ, i64_w, i32_w]
      rfl
    refine pure_ (i := 13) (N := some 53) (v := ?_) (a' := ?_) #[true, true, true, true, true, true, true, true, true, true, true, true, true, true, false, false, false, false, false, false, false, false, false, false, false, false, false, false, false, false, false, false, false, false, false, false] rfl rfl (any_of HT_.out (by kernel_rfl)) (fun _ _ _ h => h) (Or.inl ⟨by rfl, ?_⟩) ?_ ?_
    rotate_left
    · intro w'
      go_simp
      with_reducible rfl
    rotate_left
    · simp only [Act.put, List.setIfInBounds_toArray, List.set_cons_zero, List.set_cons_succ, i64_w, i32_w]
      rfl
    refine pure_ (i := 14) (N := some 54) (v := ?_) (a' := ?_) #[true, true, true, true, true, true, true, true, true, true, true, true, true, true, true, false, false, false, false, false, false, false, false, false, false, false, false, false, false, false, false, false, false, false, false, false] rfl rfl (any_of HT_.out (by kernel_rfl)) (fun _ _ _ h => h) (Or.inl ⟨by rfl, ?_⟩) ?_ ?_
    rotate_left
    · intro w'
      go_simp
      with_reducible rfl
    rotate_left
    · simp only [Act.put, List.setIfInBounds_toArray, List.set_cons_zero, List.set_cons_succ, i64_w, i32_w]
      rfl
    refine pure_ (i := 15) (N := some 55) (v := ?_) (a' := ?_) #[true, true, true, true, true, true, true, true, true, true, true, true, true, true, true, true, false, false, false, false, false, false, false, false, false, false, false, false, false, false, false, false, false, false, false, false] rfl rfl (any_of HT_.out (by kernel_rfl)) (fun _ _ _ h => h) (Or.inl ⟨by rfl, ?_⟩) ?_ ?_
    rotate_left
    · intro w'
      go_simp
      with_reducible rfl
    rotate_left
    · simp only [Act.put, List.setIfInBounds_toArray, List.set_cons_zero, List.set_cons_succ, i64_w, i32_w]
      rfl
    refine pure_ (i := 16) (N := some 56) (v := ?_) (a' := ?_) #[true, true, true, true, true, true, true, true, true, true, true, true, true, true, true, true, true, false, false, false, false, false, false, false, false, false, false, false, false, false, false, false, false, false, false, false] rfl rfl (any_of HT_.out (by kernel_rfl)) (fun _ _ _ h => h) (Or.inl ⟨by rfl, ?_⟩) ?_ ?_
    rotate_left
    · intro w'
      go_simp
      with_reducible rfl
    rotate_left
    · simp only [Act.put, List.setIfInBounds_toArray, List.set_cons_zero, List.set_cons_succ, i64_w, i32_w]
      rfl
    refine pure_ (i := 17) (N := some 57) (v := ?_) (a' := ?_) #[true, true, true, true, true, true, true, true, true, true, true, true, true, true, true, true, true, true, false, false, false, false, false, false, false, false, false, false, false, false, false, false, false, false, false, false] rfl rfl (any_of HT_.out (by kernel_rfl)) (fun _ _ _ h => h) (Or.inl ⟨by rfl, ?_⟩) ?_ ?_
    rotate_left
    · intro w'
      go_simp
      with_reducible rfl
    rotate_left
    · simp only [Act.put, List.setIfInBounds_toArray, List.set_cons_zero, List.set_cons_succ, i64_w, i32_w]
      rfl
    refine pure_ (i := 18) (N := some 58) (v := ?_) (a' := ?_) #[true, true, true, true, true, true, true, true, true, true, true, true, true, true, true, true, true, true, true, false, false, false, false, false, false, false, false, false, false, false, false, false, false, false, false, false] rfl rfl (any_of HT_.out (by kernel_rfl)) (fun _ _ _ h => h) (Or.inl ⟨by rfl, ?_⟩) ?_ ?_
    rotate_left
    · intro w'
      go_simp
      with_reducible rfl
    rotate_left
    · simp only [Act.put, List.setIfInBounds_toArray, List.set_cons_zero, List.set_cons_succ, i64_w, i32_w]
      rfl
    refine pure_ (i := 19) (N := some 59) (v := ?_) (a' := ?_) #[true, true, true, true, true, true, true, true, true, true, true, true, true, true, true, true, true, true, true, true, false, false, false, false, false, false, false, false, false, false, false, false, false, false, false, false] rfl rfl (any_of HT_.out (by kernel_rfl)) (fun _ _ _ h => h) (Or.inl ⟨by rfl, ?_⟩) ?_ ?_
    rotate_left
    · intro w'
      go_simp
      with_reducible rfl
    rotate_left
    · simp only [Act.put, List.setIfInBounds_toArray, List.set_cons_zero, List.set_cons_succ, i64_w, i32_w]
      rfl
    refine pure_ (i := 20) (N := some 60) (v := ?_) (a' := ?_) #[true, true, true, true, true, true, true, true, true, true, true, true, true, true, true, true, true, true, true, true, true, false, false, false, false, false, false, false, false, false, false, false, false, false, false, false] rfl rfl (any_of HT_.out (by kernel_rfl)) (fun _ _ _ h => h) (Or.inl ⟨by rfl, ?_⟩) ?_ ?_
    rotate_left
    · intro w'
      go_simp
      with_reducible rfl
    rotate_left
    · simp only [Act.put, List.setIfInBounds_toArray, List.set_cons_zero, List.set_cons_succ, i64_w, i32_w]
      rfl
    refine pure_ (i := 21) (N := some 61) (v := ?_) (a' := ?_) #[true, true, true, true, true, true, true, true, true, true, true, true, true, true, true, true, true, true, true, true, true, true, false, false, false, false, false, false, false, false, false, false, false, false, false, false] rfl rfl (any_of HT_.out (by kernel_rfl)) (fun _ _ _ h => h) (Or.inl ⟨by rfl, ?_⟩) ?_ ?_
    rotate_left
    · intro w'
      go_simp
      with_reducible rfl
    rotate_left
    · simp only [Act.put, List.setIfInBounds_toArray, List.set_cons_zero, List.set_cons_succ, i64_w, i32_w]
      rfl
    refine pure_ (i := 22) (N := some 62) (v := ?_) (a' := ?_) #[true, true, true, true, true, true, true, true, true, true, true, true, true, true, true, true, true, true, true, true, true, true, true, false, false, false, false, false, false, false, false, false, false, false, false, false] rfl rfl (any_of HT_.out (by kernel_rfl)) (fun _ _ _ h => h) (Or.inl ⟨by rfl, ?_⟩) ?_ ?_
    rotate_left
    · intro w'
      go_simp
      with_reducible rfl
    rotate_left
    · simp only [Act.put, List.setIfInBounds_toArray, List.set_cons_zero, List.set_cons_succ, i64_w, i32_w]
      rfl
    refine pure_ (i := 24) (N := some 63) (v := ?_) (a' := ?_) #[true, true, true, true, true, true, true, true, true, true, true, true, true, true, true, true, true, true, true, true, true, true, true, false, true, false, false, false, false, false, false, false, false, false, false, false] rfl rfl (any_of HT_.out (by kernel_rfl)) (fun _ _ _ h => h) (Or.inl ⟨by rfl, ?_⟩) ?_ ?_
    rotate_left
    · intro w'
      go_simp
      with_reducible rfl
    rotate_left
    · simp only [Act.put, List.setIfInBounds_toArray, List.set_cons_zero, List.set_cons_succ, i64_w, i32_w]
      rfl
    refine pure_ (i := 25) (N := some 64) (v := ?_) (a' := ?_) #[true, true, true, true, true, true, true, true, true, true, true, true, true, true, true, true, true, true, true, true, true, true, true, false, true, true, false, false, false, false, false, false, false, false, false, false] rfl rfl (any_of HT_.out (by kernel_rfl)) (fun _ _ _ h => h) (Or.inl ⟨by rfl, ?_⟩) ?_ ?_
    rotate_left
    · intro w'
      go_simp
      with_reducible rfl
    rotate_left
    · simp only [Act.put, List.setIfInBounds_toArray, List.set_cons_zero, List.set_cons_succ, i64_w, i32_w]
      rfl
    refine pure_ (i := 26) (N := some 65) (v := ?_) (a' := ?_) #[true, true, true, true, true, true, true, true, true, true, true, true, true, true, true, true, true, true, true, true, true, true, true, false, true, true, true, false, false, false, false, false, false, false, false, false] rfl rfl (any_of HT_.out (by kernel_rfl)) (fun _ _ _ h => h) (Or.inl ⟨by rfl, ?_⟩) ?_ ?_
    rotate_left
    · intro w'
      go_simp
      with_reducible rfl
    rotate_left
    · simp only [Act.put, List.setIfInBounds_toArray, List.set_cons_zero, List.set_cons_succ, i64_w, i32_w]
      rfl
    refine pure_ (i := 27) (N := some 66) (v := ?_) (a' := ?_) #[true, true, true, true, true, true, true, true, true, true, true, true, true, true, true, true, true, true, true, true, true, true, true, false, true, true, true, true, false, false, false, false, false, false, false, false] rfl rfl (any_of HT_.out (by kernel_rfl)) (fun _ _ _ h => h) (Or.inl ⟨by rfl, ?_⟩) ?_ ?_
    rotate_left
    · intro w'
      go_simp
      with_reducible rfl
    rotate_left
    · simp only [Act.put, List.setIfInBounds_toArray, List.set_cons_zero, List.set_cons_succ, i64_w, i32_w]
      rfl
    refine pure_ (i := 30) (N := some 68) (v := ?_) (a' := ?_) #[true, true, true, true, true, true, true, true, true, true, true, true, true, true, true, true, true, true, true, true, true, true, true, false, true, true, true, true, false, false, true, false, false, false, false, false] rfl rfl (any_of HT_.out (by kernel_rfl)) (fun _ _ _ h => h) (Or.inl ⟨by rfl, ?_⟩) ?_ ?_
    rotate_left
    · intro w'
      go_simp
      with_reducible rfl
    rotate_left
    · simp only [Act.put, List.setIfInBounds_toArray, List.set_cons_zero, List.set_cons_succ, i64_w, i32_w]
      rfl
    refine pure_ (i := 31) (N := some 69) (v := ?_) (a' := ?_) #[true, true, true, true, true, true, true, true, true, true, true, true, true, true, true, true, true, true, true, true, true, true, true, false, true, true, true, true, false, false, true, true, false, false, false, false] rfl rfl (any_of HT_.out (by kernel_rfl)) (fun _ _ _ h => h) (Or.inl ⟨by rfl, ?_⟩) ?_ ?_
    rotate_left
    · intro w'
      go_simp
      with_reducible rfl
    rotate_left
    · simp only [Act.put, List.setIfInBounds_toArray, List.set_cons_zero, List.set_cons_succ, i64_w, i32_w]
      rfl
    refine pure_ (i := 32) (N := some 70) (v := ?_) (a' := ?_) #[true, true, true, true, true, true, true, true, true, true, true, true, true, true, true, true, true, true, true, true, true, true, true, false, true, true, true, true, false, false, true, true, true, false, false, false] rfl rfl (any_of HT_.out (by kernel_rfl)) (fun _ _ _ h => h) (Or.inl ⟨by rfl, ?_⟩) ?_ ?_
    rotate_left
    · intro w'
      go_simp
      with_reducible rfl
    rotate_left
    · simp only [Act.put, List.setIfInBounds_toArray, List.set_cons_zero, List.set_cons_succ, i64_w, i32_w]
      rfl
    refine pure_ (i := 33) (N := some 71) (v := ?_) (a' := ?_) #[true, true, true, true, true, true, true, true, true, true, true, true, true, true, true, true, true, true, true, true, true, true, true, false, true, true, true, true, false, false, true, true, true, true, false, false] rfl rfl (any_of HT_.out (by kernel_rfl)) (fun _ _ _ h => h) (Or.inl ⟨by rfl, ?_⟩) ?_ ?_
    rotate_left
    · intro w'
      go_simp
      with_reducible rfl
    rotate_left
    · simp only [Act.put, List.setIfInBounds_toArray, List.set_cons_zero, List.set_cons_succ, i64_w, i32_w]
      rfl
    obtain ⟨x0_, hc0_, hf0_⟩ := tbl_cell HB2.out (1 + i.toNat * 49 + k.toNat * 7 + j.toNat) B4.out
    refine one_ (i := 23) (N := none) #[true, true, true, true, true, true, true, true, true, true, true, true, true, true, true, true, true, true, true, true, true, true, true, true, true, true, true, true, false, false, true, true, true, true, false, false] rfl rfl (one_of HT_.out (by kernel_rfl)) (by decide) (fun K hK => ?_)
    refine skip_ (w1 := ?_) (by rfl) rfl ?_ ?_
    rotate_left
    · go_simp
      rfl
    refine hK.out _ _ trivial (fun _ => ?_)
    clear hK K hc0_ hf0_
    have HB20 := Aside0.mk (tbl_set HB2.out (1 + i.toNat * 49 + k.toNat * 7 + j.toNat) (wrap64 (-v)))
    have HK20 := Aside0.mk (Kept.setCell (p := ⟨g, (1 + i.toNat * 49 + k.toNat * 7 + j.toNat), none⟩) HK2.out (.inl HG.out) (.int .i64 (wrap64 (-v))))
    have HD20 := Aside0.mk (below_set (g := g) (j := (1 + i.toNat * 49 + k.toNat * 7 + j.toNat)) (v := .int .i64 (wrap64 (-v))) HD2.out GE.out)
    refine pure_ (i := 28) (N := some 67) (v := ?_) (a' := ?_) #[true, true, true, true, true, true, true, true, true, true, true, true, true, true, true, true, true, true, true, true, true, true, true, true, true, true, true, true, true, false, true, true, true, true, false, false] rfl rfl (any_of HT_.out (by kernel_rfl)) (fun _ _ _ h => h) (Or.inl ⟨by rfl, ?_⟩) ?_ ?_
    rotate_left
    · intro w'
      go_simp
      with_reducible rfl
    rotate_left
    · simp only [Act.put, List.setIfInBounds_toArray, List.set_cons_zero, List.set_cons_succ, i64_w, i32_w]
      rfl
    obtain ⟨x1_, hc1_, hf1_⟩ := tbl_cell HB20.out (1 + k.toNat * 49 + j.toNat * 7 + i.toNat) B5.out
    refine one_ (i := 29) (N := none) #[true, true, true, true, true, true, true, true, true, true, true, true, true, true, true, true, true, true, true, true, true, true, true, true, true, true, true, true, true, true, true, true, true, true, false, false] rfl rfl (one_of HT_.out (by kernel_rfl)) (by decide) (fun K hK => ?_)
    refine skip_ (w1 := ?_) (by rfl) rfl ?_ ?_
    rotate_left
    · go_simp
      rfl
    refine hK.out _ _ trivial (fun _ => ?_)
    clear hK K hc1_ hf1_
    have HB201 := Aside0.mk (tbl_set HB20.out (1 + k.toNat * 49 + j.toNat * 7 + i.toNat) (wrap64 (-v)))
    have HK201 := Aside0.mk (Kept.setCell (p := ⟨g, (1 + k.toNat * 49 + j.toNat * 7 + i.toNat), none⟩) HK20.out (.inl HG.out) (.int .i64 (wrap64 (-v))))
    have HD201 := Aside0.mk (below_set (g := g) (j := (1 + k.toNat * 49 + j.toNat * 7 + i.toNat)) (v := .int .i64 (wrap64 (-v))) HD20.out GE.out)
    refine pure_ (i := 34) (N := some 72) (v := ?_) (a' := ?_) #[true, true, true, true, true, true, true, true, true, true, true, true, true, true, true, true, true, true, true, true, true, true, true, true, true, true, true, true, true, true, true, true, true, true, true, false] rfl rfl (any_of HT_.out (by kernel_rfl)) (fun _ _ _ h => h) (Or.inl ⟨by rfl, ?_⟩) ?_ ?_
    rotate_left
    · intro w'
      go_simp
      with_reducible rfl
    rotate_left
    · simp only [Act.put, List.setIfInBounds_toArray, List.set_cons_zero, List.set_cons_succ, i64_w, i32_w]
      rfl
    obtain ⟨x2_, hc2_, hf2_⟩ := tbl_cell HB201.out (1 + j.toNat * 49 + i.toNat * 7 + k.toNat) B6.out
    refine one_ (i := 35) (N := none) #[true, true, true, true, true, true, true, true, true, true, true, true, true, true, true, true, true, true, true, true, true, true, true, true, true, true, true, true, true, true, true, true, true, true, true, true] rfl rfl (one_of HT_.out (by kernel_rfl)) (by decide) (fun K hK => ?_)
    refine skip_ (w1 := ?_) (by rfl) rfl ?_ ?_
    rotate_left
    · go_simp
      rfl
    refine hK.out _ _ trivial (fun _ => ?_)
    clear hK K hc2_ hf2_
    have HB2012 := Aside0.mk (tbl_set HB201.out (1 + j.toNat * 49 + i.toNat * 7 + k.toNat) (wrap64 (-v)))
    have HK2012 := Aside0.mk (Kept.setCell (p := ⟨g, (1 + j.toNat * 49 + i.toNat * 7 + k.toNat), none⟩) HK201.out (.inl HG.out) (.int .i64 (wrap64 (-v))))
    have HD2012 := Aside0.mk (below_set (g := g) (j := (1 + j.toNat * 49 + i.toNat * 7 + k.toNat)) (v := .int .i64 (wrap64 (-v))) HD201.out GE.out)
    refine done_ (done_of HT_.out (by kernel_rfl)) ?_
    clear HT_ HW_
    try go_wp2
    go_end0
    exact ⟨rfl, HB2012.out, HD2012.out, HK2012.out⟩
end Go.Proofs.Ytajogmlblknfdaa.P
namespace Go.Proofs.Ytajogmlblknfdaa.P
open Go.RowKit Go.Proofs.YtajogmlblknfdaaW.PrintWords Go.Proofs.YtajogmlblknfdaaW.PrintLast Go.Proofs.YtajogmlblknfdaaW.PrintMore
attribute [local go_sem] ptrOf_slice
attribute [local go_sem] max2_int min2_int max_two min_two max_three min_three max_four min_four
set_option linter.unusedVariables false
set_option linter.unusedSimpArgs false
mutual
def spec_l3Index.l0 : Nat → Int → Int → Int → Int → Int → Int → Option (Int)
 | 0, _, _, _, _, _, _ => none
 | k + 1, x0, x1, x2, x3, x9, x10 => if x10 < x1 then (spec_l3Index.l0 k x0 x1 x2 x3 (wrap64 (x9 + (wrap64 (Int.tdiv (wrap64 ((wrap64 ((wrap64 (x0 - 1)) - x10)) * (wrap64 ((wrap64 (x0 - 2)) - x10)))) 2)))) (wrap64 (x10 + 1))) else (spec_l3Index.l1 k x0 x2 x3 x9 (wrap64 (x1 + 1)))
def spec_l3Index.l1 : Nat → Int → Int → Int → Int → Int → Option (Int)
 | 0, _, _, _, _, _ => none
 | k + 1, x0, x2, x3, x9, x11 => if x11 < x2 then (spec_l3Index.l1 k x0 x2 x3 (wrap64 ((wrap64 ((wrap64 (x9 + x0)) - 1)) - x11)) (wrap64 (x11 + 1))) else (some (wrap64 ((wrap64 ((wrap64 (x9 + x3)) - x2)) - 1)))
end
def spec_l3Index.f (k : Nat) (a0 : Int) (a1 : Int) (a2 : Int) (a3 : Int) : Option (Int) := spec_l3Index.l0 k a0 a1 a2 a3 0 0
end Go.Proofs.Ytajogmlblknfdaa.P
namespace Go.Proofs.Ytajogmlblknfdaa.Pure
set_option linter.unusedSimpArgs false
set_option linter.unusedVariables false
open Go.RowKit Go.Proofs.YtajogmlblknfdaaW.PrintWords Go.Proofs.Ytajogmlblknfdaa.P Go.Proofs.Ytajogmlblknfdaa.Pl
def isPM (s : ByteArray) (m : Nat) : Bool := bt s (m : Int) == 43 || bt s (m : Int) == 45
def isS (n : Int) (s : ByteArray) : Bool := decide (3 ≤ n ∧ n ≤ 7 ∧ (s.size : Int) = Int.tdiv (n * (n - 1) * (n - 2)) 6) && (List.range s.size).all (isPM s)
theorem range_drop' (n i : Nat) (h : i < n) : (List.range n).drop i = i :: (List.range n).drop (i + 1) := by
  rw [List.drop_eq_getElem_cons (by simpa using h)]
  simp
def sgAt (s : ByteArray) (m : Nat) : Int := if bt s (m : Int) = 45 then -1 else 1
def tab (n : Nat) (s : ByteArray) : List Int := fill (sgAt s) (tri n) 0 (chiNew n)
def sg (n : Nat) (s : ByteArray) (x y z : Int) : Int := sval (sgAt s) 0 (src (tri n) 0 x y z)
theorem rdT_lt (l : List T3) (i : Nat) (h : i < l.length) : rd_T60 l (i : Int) = l[i] := by
  unfold rd_T60
  rw [Int.toNat_natCast, getD_lt _ _ _ h]
def srt2 (n x y z p : Int) : Option (Int × Int) := if x > y then (spec_l3Index.f 60 n y x z).map fun m => (m, -p) else (spec_l3Index.f 60 n x y z).map fun m => (m, p)
def srt1 (n x y z p : Int) : Option (Int × Int) := if y > z then srt2 n x z y (-p) else srt2 n x y z p
def srt (n x y z : Int) : Option (Int × Int) := if x > y then srt1 n y x z (-1) else srt1 n x y z 1
def okSrt (n : Nat) (x y z : Nat) : Bool :=
  match srt n x y z, src (tri n) 0 x y z with
  | some (m, p), some (q, b) => m == (q : Int) && decide (q < (tri n).length) && (p == if b then 1 else -1)
  | _, _ => false
def look (s : ByteArray) (m p : Int) : Int := if bt s m = 45 then wrap64 (-p) else p
theorem loopR {β ρ : Type} (g : List β → Nat → Nat → Option ρ) (m : Nat) (item : Nat → List β) (tail R : List β) (r : ρ) (lo : Nat) (hlo : lo ≤ m) (hend : ∀ acc, acc ++ tail = R → Ev (g acc m) r)
    (hstep : ∀ c, lo ≤ c → c < m → ∀ acc X, acc ++ (item c ++ X) = R → (∀ acc', acc' ++ X = R → Ev (g acc' (c + 1)) r) → Ev (g acc c) r) : ∀ acc, acc ++ (((List.range m).drop lo).flatMap item ++ tail) = R → Ev (g acc lo) r := by
  have key : ∀ d c, lo ≤ c → c + d = m → ∀ acc, acc ++ (((List.range m).drop c).flatMap item ++ tail) = R → Ev (g acc c) r := by
    intro d
    induction d with
    | zero =>
      intro c _ hc acc h
      obtain rfl : c = m := by omega
      rw [List.drop_of_length_le (by simp)] at h
      exact hend acc (by simpa using h)
    | succ d ih =>
      intro c hl hc acc h
      rw [range_drop' m c (by omega), List.flatMap_cons, List.append_assoc] at h
      exact hstep c hl (by omega) acc _ h (fun acc' h' => ih (c + 1) (by omega) (by omega) acc' h')
  exact key (m - lo) lo (Nat.le_refl _) (by omega)
theorem flat_range {α β : Type} (d : α) (f : α → List β) (l : List α) : l.flatMap f = (List.range l.length).flatMap fun i => f (l.getD i d) := by
  have h : l = (List.range l.length).map fun i => l.getD i d := by
    apply List.ext_getElem
    · simp
    · intro i h1 h2
      simp [h1]
  conv => lhs; rw [h]
  rw [List.flatMap_map]
theorem acc_le {β : Type} {acc X R : List β} (h : acc ++ X = R) : acc.length ≤ R.length := by
  rw [← h, List.length_append]
  omega
theorem flatB_len {α β : Type} (f : α → List β) (B : Nat) (h : ∀ x, (f x).length ≤ B) : ∀ l : List α, (l.flatMap f).length ≤ B * l.length := by
  intro l
  induction l with
  | nil => simp
  | cons x l ih =>
    have := h x
    rw [List.flatMap_cons, List.length_append, List.length_cons, Nat.mul_succ]
    omega
def pm (v : Int) : Int := if v > 0 then 43 else 45
def codesT (l : List Int) (ts : List T3) : List Int := ts.map fun t => pm (chiA l t.f0 t.f1 t.f2)
theorem tri_nat (n : Nat) (hn : n ≤ 7) (m : Nat) (hm : m < (tri n).length) : ∃ a b c : Nat, a < b ∧ b < c ∧ c < n ∧ (tri n)[m] = ⟨a, b, c⟩ := by
  have h := tri_ok n hn
  rw [List.all_eq_true] at h
  have h := h _ (List.getElem_mem hm)
  generalize (tri n)[m] = t at h ⊢
  obtain ⟨a, b, c⟩ := t
  unfold okT at h
  rw [decide_eq_true_eq] at h
  dsimp only at h
  obtain ⟨a, rfl⟩ := Int.eq_ofNat_of_zero_le h.1
  obtain ⟨b, rfl⟩ := Int.eq_ofNat_of_zero_le (show 0 ≤ b by omega)
  obtain ⟨c, rfl⟩ := Int.eq_ofNat_of_zero_le (show 0 ≤ c by omega)
  exact ⟨a, b, c, by omega, by omega, by omega, rfl⟩
theorem near_more (p : Pt) (h : nearB 50 p = true) : nearB 1000 p = true := by
  unfold nearB at h ⊢
  simp only [Bool.and_eq_true, decide_eq_true_eq] at h ⊢
  omega
theorem specTurn_eq (a b c : Pt) (ha : nearB 50 a = true) (hb : nearB 50 b = true) (hc : nearB 50 c = true) : spec_TurnOf.f a.f0 a.f1 b.f0 b.f1 c.f0 c.f1 = some (sgn (areaP a b c)) := by
  unfold spec_TurnOf.f spec_AreaOf.f
  rw [fits_eq a 1000 (by omega), fits_eq b 1000 (by omega), fits_eq c 1000 (by omega), near_more a ha, near_more b hb, near_more c hc]
  simp only [Option.bind_some, if_true]
  rw [show spec_l2Area.f a.f0 a.f1 b.f0 b.f1 c.f0 c.f1 = some (areaP a b c) from rfl]
  simp only [Option.bind_some]
  rw [l2Sign_eq]
  rfl
def trn (l : List Pt) (a b c : Nat) : Int := sgn (areaP (rdP l a) (rdP l b) (rdP l c))
def chgI (l m : List Pt) (a b c : Nat) : List (List Int) := if trn l a b c = trn m a b c then [] else [[(a : Int), b, c]]
def chgT (l m : List Pt) (t : T3) : List (List Int) := chgI l m t.f0.toNat t.f1.toNat t.f2.toNat
def chgR (l m : List Pt) : List (List Int) := (tri l.length).flatMap (chgT l m)
theorem chgR_eq (l m : List Pt) (hn : l.length ≤ 7) : chgR l m = ((List.range l.length).drop 0).flatMap fun a => ((List.range l.length).drop (a + 1)).flatMap fun b => ((List.range l.length).drop (b + 1)).flatMap (chgI l m a b) := by
  unfold chgR
  rw [← list3_eq _ hn]
  unfold list3
  simp only [List.flatMap_assoc, List.flatMap_map]
  rfl
theorem chgI_len (l m : List Pt) (a b c : Nat) : (chgI l m a b c).length ≤ 1 ∧ ∀ x ∈ chgI l m a b c, x.length ≤ 1000 := by
  unfold chgI
  split
  · exact ⟨by simp, by simp⟩
  · exact ⟨by simp, by simp⟩
theorem tri_smallC (n : Nat) (hn : n ≤ 7) : (tri n).length ≤ 35 := by
  have : n = 0 ∨ n = 1 ∨ n = 2 ∨ n = 3 ∨ n = 4 ∨ n = 5 ∨ n = 6 ∨ n = 7 := by omega
  rcases this with rfl | rfl | rfl | rfl | rfl | rfl | rfl | rfl <;> simp [tri]
theorem chgR_small (l m : List Pt) (hn : l.length ≤ 7) : ((chgR l m).length ≤ 1000 ∧ ∀ x ∈ chgR l m, x.length ≤ 1000) ∧ (chgR l m).length ≤ 35 := by
  have h1 := flatB_len (chgT l m) 1 (fun t => (chgI_len l m _ _ _).1) (tri l.length)
  have h2 := tri_smallC _ hn
  refine ⟨⟨by unfold chgR; omega, ?_⟩, by unfold chgR; omega⟩
  intro x hx
  unfold chgR at hx
  rw [List.mem_flatMap] at hx
  obtain ⟨t, _, hx⟩ := hx
  exact (chgI_len l m _ _ _).2 x hx
theorem near_all {l : List Pt} (h : areP l = true) (i : Nat) (hi : i < l.length) : nearB 50 (rdP l i) = true := by
  unfold areP at h
  rw [Bool.and_eq_true, Bool.and_eq_true] at h
  exact nearAll_at h.2.1 i hi
theorem spec_chg (l m : List Pt) (hl : areP l = true) (hm : areP m = true) (hlm : m.length = l.length) : Ev (fun k => spec_ChangedBy.l0 k l [] m true ((0 : Nat) : Int)) (chgR l m) := by
  obtain ⟨_, h7⟩ := areP_len hl
  have hR := (chgR_small l m h7).2
  refine loopR (fun acc a k => spec_ChangedBy.l0 k l acc m true (a : Nat)) l.length (fun a => ((List.range l.length).drop (a + 1)).flatMap fun b => ((List.range l.length).drop (b + 1)).flatMap (chgI l m a b)) [] (chgR l m) (chgR l m) 0 (by omega) ?_ ?_ [] (by rw [chgR_eq l m h7]; simp)
  · intro acc h
    rw [List.append_nil] at h
    exact Ev.step (fun k => spec_ChangedBy.l0.eq_2 ..) (Ev.ite_neg (by omega) (Ev.step (fun k => spec_ChangedBy.j1.eq_2 ..) (Ev.ite_neg (by simp) (Ev.const (by rw [h])))))
  intro a _ ha acc X h ih
  refine Ev.step (fun k => spec_ChangedBy.l0.eq_2 ..) (Ev.ite_pos (by omega) (Ev.step (fun k => spec_ChangedBy.j1.eq_2 ..) (Ev.ite_pos rfl ?_)))
  rw [wrap_nat a (by omega)]
  refine loopR (fun acc b k => spec_ChangedBy.l1 k l acc m true a (b : Nat)) l.length (fun b => ((List.range l.length).drop (b + 1)).flatMap (chgI l m a b)) X (chgR l m) (chgR l m) (a + 1) (by omega) ?_ ?_ acc h
  · intro acc h
    refine Ev.step (fun k => spec_ChangedBy.l1.eq_2 ..) (Ev.ite_neg (by omega) ?_)
    rw [wrap_nat a (by omega)]
    exact ih acc h
  intro b hab hb acc X' h ih'
  refine Ev.step (fun k => spec_ChangedBy.l1.eq_2 ..) (Ev.ite_pos (by omega) ?_)
  rw [wrap_nat b (by omega)]
  refine loopR (fun acc c k => spec_ChangedBy.l2 k l acc m true a b (c : Nat)) l.length (chgI l m a b) X' (chgR l m) (chgR l m) (b + 1) (by omega) ?_ ?_ acc h
  · intro acc h
    refine Ev.step (fun k => spec_ChangedBy.l2.eq_2 ..) (Ev.ite_neg (by omega) ?_)
    rw [wrap_nat b (by omega)]
    exact ih' acc h
  intro c hbc hc acc X'' h ih''
  have hacc := acc_le h
  have t1 := specTurn_eq (rdP l a) (rdP l b) (rdP l c) (near_all hl a ha) (near_all hl b hb) (near_all hl c hc)
  have t2 := specTurn_eq (rdP m a) (rdP m b) (rdP m c) (near_all hm a (by omega)) (near_all hm b (by omega)) (near_all hm c (by omega))
  refine Ev.step (fun k => spec_ChangedBy.l2.eq_2 ..) (Ev.ite_pos (by omega) (Ev.ite_pos (by omega) (Ev.ite_pos (by omega) (Ev.ite_pos (by omega) (Ev.ite_pos (by omega) (Ev.ite_pos (by omega) (Ev.bind0 t1 (Ev.ite_pos (by omega) (Ev.ite_pos (by omega) (Ev.ite_pos (by omega) (Ev.bind0 t2 ?_)))))))))))
  rw [wrap_nat c (by omega)]
  unfold chgI trn at h
  by_cases e : sgn (areaP (rdP l a) (rdP l b) (rdP l c)) = sgn (areaP (rdP m a) (rdP m b) (rdP m c))
  · rw [if_pos e] at h
    exact Ev.ite_pos e (ih'' acc h)
  · rw [if_neg e] at h
    exact Ev.ite_neg e (Ev.ite_pos (by omega) (ih'' _ (by rw [List.append_assoc]; exact h)))
theorem impl_chg (l m : List Pt) (hl : areP l = true) (hm : areP m = true) (hlm : m.length = l.length) : Ev (fun k => impl_ChangedBy.l0 k l m [] (tri l.length) ((tri l.length).length : Int) ((0 : Nat) : Int)) (chgR l m) := by
  obtain ⟨_, h7⟩ := areP_len hl
  have hR := (chgR_small l m h7).2
  have ht := tri_smallC _ h7
  refine loopR (fun acc (i : Nat) k => impl_ChangedBy.l0 k l m acc (tri l.length) ((tri l.length).length : Int) (i : Int)) (tri l.length).length (fun i => chgT l m ((tri l.length).getD i ⟨0, 0, 0⟩)) [] (chgR l m) (chgR l m) 0 (by omega) ?_ ?_ [] (by unfold chgR; rw [flat_range (⟨0, 0, 0⟩ : T3)]; simp)
  · intro acc h
    rw [List.append_nil] at h
    exact Ev.step (fun k => impl_ChangedBy.l0.eq_2 ..) (Ev.ite_neg (by omega) (Ev.const (by rw [h])))
  intro i _ hi acc X h ih
  have hacc := acc_le h
  obtain ⟨a, b, c, hab, hbc, hc, e⟩ := tri_nat l.length h7 i hi
  rw [getD_lt _ _ _ hi, e] at h
  have h : acc ++ (chgI l m a b c ++ X) = chgR l m := h
  have t1 := TurnOf_ev (rdP l a) (rdP l b) (rdP l c) (near_all hl a (by omega)) (near_all hl b (by omega)) (near_all hl c hc)
  have t2 := TurnOf_ev (rdP m a) (rdP m b) (rdP m c) (near_all hm a (by omega)) (near_all hm b (by omega)) (near_all hm c (by omega))
  refine Ev.step (fun k => impl_ChangedBy.l0.eq_2 ..) (Ev.ite_pos (by omega) (Ev.ite_pos (by omega) (Ev.ite_pos (by omega) ?_)))
  rw [rdT_lt _ i hi, e, wrap_nat i (by omega)]
  dsimp only
  refine Ev.ite_pos (by omega) (Ev.ite_pos (by omega) (Ev.ite_pos (by omega) (Ev.ite_pos (by omega) (Ev.ite_pos (by omega) (Ev.ite_pos (by omega) (Ev.bind t1 (Ev.ite_pos (by omega) (Ev.ite_pos (by omega) (Ev.ite_pos (by omega) (Ev.bind t2 ?_))))))))))
  unfold chgI trn at h
  by_cases e : sgn (areaP (rdP l a) (rdP l b) (rdP l c)) = sgn (areaP (rdP m a) (rdP m b) (rdP m c))
  · rw [if_pos e] at h
    exact Ev.ite_pos e (ih acc h)
  · rw [if_neg e] at h
    exact Ev.ite_neg e (Ev.ite_pos (by omega) (ih _ (by rw [List.append_assoc]; exact h)))
theorem changed_both (l : List Pt) (hl : l.length ≤ 1048576) (i : Int) (p : Pt) : ∃ L : List (List Int), (L.length ≤ 1000 ∧ ∀ x ∈ L, x.length ≤ 1000) ∧ Ev (fun k => spec_ChangedBy.f k l i p.f0 p.f1) L ∧ Ev (fun k => impl_ChangedBy.f k l i p.f0 p.f1) L := by
  have hS := spec_Move_ev l hl i p
  have hI := impl_Move_ev l hl i p
  unfold mvP at hS hI
  unfold spec_ChangedBy.f impl_ChangedBy.f
  by_cases h : areP l = true ∧ 0 ≤ i ∧ i < (l.length : Int) ∧ areP (l.set i.toNat p) = true
  · rw [if_pos h] at hS hI
    obtain ⟨_, h7⟩ := areP_len h.1
    have k1 := spec_chg l (l.set i.toNat p) h.1 h.2.2.2 (by simp)
    have k2 := impl_chg l (l.set i.toNat p) h.1 h.2.2.2 (by simp)
    exact ⟨chgR l (l.set i.toNat p), (chgR_small l _ h7).1, Ev.bind hS k1, Ev.bind hI (Ev.ite_pos rfl (Ev.bind (triplesOf_ev l.length h7) k2))⟩
  · rw [if_neg h] at hS hI
    refine ⟨[], ⟨by simp, by simp⟩, Ev.bind hS ?_, Ev.bind hI (Ev.ite_neg (by simp) (Ev.now _))⟩
    have e : Ev (fun k => spec_ChangedBy.j1 k l [] [] false 0 false) [] := Ev.step (fun k => spec_ChangedBy.j1.eq_2 ..) (Ev.ite_neg (by simp) (Ev.now _))
    refine Ev.step (fun k => spec_ChangedBy.l0.eq_2 ..) ?_
    by_cases c : (0 : Int) < (l.length : Int)
    · exact Ev.ite_pos c e
    · exact Ev.ite_neg c e
end Go.Proofs.Ytajogmlblknfdaa.Pure
