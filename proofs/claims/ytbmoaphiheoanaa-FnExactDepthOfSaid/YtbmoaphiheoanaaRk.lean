/- Opening a law's arguments: structs by value and slices of structs, read as the print's kinds. Nothing is assumed of them but that they read as data. -/
import Derived.Test.YtbmoaphiheoanaaWWords
import Derived.ChangeArms
import Derived.Deep.Slices
import Derived.Deep.Fields
import Derived.WideShapes
namespace Go.Proofs.Ytbmoaphiheoanaa.Rk
open Go.RowKit Go.ChangeShapes Go.WideShapes Go.Deep Go.Proofs.YtbmoaphiheoanaaW.PrintWords
def I64 (n : Int) : Prop := -9223372036854775808 ≤ n ∧ n ≤ 9223372036854775807
theorem I64_of {n : Int} (h : (Lit.int .i64 n).wf = true) : I64 n := by
  have e1 : IntKind.i64.min = -9223372036854775808 := by decide
  have e2 : IntKind.i64.max = 9223372036854775807 := by decide
  simp [Lit.wf, e1, e2] at h
  unfold I64
  omega
section
variable {H : Type} {enc : TypeId × Value → H} {P : Program} {w : World} {base : Nat} {spare : Nat → Bool} {held : Bool} {α : Type}
/-- What reads as a value of type e is an element of kind d, and has Q. -/
def Elem (enc : TypeId × Value → H) (P : Program) (w : World) (base : Nat) (spare : Nat → Bool) (held : Bool) (e : TypeId) (d : Kd α) (Q : α → Prop) : Prop :=
  ∀ (fuel : Nat) (cs : List Value) (x : DataW H × List MemPlace), DataW.trod enc P w base spare held fuel e cs = some x → ∃ y, d.K w y cs ∧ Q y
theorem row_of [Inhabited α] {t e : TypeId} {d : Kd α} {Q : α → Prop} {a : Option Addr} {len cap : Nat} {D : DataW H} {ps : List MemPlace} (ht : P.underlying t = some (.slice e)) (hC : P.cellsOf e = d.sz) (he : Elem enc P w base spare held e d Q)
    (h : DataW.Trod enc P w base spare held t (.slice a len cap) D ps) : ∃ l : List α, len = l.length ∧ d.C w a l.length l ∧ l.length ≤ cap ∧ l.length ≤ 9223372036854775807 ∧ ∀ y ∈ l, Q y := by
  obtain ⟨fuel, hf⟩ := h
  rcases open_slice ht hf with ⟨hcs, _⟩ | ⟨ad, len', cap', m, n, D', Pl, hcs, _, hl, hm, hmm, _, hi⟩
  · simp [Value.cells] at hcs
    obtain ⟨rfl, rfl, rfl⟩ := hcs
    exact ⟨[], rfl, Kd.C_nil d w, Nat.zero_le _, by simp, fun y hy => by simp at hy⟩
  · simp [Value.cells] at hcs
    obtain ⟨rfl, rfl, rfl⟩ := hcs
    have hlm : len ≤ m := by rw [hmm]; split <;> omega
    have key : ∀ i, i < len → ∃ y : α, ∃ cs : List Value, cs.length = d.sz ∧ d.K w y cs ∧ Q y ∧ ∀ j u, cs[j]? = some u → w.cell? (ad.add (i * d.sz + j)) = some u := by
      intro i hil
      obtain ⟨cs', hc, htr⟩ := hi i (by omega)
      rw [hC] at hc
      obtain ⟨_, hcl, hat⟩ := World.cells?_some hc
      obtain ⟨y, hK, hQ⟩ := he _ _ _ htr
      refine ⟨y, cs', hcl, hK, hQ, fun j u hu => ?_⟩
      have hj : j < d.sz := by rw [← hcl]; exact (List.getElem?_eq_some_iff.1 hu).1
      rw [← Deep.add_add, hat j hj]
      exact hu
    obtain ⟨f, hff⟩ := choose_lt key
    unfold maxLen at hm
    refine ⟨(List.range len).map f, by simp, ⟨rfl, by simp; omega, fun hn => ⟨ad, rfl, fun j p hp => ?_⟩⟩, by simpa using hl, by simp; omega, fun y hy => ?_⟩
    · have hjl : j < len := by simpa using (List.getElem?_eq_some_iff.1 hp).1
      have : p = f j := by simpa [hjl] using hp.symm
      subst this
      obtain ⟨cs, h1, h2, _, h4⟩ := hff j hjl
      exact ⟨cs, h1, h2, h4⟩
    · obtain ⟨i, hi2, rfl⟩ := List.mem_map.1 hy
      exact (hff i (List.mem_range.1 hi2)).choose_spec.2.2.1
theorem ints_of {t e : TypeId} {k : IntKind} {a : Option Addr} {len cap : Nat} {D : DataW H} {ps : List MemPlace} (ht : P.underlying t = some (.slice e)) (hu : P.underlying e = some (.int k)) (hC : P.cellsOf e = 1)
    (h : DataW.Trod enc P w base spare held t (.slice a len cap) D ps) : ∃ l : List Int, len = l.length ∧ (Kd.int k).C w a l.length l ∧ l.length ≤ cap ∧ l.length ≤ 9223372036854775807 ∧ ∀ y ∈ l, (Lit.int k y).wf = true :=
  row_of (d := Kd.int k) (Q := fun y => (Lit.int k y).wf = true) ht hC (fun fuel cs x hx => by
    obtain ⟨n, rfl, _, hw⟩ := DataW.trod_int hu hx
    exact ⟨n, rfl, hw⟩) h
end
end Go.Proofs.Ytbmoaphiheoanaa.Rk
