/- A table of signs as a row of 344 whole numbers: the number of elements, and the sign of i, j, k at 1 + 49 i + 7 j + k. Where its cells lie. -/
import Derived.Lib.SliceRun
import Derived.Test.YtbmoaphiheoanaaWWords
import Derived.Test.YtbmoaphiheoanaaWMore
import Derived.Laws.MakeOwn
namespace Go.Proofs.Ytbmoaphiheoanaa.P
open Go.RowKit Go.Proofs.YtbmoaphiheoanaaW.PrintWords
def chiN (l : List Int) : Int := rd l 0
def chiA (l : List Int) (i j k : Int) : Int := rd l (1 + 49 * i + 7 * j + k)
/-- A pointer to a table, where a slice's value is told. -/
def ptrOf : Value → Value
  | .slice A _ _ => .pointer A
  | v => v
theorem ptrOf_slice (A : Option Addr) (n c : Nat) : ptrOf (.slice A n c) = .pointer A := rfl
theorem chi_n {w : World} {A : Option Addr} {n : Nat} {l : List Int} (h : (Kd.int .i64).C w A n l) (hl : 344 ≤ (n : Int)) : ∃ ad, A = some ad ∧ w.cell? ad = some (.int .i64 (chiN l)) := by
  obtain ⟨ad, e, hc⟩ := Kd.at_int h 0 (by omega) (by omega)
  refine ⟨ad, e, ?_⟩
  rw [show (0 : Int).toNat = 0 from rfl] at hc
  unfold Addr.add at hc
  rw [if_pos rfl] at hc
  exact hc
theorem chi_at {w : World} {A : Option Addr} {n : Nat} {l : List Int} (h : (Kd.int .i64).C w A n l) (hl : 344 ≤ (n : Int)) {i j k : Int} (hi : 0 ≤ i) (hi7 : i < 7) (hj : 0 ≤ j) (hj7 : j < 7) (hk : 0 ≤ k) (hk7 : k < 7) :
    ∃ ad, A = some ad ∧ w.cell? ⟨ad.block, ad.off + 1 + i.toNat * 49 + j.toNat * 7 + k.toNat, none⟩ = some (.int .i64 (chiA l i j k)) := by
  obtain ⟨ad, e, hc⟩ := Kd.at_int h (1 + 49 * i + 7 * j + k) (by omega) (by omega)
  refine ⟨ad, e, ?_⟩
  have e1 : (1 + 49 * i + 7 * j + k).toNat = 1 + i.toNat * 49 + j.toNat * 7 + k.toNat := by omega
  rw [e1] at hc
  unfold Addr.add at hc
  rw [if_neg (by omega)] at hc
  rw [show ad.off + 1 + i.toNat * 49 + j.toNat * 7 + k.toNat = ad.off + (1 + i.toNat * 49 + j.toNat * 7 + k.toNat) by omega]
  exact hc
/-- A fresh table's cells. -/
def chiNew (n : Int) : List Int := n :: List.replicate 343 0
theorem chiNew_length (n : Int) : (chiNew n).length = 344 := by rw [chiNew, List.length_cons, List.length_replicate]
def chiCells (n : Int) : Array Value := (encs (Value.int .i64) (chiNew n)).toArray
theorem chiCells_size (n : Int) : (chiCells n).toList.length = 344 := by rw [chiCells, encs, List.length_map, chiNew_length]
section
variable {P : Program} {ops : Array Oper} {rest : List Oper} {o : Oper} {a : Act} {Q : Exit → Act → World → Prop}
theorem chi_build {W : World} (hgd : o.guard = none) {N : Tmp} (_hd : o.dst = some N) {n : Int} (hrun : (execOp a.eval o).run P W = .ok (.value (.agg (chiCells n))) W)
    (h : wpList P ops Q rest (a.put o.dst (.agg (chiCells n))) W) : wpList P ops Q (o :: rest) a W := Kd.event_run hgd hrun h
theorem chi_make {w0 W : World} (base e : Nat) (hgd : o.guard = none) {N : Tmp} (_hd : o.dst = some N) {n : Int} {ok : Nat → Prop}
    (hrun : (execOp a.eval o).run P W = .ok (.value (.pointer (some ⟨W.heap.size, 0, none⟩))) (W.alloc (.cells (chiCells n) e))) (hfresh : ok W.heap.size) (HB : Below base w0 W) (hbase : base ≤ W.heap.size)
    (h : ∀ v1 w1, (Kd.int .i64).R e w1 base ok v1 (chiNew n) → Below base w0 w1 → W.grownBy w1 none → (∃ b, v1.ownBlock = some b ∧ W.heap.size ≤ b) → wpList P ops Q rest (a.put o.dst (ptrOf v1)) w1) : wpList P ops Q (o :: rest) a W := by
  refine Kd.event_run hgd hrun (h (.slice (some ⟨W.heap.size, 0, none⟩) 344 344) _ (Kd.R_of_own ?_ (fun k hk => ?_)) (HB.alloc hbase _) (World.grownBy_alloc W _ none) ⟨W.heap.size, by simp [Value.ownBlock], Nat.le_refl _⟩)
  · have h2 := World.ownsRow_lit (base := base) (e := e) (size := 1) W (chiCells n) 344 hbase (by decide) (chiCells_size n)
    rw [chiNew_length]
    exact h2
  · have : W.heap.size = k := by simpa [Value.ownBlock] using hk
    subst this
    exact hfresh
end
/-- A row that is nil where it is empty. -/
def NZ {α : Type} (v : Value) (xs : List α) : Prop := xs = [] → v = .slice none 0 0
theorem nz_nil {α : Type} (xs : List α) : NZ (.slice none 0 0) xs := fun _ => rfl
theorem nz_cons {α : Type} {v : Value} {x : α} {xs ys : List α} (h : ys = x :: xs) : NZ v ys := fun e => by rw [h] at e; cases e
end Go.Proofs.Ytbmoaphiheoanaa.P
