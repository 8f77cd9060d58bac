/- What the law FnExactCountRenamed reaches, part 12: functions as plain Lean functions with the proofs that their calls come to them, and plain lemmas over these. Put together by a program (wip/pack.py). -/
import Derived.Test.YteblnjoljbdjjaaKFnExactCountRenamedc
import Derived.Test.YteblnjoljbdjjaaKFnExactCountRenamedg
import Derived.Test.YteblnjoljbdjjaaKFnExactCountRenamedh
import Derived.Test.YteblnjoljbdjjaaKFnExactCountRenamedk
import Derived.Test.YteblnjoljbdjjaaKFnExactCountRenamede
import Derived.Test.YteblnjoljbdjjaaKFnExactCountRenamedd
import Derived.Test.YteblnjoljbdjjaaKFnExactCountRenamedi
import Derived.Test.YteblnjoljbdjjaaKFnExactCountRenamedj
import Derived.Test.YteblnjoljbdjjaaKFnExactCountRenamedf
import Derived.Sort.Walk0
import Derived.Lib.Bytes
namespace Go.Proofs.Yteblnjoljbdjjaa.Pure
set_option linter.unusedSimpArgs false
set_option linter.unusedVariables false
open Go.RowKit Go.Proofs.YteblnjoljbdjjaaW.PrintWords Go.Proofs.Yteblnjoljbdjjaa.P Go.Proofs.Yteblnjoljbdjjaa.Pl
abbrev Q4 := S174
def quad : Nat → List Q4
  | 4 => [⟨0, 1, 2, 3⟩]
  | 5 => [⟨0, 1, 2, 3⟩, ⟨0, 1, 2, 4⟩, ⟨0, 1, 3, 4⟩, ⟨0, 2, 3, 4⟩, ⟨1, 2, 3, 4⟩]
  | 6 => [⟨0, 1, 2, 3⟩, ⟨0, 1, 2, 4⟩, ⟨0, 1, 2, 5⟩, ⟨0, 1, 3, 4⟩, ⟨0, 1, 3, 5⟩, ⟨0, 1, 4, 5⟩, ⟨0, 2, 3, 4⟩, ⟨0, 2, 3, 5⟩, ⟨0, 2, 4, 5⟩, ⟨0, 3, 4, 5⟩, ⟨1, 2, 3, 4⟩, ⟨1, 2, 3, 5⟩, ⟨1, 2, 4, 5⟩, ⟨1, 3, 4, 5⟩, ⟨2, 3, 4, 5⟩]
  | 7 => [⟨0, 1, 2, 3⟩, ⟨0, 1, 2, 4⟩, ⟨0, 1, 2, 5⟩, ⟨0, 1, 2, 6⟩, ⟨0, 1, 3, 4⟩, ⟨0, 1, 3, 5⟩, ⟨0, 1, 3, 6⟩, ⟨0, 1, 4, 5⟩, ⟨0, 1, 4, 6⟩, ⟨0, 1, 5, 6⟩, ⟨0, 2, 3, 4⟩, ⟨0, 2, 3, 5⟩, ⟨0, 2, 3, 6⟩, ⟨0, 2, 4, 5⟩, ⟨0, 2, 4, 6⟩, ⟨0, 2, 5, 6⟩, ⟨0, 3, 4, 5⟩, ⟨0, 3, 4, 6⟩, ⟨0, 3, 5, 6⟩, ⟨0, 4, 5, 6⟩, ⟨1, 2, 3, 4⟩, ⟨1, 2, 3, 5⟩, ⟨1, 2, 3, 6⟩, ⟨1, 2, 4, 5⟩, ⟨1, 2, 4, 6⟩, ⟨1, 2, 5, 6⟩, ⟨1, 3, 4, 5⟩, ⟨1, 3, 4, 6⟩, ⟨1, 3, 5, 6⟩, ⟨1, 4, 5, 6⟩, ⟨2, 3, 4, 5⟩, ⟨2, 3, 4, 6⟩, ⟨2, 3, 5, 6⟩, ⟨2, 4, 5, 6⟩, ⟨3, 4, 5, 6⟩]
  | _ => []
def okQ (n : Nat) (q : Q4) : Bool := decide (0 ≤ q.f0 ∧ q.f0 < q.f1 ∧ q.f1 < q.f2 ∧ q.f2 < q.f3 ∧ q.f3 < n)
def brk (n : Nat) (s : ByteArray) (a b c d e : Int) : Bool :=
  decide (wrap64 (sg n s a b c * sg n s a d e) = wrap64 (sg n s a b e * sg n s a c d)) && (wrap64 (sg n s a b e * sg n s a c d) == wrap64 ((wrap64 (-(sg n s a b d))) * sg n s a c e))
def avoid (a : Int) (q : Q4) : Bool := !(q.f0 == a || q.f1 == a || q.f2 == a || q.f3 == a)
def brkQ (n : Nat) (s : ByteArray) (a : Int) (q : Q4) : Bool := brk n s a q.f0 q.f1 q.f2 q.f3
def anyA (n : Nat) (s : ByteArray) (a : Nat) : Bool := (quad n).any fun q => avoid a q && brkQ n s a q
def anyB (n : Nat) (s : ByteArray) : Bool := (List.range n).any (anyA n s)
def oth (n a : Nat) : List Int := ((List.range n).filter fun x => x != a).map fun x : Nat => (x : Int)
def listQ (n a : Nat) : List Q4 :=
  ((List.range (oth n a).length).drop 0).flatMap fun b : Nat => ((List.range (oth n a).length).drop (b + 1)).flatMap fun c : Nat => ((List.range (oth n a).length).drop (c + 1)).flatMap fun d : Nat => ((List.range (oth n a).length).drop (d + 1)).map fun e : Nat =>
    (⟨rd (oth n a) (b : Int), rd (oth n a) (c : Int), rd (oth n a) (d : Int), rd (oth n a) (e : Int)⟩ : Q4)
def tup (q : Q4) : Int × Int × Int × Int := (q.f0, q.f1, q.f2, q.f3)
def untup (q : Int × Int × Int × Int) : Q4 := ⟨q.1, q.2.1, q.2.2.1, q.2.2.2⟩
section
variable (n : Nat) (s : ByteArray) (a : Nat)
def b4 (b c d e : Nat) : Bool := brk n s a (rd (oth n a) (b : Int)) (rd (oth n a) (c : Int)) (rd (oth n a) (d : Int)) (rd (oth n a) (e : Int))
def b3 (b c d : Nat) : Bool := ((List.range (oth n a).length).drop (d + 1)).any (b4 n s a b c d)
def b2 (b c : Nat) : Bool := ((List.range (oth n a).length).drop (c + 1)).any (b3 n s a b c)
def b1 (b : Nat) : Bool := ((List.range (oth n a).length).drop (b + 1)).any (b2 n s a b)
end
def isM (n : Int) (s : ByteArray) : Bool := isS n s && !anyB n.toNat s
def byteS (v : Int) : ByteArray := if v > 0 then ⟨#[43]⟩ else ⟨#[45]⟩
def circT (p q r t : Int) : ByteArray := (((⟨#[43]⟩ : ByteArray) ++ byteS (wrap64 ((wrap64 (-p)) * q))) ++ byteS (wrap64 (p * r))) ++ byteS (wrap64 ((wrap64 (-p)) * t))
theorem l3Byte_eq (v : Int) : spec_l3Byte.f v = some (byteS v) := by
  unfold spec_l3Byte.f byteS
  by_cases h : v > 0
  · rw [if_pos h, if_pos h]
  · rw [if_neg h, if_neg h]
theorem byteS_size (v : Int) : (byteS v).size = 1 := by
  unfold byteS
  by_cases h : v > 0
  · rw [if_pos h]; rfl
  · rw [if_neg h]; rfl
def pm1 : List Int := [1, -1]
def listC (n : Nat) : List Q4 :=
  ((List.range n).drop 0).flatMap fun a : Nat => ((List.range n).drop (a + 1)).flatMap fun b : Nat => ((List.range n).drop (b + 1)).flatMap fun c : Nat => ((List.range n).drop (c + 1)).map fun d : Nat => (⟨a, b, c, d⟩ : Q4)
def mixed (n : Nat) (s : ByteArray) (a b c d : Int) : Bool := !decide ((circT (sg n s b c d) (sg n s a c d) (sg n s a b d) (sg n s a b c)).toList = ([43, 43, 43, 43] : List UInt8))
def mixQ (n : Nat) (s : ByteArray) (q : Q4) : Bool := mixed n s q.f0 q.f1 q.f2 q.f3
def acyT (n : Nat) (s : ByteArray) : Bool := (quad n).all (mixQ n s)
section
variable (n : Nat) (s : ByteArray)
def m4 (a b c d : Nat) : Bool := mixed n s a b c d
def m3 (a b c : Nat) : Bool := ((List.range n).drop (c + 1)).all (m4 n s a b c)
def m2 (a b : Nat) : Bool := ((List.range n).drop (b + 1)).all (m3 n s a b)
def m1 (a : Nat) : Bool := ((List.range n).drop (a + 1)).all (m2 n s a)
end
def isA (n : Int) (s : ByteArray) : Bool := isM n s && acyT n.toNat s
def D4 (n a b c d : Nat) : Prop := (a < n ∧ b < n ∧ c < n ∧ d < n) ∧ (a ≠ b ∧ a ≠ c ∧ a ≠ d ∧ b ≠ c ∧ b ≠ d ∧ c ≠ d)
def ct (n : Nat) (s : ByteArray) (a b c d : Nat) : ByteArray := circT (sg n s b c d) (sg n s a c d) (sg n s a b d) (sg n s a b c)
def sb (x : Bool) : UInt8 := if x then 43 else 45
def txt (x y z : Bool) : ByteArray := ⟨#[43, sb x, sb y, sb z]⟩
def cx (n : Nat) (s : ByteArray) (a b c d : Nat) : Bool := sg n s b c d != sg n s a c d
def cy (n : Nat) (s : ByteArray) (a b c d : Nat) : Bool := sg n s b c d == sg n s a b d
def cz (n : Nat) (s : ByteArray) (a b c d : Nat) : Bool := sg n s b c d != sg n s a b c
def bools : List Bool := [true, false]
def spl (x y z : Bool) (a b c d : Nat) : Int × Int :=
  let e : Nat → Bool → Int := fun i p => if p then 2 ^ i else 0
  (2 ^ a + e b x + e c y + e d z, e b (!x) + e c (!y) + e d (!z))
def okSpl (a b c d : Nat) : Bool := a == b || a == c || a == d || b == c || b == d || c == d || bools.all fun x => bools.all fun y => bools.all fun z =>
  impl_chi_split.l0 6 (txt x y z) 0 0 [(a : Int), b, c, d] 4 0 == some (spl x y z a b c d) && spec_l5Split.l0 6 [(a : Int), b, c, d] (txt x y z) 0 0 0 == some (spl x y z a b c d)
theorem D4.up {n a b c d : Nat} (h : D4 n a b c d) (hn : n ≤ 7) : D4 7 a b c d := by
  obtain ⟨⟨ha, hb, hc, hd⟩, h1, h2, h3, h4, h5, h6⟩ := h
  exact ⟨⟨by omega, by omega, by omega, by omega⟩, h1, h2, h3, h4, h5, h6⟩
def sp (n : Nat) (s : ByteArray) (a b c d : Nat) : Int × Int := spl (cx n s a b c d) (cy n s a b c d) (cz n s a b c d) a b c d
def pick1 (x : Int) : List Nat → Int
  | [] => -1
  | i :: is => if x = 2 ^ i then i else pick1 x is
def only (x : Int) : Int := pick1 x (List.range 7)
def inn (n : Nat) (s : ByteArray) (a b c d : Nat) : Int := mx (only (sp n s a b c d).1) (only (sp n s a b c d).2)
def has (set : Int) (i : Nat) : Bool := (Go.bits .and .i64 (shr .i64 set (i : Int)) 1) == 1
def listT (n : Nat) : List T3 :=
  ((List.range n).drop 0).flatMap fun a : Nat => ((List.range n).drop (a + 1)).flatMap fun b : Nat => ((List.range n).drop (b + 1)).map fun c : Nat => (⟨a, b, c⟩ : T3)
def tupT (q : T3) : Int × Int × Int := (q.f0, q.f1, q.f2)
def untupT (q : Int × Int × Int) : T3 := ⟨q.1, q.2.1, q.2.2⟩
theorem untupT_map (l : List T3) : (l.map tupT).map untupT = l := by
  rw [List.map_map]
  exact List.map_id' l
theorem all_t : (List.range 8).all (fun n => (listT n).map tupT == (tri n).map tupT) = true := by decide +kernel
theorem listT_eq (n : Nat) (hn : n ≤ 7) : listT n = tri n := by
  have h := all_t
  rw [List.all_eq_true] at h
  have h := congrArg (List.map untupT) (eq_of_beq (h n (by simp; omega)))
  rwa [untupT_map, untupT_map] at h
def okMask (set a b c : Nat) : Bool := decide (Go.bits .and .i64 (set : Int) (Go.bits .or .i64 (Go.bits .or .i64 (shl .i64 1 (a : Int)) (shl .i64 1 (b : Int))) (shl .i64 1 (c : Int))) = Go.bits .or .i64 (Go.bits .or .i64 (shl .i64 1 (a : Int)) (shl .i64 1 (b : Int))) (shl .i64 1 (c : Int))) == (has set a && has set b && has set c)
def hulT (n : Nat) (s : ByteArray) (set : Int) (p : Nat) (a b c : Nat) : Bool := has set a && has set b && has set c && (inn n s p a b c == p)
def hul (n : Nat) (s : ByteArray) (set : Int) (p : Nat) : Bool := (tri n).any fun t => hulT n s set p t.f0.toNat t.f1.toNat t.f2.toNat
def pm (v : Int) : Int := if v > 0 then 43 else 45
def codesT (l : List Int) (ts : List T3) : List Int := ts.map fun t => pm (chiA l t.f0 t.f1 t.f2)
theorem signs_ev (n : Nat) (hn : n ≤ 7) (l : List Int) (hl : l.length = 344) (hc : chiN l = n) : Ev (fun k => impl_chi_signs.f k l) ((n : Int), strOfNums (codesT l (tri n))) := by
  unfold impl_chi_signs.f
  rw [hc]
  refine Ev.ite_pos (by omega) (Ev.bind (triplesOf_ev n hn) ?_)
  have h35 : (tri n).length ≤ 1000 := by
    have : (List.range 8).all (fun n => decide ((tri n).length ≤ 1000)) = true := by decide +kernel
    rw [List.all_eq_true] at this
    simpa using this n (by simp; omega)
  have key := Ev.loop (fun i k => impl_chi_signs.l0 k l (codesT l ((tri n).take i)) (tri n) (tri n).length i) (tri n).length ((n : Int), strOfNums (codesT l (tri n))) ?_ ?_ 0 (by omega)
  · simpa [codesT] using key
  · refine Ev.step (fun k => impl_chi_signs.l0.eq_2 ..) (Ev.ite_neg (by omega) (Ev.ite_pos (by omega) (Ev.const ?_)))
    rw [List.take_length, hc]
  · intro i hi ih
    have ht := tri_at n hn i hi
    have hlen : (codesT l ((tri n).take i)).length < 140737488355328 := by unfold codesT; simp; omega
    refine Ev.step (fun k => impl_chi_signs.l0.eq_2 ..) (Ev.ite_pos (by omega) (Ev.ite_pos (by omega) (Ev.ite_pos (by omega) (Ev.ite_pos (by omega) ?_))))
    rw [wrap_nat i (by omega), rdT_lt _ i hi]
    have hcod : codesT l ((tri n).take (i + 1)) = codesT l ((tri n).take i) ++ [pm (chiA l (tri n)[i].f0 (tri n)[i].f1 (tri n)[i].f2)] := by
      unfold codesT
      rw [List.take_succ_eq_append_getElem hi, List.map_append]
      rfl
    rw [hcod] at ih
    generalize (tri n)[i] = t at ih ht ⊢
    unfold okT at ht
    rw [decide_eq_true_eq] at ht
    refine Ev.ite_pos (by omega) (Ev.ite_pos (by omega) (Ev.ite_pos (by omega) (Ev.ite_pos (by omega) (Ev.ite_pos (by omega) (Ev.ite_pos (by omega) ?_)))))
    unfold pm at ih
    by_cases h : chiA l t.f0 t.f1 t.f2 > 0
    · rw [if_pos h] at ih
      exact Ev.ite_pos h (Ev.ite_pos hlen ih)
    · rw [if_neg h] at ih
      exact Ev.ite_neg h (Ev.ite_pos hlen ih)
theorem all_tri : (List.range 8).all (fun n => (List.range (tri n).length).all fun m => (let t := (tri n).getD m ⟨0, 0, 0⟩; src (tri n) 0 t.f0 t.f1 t.f2 == some (m, true))) = true := by decide +kernel
theorem tri_src (n : Nat) (hn : n ≤ 7) (m : Nat) (hm : m < (tri n).length) : src (tri n) 0 (tri n)[m].f0 (tri n)[m].f1 (tri n)[m].f2 = some (m, true) := by
  have g := all_tri
  rw [List.all_eq_true] at g
  have g := g n (by simp; omega)
  rw [List.all_eq_true] at g
  have g := g m (by simpa using hm)
  rw [getD_lt _ _ _ hm] at g
  simpa using g
theorem tri_nat (n : Nat) (hn : n ≤ 7) (m : Nat) (hm : m < (tri n).length) : ∃ a b c : Nat, a < b ∧ b < c ∧ c < n ∧ (tri n)[m] = ⟨a, b, c⟩ := by
  have h := tri_ok n hn
  rw [List.all_eq_true] at h
  have h := h _ (List.getElem_mem hm)
  generalize (tri n)[m] = t at h ⊢
  obtain ⟨a, b, c⟩ := t
  unfold okT at h
  rw [decide_eq_true_eq] at h
  dsimp only at h
  obtain ⟨a, rfl⟩ := Int.eq_ofNat_of_zero_le h.1
  obtain ⟨b, rfl⟩ := Int.eq_ofNat_of_zero_le (show 0 ≤ b by omega)
  obtain ⟨c, rfl⟩ := Int.eq_ofNat_of_zero_le (show 0 ≤ c by omega)
  exact ⟨a, b, c, by omega, by omega, by omega, rfl⟩
theorem tab_tri (n : Nat) (hn : n ≤ 7) (s : ByteArray) (m : Nat) (hm : m < (tri n).length) : chiA (tab n s) (tri n)[m].f0 (tri n)[m].f1 (tri n)[m].f2 = sgAt s m := by
  obtain ⟨a, b, c, h1, h2, h3, e⟩ := tri_nat n hn m hm
  have hs := tri_src n hn m hm
  rw [e] at hs ⊢
  dsimp only at hs ⊢
  rw [tab_at n hn s a b c (by omega) (by omega) (by omega)]
  unfold sg
  rw [hs]
  rfl
def okD3 (t : T3) : Prop := ∃ a b c : Nat, t = ⟨a, b, c⟩ ∧ a < 7 ∧ b < 7 ∧ c < 7 ∧ a ≠ b ∧ b ≠ c ∧ a ≠ c
theorem chiA_put3d (l : List Int) (hl : l.length = 344) (t : T3) (ht : okD3 t) (v : Int) (x y z : Nat) (hx : x < 7) (hy : y < 7) (hz : z < 7) :
    chiA (put3 l t v) x y z = match par t x y z with | some true => v | some false => wrap64 (-v) | none => chiA l x y z := by
  obtain ⟨a, b, c, rfl, ha, hb, hc, h1, h2, h3⟩ := ht
  exact chiA_set l hl a b c ha hb hc h1 h2 h3 v x y z hx hy hz
theorem chiA_filld (v : Nat → Int) (x y z : Nat) (hx : x < 7) (hy : y < 7) (hz : z < 7) : ∀ (ts : List T3), (∀ t ∈ ts, okD3 t) → ∀ m l, l.length = 344 → chiA (fill v ts m l) x y z = sval v (chiA l x y z) (src ts m x y z) := by
  intro ts
  induction ts with
  | nil => intro _ m l _; rfl
  | cons t ts ih =>
    intro h m l hl
    rw [fill, ih (fun u hu => h u (List.mem_cons_of_mem _ hu)) (m + 1) _ (by unfold put3; rw [chiSet_length]; exact hl), chiA_put3d l hl t (h t List.mem_cons_self) (v m) x y z hx hy hz, src]
    cases hs : src ts (m + 1) x y z with
    | some p => obtain ⟨q, b⟩ := p; cases b <;> rfl
    | none =>
      cases hp : par t x y z with
      | none => rfl
      | some b => cases b <;> rfl
def permT (p : List Int) (t : T3) : T3 := ⟨rd p t.f0, rd p t.f1, rd p t.f2⟩
def isP (n : Nat) (p : List Int) : Prop := p.length = n ∧ (inv p).length = n ∧ ∀ a, a < n → (0 ≤ rd p (a : Int) ∧ rd p (a : Int) < n ∧ 0 ≤ rd (inv p) (a : Int) ∧ rd (inv p) (a : Int) < n) ∧ ∀ x, x < n → ((x : Int) = rd p (a : Int) ↔ rd (inv p) (x : Int) = (a : Int))
theorem par_perm (n : Nat) (p : List Int) (hp : isP n p) (a b c x y z : Nat) (ha : a < n) (hb : b < n) (hc : c < n) (hx : x < n) (hy : y < n) (hz : z < n) :
    par (permT p ⟨a, b, c⟩) x y z = par ⟨a, b, c⟩ (rd (inv p) (x : Int)) (rd (inv p) (y : Int)) (rd (inv p) (z : Int)) := by
  have h : ∀ u v : Nat, u < n → v < n → ((u : Int) = rd p (v : Int) ↔ rd (inv p) (u : Int) = (v : Int)) := fun u v hu hv => (hp.2.2 v hv).2 u hu
  unfold par permT
  simp only [h x a hx ha, h x b hx hb, h x c hx hc, h y a hy ha, h y b hy hb, h y c hy hc, h z a hz ha, h z b hz hb, h z c hz hc]
theorem src_perm (n : Nat) (p : List Int) (hp : isP n p) (x y z : Nat) (hx : x < n) (hy : y < n) (hz : z < n) : ∀ (ts : List T3), (∀ t ∈ ts, ∃ a b c : Nat, t = ⟨a, b, c⟩ ∧ a < n ∧ b < n ∧ c < n) → ∀ m,
    src (ts.map (permT p)) m x y z = src ts m (rd (inv p) (x : Int)) (rd (inv p) (y : Int)) (rd (inv p) (z : Int)) := by
  intro ts
  induction ts with
  | nil => intro _ m; rfl
  | cons t ts ih =>
    intro h m
    obtain ⟨a, b, c, rfl, ha, hb, hc⟩ := h t List.mem_cons_self
    rw [List.map_cons, src, src, ih (fun u hu => h u (List.mem_cons_of_mem _ hu)), par_perm n p hp a b c x y z ha hb hc hx hy hz]
theorem tri_mem (n : Nat) (hn : n ≤ 7) (t : T3) (h : t ∈ tri n) : ∃ a b c : Nat, t = ⟨a, b, c⟩ ∧ a < b ∧ b < c ∧ c < n := by
  obtain ⟨m, hm, rfl⟩ := List.getElem_of_mem h
  obtain ⟨a, b, c, h1, h2, h3, e⟩ := tri_nat n hn m hm
  exact ⟨a, b, c, e, h1, h2, h3⟩
theorem perm_ne (n : Nat) (p : List Int) (hp : isP n p) (a b : Nat) (ha : a < n) (hb : b < n) (h : a ≠ b) : rd p (a : Int) ≠ rd p (b : Int) := by
  intro e
  have h1 := hp.2.2 a ha
  have h2 := hp.2.2 b hb
  obtain ⟨u, hu⟩ := Int.eq_ofNat_of_zero_le h1.1.1
  have hun : u < n := by omega
  have k1 := (h1.2 u hun).mp hu.symm
  have k2 := (h2.2 u hun).mp (by rw [← e]; exact hu.symm)
  omega
theorem permT_ok (n : Nat) (hn : n ≤ 7) (p : List Int) (hp : isP n p) (t : T3) (h : t ∈ tri n) : okD3 (permT p t) := by
  obtain ⟨a, b, c, rfl, h1, h2, h3⟩ := tri_mem n hn t h
  have ka := (hp.2.2 a (by omega)).1
  have kb := (hp.2.2 b (by omega)).1
  have kc := (hp.2.2 c (by omega)).1
  have n1 := perm_ne n p hp a b (by omega) (by omega) (by omega)
  have n2 := perm_ne n p hp b c (by omega) (by omega) (by omega)
  have n3 := perm_ne n p hp a c (by omega) (by omega) (by omega)
  exact ⟨(rd p (a : Int)).toNat, (rd p (b : Int)).toNat, (rd p (c : Int)).toNat, by unfold permT; congr 1 <;> dsimp only <;> omega, by omega, by omega, by omega, by omega, by omega, by omega⟩
def pickC (n : Nat) (s : ByteArray) (q : List Int) : List Int := (tri n).map fun t => pm (sg n s (rd q t.f0) (rd q t.f1) (rd q t.f2))
def pickT (n : Nat) (s : ByteArray) (q : List Int) : ByteArray := strOfNums (pickC n s q)
theorem rename_ev (n : Nat) (hn : n ≤ 7) (s : ByteArray) (p : List Int) (hp : isP n p) : Ev (fun k => impl_chi_rename.f k (tab n s) p) ((n : Int), pickT n s (inv p)) := by
  have hl := tab_length n s
  have h35 : (tri n).length ≤ 1000 := by
    have : (List.range 8).all (fun n => decide ((tri n).length ≤ 1000)) = true := by decide +kernel
    rw [List.all_eq_true] at this
    simpa using this n (by simp; omega)
  unfold impl_chi_rename.f
  rw [tab_n]
  refine Ev.ite_pos (by omega) (Ev.bind (triplesOf_ev n hn) ?_)
  have key := Ev.loop (fun i k => impl_chi_rename.l0 k (tab n s) p (fill (sgAt s) (((tri n).take i).map (permT p)) 0 (chiNew n)) (tri n) (tri n).length i) (tri n).length ((n : Int), pickT n s (inv p)) ?_ ?_ 0 (by omega)
  · simpa [fill] using key
  · have hY : (fill (sgAt s) ((tri n).map (permT p)) 0 (chiNew n)).length = 344 := by rw [fill_length, chiNew_length]
    have hN : chiN (fill (sgAt s) ((tri n).map (permT p)) 0 (chiNew n)) = n := by rw [chiN_fill _ _ _ _ (chiNew_length _)]; rfl
    rw [List.take_length]
    refine Ev.step (fun k => impl_chi_rename.l0.eq_2 ..) (Ev.ite_neg (by omega) (Ev.bind (signs_ev n hn _ hY hN) (Ev.const ?_)))
    have e : codesT (fill (sgAt s) ((tri n).map (permT p)) 0 (chiNew n)) (tri n) = pickC n s (inv p) := by
      unfold codesT pickC
      apply List.map_congr_left
      intro t ht
      obtain ⟨a, b, c, rfl, h1, h2, h3⟩ := tri_mem n hn t ht
      dsimp only
      rw [chiA_filld (sgAt s) a b c (by omega) (by omega) (by omega) _ (fun u hu => by obtain ⟨w, hw, rfl⟩ := List.mem_map.mp hu; exact permT_ok n hn p hp w hw) 0 _ (chiNew_length _), chiA_new _ a b c (by omega) (by omega) (by omega)]
      rw [src_perm n p hp a b c (by omega) (by omega) (by omega) (tri n) (fun u hu => by obtain ⟨x, y, z, e, g1, g2, g3⟩ := tri_mem n hn u hu; exact ⟨x, y, z, e, by omega, by omega, by omega⟩) 0]
      rfl
    rw [e]
    rfl
  · intro i hi ih
    have hm := List.getElem_mem hi
    obtain ⟨a, b, c, hab, hbc, hcn, e⟩ := tri_nat n hn i hi
    have hok := permT_ok n hn p hp _ hm
    have htab := tab_tri n hn s i hi
    refine Ev.step (fun k => impl_chi_rename.l0.eq_2 ..) (Ev.ite_pos (by omega) (Ev.ite_pos (by omega) (Ev.ite_pos (by omega) ?_)))
    rw [rdT_lt _ i hi, wrap_nat i (by omega)]
    rw [List.take_succ_eq_append_getElem hi, List.map_append, fill_append, Nat.zero_add, List.length_map, List.length_take, Nat.min_eq_left (by omega)] at ih
    have hlY : (fill (sgAt s) (((tri n).take i).map (permT p)) 0 (chiNew n)).length = 344 := by rw [fill_length, chiNew_length]
    rw [e] at hok htab ih ⊢
    generalize fill (sgAt s) (((tri n).take i).map (permT p)) 0 (chiNew n) = Y at ih hlY ⊢
    dsimp only at htab ⊢
    have hpl := hp.1
    refine Ev.ite_pos (by omega) (Ev.ite_pos (by omega) (Ev.ite_pos (by omega) (Ev.ite_pos (by omega) (Ev.ite_pos (by omega) (Ev.ite_pos (by omega) (Ev.ite_pos (by omega) (Ev.ite_pos (by omega) (Ev.ite_pos (by omega) (Ev.ite_pos (by omega) ?_)))))))))
    rw [htab]
    refine Ev.bind0 (a := put3 Y (permT p ⟨a, b, c⟩) (sgAt s i)) ?_ ih
    obtain ⟨u, v, w, eu, hu, hv, hw, n1, n2, n3⟩ := hok
    have e1 : rd p (a : Int) = u := congrArg S122.f0 eu
    have e2 : rd p (b : Int) = v := congrArg S122.f1 eu
    have e3 : rd p (c : Int) = w := congrArg S122.f2 eu
    rw [eu, e1, e2, e3]
    unfold impl_chi_set.f
    rw [if_pos ⟨hlY, by omega, by omega, by omega⟩]
    rfl
theorem Ev.loopS {σ ρ : Type} (g : σ → Nat → Nat → Option ρ) (m : Nat) (I : σ → Nat → Prop) (R : σ → Nat → ρ) (hend : ∀ S, I S m → Ev (g S m) (R S m))
    (hstep : ∀ S i, i < m → I S i → (∀ S', I S' (i + 1) → Ev (g S' (i + 1)) (R S' (i + 1))) → Ev (g S i) (R S i)) : ∀ i, i ≤ m → ∀ S, I S i → Ev (g S i) (R S i) := by
  have key : ∀ d i, i + d = m → ∀ S, I S i → Ev (g S i) (R S i) := by
    intro d
    induction d with
    | zero => intro i hi S hS; obtain rfl : i = m := by omega
              exact hend S hS
    | succ d ih => intro i hi S hS; exact hstep S i (by omega) hS (fun S' hS' => ih (i + 1) (by omega) S' hS')
  intro i hi
  exact key (m - i) i (by omega)
def rem2 (n i j k : Nat) : List T3 := ((List.range n).drop k).map fun c : Nat => (⟨i, j, c⟩ : T3)
def rem1 (n i j : Nat) : List T3 := ((List.range n).drop j).flatMap fun b : Nat => rem2 n i b (b + 1)
def rem0 (n i : Nat) : List T3 := ((List.range n).drop i).flatMap fun a : Nat => rem1 n a (a + 1)
theorem rem0_all (n : Nat) (hn : n ≤ 7) : rem0 n 0 = tri n := listT_eq n hn
def strP (n : Nat) (s : ByteArray) (q : List Int) (ts : List T3) : ByteArray := strOfNums (ts.map fun t => pm (sg n s (rd q t.f0) (rd q t.f1) (rd q t.f2)))
theorem strOfNums_append (a b : List Int) : strOfNums (a ++ b) = strOfNums a ++ strOfNums b := by
  unfold strOfNums
  apply ByteArray.ext
  apply Array.ext'
  simp [ByteArray.data_append]
theorem strOfNums_size (a : List Int) : (strOfNums a).size = a.length := by
  unfold strOfNums
  show (Array.size _) = _
  simp
theorem strP_cons (n : Nat) (s : ByteArray) (q : List Int) (t : T3) (ts : List T3) : strP n s q (t :: ts) = byteS (sg n s (rd q t.f0) (rd q t.f1) (rd q t.f2)) ++ strP n s q ts := by
  unfold strP
  rw [List.map_cons, show ∀ (x : Int) (l : List Int), x :: l = [x] ++ l from fun _ _ => rfl, strOfNums_append]
  congr 1
  unfold pm byteS
  by_cases h : sg n s (rd q t.f0) (rd q t.f1) (rd q t.f2) > 0
  · rw [if_pos h, if_pos h]
    rfl
  · rw [if_neg h, if_neg h]
    rfl
theorem strP_append (n : Nat) (s : ByteArray) (q : List Int) (a b : List T3) : strP n s q (a ++ b) = strP n s q a ++ strP n s q b := by
  unfold strP
  rw [List.map_append, strOfNums_append]
theorem pick_ev (n : Nat) (hn : n ≤ 7) (s : ByteArray) (hs : s.size = (tri n).length) (q : List Int) (hq : isP n q) : Ev (fun k => spec_l3Pick.f k n s q) ((n : Int), pickT n s q) := by
  have hql := hq.1
  unfold spec_l3Pick.f
  have hnil : (⟨#[]⟩ : ByteArray).size = 0 := rfl
  have key := Ev.loopS (fun (S : ByteArray) i k => spec_l3Pick.l0 k q i n s (q.length : Int) S) n (fun S i => S.size ≤ 1000 * i) (fun S i => ((n : Int), S ++ strP n s q (rem0 n i))) ?_ ?_ 0 (by omega) (⟨#[]⟩ : ByteArray) (by omega)
  · rw [rem0_all n hn] at key
    rw [show pickT n s q = (⟨#[]⟩ : ByteArray) ++ strP n s q (tri n) by unfold pickT strP pickC; exact (ByteArray.empty_append).symm]
    exact key
  · intro S hS
    refine Ev.step (fun k => spec_l3Pick.l0.eq_2 ..) (Ev.ite_neg (by omega) (Ev.const ?_))
    unfold rem0
    rw [List.drop_of_length_le (by simp), hql]
    show some ((n : Int), S) = some ((n : Int), S ++ (⟨#[]⟩ : ByteArray))
    rw [show S ++ (⟨#[]⟩ : ByteArray) = S from ByteArray.append_empty]
  · intro S i hi hS ih
    refine Ev.step (fun k => spec_l3Pick.l0.eq_2 ..) (Ev.ite_pos (by omega) ?_)
    rw [wrap_nat i (by omega)]
    rw [show rem0 n i = rem1 n i (i + 1) ++ rem0 n (i + 1) by unfold rem0; rw [range_drop' n i hi, List.flatMap_cons], strP_append, ← ByteArray.append_assoc]
    refine Ev.loopS (fun (S : ByteArray) j k => spec_l3Pick.l1 k q i j n s (q.length : Int) S) n (fun S j => i < j ∧ S.size ≤ 1000 * i + 100 * j) (fun S j => ((n : Int), (S ++ strP n s q (rem1 n i j)) ++ strP n s q (rem0 n (i + 1)))) ?_ ?_ (i + 1) (by omega) S ⟨by omega, by omega⟩
    · intro S hS
      refine Ev.step (fun k => spec_l3Pick.l1.eq_2 ..) (Ev.ite_neg (by omega) ?_)
      rw [wrap_nat i (by omega)]
      have h := ih S (by omega)
      rw [show S ++ strP n s q (rem1 n i n) = S by unfold rem1; rw [List.drop_of_length_le (by simp)]; exact ByteArray.append_empty]
      exact h
    · intro S j hj hS ihj
      refine Ev.step (fun k => spec_l3Pick.l1.eq_2 ..) (Ev.ite_pos (by omega) ?_)
      rw [wrap_nat j (by omega)]
      rw [show rem1 n i j = rem2 n i j (j + 1) ++ rem1 n i (j + 1) by unfold rem1; rw [range_drop' n j hj, List.flatMap_cons], strP_append, ← ByteArray.append_assoc]
      have hij := hS.1
      · refine Ev.loopS (fun (S : ByteArray) m k => spec_l3Pick.l2 k q i j m n s (q.length : Int) S) n (fun S m => j < m ∧ S.size ≤ 1000 * i + 100 * j + m) (fun S m => ((n : Int), ((S ++ strP n s q (rem2 n i j m)) ++ strP n s q (rem1 n i (j + 1))) ++ strP n s q (rem0 n (i + 1)))) ?_ ?_ (j + 1) (by omega) S (by omega)
        · intro S hS
          refine Ev.step (fun k => spec_l3Pick.l2.eq_2 ..) (Ev.ite_neg (by omega) ?_)
          rw [wrap_nat j (by omega)]
          have h := ihj S ⟨by omega, by omega⟩
          rw [show S ++ strP n s q (rem2 n i j n) = S by unfold rem2; rw [List.drop_of_length_le (by simp)]; exact ByteArray.append_empty]
          exact h
        · intro S m hm hS ihm
          have ki := (hq.2.2 i hi).1
          have kj := (hq.2.2 j hj).1
          have km := (hq.2.2 m hm).1
          have n1 := perm_ne n q hq i j hi hj (by omega)
          have n2 := perm_ne n q hq j m hj hm (by omega)
          have n3 := perm_ne n q hq i m hi hm (by omega)
          refine Ev.step (fun k => spec_l3Pick.l2.eq_2 ..) (Ev.ite_pos (by omega) (Ev.ite_pos (by omega) (Ev.ite_pos (by omega) (Ev.ite_pos (by omega) (Ev.ite_pos (by omega) (Ev.ite_pos (by omega) ?_))))))
          rw [wrap_nat m (by omega)]
          have hb := byteS_size (sg n s (rd q (i : Int)) (rd q (j : Int)) (rd q (m : Int)))
          have h := ihm (S ++ byteS (sg n s (rd q (i : Int)) (rd q (j : Int)) (rd q (m : Int)))) (by rw [ByteArray.size_append, hb]; omega)
          rw [show rem2 n i j m = (⟨i, j, m⟩ : T3) :: rem2 n i j (m + 1) by unfold rem2; rw [range_drop' n m hm, List.map_cons], strP_cons, ← ByteArray.append_assoc]
          have hAt : Ev (fun k => spec_l3At.f k n s (rd q (i : Int)) (rd q (j : Int)) (rd q (m : Int))) (sg n s (rd q (i : Int)) (rd q (j : Int)) (rd q (m : Int))) := by
            obtain ⟨a, ha⟩ := Int.eq_ofNat_of_zero_le ki.1
            obtain ⟨b, hb⟩ := Int.eq_ofNat_of_zero_le kj.1
            obtain ⟨c, hc⟩ := Int.eq_ofNat_of_zero_le km.1
            rw [ha] at n1 n3 ki ⊢
            rw [hb] at n1 n2 kj ⊢
            rw [hc] at n2 n3 km ⊢
            exact l3At_ev n hn s hs a b c (by omega) (by omega) (by omega) (by omega) (by omega) (by omega)
          exact Ev.bind hAt (Ev.bind0 (l3Byte_eq _) (Ev.ite_pos (by rw [hb]; omega) h))
theorem szSigns_eqO (n : Int) (s : ByteArray) (a : Int) (h0 : 0 ≤ a) (h1 : a ≤ 1048576) (hl : s.size ≤ 9223372036854775807) : laws_szSigns.f n s a = some (if a < s.size then -1 else a - s.size) := by
  unfold laws_szSigns.f
  rw [wrap_in (by omega) (by omega)]
  by_cases h : a < (s.size : Int)
  · rw [if_pos h, if_pos (by omega)]
  · rw [if_neg h, if_neg (by omega)]
theorem AN_len (n : Nat) (hn : n ≤ 6) : (AN n).length ≤ 46656 := lev_len2 n hn n hn
theorem AN_P (n : Nat) (hn : n ≤ 6) (p : List Int) (h : p ∈ AN n) : isP n p := P_at n hn p h
theorem isS_nat {n : Int} {s : ByteArray} (h : isS n s = true) : ∃ m : Nat, n = m ∧ 3 ≤ m ∧ m ≤ 7 ∧ s.size = (tri m).length ∧ s.size ≤ 35 ∧ (List.range s.size).all (isPM s) = true := by
  obtain ⟨h3, h7, hs, h35⟩ := isS_bounds h
  obtain ⟨m, rfl⟩ := Int.eq_ofNat_of_zero_le (show 0 ≤ n by omega)
  rw [Int.toNat_natCast] at hs
  unfold isS at h
  rw [Bool.and_eq_true] at h
  exact ⟨m, rfl, by omega, by omega, hs, h35, h.2⟩
def texts (n : Nat) (s : ByteArray) : List ByteArray := (AN n).map fun p => pickT n s (inv p)
theorem renamed_yes (n : Nat) (hn : n ≤ 6) (s : ByteArray) (hs : s.size = (tri n).length) (hA : isS n s = true) : Ev (fun k => impl_renamed.f k n s) (texts n s, true) := by
  have hS := impl_AreSigns_ev n s
  rw [hA] at hS
  have hlen := AN_len n hn
  unfold impl_renamed.f
  refine Ev.bind hS (Ev.ite_pos rfl (Ev.step (fun k => impl_renamed.j0.eq_2 ..) (Ev.ite_neg (by simp; omega) (Ev.bind (tableOf_ev n (by omega) s hs) (Ev.bind (allNames_ev n hn) ?_)))))
  have key := Ev.loop (fun i k => impl_renamed.l0 k (tab n s) (((AN n).take i).map fun p => pickT n s (inv p)) (AN n) (AN n).length i) (AN n).length (texts n s, true) ?_ ?_ 0 (by omega)
  · simpa using key
  · refine Ev.step (fun k => impl_renamed.l0.eq_2 ..) (Ev.ite_neg (by omega) (Ev.const ?_))
    rw [List.take_length]
    rfl
  · intro i hi ih
    refine Ev.step (fun k => impl_renamed.l0.eq_2 ..) (Ev.ite_pos (by omega) (Ev.ite_pos (by omega) (Ev.ite_pos (by omega) ?_)))
    rw [rdL _ i hi, wrap_nat i (by omega)]
    rw [List.take_succ_eq_append_getElem hi, List.map_append] at ih
    exact Ev.bind (rename_ev n (by omega) s _ (AN_P n hn _ (List.getElem_mem hi))) (Ev.ite_pos (by simp; omega) ih)
theorem renamed_no (n : Int) (s : ByteArray) (h : isS n s = false ∨ n > 6) : Ev (fun k => impl_renamed.f k n s) ([], false) := by
  have hS := impl_AreSigns_ev n s
  unfold impl_renamed.f
  refine Ev.bind hS ?_
  cases hA : isS n s with
  | false => exact Ev.ite_neg (by simp) (Ev.step (fun k => impl_renamed.j0.eq_2 ..) (Ev.ite_pos rfl (Ev.now _)))
  | true =>
    have h6 : n > 6 := by
      rcases h with h | h
      · rw [hA] at h
        cases h
      · exact h
    exact Ev.ite_pos rfl (Ev.step (fun k => impl_renamed.j0.eq_2 ..) (Ev.ite_pos (by simpa using h6) (Ev.now _)))
theorem fits_ev (n : Int) (s : ByteArray) : Ev (fun k => spec_l19Fits.f k n s) (isS n s && decide (n ≤ 6)) := by
  have hS := spec_AreSigns_ev n s
  unfold spec_l19Fits.f
  refine Ev.bind hS ?_
  cases isS n s with
  | false => exact Ev.ite_neg (by simp) (Ev.now _)
  | true => exact Ev.ite_pos rfl (Ev.now _)
def oppT (s : ByteArray) : ByteArray := strOfNums (oppL s)
theorem opp_impl (s : ByteArray) (h : s.size ≤ 9223372036854775807) : impl_opposite.f s = some (oppT s) := by
  unfold impl_opposite.f oppT
  rw [if_pos h]
theorem oppL_take (s : ByteArray) (i : Nat) : (List.range (i + 1)).map (fun j : Nat => oppI (bt s (j : Int))) = (List.range i).map (fun j : Nat => oppI (bt s (j : Int))) ++ [oppI (bt s (i : Int))] := by
  rw [List.range_succ, List.map_append]
  rfl
theorem opp_spec (n : Nat) (s : ByteArray) (hA : isS n s = true) : Ev (fun k => spec_OppositeSigns.f k n s) ((n : Int), oppT s, true) := by
  have hS := spec_AreSigns_ev n s
  rw [hA] at hS
  obtain ⟨m, hm, h3, h7, hs, h35, hpm⟩ := isS_nat hA
  unfold spec_OppositeSigns.f
  refine Ev.bind hS (Ev.ite_pos rfl ?_)
  have key := Ev.loop (fun i k => spec_OppositeSigns.l0 k i n s n (strOfNums ((List.range i).map fun j : Nat => oppI (bt s (j : Int))))) s.size ((n : Int), oppT s, true) ?_ ?_ 0 (by omega)
  · exact key
  · exact Ev.step (fun k => spec_OppositeSigns.l0.eq_2 ..) (Ev.ite_neg (by omega) (Ev.now _))
  · intro i hi ih
    rw [oppL_take, strOfNums_append] at ih
    rw [List.all_eq_true] at hpm
    have hp := hpm i (by simpa using hi)
    unfold isPM at hp
    rw [Bool.or_eq_true, beq_iff_eq, beq_iff_eq] at hp
    have hsz : (strOfNums ((List.range i).map fun j : Nat => oppI (bt s (j : Int)))).size = i := by rw [strOfNums_size]; simp
    refine Ev.step (fun k => spec_OppositeSigns.l0.eq_2 ..) (Ev.ite_pos (by omega) (Ev.ite_pos (by omega) ?_))
    rw [wrap_nat i (by omega)]
    rcases hp with hp | hp
    · rw [hp] at ih ⊢
      exact Ev.bind0 (a := 0) rfl (Ev.bind0 (l3Byte_eq _) (Ev.ite_pos (by rw [hsz, byteS_size]; omega) ih))
    · rw [hp] at ih ⊢
      exact Ev.bind0 (a := 1) rfl (Ev.bind0 (l3Byte_eq _) (Ev.ite_pos (by rw [hsz, byteS_size]; omega) ih))
theorem bt_strOf (L : List Int) (j : Nat) (hj : j < L.length) (h : 0 ≤ L[j] ∧ L[j] < 256) : bt (strOfNums L) (j : Int) = L[j] := by
  unfold bt
  have hs : (strOfNums L).size = L.length := strOfNums_size L
  rw [dif_pos (by rw [Int.toNat_natCast, hs]; exact hj)]
  simp only [Int.toNat_natCast]
  have e : (strOfNums L)[j]'(by rw [hs]; exact hj) = UInt8.ofNat (L[j]).toNat := by
    show (strOfNums L).data[j]'_ = _
    simp [strOfNums]
  rw [e, UInt8.toNat_ofNat']
  omega
theorem src_lt : ∀ (ts : List T3) (m : Nat) (x y z : Int) (q : Nat) (b : Bool), src ts m x y z = some (q, b) → q < m + ts.length
  | [], m, x, y, z, q, b, h => by simp [src] at h
  | t :: ts, m, x, y, z, q, b, h => by
    rw [src] at h
    rw [List.length_cons]
    cases hs : src ts (m + 1) x y z with
    | some p =>
      rw [hs] at h
      obtain ⟨q', b'⟩ := p
      have := src_lt ts (m + 1) x y z q' b' hs
      simp at h
      omega
    | none =>
      rw [hs] at h
      cases hp : par t x y z with
      | none => rw [hp] at h; simp at h
      | some c =>
        rw [hp] at h
        simp at h
        omega
theorem sgAt_opp (s : ByteArray) (h : (List.range s.size).all (isPM s) = true) (m : Nat) (hm : m < s.size) : sgAt (oppT s) m = -sgAt s m := by
  have hl : (oppL s).length = s.size := by simp [oppL]
  have e0 : (oppL s)[m]'(by omega) = oppI (bt s (m : Int)) := by simp [oppL]
  rw [List.all_eq_true] at h
  have hp := h m (by simpa using hm)
  unfold isPM at hp
  rw [Bool.or_eq_true, beq_iff_eq, beq_iff_eq] at hp
  have e : bt (oppT s) (m : Int) = oppI (bt s (m : Int)) := by
    unfold oppT
    rw [bt_strOf _ _ (by omega) (by rw [e0]; rcases hp with hp | hp <;> rw [hp] <;> decide), e0]
  unfold sgAt
  rw [e]
  rcases hp with hp | hp <;> rw [hp] <;> decide
theorem sgAt_pm (s : ByteArray) (m : Nat) : sgAt s m = 1 ∨ sgAt s m = -1 := by
  unfold sgAt
  split
  · exact .inr rfl
  · exact .inl rfl
theorem sg_opp (n : Nat) (s : ByteArray) (hs : s.size = (tri n).length) (h : (List.range s.size).all (isPM s) = true) (x y z : Int) : sg n (oppT s) x y z = -sg n s x y z := by
  unfold sg
  cases hr : src (tri n) 0 x y z with
  | none => rfl
  | some p =>
    obtain ⟨q, b⟩ := p
    have hq := src_lt _ _ _ _ _ _ _ hr
    have e := sgAt_opp s h q (by omega)
    cases b with
    | true => exact e
    | false =>
      show wrap64 (-sgAt (oppT s) q) = -wrap64 (-sgAt s q)
      rw [e]
      rcases sgAt_pm s q with h | h <;> rw [h] <;> decide +kernel
theorem oppL_str (L : List Int) (h : ∀ x ∈ L, 0 ≤ x ∧ x < 256) : oppL (strOfNums L) = L.map oppI := by
  unfold oppL
  rw [strOfNums_size]
  apply List.ext_getElem
  · simp
  · intro i h1 h2
    have hi : i < L.length := by simpa using h2
    simp only [List.getElem_map, List.getElem_range]
    rw [bt_strOf L i hi (h _ (List.getElem_mem hi))]
theorem pick_opp (n : Nat) (hn : n ≤ 7) (s : ByteArray) (hs : s.size = (tri n).length) (h : (List.range s.size).all (isPM s) = true) (q : List Int) (hq : isP n q) : pickT n (oppT s) q = oppT (pickT n s q) := by
  unfold oppT
  rw [show pickT n s q = strOfNums (pickC n s q) from rfl, oppL_str _ (fun x hx => by
    unfold pickC at hx
    obtain ⟨t, _, rfl⟩ := List.mem_map.1 hx
    unfold pm
    split <;> decide)]
  show strOfNums (pickC n (oppT s) q) = _
  congr 1
  unfold pickC
  rw [List.map_map]
  apply List.map_congr_left
  intro t ht
  obtain ⟨a, b, c, rfl, hab, hbc, hcn⟩ := tri_mem n hn t ht
  show pm (sg n (oppT s) _ _ _) = oppI (pm (sg n s _ _ _))
  rw [sg_opp n s hs h]
  obtain ⟨_, _, hp⟩ := hq
  obtain ⟨⟨a0, a1, _, _⟩, _⟩ := hp a (by omega)
  obtain ⟨⟨b0, b1, _, _⟩, _⟩ := hp b (by omega)
  obtain ⟨⟨c0, c1, _, _⟩, _⟩ := hp c (by omega)
  have n1 := perm_ne n q ⟨‹_›, ‹_›, hp⟩ a b (by omega) (by omega) (by omega)
  have n2 := perm_ne n q ⟨‹_›, ‹_›, hp⟩ b c (by omega) (by omega) (by omega)
  have n3 := perm_ne n q ⟨‹_›, ‹_›, hp⟩ a c (by omega) (by omega) (by omega)
  dsimp only
  obtain ⟨a', ea⟩ := Int.eq_ofNat_of_zero_le a0
  obtain ⟨b', eb⟩ := Int.eq_ofNat_of_zero_le b0
  obtain ⟨c', ec⟩ := Int.eq_ofNat_of_zero_le c0
  rw [ea, eb] at n1
  rw [eb, ec] at n2
  rw [ea, ec] at n3
  rw [ea, eb, ec]
  rcases sg_pm n hn s a' b' c' (by omega) (by omega) (by omega) (by omega) (by omega) (by omega) with h | h <;> rw [h] <;> decide
theorem toS_list (s : ByteArray) : s.toList = toS s := Lib.toList_data s
theorem toS_inj {a b : ByteArray} (h : toS a = toS b) : a = b := by
  have := congrArg ofS h
  rwa [ofS_toS, ofS_toS] at this
theorem less_toS (a b : ByteArray) : Op.bytesLess a.toList b.toList = decide (toS a < toS b) := by
  rw [bytesLess_eq, toS_list, toS_list]
def putB : List ByteArray → ByteArray → List ByteArray
  | [], x => [x]
  | y :: r, x => if toS y < toS x then y :: putB r x else if toS y = toS x then y :: r else x :: y :: r
theorem putB_len : ∀ (S : List ByteArray) (x : ByteArray), (putB S x).length ≤ S.length + 1
  | [], x => by simp [putB]
  | y :: r, x => by
    unfold putB
    have := putB_len r x
    split
    · simp only [List.length_cons]; omega
    · split <;> simp only [List.length_cons] <;> omega
theorem putB_mem : ∀ (S : List ByteArray) (x z : ByteArray), z ∈ putB S x ↔ z = x ∨ z ∈ S
  | [], x, z => by simp [putB]
  | y :: r, x, z => by
    unfold putB
    split
    · rw [List.mem_cons, putB_mem r x z, List.mem_cons]
      constructor
      · rintro (h | h | h) <;> simp [h]
      · rintro (h | h | h) <;> simp [h]
    · split
      · rename_i _ h2
        have e := toS_inj h2
        subst e
        simp
      · simp
def ascB (S : List ByteArray) : Prop := S.Pairwise fun a b => toS a < toS b
theorem putB_asc : ∀ (S : List ByteArray) (x : ByteArray), ascB S → ascB (putB S x)
  | [], x, h => by simp [putB, ascB]
  | y :: r, x, h => by
    obtain ⟨h1, h2⟩ := List.pairwise_cons.1 h
    unfold putB
    split
    · rename_i hlt
      refine List.pairwise_cons.2 ⟨fun z hz => ?_, putB_asc r x h2⟩
      rcases (putB_mem r x z).1 hz with rfl | hz
      · exact hlt
      · exact h1 z hz
    · rename_i hlt
      split
      · exact h
      · rename_i hne
        have hx : toS x < toS y := by
          rcases Decidable.em (toS x < toS y) with h | h
          · exact h
          · exact absurd (List.le_antisymm (List.not_lt.1 h) (List.not_lt.1 hlt)) hne
        refine List.pairwise_cons.2 ⟨fun z hz => ?_, h⟩
        rcases List.mem_cons.1 hz with rfl | hz
        · exact hx
        · exact List.lt_trans hx (h1 z hz)
theorem rdB (S : List ByteArray) (i : Nat) (h : i < S.length) : rdOf ByteArray.empty S (i : Int) = S[i] := by
  unfold rdOf
  rw [Int.toNat_natCast, getD_lt _ _ _ h]
theorem l19Put_from (S : List ByteArray) (x : ByteArray) (hS : S.length ≤ 1000000) : ∀ d i, i + d = S.length → Ev (fun k => spec_l19Put.l0 k S x (i : Nat)) (S.take i ++ putB (S.drop i) x)
  | 0, i, hi => by
    refine Ev.step (fun k => spec_l19Put.l0.eq_2 ..) (Ev.ite_neg (by omega) (Ev.bind0 rfl (Ev.ite_pos (by omega) (Ev.ite_pos (by omega) (Ev.bind0 rfl (Ev.ite_pos (by simp; omega) (Ev.bind0 rfl ?_)))))))
    refine Ev.bind0 rfl (Ev.ite_pos (by simp; omega) (Ev.bind0 rfl (Ev.ite_pos (by simp; omega) (Ev.const ?_))))
    rw [Int.toNat_natCast, List.drop_of_length_le (by omega)]
    simp [putB]
  | d + 1, i, hi => by
    have hil : i < S.length := by omega
    refine Ev.step (fun k => spec_l19Put.l0.eq_2 ..) (Ev.ite_pos (by omega) (Ev.ite_pos (by omega) ?_))
    rw [rdB S i hil, less_toS, toS_list, toS_list, List.drop_eq_getElem_cons hil, putB]
    by_cases h1 : toS S[i] < toS x
    · rw [if_pos h1]
      refine Ev.ite_pos (decide_eq_true h1) ?_
      rw [wrap_nat i (by omega)]
      have h := l19Put_from S x hS d (i + 1) (by omega)
      rw [List.take_succ_eq_append_getElem hil, List.append_assoc] at h
      exact h
    · rw [if_neg h1]
      refine Ev.ite_neg (by simpa using h1) ?_
      by_cases h2 : toS S[i] = toS x
      · rw [if_pos h2, if_pos h2]
        refine Ev.const ?_
        rw [← List.drop_eq_getElem_cons hil, List.take_append_drop]
      · rw [if_neg h2, if_neg h2]
        refine (Ev.bind0 rfl (Ev.ite_pos (by omega) (Ev.bind0 rfl (Ev.ite_pos (by simp; omega) (Ev.bind0 rfl ?_)))))
        refine Ev.bind0 rfl (Ev.ite_pos (by simp; omega) (Ev.bind0 rfl (Ev.ite_pos (by simp; omega) (Ev.const ?_))))
        rw [Int.toNat_natCast, ← List.drop_eq_getElem_cons hil]
        simp
theorem l19Put_ev (S : List ByteArray) (x : ByteArray) (hS : S.length ≤ 1000000) : Ev (fun k => spec_l19Put.f k S x) (putB S x) := l19Put_from S x hS S.length 0 (by omega)
theorem sortS_toS (l : List ByteArray) : (sortS l).map toS = (l.map toS).mergeSort fun x y => decide (x ≤ y) := by
  unfold sortS
  rw [List.map_map]
  exact List.map_id _
theorem compact_spec (zs : List (List UInt8)) (hz : zs.Pairwise (· ≤ ·)) : ∀ m, m ≤ zs.length → (∀ z, z ∈ Lib.compactUpTo zs.toArray m ↔ z ∈ zs.take m) ∧ (Lib.compactUpTo zs.toArray m).Pairwise (· < ·) ∧ (∀ z ∈ Lib.compactUpTo zs.toArray m, ∀ h : 0 < m, z ≤ zs[m - 1]!)
  | 0, _ => ⟨fun z => by simp [Lib.compactUpTo], by simp [Lib.compactUpTo], fun z hz h => absurd h (Nat.lt_irrefl _)⟩
  | m + 1, hm => by
    obtain ⟨h1, h2, h3⟩ := compact_spec zs hz m (by omega)
    have hml : m < zs.length := by omega
    have e0 : zs.toArray[m]! = zs[m] := by rw [getElem!_pos _ _ (by simpa using hml)]; simp
    rw [Lib.compactUpTo_succ, List.take_succ_eq_append_getElem hml, Nat.add_sub_cancel, getElem!_pos zs m hml]
    have hprev : ∀ h : 0 < m, zs[m - 1]! ≤ zs[m] := fun h => by
      rw [getElem!_pos zs (m - 1) (by omega)]
      exact List.pairwise_iff_getElem.1 hz (m - 1) m (by omega) hml (by omega)
    by_cases hk : m = 0 ∨ zs.toArray[m]! ≠ zs.toArray[m - 1]!
    · have hkt : Lib.keeps zs.toArray m = true := decide_eq_true hk
      rw [if_pos hkt, e0]
      refine ⟨fun z => by rw [List.mem_append, List.mem_append, h1 z], ?_, ?_⟩
      · rw [List.pairwise_append]
        refine ⟨h2, List.pairwise_singleton _ _, fun a ha b hb => ?_⟩
        rw [List.mem_singleton.1 hb]
        rcases hk with hk | hk
        · subst hk
          simp [Lib.compactUpTo] at ha
        · have hm0 : 0 < m := by
            rcases Nat.eq_zero_or_pos m with h | h
            · subst h; exact absurd rfl hk
            · exact h
          have e1 : zs.toArray[m - 1]! = zs[m - 1]! := by simp
          rw [e0, e1] at hk
          have ha2 := h3 a ha hm0
          rcases Decidable.em (a < zs[m]) with h | h
          · exact h
          · have h4 := List.not_lt.1 h
            exact absurd (List.le_antisymm (List.le_trans h4 ha2) (hprev hm0)) hk
      · intro z hz2 _
        rcases List.mem_append.1 hz2 with h | h
        · rcases Nat.eq_zero_or_pos m with h0 | h0
          · subst h0
            simp [Lib.compactUpTo] at h
          · exact List.le_trans (h3 z h h0) (hprev h0)
        · rw [List.mem_singleton.1 h]
          exact List.le_refl _
    · have hkf : Lib.keeps zs.toArray m = false := decide_eq_false hk
      have hm0 : 0 < m := Nat.pos_of_ne_zero fun h => hk (.inl h)
      have he : zs.toArray[m]! = zs.toArray[m - 1]! := Decidable.not_not.1 fun h => hk (.inr h)
      have e1 : zs.toArray[m - 1]! = zs[m - 1]! := by simp
      rw [e0, e1] at he
      rw [if_neg (by rw [hkf]; simp), List.append_nil]
      refine ⟨fun z => ?_, h2, fun z hz2 _ => List.le_trans (h3 z hz2 hm0) (hprev hm0)⟩
      rw [List.mem_append, h1 z, List.mem_singleton]
      constructor
      · exact .inl
      · rintro (h | h)
        · exact h
        · rw [h, he, getElem!_pos zs (m - 1) (by omega)]
          exact List.mem_iff_getElem.2 ⟨m - 1, by rw [List.length_take]; omega, by rw [List.getElem_take]⟩
theorem sorted_le (l : List (List UInt8)) : (l.mergeSort fun x y => decide (x ≤ y)).Pairwise (· ≤ ·) := by
  have := List.pairwise_mergeSort (le := fun x y : List UInt8 => decide (x ≤ y)) (fun a b c h1 h2 => by simp at *; exact List.le_trans h1 h2) (fun a b => by simp; exact List.le_total a b) l
  exact this.imp (fun h => of_decide_eq_true h)
theorem compS_spec (l : List ByteArray) : ((compS (sortS l)).map toS).Pairwise (· < ·) ∧ ∀ z, z ∈ compS (sortS l) ↔ z ∈ l := by
  have e : (compS (sortS l)).map toS = Lib.compact ((l.map toS).mergeSort fun x y => decide (x ≤ y)) := by
    unfold compS
    rw [List.map_map, sortS_toS]
    exact List.map_id _
  obtain ⟨h1, h2, _⟩ := compact_spec _ (sorted_le (l.map toS)) _ (Nat.le_refl _)
  refine ⟨by rw [e]; exact h2, fun z => ?_⟩
  have hz : z ∈ compS (sortS l) ↔ toS z ∈ (compS (sortS l)).map toS := by
    rw [List.mem_map]
    constructor
    · intro h; exact ⟨z, h, rfl⟩
    · rintro ⟨y, hy, e⟩
      rw [← toS_inj e]
      exact hy
  rw [hz, e]
  have h3 := h1 (toS z)
  rw [List.take_length, List.mem_mergeSort] at h3
  refine h3.trans ?_
  rw [List.mem_map]
  constructor
  · rintro ⟨y, hy, e⟩
    rw [← toS_inj e]
    exact hy
  · intro h; exact ⟨z, h, rfl⟩
theorem asc_unique {A B : List ByteArray} (hA : ascB A) (hB : ascB B) (h : ∀ z, z ∈ A ↔ z ∈ B) : A = B := by
  have nA : A.Nodup := by
    refine hA.imp ?_
    intro a b hlt e
    subst e
    exact List.lt_irrefl _ hlt
  have nB : B.Nodup := by
    refine hB.imp ?_
    intro a b hlt e
    subst e
    exact List.lt_irrefl _ hlt
  have hp : A.Perm B := (List.perm_ext_iff_of_nodup nA nB).2 h
  exact List.Perm.eq_of_pairwise (le := fun a b => toS a < toS b) (fun a b _ _ h1 h2 => absurd h2 (List.lt_asymm h1)) hA hB hp
theorem compS_asc (l : List ByteArray) : ascB (compS (sortS l)) := List.pairwise_map.1 (compS_spec l).1
end Go.Proofs.Yteblnjoljbdjjaa.Pure
namespace Go.Proofs.Yteblnjoljbdjjaa.Pure
set_option linter.unusedSimpArgs false
set_option linter.unusedVariables false
open Go.RowKit Go.Proofs.YteblnjoljbdjjaaW.PrintWords Go.Proofs.Yteblnjoljbdjjaa.P Go.Proofs.Yteblnjoljbdjjaa.Pl Go.Proofs.Yteblnjoljbdjjaa.Rk
def gathB (n : Nat) (s t : ByteArray) : List ByteArray → List (List Int) → List ByteArray
  | S, [] => S
  | S, q :: r => gathB n s t (putB (putB S (pickT n s q)) (pickT n t q)) r
theorem gathB_asc (n : Nat) (s t : ByteArray) : ∀ (r : List (List Int)) (S : List ByteArray), ascB S → ascB (gathB n s t S r)
  | [], S, h => h
  | q :: r, S, h => gathB_asc n s t r _ (putB_asc _ _ (putB_asc _ _ h))
theorem gathB_mem (n : Nat) (s t z : ByteArray) : ∀ (r : List (List Int)) (S : List ByteArray), z ∈ gathB n s t S r ↔ z ∈ S ∨ ∃ q ∈ r, z = pickT n s q ∨ z = pickT n t q
  | [], S => by simp [gathB]
  | q :: r, S => by
    rw [gathB, gathB_mem n s t z r, putB_mem, putB_mem]
    constructor
    · rintro ((h | h | h) | ⟨q', hq, h⟩)
      · exact .inr ⟨q, List.mem_cons_self, .inr h⟩
      · exact .inr ⟨q, List.mem_cons_self, .inl h⟩
      · exact .inl h
      · exact .inr ⟨q', List.mem_cons_of_mem _ hq, h⟩
    · rintro (h | ⟨q', hq, h⟩)
      · exact .inl (.inr (.inr h))
      · rcases List.mem_cons.1 hq with rfl | hq
        · rcases h with h | h
          · exact .inl (.inr (.inl h))
          · exact .inl (.inl h)
        · exact .inr ⟨q', hq, h⟩
theorem spec_gath (n : Nat) (hn : n ≤ 6) (s t : ByteArray) (hs : s.size = (tri n).length) (ht : t.size = (tri n).length) : ∀ d i, i + d = (AN n).length → ∀ S : List ByteArray, S.length + 2 * d ≤ 1000000 →
    Ev (fun k => spec_CountRenamed.l0 k S (AN n) (i : Nat) n s n t) (((gathB n s t S ((AN n).drop i)).length : Nat) : Int)
  | 0, i, hi, S, hS => by
    rw [List.drop_of_length_le (by omega)]
    exact Ev.step (fun k => spec_CountRenamed.l0.eq_2 ..) (Ev.ite_neg (by omega) (Ev.now _))
  | d + 1, i, hi, S, hS => by
    have hl := AN_len n hn
    have hil : i < (AN n).length := by omega
    have hp := AN_P n hn _ (List.getElem_mem hil)
    have h2 := putB_len (putB S (pickT n s (AN n)[i])) (pickT n t (AN n)[i])
    have h3 := putB_len S (pickT n s (AN n)[i])
    rw [List.drop_eq_getElem_cons hil, gathB]
    refine Ev.step (fun k => spec_CountRenamed.l0.eq_2 ..) (Ev.ite_pos (by omega) (Ev.ite_pos (by omega) ?_))
    rw [rdL _ i hil, wrap_nat i (by omega)]
    exact Ev.bind (pick_ev n (by omega) s hs _ hp) (Ev.bind (l19Put_ev S (pickT n s (AN n)[i]) (by omega)) (Ev.bind (pick_ev n (by omega) t ht _ hp) (Ev.bind (l19Put_ev (putB S (pickT n s (AN n)[i])) (pickT n t (AN n)[i]) (by omega)) (spec_gath n hn s t hs ht d (i + 1) (by omega) (putB (putB S (pickT n s (AN n)[i])) (pickT n t (AN n)[i])) (by omega)))))
theorem oppT_size (s : ByteArray) : (oppT s).size = s.size := by
  unfold oppT
  rw [strOfNums_size]
  simp [oppL]
theorem impl_gath (L : List ByteArray) (hL : L.length ≤ 100000) (hz : ∀ x ∈ L, x.size ≤ 9223372036854775807) : ∀ d i, i + d = L.length → ∀ S : List ByteArray, S.length + d ≤ 1000000 →
    Ev (fun k => impl_CountRenamed.l0 k S L (L.length : Int) (i : Nat)) (((compS (sortS (S ++ (L.drop i).map oppT))).length : Nat) : Int)
  | 0, i, hi, S, hS => by
    rw [List.drop_of_length_le (by omega), List.map_nil, List.append_nil]
    refine Ev.step (fun k => impl_CountRenamed.l0.eq_2 ..) (Ev.ite_neg (by omega) (Ev.bind0 (a := sortS S) (by unfold slices_Sort_Sstring_string.f; rw [if_pos (by omega)]) (Ev.bind0 rfl (Ev.now _))))
  | d + 1, i, hi, S, hS => by
    have hil : i < L.length := by omega
    have h := impl_gath L hL hz d (i + 1) (by omega) (S ++ [oppT L[i]]) (by rw [List.length_append, List.length_singleton]; omega)
    rw [List.append_assoc] at h
    rw [List.drop_eq_getElem_cons hil, List.map_cons]
    refine Ev.step (fun k => impl_CountRenamed.l0.eq_2 ..) (Ev.ite_pos (by omega) (Ev.ite_pos (by omega) (Ev.ite_pos (by omega) ?_)))
    rw [rdB L i hil, wrap_nat i (by omega)]
    exact Ev.bind0 (opp_impl _ (hz _ (List.getElem_mem hil))) (Ev.ite_pos (by omega) h)
theorem countRen_both (n : Int) (s : ByteArray) (hz : s.size ≤ 9223372036854775807) : ∃ v, Ev (fun k => spec_CountRenamed.f k n s) v ∧ Ev (fun k => impl_CountRenamed.f k n s) v := by
  unfold spec_CountRenamed.f impl_CountRenamed.f
  have hF := fits_ev n s
  by_cases hA : isS n s = true ∧ n ≤ 6
  · obtain ⟨m, rfl, h3, h7, hs, h35, hpm⟩ := isS_nat hA.1
    have hn : m ≤ 6 := by omega
    rw [hA.1, decide_eq_true hA.2] at hF
    have hl := AN_len m hn
    have hlt : (texts m s).length = (AN m).length := by unfold texts; rw [List.length_map]
    have h1 := spec_gath m hn s (oppT s) hs (by rw [oppT_size]; exact hs) (AN m).length 0 (by omega) [] (by simp; omega)
    have hsz : ∀ x ∈ texts m s, x.size ≤ 9223372036854775807 := fun x hx => by
      obtain ⟨p, _, rfl⟩ := List.mem_map.1 hx
      show (strOfNums (pickC m s (inv p))).size ≤ _
      rw [strOfNums_size, pickC, List.length_map]
      omega
    have h2 := impl_gath (texts m s) (by omega) hsz (texts m s).length 0 (by omega) (texts m s) (by omega)
    have e : gathB m s (oppT s) [] (AN m) = compS (sortS (texts m s ++ (texts m s).map oppT)) := by
      refine asc_unique (gathB_asc m s _ _ _ List.Pairwise.nil) (compS_asc _) (fun z => ?_)
      rw [gathB_mem, (compS_spec _).2 z, List.mem_append]
      constructor
      · rintro (h | ⟨q, hq, h⟩)
        · simp at h
        · obtain ⟨p, hp, e⟩ := List.mem_map.1 ((inv_all m hn).mem_iff.2 hq)
          rcases h with h | h
          · exact .inl (List.mem_map.2 ⟨p, hp, by rw [e]; exact h.symm⟩)
          · refine .inr (List.mem_map.2 ⟨pickT m s q, List.mem_map.2 ⟨p, hp, by rw [e]⟩, ?_⟩)
            rw [h, pick_opp m (by omega) s hs hpm q (AN_P m hn q hq)]
      · rintro (h | h)
        · obtain ⟨p, hp, e⟩ := List.mem_map.1 h
          exact .inr ⟨inv p, inv_mem m hn p hp, .inl e.symm⟩
        · obtain ⟨y, hy, e⟩ := List.mem_map.1 h
          obtain ⟨p, hp, e2⟩ := List.mem_map.1 hy
          refine .inr ⟨inv p, inv_mem m hn p hp, .inr ?_⟩
          rw [pick_opp m (by omega) s hs hpm _ (AN_P m hn _ (inv_mem m hn p hp)), e2, e]
    rw [List.drop_zero, e] at h1
    rw [List.drop_zero] at h2
    have hcl : Ev (fun k => slices_Clone_Sstring_string.f (texts m s)) (texts m s) := by
      refine Ev.const ?_
      unfold slices_Clone_Sstring_string.f
      rw [Option.bind_some, if_pos (by simp; omega), List.nil_append]
    exact ⟨_, Ev.bind hF (Ev.ite_pos rfl (Ev.bind (opp_spec m s hA.1) (Ev.bind (orders_ev m hn) h1))), Ev.bind (renamed_yes m hn s hs hA.1) (Ev.ite_pos rfl (Ev.bind hcl h2))⟩
  · have hb : (isS n s && decide (n ≤ 6)) = false := by
      cases h1 : isS n s with
      | false => rfl
      | true => rw [Bool.true_and, decide_eq_false_iff_not]; exact fun h => hA ⟨h1, h⟩
    rw [hb] at hF
    exact ⟨-1, Ev.bind hF (Ev.ite_neg (by simp) (Ev.now _)), Ev.bind (renamed_no n s (by cases h1 : isS n s with | false => exact .inl rfl | true => exact .inr (Int.not_le.mp fun h => hA ⟨h1, h⟩))) (Ev.ite_neg (by simp) (Ev.now _))⟩
theorem FnExactCountRenamed (s0 : S23) (hq : Q23 s0) : ∃ k, laws_FnExactCountRenamed.f k s0.f0 s0.f1 = some true := by
  refine Ev.rounds (g := fun k => laws_FnExactCountRenamed.f k s0.f0 s0.f1) ?_
  unfold laws_FnExactCountRenamed.f
  refine Ev.bind0 (szSigns_eqO _ _ 1048576 (by omega) (by omega) hq.2) ?_
  by_cases hs : 1048576 < (s0.f1.size : Int)
  · rw [if_pos hs]
    exact Ev.ite_pos (by omega) (Ev.now _)
  rw [if_neg hs]
  refine Ev.ite_neg (by omega) ?_
  obtain ⟨v, h1, h2⟩ := countRen_both s0.f0 s0.f1 (by omega)
  exact Ev.bind0 rfl (Ev.bind h1 (Ev.bind0 rfl (Ev.bind h2 (Ev.ite_pos rfl (Ev.now _)))))
end Go.Proofs.Yteblnjoljbdjjaa.Pure
