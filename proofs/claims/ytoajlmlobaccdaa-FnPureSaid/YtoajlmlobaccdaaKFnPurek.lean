/- What the law FnPure reaches, part 11: functions as plain Lean functions with the proofs that their calls come to them, and plain lemmas over these. Put together by a program (wip/pack.py). -/
import Derived.Test.YtoajlmlobaccdaaKFnPurec
import Derived.Test.YtoajlmlobaccdaaKFnPurej
import Derived.Test.YtoajlmlobaccdaaKFnPured
namespace Go.Proofs.Ytoajlmlobaccdaa.P
open Go.RowKit Go.Proofs.YtoajlmlobaccdaaW.PrintWords Go.Proofs.YtoajlmlobaccdaaW.PrintLast Go.Proofs.YtoajlmlobaccdaaW.PrintMore
set_option linter.unusedVariables false
set_option linter.unusedSimpArgs false
section
open Go.Proofs.YtoajlmlobaccdaaW.PrintWords.Kd
section
variable {P : Program} {ops : Array Oper} {o : Oper} {a : Act} {Q : Exit → Act → World → Prop} {Kc : Act → World → Prop} {α : Type}
theorem R_store_step (d : Kd α) {w0 W : World} (base : Nat) (hN : o.dst = none) (hw : Region.wanted o (yielded ops a.tmps) = true) (t : TypeId) (p x : Operand) (ho : o.op = .store t p x) (e : TypeId) {g n cap o' : Nat} (i : Int) (j : Nat) (xs : List α) (x' : α) (u : Value) (seg c : List Value) (ok okp : Nat → Prop)
    (haddr : a.eval p = .pointer (some ⟨g, o', none⟩)) (hoff : o' = i.toNat * d.sz + j) (hx : a.eval x = u) (hu : u.cells.toList = seg) (ht : (P.info? t).map (·.size) = some seg.length) (h1 : ∀ q ∈ seg, q.oneCell' = true)
    (HO : d.R e W base ok (.slice (some ⟨g, 0, none⟩) n cap) xs) (h0 : 0 ≤ i) (hi : i < n) (hcl : c.length = d.sz) (hcc : ∀ j u, c[j]? = some u → W.cell? ⟨g, i.toNat * d.sz + j, none⟩ = some u)
    (hj : j + seg.length ≤ d.sz) (hM : d.M W base okp x' (c.take j ++ seg ++ c.drop (j + seg.length))) (hokp : ∀ k, okp k → ok k ∧ k ≠ g) (HB : Below base w0 W)
    (h : ∀ w1, d.R e w1 base ok (.slice (some ⟨g, 0, none⟩) n cap) (xs.set i.toNat x') → Below base w0 w1 → W.grownBy w1 (some g) → Kc a w1) : if Region.wanted o (yielded ops a.tmps) = true then Oper.wp P o a W Kc Q else Kc (a.put o.dst undef) W := by
  subst hoff
  obtain ⟨hrow, hg⟩ := R_seg HO i h0 hi hcl hcc hj hM hokp
  have hbg : base ≤ g := R_base HO g (by simp [Value.ownBlock])
  have hnx : n = xs.length := (R_reads' HO).1
  obtain ⟨_, inner, hown, hr⟩ := HO
  have hil : i.toNat < n := by omega
  have hB : Below base w0 (W.setCells g (i.toNat * d.sz + j) seg) := HB.trans ⟨hg.os, hg.tape, hg.output, hg.size, fun k hk => by
    have hlt : k < W.heap.size ∨ W.heap.size ≤ k := Nat.lt_or_ge _ _
    rcases hlt with hlt | hge
    · exact hg.block k hlt (fun he => by injection he with he; omega)
    · exact setCells_far seg _ k (by omega)⟩
  have hrun : (Instr.storeAt t (.pointer (some ⟨g, i.toNat * d.sz + j, none⟩)) u).run P W = .ok () (W.setCells g (i.toNat * d.sz + j) seg) := by
    rcases hown.2 with ⟨hv, _⟩ | ⟨g', cap', cur, hv, hb, hh, hnc, hcm, hcs, _⟩
    · cases hv
    injection hv with ha _ hc
    injection ha with ha
    injection ha with hg'
    subst hg'; subst hc
    refine run_store_run t u seg hh hu ht ?_ h1
    have h2 : i.toNat * d.sz + d.sz ≤ n * d.sz := by rw [← Nat.succ_mul]; exact Nat.mul_le_mul_right _ hil
    have h3 : n * d.sz ≤ cap * d.sz := Nat.mul_le_mul_right _ (by omega)
    omega
  rw [if_pos hw]
  unfold Oper.wp execOp
  simp only [ho, haddr, hx, Sem.run_bind, Sem.run_pure, Result.andThen_ok, hrun]
  show Kc (a.put o.dst undef) _
  rw [hN]
  exact h _ hrow hB hg
theorem H_store_step (d : Kd α) {w0 W : World} (base : Nat) (hN : o.dst = none) (hw : Region.wanted o (yielded ops a.tmps) = true) (t : TypeId) (p x : Operand) (ho : o.op = .store t p x) (e : TypeId) {g n cap o' : Nat} (i : Int) (j : Nat) (xs : List α) (x' : α) (u : Value) (seg c : List Value) (ok oki okp : Nat → Prop)
    (haddr : a.eval p = .pointer (some ⟨g, o', none⟩)) (hoff : o' = i.toNat * d.sz + j) (hx : a.eval x = u) (hu : u.cells.toList = seg) (ht : (P.info? t).map (·.size) = some seg.length) (hone : ∀ q ∈ seg, q.oneCell' = true)
    (HO : H d e W base ok (.slice (some ⟨g, 0, none⟩) n cap) xs i oki c) (h0 : 0 ≤ i) (hi : i < n)
    (hj : j + seg.length ≤ d.sz) (hM : d.M W base okp x' (c.take j ++ seg ++ c.drop (j + seg.length))) (hokp : ∀ k, okp k → oki k) (HB : Below base w0 W)
    (h : ∀ w1, S d e w1 base ok (.slice (some ⟨g, 0, none⟩) n cap) (xs.set i.toNat x') → Below base w0 w1 → W.grownBy w1 (some g) → Kc a w1) : if Region.wanted o (yielded ops a.tmps) = true then Oper.wp P o a W Kc Q else Kc (a.put o.dst undef) W := by
  obtain ⟨rows, _, hraw, hcl, hco, hcc, hback⟩ := H_raw HO h0 hi
  have hgo : some g = (Value.slice (some ⟨g, 0, none⟩) n cap).ownBlock := by simp [Value.ownBlock]
  have hng : ∀ k, oki k → k ≠ g := by
    intro k hk he
    subst he
    obtain ⟨_, f, hR⟩ := HO
    exact (hR.1 k hgo.symm).2 hk
  refine R_store_step (raw d.sz) base hN hw t p x ho e i j rows (c.take j ++ seg ++ c.drop (j + seg.length)) u seg c (fun _ => True) (fun _ => False) haddr hoff hx hu ht hone hraw h0 hi hcl hcc hj
    ⟨rfl, d.K_len (d.K_of_M hM), d.K_one (d.K_of_M hM)⟩ (fun _ hk => hk.elim) HB ?_
  intro w1 hr hb hg
  exact h w1 (H_back (hback w1 _ hg hr) (M_step hM (fun k hk hlt => hg.block k hlt (fun he => hng k (hokp k hk) (by injection he)))) hokp) hb hg
end
end
abbrev Cel := S101
abbrev kCel : Kd Cel := k101
abbrev kRow : Kd (List Cel) := Kd.slice 101 kCel
structure CeS where
  now : List Cel
  out : List (List Cel)
  cnt : Int
structure CeJ (base bn bo : Nat) (bk : Option Nat) (uw : Option Nat) (gN cN gO cO : Nat) (s : CeS) (w : World) : Prop where
  hn : w.heap[bn]? = some (.cells #[.slice (some ⟨gN, 0, none⟩) s.now.length cN] 99 (0, 0))
  ho : w.heap[bo]? = some (.cells #[.slice (some ⟨gO, 0, none⟩) s.out.length cO] 97 (0, 0))
  hk : ∀ b, bk = some b → w.heap[b]? = some (.cells #[.int .i64 s.cnt] 3 (0, 0))
  N : kCel.R 101 w base (fun k => some k ≠ uw) (.slice (some ⟨gN, 0, none⟩) s.now.length cN) s.now
  O : Kd.S kRow 99 w base (fun k => k ≠ gN ∧ k ≠ bn ∧ some k ≠ uw) (.slice (some ⟨gO, 0, none⟩) s.out.length cO) s.out
  bn_ : base ≤ bn
  bo_ : base ≤ bo
  bk_ : ∀ b, bk = some b → base ≤ b
  un : some bn ≠ uw
  uo : some bo ≠ uw
  uk : ∀ b, bk = some b → some b ≠ uw
def CeI (base bn bo bk : Nat) (uw : Option Nat) (s : CeS) (w : World) : Prop := ∃ gN cN gO cO, CeJ base bn bo (some bk) uw gN cN gO cO s w
section
variable {base bn bo gN cN gO cO : Nat} {bk uw : Option Nat} {s : CeS} {w w1 : World}
theorem CeJ.gN_ne (h : CeJ base bn bo bk uw gN cN gO cO s w) : bn ≠ gN ∧ bo ≠ gN ∧ (∀ b, bk = some b → b ≠ gN) ∧ some gN ≠ uw ∧ base ≤ gN ∧ gN < w.heap.size := by
  have e : (Value.slice (some ⟨gN, 0, none⟩) s.now.length cN).ownBlock = some gN := by simp [Value.ownBlock]
  refine ⟨fun q => Kd.R_ne h.N h.hn (by decide) (by rw [e, q]), fun q => Kd.R_ne h.N h.ho (by decide) (by rw [e, q]), fun b eb q => Kd.R_ne h.N (h.hk b eb) (by decide) (by rw [e, q]), h.N.1 gN e, Kd.R_base h.N gN e, Kd.R_lt h.N gN e⟩
theorem CeJ.gO_ne (h : CeJ base bn bo bk uw gN cN gO cO s w) : bn ≠ gO ∧ bo ≠ gO ∧ (∀ b, bk = some b → b ≠ gO) ∧ some gO ≠ uw ∧ gO ≠ gN ∧ base ≤ gO ∧ gO < w.heap.size := by
  have e : (Value.slice (some ⟨gO, 0, none⟩) s.out.length cO).ownBlock = some gO := by simp [Value.ownBlock]
  have hok := (Kd.S_R h.O).1 gO e
  exact ⟨fun q => hok.2.1 q.symm, fun q => Kd.S_ne h.O h.ho (by decide) (by rw [e, q]), fun b eb q => Kd.S_ne h.O (h.hk b eb) (by decide) (by rw [e, q]), hok.2.2, hok.1, Kd.S_base h.O gO e, Kd.S_lt h.O gO e⟩
theorem CeJ.step (h : CeJ base bn bo bk uw gN cN gO cO s w) (hm : ∀ k, k < w.heap.size → some k ≠ uw → w1.heap[k]? = w.heap[k]?) : CeJ base bn bo bk uw gN cN gO cO s w1 :=
  ⟨(hm bn (blk_lt h.hn) h.un).trans h.hn, (hm bo (blk_lt h.ho) h.uo).trans h.ho, fun b eb => (hm b (blk_lt (h.hk b eb)) (h.uk b eb)).trans (h.hk b eb), Kd.R_step h.N (fun k hk hlt => hm k hlt hk), Kd.S_step h.O (fun k hk hlt => hm k hlt hk.2.2), h.bn_, h.bo_, h.bk_, h.un, h.uo, h.uk⟩
theorem CeJ.below (h : CeJ base bn bo bk uw gN cN gO cO s w) (hb : Below w.heap.size w w1) : CeJ base bn bo bk uw gN cN gO cO s w1 := h.step (fun k hk _ => hb.block k hk)
theorem CeJ.drew (h : CeJ base bn bo bk uw gN cN gO cO s w) : CeJ base bn bo bk uw gN cN gO cO s w.drew := h.step (fun _ _ _ => rfl)
theorem CeJ.put (h : CeJ base bn bo bk uw gN cN gO cO s w) {i : Int} {x : Cel} {ok : Nat → Prop} (hR : kCel.R 101 w1 base ok (.slice (some ⟨gN, 0, none⟩) s.now.length cN) (s.now.set i.toNat x)) (hg : w.grownBy w1 (some gN)) :
    CeJ base bn bo bk uw gN cN gO cO { s with now := s.now.set i.toNat x } w1 ∧ ∀ k, uw = some k → k < w.heap.size → w1.heap[k]? = w.heap[k]? := by
  obtain ⟨n1, n2, n3, n4, n5, n6⟩ := h.gN_ne
  have f : ∀ k, k < w.heap.size → k ≠ gN → w1.heap[k]? = w.heap[k]? := fun k hk hn => hg.block k hk (fun e => hn (by injection e))
  have e : (Value.slice (some ⟨gN, 0, none⟩) s.now.length cN).ownBlock = some gN := by simp [Value.ownBlock]
  have hlen : (s.now.set i.toNat x).length = s.now.length := List.length_set
  refine ⟨⟨?_, (f bo (blk_lt h.ho) n2).trans h.ho, fun b eb => (f b (blk_lt (h.hk b eb)) (n3 b eb)).trans (h.hk b eb), ?_, Kd.S_step h.O (fun k hk hlt => f k hlt hk.1), h.bn_, h.bo_, h.bk_, h.un, h.uo, h.uk⟩, fun k ek hk => f k hk (fun q => n4 (by rw [ek, q]))⟩
  · show w1.heap[bn]? = some (.cells #[.slice (some ⟨gN, 0, none⟩) (s.now.set i.toNat x).length cN] _ _)
    rw [hlen]
    exact (f bn (blk_lt h.hn) n1).trans h.hn
  · show kCel.R _ w1 base _ (.slice (some ⟨gN, 0, none⟩) (s.now.set i.toNat x).length cN) (s.now.set i.toNat x)
    rw [hlen]
    exact Kd.R_mono (Kd.R_tight rfl hR) (fun k hk => by rw [e] at hk; injection hk with hk; rw [hk]; exact n4)
theorem CeJ.count {b : Nat} (h : CeJ base bn bo (some b) uw gN cN gO cO s w) (c : Int) : CeJ base bn bo (some b) uw gN cN gO cO { s with cnt := c } (w.setCell ⟨b, 0, none⟩ (.int .i64 c)) ∧ ∀ k, uw = some k → (w.setCell ⟨b, 0, none⟩ (.int .i64 c)).heap[k]? = w.heap[k]? := by
  have f : ∀ k, k ≠ b → (w.setCell ⟨b, 0, none⟩ (.int .i64 c)).heap[k]? = w.heap[k]? := fun k hk => Below.heap_setCell w ⟨b, 0, none⟩ _ k hk
  have hb := h.hk b rfl
  have d1 : bn ≠ b := fun e => by have h1 := h.hn; rw [e, hb] at h1; injection h1 with h1; injection h1 with _ h1; exact absurd h1 (by decide)
  have d2 : bo ≠ b := fun e => by have h1 := h.ho; rw [e, hb] at h1; injection h1 with h1; injection h1 with _ h1; exact absurd h1 (by decide)
  exact ⟨⟨(f bn d1).trans h.hn, (f bo d2).trans h.ho, fun b' eb => by injection eb with eb; subst eb; exact blk_put hb 0 _ rfl, Kd.R_set h.N hb (by decide) 0 _, Kd.S_set h.O hb (by decide) 0 _, h.bn_, h.bo_, h.bk_, h.un, h.uo, h.uk⟩, fun k ek => f k (fun q => h.uk b rfl (by rw [ek, q]))⟩
theorem CeJ.done {w2 : World} {v : Value} {i : Int} {row : List Cel} {oki : Nat → Prop} (h : CeJ base bn bo bk uw gN cN gO cO s w) (hv : kCel.R 101 w base oki v (s.out.getD i.toNat [])) (hvk : ∀ k, oki k → k ≠ gN ∧ some k ≠ uw) (h1 : w.grownBy w1 v.ownBlock)
    (hS : Kd.S kRow 99 w2 base (fun k => k ≠ gN ∧ k ≠ bn ∧ some k ≠ uw) (.slice (some ⟨gO, 0, none⟩) s.out.length cO) (s.out.set i.toNat row)) (h2 : w1.grownBy w2 (some gO)) :
    CeJ base bn bo bk uw gN cN gO cO { s with out := s.out.set i.toNat row } w2 ∧ ∀ k, uw = some k → k < w.heap.size → w2.heap[k]? = w.heap[k]? := by
  obtain ⟨n1, n2, n3, n4, n5, n6⟩ := h.gN_ne
  obtain ⟨m1, m2, m3, m4, m5, m6, m7⟩ := h.gO_ne
  have f : ∀ k, k < w.heap.size → some k ≠ v.ownBlock → k ≠ gO → w2.heap[k]? = w.heap[k]? := fun k hk hn hm => (h2.block k (Nat.lt_of_lt_of_le hk h1.size) (fun e => hm (by injection e))).trans (h1.block k hk hn)
  have hlen : (s.out.set i.toNat row).length = s.out.length := List.length_set
  have e : (Value.slice (some ⟨gN, 0, none⟩) s.now.length cN).ownBlock = some gN := by simp [Value.ownBlock]
  refine ⟨⟨(f bn (blk_lt h.hn) (Kd.R_ne hv h.hn (by decide)) m1).trans h.hn, ?_, fun b eb => (f b (blk_lt (h.hk b eb)) (Kd.R_ne hv (h.hk b eb) (by decide)) (m3 b eb)).trans (h.hk b eb), ?_, ?_, h.bn_, h.bo_, h.bk_, h.un, h.uo, h.uk⟩, fun k ek hk => f k hk (fun q => (hvk k (hv.1 k q.symm)).2 ek.symm) (fun q => m4 (by rw [ek, q]))⟩
  · show w2.heap[bo]? = some (.cells #[.slice (some ⟨gO, 0, none⟩) (s.out.set i.toNat row).length cO] _ _)
    rw [hlen]
    exact (f bo (blk_lt h.ho) (Kd.R_ne hv h.ho (by decide)) m2).trans h.ho
  · exact Kd.R_mono (Kd.R_step (Kd.R_tight rfl h.N) (fun k hk hlt => f k hlt (fun q => by rw [e] at hk; injection hk with hk; exact (hvk k (hv.1 k q.symm)).1 hk) (fun q => by rw [e] at hk; injection hk with hk; exact m5 (q.symm.trans hk)))) (fun k hk => h.N.1 k hk.symm)
  · show Kd.S kRow _ w2 base _ (.slice (some ⟨gO, 0, none⟩) (s.out.set i.toNat row).length cO) (s.out.set i.toNat row)
    rw [hlen]
    exact hS
theorem wrap64_small {n : Int} (h0 : -9223372036854775808 ≤ n) (h1 : n < 9223372036854775808) : wrap64 n = n := by unfold wrap64; omega
theorem CeJ.max (h : CeJ base bn bo bk uw gN cN gO cO s w) : s.now.length ≤ maxLen := by
  obtain ⟨_, inner, ⟨hl, ho⟩, _⟩ := h.N
  rcases ho with ⟨_, h2⟩ | ⟨g, cap, cur, _, _, _, hc, hm, _, _⟩ <;> omega
theorem CeJ.aim {uw : Option Nat} (h : CeJ base bn bo bk none gN cN gO cO s w) (hb : Below w.heap.size w w1) (hu : ∀ k, uw = some k → w.heap.size ≤ k) : CeJ base bn bo bk uw gN cN gO cO s w1 := by
  have f : ∀ k, k < w.heap.size → some k ≠ uw := fun k hk e => by have h1 := hu k e.symm; omega
  exact ⟨blk_below h.hn hb, blk_below h.ho hb, fun b eb => blk_below (h.hk b eb) hb, Kd.R_below (Kd.R_mono (Kd.R_bound h.N) (fun k hk => f k hk.2.2.1)) hb, Kd.S_below (Kd.S_mono (Kd.S_bound h.O) (fun k hk => ⟨hk.1.1, hk.1.2.1, f k hk.2.2.1⟩)) hb,
    h.bn_, h.bo_, h.bk_, f _ (blk_lt h.hn), f _ (blk_lt h.ho), fun b eb => f _ (blk_lt (h.hk b eb))⟩
theorem CeJ.free (h : CeJ base bn bo bk uw gN cN gO cO s w) : CeJ base bn bo bk none gN cN gO cO s w :=
  ⟨h.hn, h.ho, h.hk, Kd.R_mono h.N (fun _ _ => by simp), Kd.S_mono h.O (fun k hk => ⟨hk.1, hk.2.1, by simp⟩), h.bn_, h.bo_, h.bk_, by simp, by simp, fun _ _ => by simp⟩
theorem CeJ.made {b : Nat} (h : CeJ base bn bo none none gN cN gO cO s w) (hb : Below w.heap.size w w1) (hk : w1.heap[b]? = some (.cells #[.int .i64 0] 3 (0, 0))) (hbb : base ≤ b) : CeJ base bn bo (some b) none gN cN gO cO { s with cnt := 0 } w1 := by
  have h1 := h.below hb
  exact ⟨h1.hn, h1.ho, fun b' eb => by injection eb with eb; subst eb; exact hk, h1.N, h1.O, h1.bn_, h1.bo_, fun b' eb => by injection eb with eb; subst eb; exact hbb, by simp, by simp, fun _ _ => by simp⟩
theorem CeI_step {b : Nat} (h : CeI base bn bo b uw s w) (hm : ∀ k, k < w.heap.size → some k ≠ uw → w1.heap[k]? = w.heap[k]?) : CeI base bn bo b uw s w1 := by
  obtain ⟨gN, cN, gO, cO, h⟩ := h
  exact ⟨gN, cN, gO, cO, h.step hm⟩
theorem CeI_drew {b : Nat} (h : CeI base bn bo b uw s w) : CeI base bn bo b uw s w.drew := CeI_step h (fun _ _ _ => rfl)
theorem CeI_set {b g j : Nat} {u : Value} (h : CeI base bn bo b uw s w) (hu : uw = some g) : CeI base bn bo b uw s (w.setCell ⟨g, j, none⟩ u) := CeI_step h (fun k _ hk => Below.heap_setCell w ⟨g, j, none⟩ u k (fun e => hk (by rw [hu, e])))
theorem CeJ.cells (h : CeJ base bn bo bk uw gN cN gO cO s w) (i : Int) (h0 : 0 ≤ i) (h1 : i < s.now.length) :
    (∀ (j : Nat) u, ([.int .i64 (rd_T101 s.now i).f0, .int .i64 (rd_T101 s.now i).f1, .int .i64 (rd_T101 s.now i).f2, .int .i64 (rd_T101 s.now i).f3, .int .i64 (rd_T101 s.now i).f4] : List Value)[j]? = some u → w.cell? ⟨gN, i.toNat * 5 + j, none⟩ = some u) ∧ ∀ j, w.frozen? ⟨gN, i.toNat * 5 + j, none⟩ = false := by
  obtain ⟨c, hcl, hM, hcc, hfr⟩ := Kd.R_elem h.N z101 i h0 h1
  have hc : c = _ := k101_openM hM
  subst hc
  exact ⟨fun j u hu => hcc j u hu, fun j => hfr j⟩
end
end Go.Proofs.Ytoajlmlobaccdaa.P
namespace Go.Proofs.Ytoajlmlobaccdaa.P
open Go.RowKit Go.Proofs.YtoajlmlobaccdaaW.PrintWords Go.Proofs.YtoajlmlobaccdaaW.PrintLast Go.Proofs.YtoajlmlobaccdaaW.PrintMore
attribute [local go_sem] ptrOf_slice
set_option linter.unusedVariables false
set_option linter.unusedSimpArgs false
def Cel.z : Cel := z101
def celAt (l : List Cel) (i : Int) : Cel := rd_T101 l i
def bit1 (a : Int) : Int := wrap64 (2 ^ min a.toNat 64)
def ceA (s : CeS) (q : Int) : CeS := { s with now := s.now.set q.toNat { celAt s.now q with f3 := s.cnt } }
def ceB (s : CeS) (q : Int) : CeS := { s with out := s.out.set q.toNat (s.out.getD q.toNat [] ++ [celAt s.now q]) }
def ceC (s : CeS) (a b q : Int) : CeS := { s with now := s.now.set q.toNat ⟨2, Go.bits .or .i64 (bit1 a) (bit1 b), s.cnt, 0, Go.bits .or .i64 (Go.bits .andNot .i64 (celAt s.now q).f4 (bit1 a)) (bit1 b)⟩ }
def ceD1 (s : CeS) (i : Int) : CeS := { s with now := s.now.set i.toNat { celAt s.now i with f0 := wrap64 ((celAt s.now i).f0 + 1) } }
def ceD2 (s : CeS) (i f : Int) : CeS := { s with now := s.now.set i.toNat { celAt s.now i with f1 := f } }
def ceD (s : CeS) (a i : Int) : CeS := ceD2 (ceD1 s i) i (Go.bits .or .i64 (celAt s.now i).f1 (bit1 a))
def ceStep (s : CeS) (a b p : Int) : CeS :=
  let t := ceD (ceD (ceC (ceB (ceA s (p + 1)) (p + 1)) a b (p + 1)) b p) a (p + 2)
  { t with cnt := wrap64 (t.cnt + 1) }
def ceOk (s : CeS) (a b p : Int) : Prop := 0 ≤ a ∧ 0 ≤ b ∧ p + 2 < (s.now.length : Int) ∧ p + 1 < (s.out.length : Int) ∧ (s.out.getD (p + 1).toNat []).length < 3518437208883
theorem infoCel : (Try.prog.info? 101).map (fun i => (i.zero, i.size, i.bytes)) = some (some (.agg #[.int .i64 0, .int .i64 0, .int .i64 0, .int .i64 0, .int .i64 0]), 5, 40) := by kernel_rfl
instance (s : CeS) (a b p : Int) : Decidable (ceOk s a b p) := by unfold ceOk; infer_instance
def ce1.T0 : Bool × List (List Nat × List Nat) := (true, [([], []), ([], []), ([0, 1], [0, 1]), ([2], [2]), ([], []), ([], []), ([5], [5]), ([4, 6], [4, 6]), ([7], [7]), ([3, 0, 1, 2, 3], [3]), ([8, 9, 0, 1, 2, 3, 4, 5, 6, 7, 8, 9], [8])])
def ce1.B0 : List Nat := [0, 0, 3, 7, 0, 0, 32, 112, 240, 15, 1023]
theorem ce1.tab0 : rtab .any (opsOf Try.f165 0) = ce1.T0 := by kernel_rfl
theorem ce1.bits0 : waitsOk ce1.T0.2 ce1.B0 = true := by kernel_rfl
def ce1.T2 : Bool × List (List Nat × List Nat) := (true, [([], []), ([], []), ([1], [1]), ([], []), ([], []), ([4], [4]), ([3, 5], [3, 5]), ([6], [6]), ([], []), ([], []), ([9], [9]), ([8, 10], [8, 10]), ([11], [11]), ([12], [12]), ([7, 13], [7, 13]), ([0, 2, 0, 1, 2, 3, 4, 5, 6, 7, 8, 9, 10, 11, 12, 13, 14], [0, 2]), ([15, 14, 14, 0, 1, 2, 3, 4, 5, 6, 7, 8, 9, 10, 11, 12, 13, 14], [14, 15])])
def ce1.B2 : List Nat := [0, 0, 2, 0, 0, 16, 56, 120, 0, 0, 512, 1792, 3840, 7936, 16376, 32767, 65535]
theorem ce1.tab2 : rtab .any (opsOf Try.f165 2) = ce1.T2 := by kernel_rfl
theorem ce1.bits2 : waitsOk ce1.T2.2 ce1.B2 = true := by kernel_rfl
def ce1.T3 : Bool × List (List Nat × List Nat) := (true, [([], []), ([], []), ([1], [1]), ([], []), ([3], [3]), ([], []), ([5], [5]), ([4, 6], [4, 6]), ([], []), ([], []), ([], []), ([10], [10]), ([9, 11], [9, 11]), ([12], [12]), ([13], [13]), ([], []), ([15], [15]), ([14, 16], [14, 16]), ([], []), ([18], [18]), ([17, 19], [17, 19]), ([7, 8, 20], [7, 8, 20]), ([0, 2, 0, 1, 2, 3, 4, 5, 6, 7, 8, 9, 10, 11, 12, 13, 14, 15, 16, 17, 18, 19, 20, 21], [0, 2]), ([22, 21, 0, 1, 2, 3, 4, 5, 6, 7, 8, 9, 10, 11, 12, 13, 14, 15, 16, 17, 18, 19, 20, 21], [21, 22])])
def ce1.B3 : List Nat := [0, 0, 2, 0, 8, 0, 32, 120, 0, 0, 0, 1024, 3584, 7680, 15872, 0, 32768, 130560, 0, 262144, 1048064, 2097144, 4194303, 8388607]
theorem ce1.tab3 : rtab .any (opsOf Try.f165 3) = ce1.T3 := by kernel_rfl
theorem ce1.bits3 : waitsOk ce1.T3.2 ce1.B3 = true := by kernel_rfl
def ce1.T4 : Bool × List (List Nat × List Nat) := (true, [([], []), ([], []), ([], []), ([], []), ([], []), ([], []), ([4, 5], [4, 5]), ([6], [6]), ([7], [7]), ([8], [8]), ([], []), ([], []), ([10, 11], [10, 11]), ([12], [12]), ([13], [13]), ([], []), ([15], [15]), ([14, 16], [14, 16]), ([0, 1, 0, 1, 4, 5, 6, 7, 8, 9, 14], [0, 1]), ([18, 0, 1, 4, 5, 6, 7, 8, 9, 14], [18]), ([19, 9, 0, 1, 4, 5, 6, 7, 8, 9, 14], [9, 19]), ([2, 3, 0, 1, 2, 3, 4, 5, 6, 7, 8, 9, 10, 11, 12, 13, 14, 15, 16, 17, 18, 19, 20], [2, 3]), ([21, 0, 1, 2, 3, 4, 5, 6, 7, 8, 9, 10, 11, 12, 13, 14, 15, 16, 17, 18, 19, 20], [21]), ([22, 17, 20, 0, 1, 2, 3, 4, 5, 6, 7, 8, 9, 10, 11, 12, 13, 14, 15, 16, 17, 18, 19, 20], [17, 22])])
def ce1.B4 : List Nat := [0, 0, 0, 0, 0, 0, 48, 112, 240, 496, 0, 0, 3072, 7168, 15360, 0, 32768, 130048, 32755, 294899, 819187, 2097151, 4194303, 8388607]
theorem ce1.tab4 : rtab .any (opsOf Try.f165 4) = ce1.T4 := by kernel_rfl
theorem ce1.bits4 : waitsOk ce1.T4.2 ce1.B4 = true := by kernel_rfl
def ce1.T5 : Bool × List (List Nat × List Nat) := (true, [([], []), ([], []), ([1], [1]), ([], []), ([], []), ([4], [4]), ([], []), ([], []), ([7], [7]), ([6, 8], [6, 8]), ([9], [9]), ([10], [10]), ([11], [11]), ([], []), ([], []), ([14], [14]), ([13, 15], [13, 15]), ([16], [16]), ([17], [17]), ([], []), ([19], [19]), ([18, 20], [18, 20]), ([0, 2, 0, 1, 2, 6, 7, 8, 9, 10, 11, 12, 18], [0, 2]), ([22, 0, 1, 2, 6, 7, 8, 9, 10, 11, 12, 18], [22]), ([23, 12, 0, 1, 2, 6, 7, 8, 9, 10, 11, 12, 18], [12, 23]), ([3, 5, 0, 1, 2, 3, 4, 5, 6, 7, 8, 9, 10, 11, 12, 13, 14, 15, 16, 17, 18, 19, 20, 21, 22, 23, 24], [3, 5]), ([25, 0, 1, 2, 3, 4, 5, 6, 7, 8, 9, 10, 11, 12, 13, 14, 15, 16, 17, 18, 19, 20, 21, 22, 23, 24], [25]), ([26, 21, 24, 0, 1, 2, 3, 4, 5, 6, 7, 8, 9, 10, 11, 12, 13, 14, 15, 16, 17, 18, 19, 20, 21, 22, 23, 24], [21, 26])])
def ce1.B5 : List Nat := [0, 0, 2, 0, 0, 16, 0, 0, 128, 448, 960, 1984, 4032, 0, 0, 16384, 57344, 122880, 253952, 0, 524288, 2088960, 524231, 4718535, 13107143, 33554431, 67108863, 134217727]
theorem ce1.tab5 : rtab .any (opsOf Try.f165 5) = ce1.T5 := by kernel_rfl
theorem ce1.bits5 : waitsOk ce1.T5.2 ce1.B5 = true := by kernel_rfl
set_option maxHeartbeats 8000000 in
set_option maxRecDepth 100000 in
theorem ce1_calls (uw : Option Nat) (bn bo bk : Nat) (s : CeS) (A0 : Option Addr) (c0 : Nat) (l0 : List Int) (p q : Int) (w0 w : World) (hB : Below w0.heap.size w0 w) (hr0 : Kd.C (Kd.int .i64) w A0 l0.length l0) (hc0 : l0.length ≤ c0) (hI : CeI w0.heap.size bn bo bk uw s w) (hu : ∀ k, uw = some k → k < w.heap.size ∧ ∃ c, w.heap[k]? = some (.cells c 3 (0, 0))) (hp0 : 0 ≤ p) (hp1 : p < l0.length) (hq : wrap64 (p + 1) = q) (hq0 : 0 ≤ q) (hq1 : q < l0.length) (hl : ceOk s (rd l0 p) (rd l0 q) p) :
    Calls Try.prog 165 #[.slice A0 l0.length c0, .int .i64 p, .pointer (some ⟨bk, 0, none⟩), .pointer (some ⟨bn, 0, none⟩), .pointer (some ⟨bo, 0, none⟩)] w fun e w' => e = .returned (.tuple #[]) ∧ CeI w0.heap.size bn bo bk uw (ceStep s (rd l0 p) (rd l0 q) p) w' ∧ Below w0.heap.size w0 w' ∧ ∀ k, uw = some k → w'.heap[k]? = w.heap[k]? := by
  obtain ⟨gN, cN, gO, cO, J0⟩ := hI; obtain ⟨ha0, hb0, hm2, ho1, hlr⟩ := hl; obtain ⟨ad, e0, hx0⟩ := Kd.at_int hr0 p hp0 hp1; subst e0; obtain ⟨ad', e1, hx1⟩ := Kd.at_int hr0 q hq0 hq1; obtain rfl : ad = ad' := by injection e1
  clear e1; have J0 := am_ J0; have HB := am_ hB; have HU := am_ hu; have KU : Aside0 (∀ k, uw = some k → k < w.heap.size → w.heap[k]? = w.heap[k]?) := ⟨fun _ _ _ => rfl⟩; have hqw : (IntKind.i64.wrap (p + 1)) = q := (i64_w _).trans hq; generalize ha : rd l0 p = a at *
  generalize hb : rd l0 q = b at *
  have P0_ := eq_true hp0; have P1_ := eq_true hp1; have Q0_ := eq_true hq0; have Q1_ := eq_true hq1; have P0b_ : decide (0 ≤ p) = true := decide_eq_true hp0; have P1b_ : decide (p < (l0.length : Int)) = true := decide_eq_true hp1; have Q0b_ : decide (0 ≤ q) = true := decide_eq_true hq0; have Q1b_ : decide (q < (l0.length : Int)) = true := decide_eq_true hq1; clear hB hu hp0 hp1 hq hq0 hq1; go_enter Try.func165, Try.ntmps165
  try go_wp2
  replace J0 := am_ J0.out.drew; replace HB := bd_ HB; have KU : Aside0 (∀ k, uw = some k → k < w.heap.size → w.drew.heap[k]? = w.heap[k]?) := ⟨fun _ _ _ => rfl⟩; refine start_ (n := 11) (S := fun w' => w'.cell? (ad.add p.toNat) = some (.int .i64 a) ∧ w'.cell? (ad.add q.toNat) = some (.int .i64 b)) (ds := []) #[false, false, false, false, false, false, false, false, false, false, false] (by kernel_rfl) rfl rfl ⟨hx0, hx1⟩ (fun hHeld => ?_); refine with_tabW ce1.tab0 ce1.bits0 (fun HT_ HW_ => ?_); generalize hw10 : w.drew = w10 at J0 HB KU hHeld ⊢
  refine pD_ 0 (some 9) HT_ (h := ?_); refine pD_ 1 (some 10) HT_ (h := ?_); refine pD_ 2 (some 11) HT_ (h := ?_); refine tD2_ 3 (some 12) HT_ HW_ hHeld (h := ?_); refine pD_ 4 (some 13) HT_ (h := ?_); refine pD_ 5 (some 14) HT_ (h := ?_); refine pD_ 6 (some 15) HT_ (h := ?_); refine pD_ 7 (some 16) HT_ (h := ?_); refine tD2_ 8 (some 17) HT_ HW_ hHeld (h := ?_); refine pD_ 9 (some 7) HT_ (h := ?_); refine pD_ 10 (some 8) HT_ (h := ?_); refine done_ (done_of HT_.out (by kernel_rfl)) ?_; have hmx : s.now.length ≤ maxLen := CeJ.max J0.out; have hqp : q = p + 1 := by have h1 := hqw; rw [i64_w] at h1; rw [← h1]; exact wrap64_small (by have := of_eq_true P0_; omega) (by unfold maxLen at hmx; omega)
  have hqn : q < (s.now.length : Int) := by omega
  have hqo : q < (s.out.length : Int) := by omega
  have hq0 : 0 ≤ q := of_eq_true Q0_; have N1_ := eq_true hqn; have O1_ := eq_true hqo; have N1b_ : decide (q < (s.now.length : Int)) = true := decide_eq_true hqn; have O1b_ : decide (q < (s.out.length : Int)) = true := decide_eq_true hqo; rw [show p + 1 = q by omega] at hlr; obtain ⟨nc, nf⟩ := J0.out.cells q hq0 hqn; have x3 := nc 3 _ rfl; have y3 := nf 3; have HQ := am_ (show q = p + 1 ∧ p + 2 < (s.now.length : Int) ∧ (s.out.getD q.toNat []).length < 3518437208883 from ⟨hqp, hm2, hlr⟩); have HP := Kd.R_seg J0.out.N q hq0 hqn (seg := [.int .i64 s.cnt]) (j := 3) (c := [.int .i64 (celAt s.now q).f0, .int .i64 (celAt s.now q).f1, .int .i64 (celAt s.now q).f2, .int .i64 (celAt s.now q).f3, .int .i64 (celAt s.now q).f4]) rfl nc (by show 3 + 1 ≤ 5; omega) (x' := { celAt s.now q with f3 := s.cnt }) (okp := fun _ => False) (k101_mkM _ _ _ { celAt s.now q with f3 := s.cnt }) (fun _ h => h.elim); have HP := am_ HP; clear nc nf hmx hqp ho1 hm2 hlr; have cn0 : w10.cell? ⟨bn, 0, none⟩ = some (.slice (some ⟨gN, 0, none⟩) s.now.length cN) := (blk_cell J0.out.hn 0).trans rfl; have co0 : w10.cell? ⟨bo, 0, none⟩ = some (.slice (some ⟨gO, 0, none⟩) s.out.length cO) := (blk_cell J0.out.ho 0).trans rfl; have ck0 : w10.cell? ⟨bk, 0, none⟩ = some (.int .i64 s.cnt) := (blk_cell (J0.out.hk bk rfl) 0).trans rfl; have fk0 := blk_frozen (J0.out.hk bk rfl) 0; try go_wp2
  obtain ⟨w11, hw11⟩ : ∃ w11, w11 = w10.setCell ⟨gN, q.toNat * 5 + 3, none⟩ (.int .i64 s.cnt) := ⟨_, rfl⟩; rw [← hw11]; obtain ⟨J1, K1⟩ := J0.out.put (w1 := w11) (by rw [hw11]; exact HP.out.1) (by rw [hw11]; exact HP.out.2); have B1 : Below w0.heap.size w0 w11 := by rw [hw11]; exact below_set HB.out J0.out.gN_ne.2.2.2.2.1
  have KU1 : Aside0 (∀ k, uw = some k → k < w.heap.size → w11.heap[k]? = w.heap[k]?) := ⟨fun k e h => (K1 k e (by rw [← hw10]; exact h)).trans (KU.out k e h)⟩; obtain ⟨s1, hs1⟩ : ∃ s1, s1 = ceA s q := ⟨_, rfl⟩; replace J1 : CeJ w0.heap.size bn bo (some bk) uw gN cN gO cO s1 w11 := by rw [hs1]; exact J1
  have L1 : s1.now.length = s.now.length := by rw [hs1]; exact List.length_set
  have E1 : s1.out = s.out := by rw [hs1]; rfl
  have HS1 := am_ hs1; have L1_ := am_ L1; have E1_ := am_ E1; have HWW := am_ (show w10.heap.size = w.heap.size from by rw [← hw10]; rfl); have HW1 := am_ (show w11.heap.size = w.heap.size from by rw [hw11, ← HWW.out]; exact (setCells_same gN [.int .i64 s.cnt] (q.toNat * 5 + 3) w10).2.2.2); clear J0 HB KU K1 cn0 co0 ck0 fk0 x3 y3 HP hw11 hw10 hs1 N1_ O1_ N1b_ O1b_ hHeld; rw [← L1] at hqn; rw [← E1] at hqo; obtain ⟨nc, nf⟩ := J1.cells q hq0 hqn; have N1_ := eq_true hqn; have O1_ := eq_true hqo; have N1b_ : decide (q < (s1.now.length : Int)) = true := decide_eq_true hqn; have O1b_ : decide (q < (s1.out.length : Int)) = true := decide_eq_true hqo; obtain ⟨oki, cv, hcl, hM, hcc, hoki, hH⟩ := Kd.S_lend J1.O ([] : List Cel) q hq0 hqo; obtain ⟨v, rfl, hR⟩ := hM; obtain ⟨A1, c1, rfl⟩ := Kd.R_slice hR; have hx := hcc 0 _ rfl; rw [Nat.add_zero, show kRow.sz = 1 from rfl, Nat.mul_one] at hx; obtain ⟨row, hrow⟩ : ∃ row, row = s1.out.getD q.toNat [] := ⟨_, rfl⟩; rw [← hrow] at hR hx hH; have HROW := am_ hrow; have z0 := nc 0 _ rfl; have z1 := nc 1 _ rfl; have z2 := nc 2 _ rfl; have z3 := nc 3 _ rfl; have z4 := nc 4 _ rfl; rw [Nat.add_zero] at z0; have cn1 : w11.cell? ⟨bn, 0, none⟩ = some (.slice (some ⟨gN, 0, none⟩) s1.now.length cN) := (blk_cell J1.hn 0).trans rfl; have co1 : w11.cell? ⟨bo, 0, none⟩ = some (.slice (some ⟨gO, 0, none⟩) s1.out.length cO) := (blk_cell J1.ho 0).trans rfl; have HR := am_ (Kd.R_drew hR); have HH := am_ (Kd.H_drew hH); have HOK := am_ hoki; have J1 := am_ J1.drew; have B1 := am_ (below_drew1 B1); have HLR := am_ (show row.length < 3518437208883 from by rw [hrow, E1]; exact HQ.out.2.2); have HW2 := am_ (show w11.drew.heap.size = w.heap.size from HW1.out); replace KU1 : Aside0 (∀ k, uw = some k → k < w.heap.size → w11.drew.heap[k]? = w.heap[k]?) := ⟨KU1.out⟩; clear hcc hcl hR hH hoki nc nf hrow HW1 L1 E1; refine start_ (n := 17) (S := fun w' => w'.cell? ⟨bo, 0, none⟩ = some (.slice (some ⟨gO, 0, none⟩) s1.out.length cO) ∧ w'.cell? ⟨bn, 0, none⟩ = some (.slice (some ⟨gN, 0, none⟩) s1.now.length cN) ∧ w'.cell? ⟨gO, q.toNat, none⟩ = some (.slice A1 row.length c1) ∧ w'.cell? ⟨gN, q.toNat * 5, none⟩ = some (.int .i64 (celAt s1.now q).f0) ∧ w'.cell? ⟨gN, q.toNat * 5 + 1, none⟩ = some (.int .i64 (celAt s1.now q).f1) ∧ w'.cell? ⟨gN, q.toNat * 5 + 2, none⟩ = some (.int .i64 (celAt s1.now q).f2) ∧ w'.cell? ⟨gN, q.toNat * 5 + 3, none⟩ = some (.int .i64 (celAt s1.now q).f3) ∧ w'.cell? ⟨gN, q.toNat * 5 + 4, none⟩ = some (.int .i64 (celAt s1.now q).f4)) (ds := [16]) #[false, false, false, false, false, false, false, false, false, false, false, false, false, false, false, false, false] (by kernel_rfl) rfl rfl ⟨co1, cn1, hx, z0, z1, z2, z3, z4⟩ (fun hHeld => ?_); refine with_tabW ce1.tab2 ce1.bits2 (fun HT_ HW_ => ?_)
  clear co1 cn1 hx z0 z1 z2 z3 z4; generalize w11.drew = w12 at J1 B1 KU1 HR HH HW2 hHeld ⊢
  refine pD_ 1 (some 25) HT_ (h := ?_); refine pD_ 2 (some 26) HT_ (h := ?_); refine pD_ 4 (some 28) HT_ (h := ?_); refine pD_ 5 (some 29) HT_ (h := ?_); refine pD_ 9 (some 33) HT_ (h := ?_); refine pD_ 10 (some 34) HT_ (h := ?_); refine tD8_ 0 (some 24) HT_ HW_ hHeld (h := ?_); refine tD8_ 3 (some 27) HT_ HW_ hHeld (h := ?_); refine tD8_ 8 (some 32) HT_ HW_ hHeld (h := ?_); refine pD_ 6 (some 30) HT_ (h := ?_); refine pD_ 11 (some 35) HT_ (h := ?_); refine tD8_ 7 (some 31) HT_ HW_ hHeld (h := ?_); refine tD8_ 12 (some 36) HT_ HW_ hHeld (h := ?_); have hHeld0 := am_ hHeld; refine oN_ 13 (some 37) HT_ (fun K hK => ?_); refine value_ (w1 := ?_) (v := ?_) (by rfl) rfl ?_ ?_; rotate_left 2
  · go_simp
    constructor
    · rfl
    · rfl
  refine hK.out _ _ ⟨((below_alloc (Below.refl w12.heap.size w12) _).cell (World.block_lt_of_cell? _ _ hHeld.1)).trans hHeld.1, ((below_alloc (Below.refl w12.heap.size w12) _).cell (World.block_lt_of_cell? _ _ hHeld.2.1)).trans hHeld.2.1, ((below_alloc (Below.refl w12.heap.size w12) _).cell (World.block_lt_of_cell? _ _ hHeld.2.2.1)).trans hHeld.2.2.1, ((below_alloc (Below.refl w12.heap.size w12) _).cell (World.block_lt_of_cell? _ _ hHeld.2.2.2.1)).trans hHeld.2.2.2.1, ((below_alloc (Below.refl w12.heap.size w12) _).cell (World.block_lt_of_cell? _ _ hHeld.2.2.2.2.1)).trans hHeld.2.2.2.2.1, ((below_alloc (Below.refl w12.heap.size w12) _).cell (World.block_lt_of_cell? _ _ hHeld.2.2.2.2.2.1)).trans hHeld.2.2.2.2.2.1, ((below_alloc (Below.refl w12.heap.size w12) _).cell (World.block_lt_of_cell? _ _ hHeld.2.2.2.2.2.2.1)).trans hHeld.2.2.2.2.2.2.1, ((below_alloc (Below.refl w12.heap.size w12) _).cell (World.block_lt_of_cell? _ _ hHeld.2.2.2.2.2.2.2)).trans hHeld.2.2.2.2.2.2.2⟩ (fun hHeld => ?_); clear hK K; refine nm_ 37 (h := ?_); have hwz : ∀ k, w12.heap.size ≤ k → k ≠ gN ∧ k ≠ bn ∧ some k ≠ uw := fun k hk => ⟨by have h1 := J1.out.gN_ne.2.2.2.2.2; omega, by have h1 := blk_lt J1.out.hn; omega, fun e => by have h1 := (HU.out k e.symm).1; have h2 := HW2.out; omega⟩
  have HWZ := am_ hwz; clear hwz; refine oN_ 14 (some 38) HT_ (fun K hK => ?_); refine Kd.R_append_step kCel (w0 := w0) (W := w12) w0.heap.size (by rfl) (.tmp 31) (.tmp 37) 99 101 (.agg #[.int .i64 0, .int .i64 0, .int .i64 0, .int .i64 0, .int .i64 0]) 40 rfl Try.underlying99 infoCel rfl (by decide) (by omega) (.slice A1 row.length c1) row (celAt s1.now q) [.int .i64 (celAt s1.now q).f0, .int .i64 (celAt s1.now q).f1, .int .i64 (celAt s1.now q).f2, .int .i64 (celAt s1.now q).f3, .int .i64 (celAt s1.now q).f4] (fun k => oki k ∨ ((k ≠ gN ∧ k ≠ bn ∧ some k ≠ uw) ∧ w12.heap.size ≤ k)) (fun _ => False) rfl rfl (k101_mkM _ _ _ (celAt s1.now q)) (fun _ h => h.elim) (fun k hk => .inr ⟨HWZ.out k hk, hk⟩) (Kd.R_mono HR.out (fun k h => .inl h)) B1.out B1.out.size (by have h1 := HLR.out; omega) ?_; intro v1 w1 hR1 hB1 hg1 hat1; obtain ⟨A2, c2, rfl⟩ := Kd.R_slice hR1; have HRN := am_ (show ∀ k, (Value.slice A1 row.length c1).ownBlock = some k → (k ≠ gN ∧ k ≠ bn ∧ some k ≠ uw) ∧ k ≠ gO from fun k e => HOK.out k (HR.out.1 k e)); have R1 := am_ hR1; have BB := am_ hB1; have G1 := am_ hg1; have hf : ∀ k, k ≠ gO → True := fun _ _ => trivial
  have nO : some bo ≠ (Value.slice A1 row.length c1).ownBlock := Kd.R_ne HR.out J1.out.ho (by decide); have nN : some bn ≠ (Value.slice A1 row.length c1).ownBlock := Kd.R_ne HR.out J1.out.hn (by decide); have nG : some gO ≠ (Value.slice A1 row.length c1).ownBlock := fun e => (HRN.out gO e.symm).2 rfl
  have nC : some gN ≠ (Value.slice A1 row.length c1).ownBlock := fun e => (HRN.out gN e.symm).1.1 rfl
  have HX := hHeld0.out; clear hR1 hB1 hg1 hat1 hf; refine hK.out _ _ ⟨cell_grown G1.out HX.1 nO, cell_grown G1.out HX.2.1 nN, cell_grown G1.out HX.2.2.1 nG, cell_grown G1.out HX.2.2.2.1 nC, cell_grown G1.out HX.2.2.2.2.1 nC, cell_grown G1.out HX.2.2.2.2.2.1 nC, cell_grown G1.out HX.2.2.2.2.2.2.1 nC, cell_grown G1.out HX.2.2.2.2.2.2.2 nC⟩ (fun hHeld => ?_); clear hK K; refine nm_ 38 (h := ?_); clear nO nN nG nC HX hHeld0; refine pD_ 15 (some 39) HT_ (h := ?_); refine last_ (i := 16) (N := none) #[true, true, true, true, true, true, true, true, true, true, true, true, true, true, true, true, true] rfl rfl (one_of HT_.out (by kernel_rfl)) (by decide) (fun K hK => ?_); refine H_store_step kRow (w0 := w0) (W := w1) w0.heap.size (by rfl) (by rfl) 99 (.tmp 39) (.tmp 38) (by rfl) 99 q 0 s1.out (row ++ [celAt s1.now q]) (.slice A2 (row ++ [celAt s1.now q]).length c2) [.slice A2 (row ++ [celAt s1.now q]).length c2] [.slice A1 row.length c1] (fun k => k ≠ gN ∧ k ≠ bn ∧ some k ≠ uw) (fun k => oki k ∨ ((k ≠ gN ∧ k ≠ bn ∧ some k ≠ uw) ∧ w12.heap.size ≤ k)) (fun k => oki k ∨ ((k ≠ gN ∧ k ≠ bn ∧ some k ≠ uw) ∧ w12.heap.size ≤ k)) (by rfl) (by show q.toNat = q.toNat * 1 + 0; omega) (by rfl) rfl (by kernel_rfl) (by intro x hx; rw [List.mem_singleton] at hx; subst hx; rfl) (Kd.H_grown (Kd.H_widen HH.out) G1.out (fun k e => .inl (HR.out.1 k e))) hq0 hqo (by show 0 + 1 ≤ 1; omega) ⟨_, rfl, R1.out⟩ (fun _ h => h) BB.out ?_; intro w13 hS2 hB2 hg2; have J2 := CeJ.done J1.out (i := q) (row := row ++ [celAt s1.now q]) (oki := oki) (by rw [← HROW.out]; exact HR.out) (fun k hk => ⟨(HOK.out k hk).1.1, (HOK.out k hk).1.2.2⟩) G1.out hS2 hg2; have HB2 := am_ hB2; have HG2 := am_ hg2; clear hS2 hB2 hg2; refine hK.out _ _ ?_; clear hK K; refine done_ (done_of HT_.out (by kernel_rfl)) ?_; obtain ⟨J2, K2⟩ := J2; obtain ⟨s2, hs2⟩ : ∃ s2, s2 = ceB s1 q := ⟨_, rfl⟩; replace J2 : CeJ w0.heap.size bn bo (some bk) uw gN cN gO cO s2 w13 := by rw [hs2]; unfold ceB; rw [← HROW.out]; exact J2
  have N2 : s2.now = s1.now := by rw [hs2]; rfl
  rw [← N2] at hqn; have KU2 : Aside0 (∀ k, uw = some k → k < w.heap.size → w13.heap[k]? = w.heap[k]?) := ⟨fun k e h => (K2 k e (by rw [HW2.out]; exact h)).trans (KU1.out k e h)⟩; have HS2 := am_ hs2; have N2_ := am_ N2; have HZ2 := am_ (show w.heap.size ≤ w13.heap.size from by have h1 := HW2.out; have h2 := G1.out.size; have h3 := HG2.out.size; omega); clear J1 B1 KU1 K2 hs2 N2 HR HH HOK HLR HW2 HROW HWZ HRN R1 BB G1 HG2 N1_ N1b_ O1_ O1b_ hqo hHeld HWW; try go_wp2
  obtain ⟨nc, nf⟩ := J2.cells q hq0 hqn; have z4 := nc 4 _ rfl; have cn2 : w13.cell? ⟨bn, 0, none⟩ = some (.slice (some ⟨gN, 0, none⟩) s2.now.length cN) := (blk_cell J2.hn 0).trans rfl; have ck2 : w13.cell? ⟨bk, 0, none⟩ = some (.int .i64 s2.cnt) := (blk_cell (J2.hk bk rfl) 0).trans rfl; have N1_ := eq_true hqn; have N1b_ : decide (q < (s2.now.length : Int)) = true := decide_eq_true hqn; have A1_ := eq_true ha0; have A1b_ : decide (0 ≤ a) = true := decide_eq_true ha0; have A2_ := eq_true hb0; have A2b_ : decide (0 ≤ b) = true := decide_eq_true hb0; have NC := am_ nc; have J2 := am_ J2.drew; have B2 := am_ (below_drew1 HB2.out); replace NC : Aside0 (∀ (j : Nat) u, ([.int .i64 (celAt s2.now q).f0, .int .i64 (celAt s2.now q).f1, .int .i64 (celAt s2.now q).f2, .int .i64 (celAt s2.now q).f3, .int .i64 (celAt s2.now q).f4] : List Value)[j]? = some u → w13.drew.cell? ⟨gN, q.toNat * 5 + j, none⟩ = some u) := ⟨NC.out⟩; replace KU2 : Aside0 (∀ k, uw = some k → k < w.heap.size → w13.drew.heap[k]? = w.heap[k]?) := ⟨KU2.out⟩; replace HZ2 : Aside0 (w.heap.size ≤ w13.drew.heap.size) := ⟨HZ2.out⟩; clear nc nf HB2; refine start_ (n := 24) (S := fun w' => w'.cell? ⟨bn, 0, none⟩ = some (.slice (some ⟨gN, 0, none⟩) s2.now.length cN) ∧ w'.cell? ⟨bk, 0, none⟩ = some (.int .i64 s2.cnt) ∧ w'.cell? ⟨gN, q.toNat * 5 + 4, none⟩ = some (.int .i64 (celAt s2.now q).f4)) (ds := [23]) #[false, false, false, false, false, false, false, false, false, false, false, false, false, false, false, false, false, false, false, false, false, false, false, false] (by kernel_rfl) rfl rfl ⟨cn2, ck2, z4⟩ (fun hHeld => ?_); refine with_tabW ce1.tab3 ce1.bits3 (fun HT_ HW_ => ?_); clear cn2 ck2 z4; generalize w13.drew = w14 at J2 B2 KU2 NC HZ2 hHeld ⊢
  refine pD_ 1 (some 41) HT_ (h := ?_); refine pD_ 2 (some 42) HT_ (h := ?_); refine pD_ 3 (some 43) HT_ (h := ?_); refine pD_ 4 (some 44) HT_ (h := ?_); refine pD_ 5 (some 45) HT_ (h := ?_); refine pD_ 6 (some 46) HT_ (h := ?_); refine pD_ 7 (some 47) HT_ (h := ?_); refine pD_ 10 (some 50) HT_ (h := ?_); refine pD_ 11 (some 51) HT_ (h := ?_); refine pD_ 15 (some 55) HT_ (h := ?_); refine pD_ 16 (some 56) HT_ (h := ?_); refine pD_ 18 (some 58) HT_ (h := ?_); refine pD_ 19 (some 59) HT_ (h := ?_); refine tD3_ 0 (some 40) HT_ HW_ hHeld (h := ?_); refine tD3_ 8 (some 48) HT_ HW_ hHeld (h := ?_); refine tD3_ 9 (some 49) HT_ HW_ hHeld (h := ?_); refine pD_ 12 (some 52) HT_ (h := ?_); refine pD_ 13 (some 53) HT_ (h := ?_); refine tD3_ 14 (some 54) HT_ HW_ hHeld (h := ?_); refine pD_ 17 (some 57) HT_ (h := ?_); refine pD_ 20 (some 60) HT_ (h := ?_); refine pD_ 21 (some 61) HT_ (h := ?_); refine pD_ 22 (some 62) HT_ (h := ?_); refine last_ (i := 23) (N := none) #[true, true, true, true, true, true, true, true, true, true, true, true, true, true, true, true, true, true, true, true, true, true, true, true] rfl rfl (one_of HT_.out (by kernel_rfl)) (by decide) (fun K hK => ?_); refine R_store_step kCel (w0 := w0) (W := w14) w0.heap.size (by rfl) (by rfl) 101 (.tmp 62) (.tmp 61) (by rfl) 101 q 0 s2.now ⟨2, Go.bits .or .i64 (bit1 a) (bit1 b), s2.cnt, 0, Go.bits .or .i64 (Go.bits .andNot .i64 (celAt s2.now q).f4 (bit1 a)) (bit1 b)⟩ (.agg #[.int .i64 2, .int .i64 (Go.bits .or .i64 (bit1 a) (bit1 b)), .int .i64 s2.cnt, .int .i64 0, .int .i64 (Go.bits .or .i64 (Go.bits .andNot .i64 (celAt s2.now q).f4 (bit1 a)) (bit1 b))]) [.int .i64 2, .int .i64 (Go.bits .or .i64 (bit1 a) (bit1 b)), .int .i64 s2.cnt, .int .i64 0, .int .i64 (Go.bits .or .i64 (Go.bits .andNot .i64 (celAt s2.now q).f4 (bit1 a)) (bit1 b))] [.int .i64 (celAt s2.now q).f0, .int .i64 (celAt s2.now q).f1, .int .i64 (celAt s2.now q).f2, .int .i64 (celAt s2.now q).f3, .int .i64 (celAt s2.now q).f4] (fun k => some k ≠ uw) (fun _ => False) (by rfl) (by show q.toNat * 5 = q.toNat * 5 + 0; omega) (by rfl) rfl (by kernel_rfl) ?one J2.out.N hq0 hqn rfl NC.out (by show 0 + 5 ≤ 5; omega) (k101_mkM _ _ _ (⟨2, Go.bits .or .i64 (bit1 a) (bit1 b), s2.cnt, 0, Go.bits .or .i64 (Go.bits .andNot .i64 (celAt s2.now q).f4 (bit1 a)) (bit1 b)⟩ : Cel)) (fun _ h => h.elim) B2.out ?_
  case one => intro x hx; simp only [List.mem_cons, List.not_mem_nil, or_false] at hx; rcases hx with rfl | rfl | rfl | rfl | rfl <;> rfl
  intro w15 hR3 hB3 hg3; have J3 := CeJ.put J2.out hR3 hg3; have B3 := am_ hB3; have G3 := am_ hg3; clear hR3 hB3 hg3; refine hK.out _ _ ?_; clear hK K; refine done_ (done_of HT_.out (by kernel_rfl)) ?_; obtain ⟨J3, K3⟩ := J3; obtain ⟨s3, hs3⟩ : ∃ s3, s3 = ceC s2 a b q := ⟨_, rfl⟩; replace J3 : CeJ w0.heap.size bn bo (some bk) uw gN cN gO cO s3 w15 := by rw [hs3]; exact J3
  have KU3 : Aside0 (∀ k, uw = some k → k < w.heap.size → w15.heap[k]? = w.heap[k]?) := ⟨fun k e h => (K3 k e (Nat.lt_of_lt_of_le h HZ2.out)).trans (KU2.out k e h)⟩; have HZ3 := am_ (Nat.le_trans HZ2.out G3.out.size); have HS3 := am_ hs3; have hm3 : p + 2 < (s3.now.length : Int) := by rw [hs3]; show p + 2 < ((s2.now.set _ _).length : Int); rw [List.length_set, N2_.out, L1_.out]; exact HQ.out.2.1
  have HM3 := am_ hm3; clear J2 B2 KU2 K3 hs3 HZ2 NC G3 N1_ N1b_ hqn hHeld; try go_wp2
  have h0_ : 0 ≤ p := of_eq_true P0_; have h1_ : p < (s3.now.length : Int) := by have h1 := HM3.out; omega
  clear hm3; obtain ⟨nc, nf⟩ := J3.cells (p) h0_ h1_; have z0 := nc 0 _ rfl; have z1 := nc 1 _ rfl; rw [Nat.add_zero] at z0; have cnz : w15.cell? ⟨bn, 0, none⟩ = some (.slice (some ⟨gN, 0, none⟩) s3.now.length cN) := (blk_cell J3.hn 0).trans rfl; have N1_ := eq_true h1_; have N1b_ : decide (p < (s3.now.length : Int)) = true := decide_eq_true h1_; have N0_ := eq_true h0_; have N0b_ : decide (0 ≤ p) = true := decide_eq_true h0_; have NC := am_ (show ∀ (j : Nat) u, ([.int .i64 (celAt s3.now (p)).f0, .int .i64 (celAt s3.now (p)).f1, .int .i64 (celAt s3.now (p)).f2, .int .i64 (celAt s3.now (p)).f3, .int .i64 (celAt s3.now (p)).f4] : List Value)[j]? = some u → w15.drew.cell? ⟨gN, (p).toNat * 5 + j, none⟩ = some u from nc); have J3 := am_ J3.drew; replace B3 := bd_ B3; replace KU3 : Aside0 (∀ k, uw = some k → k < w.heap.size → w15.drew.heap[k]? = w.heap[k]?) := ⟨KU3.out⟩; replace HZ3 : Aside0 (w.heap.size ≤ w15.drew.heap.size) := ⟨HZ3.out⟩; clear nc nf; refine start2_ (n := 24) (S0 := fun w' => w'.cell? ⟨bn, 0, none⟩ = some (.slice (some ⟨gN, 0, none⟩) s3.now.length cN)) (S := fun w' => w'.cell? ⟨gN, (p).toNat * 5, none⟩ = some (.int .i64 (celAt s3.now (p)).f0) ∧ w'.cell? ⟨gN, (p).toNat * 5 + 1, none⟩ = some (.int .i64 (celAt s3.now (p)).f1)) (ds := [20, 23]) #[false, false, false, false, false, false, false, false, false, false, false, false, false, false, false, false, false, false, false, false, false, false, false, false] (by kernel_rfl) rfl rfl cnz ⟨z0, z1⟩ (fun hS0 hHeld => ?_); refine with_tab2 ce1.tab4 ce1.bits4 (fun HT_ HW_ => ?_); clear cnz z0 z1; generalize w15.drew = wA at J3 B3 KU3 NC HZ3 hS0 hHeld ⊢
  refine pure2_ (i := 1) (N := some 64) (v := ?_) (a' := ?_) #[false, true, false, false, false, false, false, false, false, false, false, false, false, false, false, false, false, false, false, false, false, false, false, false] rfl rfl (take_ofW HT_.out HW_.out (by kernel_rfl)) (fun _ _ _ h => h) (Or.inl ⟨by rfl, ?_⟩) ?_ ?_; rotate_left
  · intro w'; go_simp
    with_reducible rfl
  rotate_left
  · simp only [Act.put, sA_, sZ_, sS_, i64_w, i32_w]
    rfl
  refine pure2_ (i := 3) (N := some 66) (v := ?_) (a' := ?_) #[false, true, false, true, false, false, false, false, false, false, false, false, false, false, false, false, false, false, false, false, false, false, false, false] rfl rfl (take_ofW HT_.out HW_.out (by kernel_rfl)) (fun _ _ _ h => h) (Or.inl ⟨by rfl, ?_⟩) ?_ ?_; rotate_left
  · intro w'; go_simp
    with_reducible rfl
  rotate_left
  · simp only [Act.put, sA_, sZ_, sS_, i64_w, i32_w]
    rfl
  refine pure2_ (i := 5) (N := some 68) (v := ?_) (a' := ?_) #[false, true, false, true, false, true, false, false, false, false, false, false, false, false, false, false, false, false, false, false, false, false, false, false] rfl rfl (take_ofW HT_.out HW_.out (by kernel_rfl)) (fun _ _ _ h => h) (Or.inl ⟨by rfl, ?_⟩) ?_ ?_; rotate_left
  · intro w'; go_simp
    with_reducible rfl
  rotate_left
  · simp only [Act.put, sA_, sZ_, sS_, i64_w, i32_w]
    rfl
  refine pure2_ (i := 11) (N := some 74) (v := ?_) (a' := ?_) #[false, true, false, true, false, true, false, false, false, false, false, true, false, false, false, false, false, false, false, false, false, false, false, false] rfl rfl (take_ofW HT_.out HW_.out (by kernel_rfl)) (fun _ _ _ h => h) (Or.inl ⟨by rfl, ?_⟩) ?_ ?_; rotate_left
  · intro w'; go_simp
    with_reducible rfl
  rotate_left
  · simp only [Act.put, sA_, sZ_, sS_, i64_w, i32_w]
    rfl
  refine pure2_ (i := 15) (N := some 78) (v := ?_) (a' := ?_) #[false, true, false, true, false, true, false, false, false, false, false, true, false, false, false, true, false, false, false, false, false, false, false, false] rfl rfl (take_ofW HT_.out HW_.out (by kernel_rfl)) (fun _ _ _ h => h) (Or.inl ⟨by rfl, ?_⟩) ?_ ?_; rotate_left
  · intro w'; go_simp
    with_reducible rfl
  rotate_left
  · simp only [Act.put, sA_, sZ_, sS_, i64_w, i32_w]
    rfl
  refine pure2_ (i := 16) (N := some 79) (v := ?_) (a' := ?_) #[false, true, false, true, false, true, false, false, false, false, false, true, false, false, false, true, true, false, false, false, false, false, false, false] rfl rfl (take_ofW HT_.out HW_.out (by kernel_rfl)) (fun _ _ _ h => h) (Or.inl ⟨by rfl, ?_⟩) ?_ ?_; rotate_left
  · intro w'; go_simp
    with_reducible rfl
  rotate_left
  · simp only [Act.put, sA_, sZ_, sS_, i64_w, i32_w]
    rfl
  refine takeA_ (i := 0) (N := some 63) (v := ?_) (a' := ?_) #[true, true, false, true, false, true, false, false, false, false, false, true, false, false, false, true, true, false, false, false, false, false, false, false] rfl rfl (take_ofW HT_.out HW_.out (by kernel_rfl)) (fun _ _ _ h => h) (Or.inl ⟨by rfl, ?_⟩) hS0 ?_ ?_; rotate_left
  · intro w' s0; go_simp
    with_reducible rfl
  rotate_left
  · simp only [Act.put, sA_, sZ_, sS_, i64_w, i32_w]
    rfl
  refine takeA_ (i := 2) (N := some 65) (v := ?_) (a' := ?_) #[true, true, true, true, false, true, false, false, false, false, false, true, false, false, false, true, true, false, false, false, false, false, false, false] rfl rfl (take_ofW HT_.out HW_.out (by kernel_rfl)) (fun _ _ _ h => h) (Or.inl ⟨by rfl, ?_⟩) hS0 ?_ ?_; rotate_left
  · intro w' s0; go_simp
    with_reducible rfl
  rotate_left
  · simp only [Act.put, sA_, sZ_, sS_, i64_w, i32_w]
    rfl
  refine takeA_ (i := 4) (N := some 67) (v := ?_) (a' := ?_) #[true, true, true, true, true, true, false, false, false, false, false, true, false, false, false, true, true, false, false, false, false, false, false, false] rfl rfl (take_ofW HT_.out HW_.out (by kernel_rfl)) (fun _ _ _ h => h) (Or.inl ⟨by rfl, ?_⟩) hS0 ?_ ?_; rotate_left
  · intro w' s0; go_simp
    with_reducible rfl
  rotate_left
  · simp only [Act.put, sA_, sZ_, sS_, i64_w, i32_w]
    rfl
  refine takeA_ (i := 10) (N := some 73) (v := ?_) (a' := ?_) #[true, true, true, true, true, true, false, false, false, false, true, true, false, false, false, true, true, false, false, false, false, false, false, false] rfl rfl (take_ofW HT_.out HW_.out (by kernel_rfl)) (fun _ _ _ h => h) (Or.inl ⟨by rfl, ?_⟩) hS0 ?_ ?_; rotate_left
  · intro w' s0; go_simp
    with_reducible rfl
  rotate_left
  · simp only [Act.put, sA_, sZ_, sS_, i64_w, i32_w]
    rfl
  refine pure2_ (i := 6) (N := some 69) (v := ?_) (a' := ?_) #[true, true, true, true, true, true, true, false, false, false, true, true, false, false, false, true, true, false, false, false, false, false, false, false] rfl rfl (take_ofW HT_.out HW_.out (by kernel_rfl)) (fun _ _ _ h => h) (Or.inl ⟨by rfl, ?_⟩) ?_ ?_; rotate_left
  · intro w'; go_simp
    with_reducible rfl
  rotate_left
  · simp only [Act.put, sA_, sZ_, sS_, i64_w, i32_w]
    rfl
  refine pure2_ (i := 7) (N := some 70) (v := ?_) (a' := ?_) #[true, true, true, true, true, true, true, true, false, false, true, true, false, false, false, true, true, false, false, false, false, false, false, false] rfl rfl (take_ofW HT_.out HW_.out (by kernel_rfl)) (fun _ _ _ h => h) (Or.inl ⟨by rfl, ?_⟩) ?_ ?_; rotate_left
  · intro w'; go_simp
    with_reducible rfl
  rotate_left
  · simp only [Act.put, sA_, sZ_, sS_, i64_w, i32_w]
    rfl
  refine pure2_ (i := 12) (N := some 75) (v := ?_) (a' := ?_) #[true, true, true, true, true, true, true, true, false, false, true, true, true, false, false, true, true, false, false, false, false, false, false, false] rfl rfl (take_ofW HT_.out HW_.out (by kernel_rfl)) (fun _ _ _ h => h) (Or.inl ⟨by rfl, ?_⟩) ?_ ?_; rotate_left
  · intro w'; go_simp
    with_reducible rfl
  rotate_left
  · simp only [Act.put, sA_, sZ_, sS_, i64_w, i32_w]
    rfl
  refine pure2_ (i := 13) (N := some 76) (v := ?_) (a' := ?_) #[true, true, true, true, true, true, true, true, false, false, true, true, true, true, false, true, true, false, false, false, false, false, false, false] rfl rfl (take_ofW HT_.out HW_.out (by kernel_rfl)) (fun _ _ _ h => h) (Or.inl ⟨by rfl, ?_⟩) ?_ ?_; rotate_left
  · intro w'; go_simp
    with_reducible rfl
  rotate_left
  · simp only [Act.put, sA_, sZ_, sS_, i64_w, i32_w]
    rfl
  refine takeE_ (i := 8) (N := some 71) (v := ?_) (a' := ?_) #[true, true, true, true, true, true, true, true, true, false, true, true, true, true, false, true, true, false, false, false, false, false, false, false] rfl rfl (take_ofW HT_.out HW_.out (by kernel_rfl)) (fun _ _ _ h => h) (Or.inl ⟨by rfl, ?_⟩) hHeld ?_ ?_; rotate_left
  · rintro w' ⟨s0, s1⟩; go_simp
    with_reducible rfl
  rotate_left
  · simp only [Act.put, sA_, sZ_, sS_, i64_w, i32_w]
    rfl
  refine takeE_ (i := 14) (N := some 77) (v := ?_) (a' := ?_) #[true, true, true, true, true, true, true, true, true, false, true, true, true, true, true, true, true, false, false, false, false, false, false, false] rfl rfl (take_ofW HT_.out HW_.out (by kernel_rfl)) (fun _ _ _ h => h) (Or.inl ⟨by rfl, ?_⟩) hHeld ?_ ?_; rotate_left
  · rintro w' ⟨s0, s1⟩; go_simp
    with_reducible rfl
  rotate_left
  · simp only [Act.put, sA_, sZ_, sS_, i64_w, i32_w]
    rfl
  refine pure2_ (i := 9) (N := some 72) (v := ?_) (a' := ?_) #[true, true, true, true, true, true, true, true, true, true, true, true, true, true, true, true, true, false, false, false, false, false, false, false] rfl rfl (take_ofW HT_.out HW_.out (by kernel_rfl)) (fun _ _ _ h => h) (Or.inl ⟨by rfl, ?_⟩) ?_ ?_; rotate_left
  · intro w'; go_simp
    with_reducible rfl
  rotate_left
  · simp only [Act.put, sA_, sZ_, sS_, i64_w, i32_w]
    rfl
  refine pure2_ (i := 17) (N := some 80) (v := ?_) (a' := ?_) #[true, true, true, true, true, true, true, true, true, true, true, true, true, true, true, true, true, true, false, false, false, false, false, false] rfl rfl (take_ofW HT_.out HW_.out (by kernel_rfl)) (fun _ _ _ h => h) (Or.inl ⟨by rfl, ?_⟩) ?_ ?_; rotate_left
  · intro w'; go_simp
    with_reducible rfl
  rotate_left
  · simp only [Act.put, sA_, sZ_, sS_, i64_w, i32_w]
    rfl
  refine pure2_ (i := 18) (N := some 81) (v := ?_) (a' := ?_) #[true, true, true, true, true, true, true, true, true, true, true, true, true, true, true, true, true, true, true, false, false, false, false, false] rfl rfl (take_ofW HT_.out HW_.out (by kernel_rfl)) (fun _ _ _ h => h) (Or.inl ⟨by rfl, ?_⟩) ?_ ?_; rotate_left
  · intro w'; go_simp
    with_reducible rfl
  rotate_left
  · simp only [Act.put, sA_, sZ_, sS_, i64_w, i32_w]
    rfl
  refine pure2_ (i := 19) (N := some 82) (v := ?_) (a' := ?_) #[true, true, true, true, true, true, true, true, true, true, true, true, true, true, true, true, true, true, true, true, false, false, false, false] rfl rfl (take_ofW HT_.out HW_.out (by kernel_rfl)) (fun _ _ _ h => h) (Or.inl ⟨by rfl, ?_⟩) ?_ ?_; rotate_left
  · intro w'; go_simp
    with_reducible rfl
  rotate_left
  · simp only [Act.put, sA_, sZ_, sS_, i64_w, i32_w]
    rfl
  refine last2_ (i := 20) (N := none) #[true, true, true, true, true, true, true, true, true, true, true, true, true, true, true, true, true, true, true, true, true, false, false, false] rfl rfl (one_of HT_.out (by kernel_rfl)) (by decide) (fun K hK => ?_); refine R_store_step kCel (w0 := w0) (W := wA) w0.heap.size (by rfl) (by rfl) 3 (.tmp 82) (.tmp 72) (by rfl) 101 (p) 0 s3.now { (celAt s3.now (p)) with f0 := wrap64 ((celAt s3.now (p)).f0 + 1) } (.int .i64 (wrap64 ((celAt s3.now (p)).f0 + 1))) [.int .i64 (wrap64 ((celAt s3.now (p)).f0 + 1))] [.int .i64 (celAt s3.now (p)).f0, .int .i64 (celAt s3.now (p)).f1, .int .i64 (celAt s3.now (p)).f2, .int .i64 (celAt s3.now (p)).f3, .int .i64 (celAt s3.now (p)).f4] (fun k => some k ≠ uw) (fun _ => False) (by rfl) (by show (p).toNat * 5 = (p).toNat * 5 + 0; omega) (by rfl) rfl (by kernel_rfl) (by intro x hx; rw [List.mem_singleton] at hx; subst hx; rfl) J3.out.N h0_ h1_ rfl NC.out (by show 0 + 1 ≤ 5; omega) (k101_mkM _ _ _ ({ (celAt s3.now (p)) with f0 := wrap64 ((celAt s3.now (p)).f0 + 1) } : Cel)) (fun _ h => h.elim) B3.out ?_; intro wB hR hB hg; have JJ := CeJ.put J3.out hR hg; obtain ⟨JB, KB⟩ := JJ; obtain ⟨t, ht⟩ : ∃ t, t = ceD1 s3 (p) := ⟨_, rfl⟩; replace JB : CeJ w0.heap.size bn bo (some bk) uw gN cN gO cO t wB := by rw [ht]; exact JB
  have KUB : Aside0 (∀ k, uw = some k → k < w.heap.size → wB.heap[k]? = w.heap[k]?) := ⟨fun k e h => (KB k e (Nat.lt_of_lt_of_le h HZ3.out)).trans (KU3.out k e h)⟩; have HZB := am_ (Nat.le_trans HZ3.out hg.size); have BB := am_ hB; have TN : t.now.length = s3.now.length := by rw [ht]; exact List.length_set
  have hS0_ := cell_grown hg hS0 (fun e => J3.out.gN_ne.1 (by injection e)); have TNA := am_ TN; have HT := am_ ht; have JB := am_ JB; clear hR hB hg KB TN ht; refine hK.out _ _ hS0_ ?_; clear hK K hS0; have hS0 := hS0_; clear hS0_; refine pure2_ (i := 21) (N := some 83) (v := ?_) (a' := ?_) #[true, true, true, true, true, true, true, true, true, true, true, true, true, true, true, true, true, true, true, true, true, true, false, false] rfl rfl (take_ofW HT_.out HW_.out (by kernel_rfl)) (fun _ _ _ h => h) (Or.inl ⟨by rfl, ?_⟩) ?_ ?_; rotate_left
  · intro w'; go_simp
    with_reducible rfl
  rotate_left
  · simp only [Act.put, sA_, sZ_, sS_, i64_w, i32_w]
    rfl
  refine pure2_ (i := 22) (N := some 84) (v := ?_) (a' := ?_) #[true, true, true, true, true, true, true, true, true, true, true, true, true, true, true, true, true, true, true, true, true, true, true, false] rfl rfl (take_ofW HT_.out HW_.out (by kernel_rfl)) (fun _ _ _ h => h) (Or.inl ⟨by rfl, ?_⟩) ?_ ?_; rotate_left
  · intro w'; go_simp
    with_reducible rfl
  rotate_left
  · simp only [Act.put, sA_, sZ_, sS_, i64_w, i32_w]
    rfl
  refine last2_ (i := 23) (N := none) #[true, true, true, true, true, true, true, true, true, true, true, true, true, true, true, true, true, true, true, true, true, true, true, true] rfl rfl (one_of HT_.out (by kernel_rfl)) (by decide) (fun K hK => ?_); have h1t : p < (t.now.length : Int) := by rw [TNA.out]; exact h1_
  obtain ⟨nc, nf⟩ := JB.out.cells (p) h0_ h1t; refine R_store_step kCel (w0 := w0) (W := wB) w0.heap.size (by rfl) (by rfl) 3 (.tmp 84) (.tmp 80) (by rfl) 101 (p) 1 t.now { (celAt t.now (p)) with f1 := (Go.bits .or .i64 (celAt s3.now (p)).f1 (bit1 b)) } (.int .i64 (Go.bits .or .i64 (celAt s3.now (p)).f1 (bit1 b))) [.int .i64 (Go.bits .or .i64 (celAt s3.now (p)).f1 (bit1 b))] [.int .i64 (celAt t.now (p)).f0, .int .i64 (celAt t.now (p)).f1, .int .i64 (celAt t.now (p)).f2, .int .i64 (celAt t.now (p)).f3, .int .i64 (celAt t.now (p)).f4] (fun k => some k ≠ uw) (fun _ => False) (by rfl) (by show (p).toNat * 5 + 1 = (p).toNat * 5 + 1; omega) (by rfl) rfl (by kernel_rfl) (by intro x hx; rw [List.mem_singleton] at hx; subst hx; rfl) JB.out.N h0_ h1t rfl nc (by show 1 + 1 ≤ 5; omega) (k101_mkM _ _ _ ({ (celAt t.now (p)) with f1 := (Go.bits .or .i64 (celAt s3.now (p)).f1 (bit1 b)) } : Cel)) (fun _ h => h.elim) BB.out ?_; intro w16 hR hB hg; obtain ⟨JC, KC⟩ := CeJ.put JB.out hR hg; obtain ⟨s4, hs4⟩ : ∃ s_, s_ = ceD2 t (p) (Go.bits .or .i64 (celAt s3.now (p)).f1 (bit1 b)) := ⟨_, rfl⟩; have J4 : CeJ w0.heap.size bn bo (some bk) uw gN cN gO cO s4 w16 := by rw [hs4]; exact JC
  have KU4 : Aside0 (∀ k, uw = some k → k < w.heap.size → w16.heap[k]? = w.heap[k]?) := ⟨fun k e h => (KC k e (Nat.lt_of_lt_of_le h HZB.out)).trans (KUB.out k e h)⟩; have HZ4 := am_ (Nat.le_trans HZB.out hg.size); have B4 := am_ hB; have HS4 : Aside0 (s4 = ceD s3 (b) (p)) := ⟨by rw [hs4, HT.out]; rfl⟩; have LL4 : Aside0 (s4.now.length = s3.now.length) := ⟨by rw [hs4]; exact List.length_set.trans TNA.out⟩; have hS0_ := cell_grown hg hS0 (fun e => JB.out.gN_ne.1 (by injection e)); clear hR hB hg KC JC nc nf h1t hs4; refine hK.out _ _ hS0_ ?_; clear hK K hS0_; refine done2_ (done_of HT_.out (by kernel_rfl)) ?_; clear J3 B3 KU3 HZ3 NC KUB HZB BB TNA HT JB N0_ N0b_ N1_ N1b_ hS0 hHeld h0_ h1_; try go_wp2
  have h0_ : 0 ≤ p + 2 := by have h1 := of_eq_true P0_; omega
  have h1_ : p + 2 < (s4.now.length : Int) := by rw [LL4.out]; exact HM3.out
  have hq2 : IntKind.i64.wrap (p + 2) = p + 2 := by
    rw [i64_w]; have h1 := CeJ.max J4; unfold maxLen at h1
    exact wrap64_small (by omega) (by omega)
  obtain ⟨nc, nf⟩ := J4.cells (p + 2) h0_ h1_; have z0 := nc 0 _ rfl; have z1 := nc 1 _ rfl; rw [Nat.add_zero] at z0; have cnz : w16.cell? ⟨bn, 0, none⟩ = some (.slice (some ⟨gN, 0, none⟩) s4.now.length cN) := (blk_cell J4.hn 0).trans rfl; have N1_ := eq_true h1_; have N1b_ : decide (p + 2 < (s4.now.length : Int)) = true := decide_eq_true h1_; have N0_ := eq_true h0_; have N0b_ : decide (0 ≤ p + 2) = true := decide_eq_true h0_; have NC := am_ (show ∀ (j : Nat) u, ([.int .i64 (celAt s4.now (p + 2)).f0, .int .i64 (celAt s4.now (p + 2)).f1, .int .i64 (celAt s4.now (p + 2)).f2, .int .i64 (celAt s4.now (p + 2)).f3, .int .i64 (celAt s4.now (p + 2)).f4] : List Value)[j]? = some u → w16.drew.cell? ⟨gN, (p + 2).toNat * 5 + j, none⟩ = some u from nc); have J4 := am_ J4.drew; replace B4 := bd_ B4; replace KU4 : Aside0 (∀ k, uw = some k → k < w.heap.size → w16.drew.heap[k]? = w.heap[k]?) := ⟨KU4.out⟩; replace HZ4 : Aside0 (w.heap.size ≤ w16.drew.heap.size) := ⟨HZ4.out⟩; clear nc nf; refine start2_ (n := 28) (S0 := fun w' => w'.cell? ⟨bn, 0, none⟩ = some (.slice (some ⟨gN, 0, none⟩) s4.now.length cN)) (S := fun w' => w'.cell? ⟨gN, (p + 2).toNat * 5, none⟩ = some (.int .i64 (celAt s4.now (p + 2)).f0) ∧ w'.cell? ⟨gN, (p + 2).toNat * 5 + 1, none⟩ = some (.int .i64 (celAt s4.now (p + 2)).f1)) (ds := [24, 27]) #[false, false, false, false, false, false, false, false, false, false, false, false, false, false, false, false, false, false, false, false, false, false, false, false, false, false, false, false] (by kernel_rfl) rfl rfl cnz ⟨z0, z1⟩ (fun hS0 hHeld => ?_); refine with_tab2 ce1.tab5 ce1.bits5 (fun HT_ HW_ => ?_); clear cnz z0 z1; generalize w16.drew = wA at J4 B4 KU4 NC HZ4 hS0 hHeld ⊢
  refine pure2_ (i := 1) (N := some 86) (v := ?_) (a' := ?_) #[false, true, false, false, false, false, false, false, false, false, false, false, false, false, false, false, false, false, false, false, false, false, false, false, false, false, false, false] rfl rfl (take_ofW HT_.out HW_.out (by kernel_rfl)) (fun _ _ _ h => h) (Or.inl ⟨by rfl, ?_⟩) ?_ ?_; rotate_left
  · intro w'; go_simp
    with_reducible rfl
  rotate_left
  · simp only [Act.put, sA_, sZ_, sS_, i64_w, i32_w]
    rfl
  refine pure2_ (i := 2) (N := some 87) (v := ?_) (a' := ?_) #[false, true, true, false, false, false, false, false, false, false, false, false, false, false, false, false, false, false, false, false, false, false, false, false, false, false, false, false] rfl rfl (take_ofW HT_.out HW_.out (by kernel_rfl)) (fun _ _ _ h => h) (Or.inl ⟨by rfl, ?_⟩) ?_ ?_; rotate_left
  · intro w'; go_simp
    with_reducible rfl
  rotate_left
  · simp only [Act.put, sA_, sZ_, sS_, i64_w, i32_w]
    rfl
  refine pure2_ (i := 4) (N := some 89) (v := ?_) (a' := ?_) #[false, true, true, false, true, false, false, false, false, false, false, false, false, false, false, false, false, false, false, false, false, false, false, false, false, false, false, false] rfl rfl (take_ofW HT_.out HW_.out (by kernel_rfl)) (fun _ _ _ h => h) (Or.inl ⟨by rfl, ?_⟩) ?_ ?_; rotate_left
  · intro w'; go_simp
    with_reducible rfl
  rotate_left
  · simp only [Act.put, sA_, sZ_, sS_, i64_w, i32_w]
    rfl
  refine pure2_ (i := 5) (N := some 90) (v := ?_) (a' := ?_) #[false, true, true, false, true, true, false, false, false, false, false, false, false, false, false, false, false, false, false, false, false, false, false, false, false, false, false, false] rfl rfl (take_ofW HT_.out HW_.out (by kernel_rfl)) (fun _ _ _ h => h) (Or.inl ⟨by rfl, ?_⟩) ?_ ?_; rotate_left
  · intro w'; go_simp
    with_reducible rfl
  rotate_left
  · simp only [Act.put, sA_, sZ_, sS_, i64_w, i32_w]
    rfl
  refine pure2_ (i := 7) (N := some 92) (v := ?_) (a' := ?_) #[false, true, true, false, true, true, false, true, false, false, false, false, false, false, false, false, false, false, false, false, false, false, false, false, false, false, false, false] rfl rfl (take_ofW HT_.out HW_.out (by kernel_rfl)) (fun _ _ _ h => h) (Or.inl ⟨by rfl, ?_⟩) ?_ ?_; rotate_left
  · intro w'; go_simp
    with_reducible rfl
  rotate_left
  · simp only [Act.put, sA_, sZ_, sS_, i64_w, i32_w]
    rfl
  refine pure2_ (i := 8) (N := some 93) (v := ?_) (a' := ?_) #[false, true, true, false, true, true, false, true, true, false, false, false, false, false, false, false, false, false, false, false, false, false, false, false, false, false, false, false] rfl rfl (take_ofW HT_.out HW_.out (by kernel_rfl)) (fun _ _ _ h => h) (Or.inl ⟨by rfl, ?_⟩) ?_ ?_; rotate_left
  · intro w'; go_simp
    with_reducible rfl
  rotate_left
  · simp only [Act.put, sA_, sZ_, sS_, i64_w, i32_w]
    rfl
  refine pure2_ (i := 14) (N := some 99) (v := ?_) (a' := ?_) #[false, true, true, false, true, true, false, true, true, false, false, false, false, false, true, false, false, false, false, false, false, false, false, false, false, false, false, false] rfl rfl (take_ofW HT_.out HW_.out (by kernel_rfl)) (fun _ _ _ h => h) (Or.inl ⟨by rfl, ?_⟩) ?_ ?_; rotate_left
  · intro w'; go_simp
    with_reducible rfl
  rotate_left
  · simp only [Act.put, sA_, sZ_, sS_, i64_w, i32_w]
    rfl
  refine pure2_ (i := 15) (N := some 100) (v := ?_) (a' := ?_) #[false, true, true, false, true, true, false, true, true, false, false, false, false, false, true, true, false, false, false, false, false, false, false, false, false, false, false, false] rfl rfl (take_ofW HT_.out HW_.out (by kernel_rfl)) (fun _ _ _ h => h) (Or.inl ⟨by rfl, ?_⟩) ?_ ?_; rotate_left
  · intro w'; go_simp
    with_reducible rfl
  rotate_left
  · simp only [Act.put, sA_, sZ_, sS_, i64_w, i32_w]
    rfl
  refine pure2_ (i := 19) (N := some 104) (v := ?_) (a' := ?_) #[false, true, true, false, true, true, false, true, true, false, false, false, false, false, true, true, false, false, false, true, false, false, false, false, false, false, false, false] rfl rfl (take_ofW HT_.out HW_.out (by kernel_rfl)) (fun _ _ _ h => h) (Or.inl ⟨by rfl, ?_⟩) ?_ ?_; rotate_left
  · intro w'; go_simp
    with_reducible rfl
  rotate_left
  · simp only [Act.put, sA_, sZ_, sS_, i64_w, i32_w]
    rfl
  refine pure2_ (i := 20) (N := some 105) (v := ?_) (a' := ?_) #[false, true, true, false, true, true, false, true, true, false, false, false, false, false, true, true, false, false, false, true, true, false, false, false, false, false, false, false] rfl rfl (take_ofW HT_.out HW_.out (by kernel_rfl)) (fun _ _ _ h => h) (Or.inl ⟨by rfl, ?_⟩) ?_ ?_; rotate_left
  · intro w'; go_simp
    with_reducible rfl
  rotate_left
  · simp only [Act.put, sA_, sZ_, sS_, i64_w, i32_w]
    rfl
  refine takeA_ (i := 0) (N := some 85) (v := ?_) (a' := ?_) #[true, true, true, false, true, true, false, true, true, false, false, false, false, false, true, true, false, false, false, true, true, false, false, false, false, false, false, false] rfl rfl (take_ofW HT_.out HW_.out (by kernel_rfl)) (fun _ _ _ h => h) (Or.inl ⟨by rfl, ?_⟩) hS0 ?_ ?_; rotate_left
  · intro w' s0; go_simp
    with_reducible rfl
  rotate_left
  · simp only [Act.put, sA_, sZ_, sS_, i64_w, i32_w]
    rfl
  refine takeA_ (i := 3) (N := some 88) (v := ?_) (a' := ?_) #[true, true, true, true, true, true, false, true, true, false, false, false, false, false, true, true, false, false, false, true, true, false, false, false, false, false, false, false] rfl rfl (take_ofW HT_.out HW_.out (by kernel_rfl)) (fun _ _ _ h => h) (Or.inl ⟨by rfl, ?_⟩) hS0 ?_ ?_; rotate_left
  · intro w' s0; go_simp
    with_reducible rfl
  rotate_left
  · simp only [Act.put, sA_, sZ_, sS_, i64_w, i32_w]
    rfl
  refine takeA_ (i := 6) (N := some 91) (v := ?_) (a' := ?_) #[true, true, true, true, true, true, true, true, true, false, false, false, false, false, true, true, false, false, false, true, true, false, false, false, false, false, false, false] rfl rfl (take_ofW HT_.out HW_.out (by kernel_rfl)) (fun _ _ _ h => h) (Or.inl ⟨by rfl, ?_⟩) hS0 ?_ ?_; rotate_left
  · intro w' s0; go_simp
    with_reducible rfl
  rotate_left
  · simp only [Act.put, sA_, sZ_, sS_, i64_w, i32_w]
    rfl
  refine takeA_ (i := 13) (N := some 98) (v := ?_) (a' := ?_) #[true, true, true, true, true, true, true, true, true, false, false, false, false, true, true, true, false, false, false, true, true, false, false, false, false, false, false, false] rfl rfl (take_ofW HT_.out HW_.out (by kernel_rfl)) (fun _ _ _ h => h) (Or.inl ⟨by rfl, ?_⟩) hS0 ?_ ?_; rotate_left
  · intro w' s0; go_simp
    with_reducible rfl
  rotate_left
  · simp only [Act.put, sA_, sZ_, sS_, i64_w, i32_w]
    rfl
  refine pure2_ (i := 9) (N := some 94) (v := ?_) (a' := ?_) #[true, true, true, true, true, true, true, true, true, true, false, false, false, true, true, true, false, false, false, true, true, false, false, false, false, false, false, false] rfl rfl (take_ofW HT_.out HW_.out (by kernel_rfl)) (fun _ _ _ h => h) (Or.inl ⟨by rfl, ?_⟩) ?_ ?_; rotate_left
  · intro w'; go_simp
    with_reducible rfl
  rotate_left
  · simp only [Act.put, sA_, sZ_, sS_, i64_w, i32_w]
    rfl
  refine pure2_ (i := 10) (N := some 95) (v := ?_) (a' := ?_) #[true, true, true, true, true, true, true, true, true, true, true, false, false, true, true, true, false, false, false, true, true, false, false, false, false, false, false, false] rfl rfl (take_ofW HT_.out HW_.out (by kernel_rfl)) (fun _ _ _ h => h) (Or.inl ⟨by rfl, ?_⟩) ?_ ?_; rotate_left
  · intro w'; go_simp
    with_reducible rfl
  rotate_left
  · simp only [Act.put, sA_, sZ_, sS_, i64_w, i32_w]
    rfl
  refine pure2_ (i := 16) (N := some 101) (v := ?_) (a' := ?_) #[true, true, true, true, true, true, true, true, true, true, true, false, false, true, true, true, true, false, false, true, true, false, false, false, false, false, false, false] rfl rfl (take_ofW HT_.out HW_.out (by kernel_rfl)) (fun _ _ _ h => h) (Or.inl ⟨by rfl, ?_⟩) ?_ ?_; rotate_left
  · intro w'; go_simp
    with_reducible rfl
  rotate_left
  · simp only [Act.put, sA_, sZ_, sS_, i64_w, i32_w]
    rfl
  refine pure2_ (i := 17) (N := some 102) (v := ?_) (a' := ?_) #[true, true, true, true, true, true, true, true, true, true, true, false, false, true, true, true, true, true, false, true, true, false, false, false, false, false, false, false] rfl rfl (take_ofW HT_.out HW_.out (by kernel_rfl)) (fun _ _ _ h => h) (Or.inl ⟨by rfl, ?_⟩) ?_ ?_; rotate_left
  · intro w'; go_simp
    with_reducible rfl
  rotate_left
  · simp only [Act.put, sA_, sZ_, sS_, i64_w, i32_w]
    rfl
  refine takeE_ (i := 11) (N := some 96) (v := ?_) (a' := ?_) #[true, true, true, true, true, true, true, true, true, true, true, true, false, true, true, true, true, true, false, true, true, false, false, false, false, false, false, false] rfl rfl (take_ofW HT_.out HW_.out (by kernel_rfl)) (fun _ _ _ h => h) (Or.inl ⟨by rfl, ?_⟩) hHeld ?_ ?_; rotate_left
  · rintro w' ⟨s0, s1⟩; go_simp
    with_reducible rfl
  rotate_left
  · simp only [Act.put, sA_, sZ_, sS_, i64_w, i32_w]
    rfl
  refine takeE_ (i := 18) (N := some 103) (v := ?_) (a' := ?_) #[true, true, true, true, true, true, true, true, true, true, true, true, false, true, true, true, true, true, true, true, true, false, false, false, false, false, false, false] rfl rfl (take_ofW HT_.out HW_.out (by kernel_rfl)) (fun _ _ _ h => h) (Or.inl ⟨by rfl, ?_⟩) hHeld ?_ ?_; rotate_left
  · rintro w' ⟨s0, s1⟩; go_simp
    with_reducible rfl
  rotate_left
  · simp only [Act.put, sA_, sZ_, sS_, i64_w, i32_w]
    rfl
  refine pure2_ (i := 12) (N := some 97) (v := ?_) (a' := ?_) #[true, true, true, true, true, true, true, true, true, true, true, true, true, true, true, true, true, true, true, true, true, false, false, false, false, false, false, false] rfl rfl (take_ofW HT_.out HW_.out (by kernel_rfl)) (fun _ _ _ h => h) (Or.inl ⟨by rfl, ?_⟩) ?_ ?_; rotate_left
  · intro w'; go_simp
    with_reducible rfl
  rotate_left
  · simp only [Act.put, sA_, sZ_, sS_, i64_w, i32_w]
    rfl
  refine pure2_ (i := 21) (N := some 106) (v := ?_) (a' := ?_) #[true, true, true, true, true, true, true, true, true, true, true, true, true, true, true, true, true, true, true, true, true, true, false, false, false, false, false, false] rfl rfl (take_ofW HT_.out HW_.out (by kernel_rfl)) (fun _ _ _ h => h) (Or.inl ⟨by rfl, ?_⟩) ?_ ?_; rotate_left
  · intro w'; go_simp
    with_reducible rfl
  rotate_left
  · simp only [Act.put, sA_, sZ_, sS_, i64_w, i32_w]
    rfl
  refine pure2_ (i := 22) (N := some 107) (v := ?_) (a' := ?_) #[true, true, true, true, true, true, true, true, true, true, true, true, true, true, true, true, true, true, true, true, true, true, true, false, false, false, false, false] rfl rfl (take_ofW HT_.out HW_.out (by kernel_rfl)) (fun _ _ _ h => h) (Or.inl ⟨by rfl, ?_⟩) ?_ ?_; rotate_left
  · intro w'; go_simp
    with_reducible rfl
  rotate_left
  · simp only [Act.put, sA_, sZ_, sS_, i64_w, i32_w]
    rfl
  refine pure2_ (i := 23) (N := some 108) (v := ?_) (a' := ?_) #[true, true, true, true, true, true, true, true, true, true, true, true, true, true, true, true, true, true, true, true, true, true, true, true, false, false, false, false] rfl rfl (take_ofW HT_.out HW_.out (by kernel_rfl)) (fun _ _ _ h => h) (Or.inl ⟨by rfl, ?_⟩) ?_ ?_; rotate_left
  · intro w'; go_simp
    with_reducible rfl
  rotate_left
  · simp only [Act.put, sA_, sZ_, sS_, i64_w, i32_w]
    rfl
  refine last2_ (i := 24) (N := none) #[true, true, true, true, true, true, true, true, true, true, true, true, true, true, true, true, true, true, true, true, true, true, true, true, true, false, false, false] rfl rfl (one_of HT_.out (by kernel_rfl)) (by decide) (fun K hK => ?_); refine R_store_step kCel (w0 := w0) (W := wA) w0.heap.size (by rfl) (by rfl) 3 (.tmp 108) (.tmp 97) (by rfl) 101 (p + 2) 0 s4.now { (celAt s4.now (p + 2)) with f0 := wrap64 ((celAt s4.now (p + 2)).f0 + 1) } (.int .i64 (wrap64 ((celAt s4.now (p + 2)).f0 + 1))) [.int .i64 (wrap64 ((celAt s4.now (p + 2)).f0 + 1))] [.int .i64 (celAt s4.now (p + 2)).f0, .int .i64 (celAt s4.now (p + 2)).f1, .int .i64 (celAt s4.now (p + 2)).f2, .int .i64 (celAt s4.now (p + 2)).f3, .int .i64 (celAt s4.now (p + 2)).f4] (fun k => some k ≠ uw) (fun _ => False) (by rfl) (by show (p + 2).toNat * 5 = (p + 2).toNat * 5 + 0; omega) (by rfl) rfl (by kernel_rfl) (by intro x hx; rw [List.mem_singleton] at hx; subst hx; rfl) J4.out.N h0_ h1_ rfl NC.out (by show 0 + 1 ≤ 5; omega) (k101_mkM _ _ _ ({ (celAt s4.now (p + 2)) with f0 := wrap64 ((celAt s4.now (p + 2)).f0 + 1) } : Cel)) (fun _ h => h.elim) B4.out ?_; intro wB hR hB hg; have JJ := CeJ.put J4.out hR hg; obtain ⟨JB, KB⟩ := JJ; obtain ⟨t, ht⟩ : ∃ t, t = ceD1 s4 (p + 2) := ⟨_, rfl⟩; replace JB : CeJ w0.heap.size bn bo (some bk) uw gN cN gO cO t wB := by rw [ht]; exact JB
  have KUB : Aside0 (∀ k, uw = some k → k < w.heap.size → wB.heap[k]? = w.heap[k]?) := ⟨fun k e h => (KB k e (Nat.lt_of_lt_of_le h HZ4.out)).trans (KU4.out k e h)⟩; have HZB := am_ (Nat.le_trans HZ4.out hg.size); have BB := am_ hB; have TN : t.now.length = s4.now.length := by rw [ht]; exact List.length_set
  have hS0_ := cell_grown hg hS0 (fun e => J4.out.gN_ne.1 (by injection e)); have TNA := am_ TN; have HT := am_ ht; have JB := am_ JB; clear hR hB hg KB TN ht; refine hK.out _ _ hS0_ ?_; clear hK K hS0; have hS0 := hS0_; clear hS0_; refine pure2_ (i := 25) (N := some 109) (v := ?_) (a' := ?_) #[true, true, true, true, true, true, true, true, true, true, true, true, true, true, true, true, true, true, true, true, true, true, true, true, true, true, false, false] rfl rfl (take_ofW HT_.out HW_.out (by kernel_rfl)) (fun _ _ _ h => h) (Or.inl ⟨by rfl, ?_⟩) ?_ ?_; rotate_left
  · intro w'; go_simp
    with_reducible rfl
  rotate_left
  · simp only [Act.put, sA_, sZ_, sS_, i64_w, i32_w]
    rfl
  refine pure2_ (i := 26) (N := some 110) (v := ?_) (a' := ?_) #[true, true, true, true, true, true, true, true, true, true, true, true, true, true, true, true, true, true, true, true, true, true, true, true, true, true, true, false] rfl rfl (take_ofW HT_.out HW_.out (by kernel_rfl)) (fun _ _ _ h => h) (Or.inl ⟨by rfl, ?_⟩) ?_ ?_; rotate_left
  · intro w'; go_simp
    with_reducible rfl
  rotate_left
  · simp only [Act.put, sA_, sZ_, sS_, i64_w, i32_w]
    rfl
  refine last2_ (i := 27) (N := none) #[true, true, true, true, true, true, true, true, true, true, true, true, true, true, true, true, true, true, true, true, true, true, true, true, true, true, true, true] rfl rfl (one_of HT_.out (by kernel_rfl)) (by decide) (fun K hK => ?_); have h1t : p + 2 < (t.now.length : Int) := by rw [TNA.out]; exact h1_
  obtain ⟨nc, nf⟩ := JB.out.cells (p + 2) h0_ h1t; refine R_store_step kCel (w0 := w0) (W := wB) w0.heap.size (by rfl) (by rfl) 3 (.tmp 110) (.tmp 106) (by rfl) 101 (p + 2) 1 t.now { (celAt t.now (p + 2)) with f1 := (Go.bits .or .i64 (celAt s4.now (p + 2)).f1 (bit1 a)) } (.int .i64 (Go.bits .or .i64 (celAt s4.now (p + 2)).f1 (bit1 a))) [.int .i64 (Go.bits .or .i64 (celAt s4.now (p + 2)).f1 (bit1 a))] [.int .i64 (celAt t.now (p + 2)).f0, .int .i64 (celAt t.now (p + 2)).f1, .int .i64 (celAt t.now (p + 2)).f2, .int .i64 (celAt t.now (p + 2)).f3, .int .i64 (celAt t.now (p + 2)).f4] (fun k => some k ≠ uw) (fun _ => False) (by rfl) (by show (p + 2).toNat * 5 + 1 = (p + 2).toNat * 5 + 1; omega) (by rfl) rfl (by kernel_rfl) (by intro x hx; rw [List.mem_singleton] at hx; subst hx; rfl) JB.out.N h0_ h1t rfl nc (by show 1 + 1 ≤ 5; omega) (k101_mkM _ _ _ ({ (celAt t.now (p + 2)) with f1 := (Go.bits .or .i64 (celAt s4.now (p + 2)).f1 (bit1 a)) } : Cel)) (fun _ h => h.elim) BB.out ?_; intro w17 hR hB hg; obtain ⟨JC, KC⟩ := CeJ.put JB.out hR hg; obtain ⟨s5, hs5⟩ : ∃ s_, s_ = ceD2 t (p + 2) (Go.bits .or .i64 (celAt s4.now (p + 2)).f1 (bit1 a)) := ⟨_, rfl⟩; have J5 : CeJ w0.heap.size bn bo (some bk) uw gN cN gO cO s5 w17 := by rw [hs5]; exact JC
  have KU5 : Aside0 (∀ k, uw = some k → k < w.heap.size → w17.heap[k]? = w.heap[k]?) := ⟨fun k e h => (KC k e (Nat.lt_of_lt_of_le h HZB.out)).trans (KUB.out k e h)⟩; have HZ5 := am_ (Nat.le_trans HZB.out hg.size); have B5 := am_ hB; have HS5 : Aside0 (s5 = ceD s4 (a) (p + 2)) := ⟨by rw [hs5, HT.out]; rfl⟩; have LL5 : Aside0 (s5.now.length = s4.now.length) := ⟨by rw [hs5]; exact List.length_set.trans TNA.out⟩; have hS0_ := cell_grown hg hS0 (fun e => JB.out.gN_ne.1 (by injection e)); clear hR hB hg KC JC nc nf h1t hs5; refine hK.out _ _ hS0_ ?_; clear hK K hS0_; refine done2_ (done_of HT_.out (by kernel_rfl)) ?_; clear J4 B4 KU4 HZ4 NC KUB HZB BB TNA HT JB N0_ N0b_ N1_ N1b_ hS0 hHeld h0_ h1_; have ck5 : w17.cell? ⟨bk, 0, none⟩ = some (.int .i64 s5.cnt) := (blk_cell (J5.hk bk rfl) 0).trans rfl; have fk5 := blk_frozen (J5.hk bk rfl) 0; try go_wp2
  first | go_end0 | ((try simp only [Exit.inBlock, Exit.then]); refine bodyPost_ret (results_none rfl _ _ _) rfl ?_)
  obtain ⟨J6, K6⟩ := CeJ.count J5 (wrap64 (s5.cnt + 1)); refine ⟨by first | rfl | (simp; done), ⟨gN, cN, gO, cO, ?_⟩, below_set B5.out (J5.bk_ bk rfl), fun k e => (K6 k e).trans (KU5.out k e (HU.out k e).1)⟩; have e5 : ceStep s a b p = { s5 with cnt := wrap64 (s5.cnt + 1) } := by
    unfold ceStep
    rw [← HQ.out.1, ← HS1.out, ← HS2.out, ← HS3.out, ← HS4.out, ← HS5.out]
  rw [e5]; exact J6
end Go.Proofs.Ytoajlmlobaccdaa.P
