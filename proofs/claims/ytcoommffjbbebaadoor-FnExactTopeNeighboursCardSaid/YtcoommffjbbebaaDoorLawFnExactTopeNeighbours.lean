/- The law FnExactTopeNeighbours returns true for every input and leaves its arguments as they were: the row, out of the law's pure statement and the walks of all functions that it reaches. It says what two tables of the library hold when the call begins (the card ties that to the program's text); the proof reads neither. The card speaks of the pruned copy that the seat gives. -/

import Derived.Test.YtcoommffjbbebaaDoorRows
import Derived.Test.YtcoommffjbbebaaDoorCards
import Derived.Test.YtcoommffjbbebaaDoorTie
import Derived.LaidMore
import Derived.Lay
import Derived.SevenTiedAt
import Derived.Stop.Joined
import Derived.Test.YtcoommffjbbebaaDoorKFnExactTopeNeighboursn
import Derived.Test.YtcoommffjbbebaaDoorKFnExactTopeNeighbourso
import Derived.Test.YtcoommffjbbebaaDoorKFnExactTopeNeighboursp
import Derived.WalkKit
import Derived.ProofKit
import Derived.OpenShut
import Derived.ShutString
import Derived.ChangeOld
import Derived.Below
import Derived.SizedLaws
import Derived.Carry
namespace Go.Proofs.YtcoommffjbbebaaDoor.fnExactTopeNeighbours
open Go.ChangeShapes Go.WideShapes Go.ChangeAt Go.RowKit Go.Proofs.YtcoommffjbbebaaDoor.Rk Go.Proofs.YtcoommffjbbebaaDoor.P Go.Proofs.YtcoommffjbbebaaDoorW.PrintWords
open Go.ChangeMaps (open_string shut_string)
set_option linter.unusedVariables false
theorem own : ownKnob Tryd.prog.godebug = none := by kernel_rfl
theorem laidOut : laidOutB Tryd.prog = true := by kernel_rfl
set_option maxRecDepth 100000 in
theorem lifted (os : Os) (started : os.Started) (H : Type) (enc : TypeId × Value → H) :
    ReturnsInHanded {} Tryd.checked os 4 .any (fun w args => (Rows.fnExactTopeNeighboursSpec.pre enc Tryd.prog Tryd.f4 Rows.fnExactTopeNeighboursRow.domain false w args ∧ laidMetH Tryd.prog Rows.fnExactTopeNeighboursRow.laid w) ∧ sizedMet enc Tryd.prog Tryd.f4 (OpenSpec.ofChange Rows.fnExactTopeNeighboursSpec) false w args) (Rows.fnExactTopeNeighboursSpec.post enc Tryd.prog Tryd.f4 false true false false) := by
  refine returnsInHanded_of_change_and (C := Tryd.checked) (X := fun w _ => laidMetH Tryd.prog Rows.fnExactTopeNeighboursRow.laid w) (fun _ _ _ hh h => h.of_heap hh) own started (by kernel_rfl) Tryd.func4
    (ChangeSpec.witness_shaped (enc := enc) (C := Tryd.checked) (os := os) (X := fun w _ => laidMetH Tryd.prog Rows.fnExactTopeNeighboursRow.laid w) false (World.laidAll Tryd.prog os Rows.fnExactTopeNeighboursRow.laid) #[.agg #[.int .i64 0, .string ByteArray.empty], .string ByteArray.empty] 8 (World.laidAll_os _ _ _)
      (World.shaped_of_ZipB (by kernel_rfl) (by kernel_rfl)) (by kernel_rfl) (by kernel_rfl) (by kernel_rfl)
      (by rw [MakeChecks.laidMetH_plain _ _ _ (by kernel_rfl)]; exact laidMet_laidAll _ (by kernel_rfl) (by kernel_rfl))) ?_
  intro W base args ds gs before hval0 hW hcnd _ _ _
  have hval : ∀ (j : Nat) t v, Tryd.f4.params[j]? = some t → args[j]? = some v → Value.okWide Tryd.prog W .any base t v := hval0
  have hW' := hW
  obtain ⟨p, q, hA0, hV, rfl, hfz, hnd⟩ := hW
  have hA : DataW.TrodAll enc Tryd.prog W 0 (fun _ => true) true Tryd.f4.params.toList args.toList ds p := hA0
  rw [Tryd.params4] at hA hval
  obtain ⟨v0, vs0, d0, ds0, p0, q0, hargs, rfl, rfl, h0, r0⟩ := trodAll_cons hA
  obtain ⟨v1, vs1, d1, ds1, p1, q1, rfl, rfl, rfl, h1, r1⟩ := trodAll_cons r0
  obtain ⟨rfl, rfl, rfl⟩ := trodAll_nil r1
  obtain rfl : args = #[v0, v1] := by cases args; simp_all
  obtain ⟨rfl, rfl⟩ := trodVars_none hV
  have k0 := h0
  have lt0 : ∀ x ∈ p0, x.block < W.heap.size := by obtain ⟨m, hm⟩ := k0; exact DataW.trod_lt m _ _ _ hm
  obtain ⟨cs0, rfl, _⟩ := okWide_struct Tryd.underlying23 (hval 0 23 v0 rfl rfl)
  obtain ⟨s0, hK0, hw0⟩ : ∃ y, k23.K W y cs0.toList ∧ Q23 y := by obtain ⟨m, hm⟩ := h0; exact elem23 _ _ _ hm
  obtain rfl : cs0 = #[.int .i64 s0.f0, .string s0.f1] := by have := k23_open hK0; cases cs0; simp_all
  have k1 := h1
  have lt1 : ∀ x ∈ p1, x.block < W.heap.size := by obtain ⟨m, hm⟩ := k1; exact DataW.trod_lt m _ _ _ hm
  obtain ⟨a1, rfl, rfl, rfl, w1⟩ := open_string Tryd.underlying9 (hval 1 9 v1 rfl rfl) h1
  unfold maxLen at w1
  obtain ⟨k, h⟩ := Pure.FnExactTopeNeighbours s0 a1 hw0 w1
  refine (P.laws_FnExactTopeNeighbours.calls k s0.f0 s0.f1 a1 true W  h).mono fun e W' ⟨he, bel0⟩ => ?_
  have bel := bel0
  subst he
  exact ⟨_, rfl, _, _, _, [], _, [], hW', trodAll_mk1 (shut_bool Tryd.underlying4 _), (trodAll_cons_mk (Below.trod laidOut (by kernel_rfl) (of_decide_eq_true (by kernel_rfl)) k0 bel lt0) (trodAll_cons_mk (Below.trod laidOut (by kernel_rfl) (of_decide_eq_true (by kernel_rfl)) k1 bel lt1) trodAll_mk0)), rfl, bel.frame _, fun h => by cases h⟩
theorem over : Rows.fnExactTopeNeighboursRow.holds Tryd.pinned (OpenSpec.ofChange Rows.fnExactTopeNeighboursSpec) :=
  OpenClaim.holds_of_wide 4 Tryd.f4 rfl rfl rfl rfl rfl rfl rfl ⟨rfl, rfl, rfl, rfl, rfl⟩ rfl rfl rfl rfl rfl (by kernel_rfl) Tryd.func4 (by kernel_rfl)
    (of_decide_eq_true (by kernel_rfl)) (by unfold Func.isWrapper; first | (rw [if_pos (by decide +kernel)]; kernel_rfl) | (rw [if_neg (by decide +kernel)]; exact ⟨rfl, rfl⟩))
    (fun os started H enc _ => lifted os started H enc)
theorem proved : Rows.FnExactTopeNeighboursCardSaid :=
  Claim7.holds_tied_plain_at .later [] [.data, .pinned] true (true, "352e9cb80e723ee9fe63d1bfda0c5409d892adcac9e6a1f6ba828805a50f19f0") false over (fun _ h => by cases h) (by kernel_rfl) (fun _ h => by cases h) fnExactTopeNeighbours_row_tie rfl ⟨rfl, rfl⟩ (by kernel_rfl) rfl
    (fun f fn hf hfn => by
      obtain rfl : f = 4 := Option.some.inj ((show Tryd.prog.funcNamed "loop.example/g03104/laws.FnExactTopeNeighbours" = some 4 by kernel_rfl).symm.trans hf) |>.symm
      obtain rfl : fn = Tryd.f4 := (Option.some.inj (Tryd.func4.symm.trans hfn)).symm
      exact ⟨by kernel_rfl, fun j t ht => by
        rw [Tryd.params4] at ht
        have hm : t ∈ [23, 9] := by simpa using Array.mem_of_getElem? ht
        have hall : ([23, 9].all fun u => !Tryd.prog.wantsStandIn u) = true := by kernel_rfl
        exact (show Tryd.prog.wantsStandIn t = false by simpa using List.all_eq_true.1 hall t hm)⟩)
    (by kernel_rfl)
#print axioms proved
end Go.Proofs.YtcoommffjbbebaaDoor.fnExactTopeNeighbours
namespace Go.Proofs.YtcoommffjbbebaaDoor
/-- The row, under a short name, for the claim. -/
theorem fnExactTopeNeighbours_holds : Rows.FnExactTopeNeighboursCardSaid := fnExactTopeNeighbours.proved
end Go.Proofs.YtcoommffjbbebaaDoor
