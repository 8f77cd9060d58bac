/- The law FnExactMutationPath returns true for every input and leaves its arguments as they were: the row, out of the law's pure statement and the walks of all functions that it reaches. No condition is assumed. -/

import Derived.Test.YtoajlmlobaccdaaRows
import Derived.Test.YtoajlmlobaccdaaKFnExactMutationPathl
import Derived.Test.YtoajlmlobaccdaaKFnExactMutationPathn
import Derived.WalkKit
import Derived.ProofKit
import Derived.OpenShut
import Derived.ShutString
import Derived.ChangeOld
import Derived.Below
import Derived.SizedLaws
import Derived.Carry
namespace Go.Proofs.Ytoajlmlobaccdaa.fnExactMutationPath
open Go.ChangeShapes Go.WideShapes Go.ChangeAt Go.RowKit Go.Proofs.Ytoajlmlobaccdaa.Rk Go.Proofs.Ytoajlmlobaccdaa.P Go.Proofs.YtoajlmlobaccdaaW.PrintWords
open Go.ChangeMaps (open_string shut_string)
set_option linter.unusedVariables false
theorem own : ownKnob Try.prog.godebug = none := by kernel_rfl
theorem laidOut : laidOutB Try.prog = true := by kernel_rfl
set_option maxRecDepth 100000 in
theorem lifted (os : Os) (started : os.Started) (H : Type) (enc : TypeId × Value → H) :
    ReturnsInHanded {} Try.checked os 7 .any (Rows.fnExactMutationPathSpec.pre6 enc Try.prog Try.f7 Rows.fnExactMutationPathRow.domain false) (Rows.fnExactMutationPathSpec.post enc Try.prog Try.f7 false true false false) := by
  refine returnsInHanded_of_change_sized (C := Try.checked) own started (by kernel_rfl) Try.func7
    (ChangeSpec.witness6 (enc := enc) (C := Try.checked) false ⟨#[], #[.agg #[.int .i64 0, .string ByteArray.empty], .agg #[.int .i64 0, .string ByteArray.empty]], []⟩ 8 (by kernel_rfl) (by kernel_rfl) (by kernel_rfl) (by kernel_rfl)) ?_
  intro W base args ds gs before hval0 hW hcnd _ _
  have hval : ∀ (j : Nat) t v, Try.f7.params[j]? = some t → args[j]? = some v → Value.okWide Try.prog W .any base t v := hval0
  have hW' := hW
  obtain ⟨p, q, hA0, hV, rfl, hfz, hnd⟩ := hW
  have hA : DataW.TrodAll enc Try.prog W 0 (fun _ => true) true Try.f7.params.toList args.toList ds p := hA0
  rw [Try.params7] at hA hval
  obtain ⟨v0, vs0, d0, ds0, p0, q0, hargs, rfl, rfl, h0, r0⟩ := trodAll_cons hA
  obtain ⟨v1, vs1, d1, ds1, p1, q1, rfl, rfl, rfl, h1, r1⟩ := trodAll_cons r0
  obtain ⟨rfl, rfl, rfl⟩ := trodAll_nil r1
  obtain rfl : args = #[v0, v1] := by cases args; simp_all
  obtain ⟨rfl, rfl⟩ := trodVars_none hV
  have k0 := h0
  have lt0 : ∀ x ∈ p0, x.block < W.heap.size := by obtain ⟨m, hm⟩ := k0; exact DataW.trod_lt m _ _ _ hm
  obtain ⟨cs0, rfl, _⟩ := okWide_struct Try.underlying28 (hval 0 28 v0 rfl rfl)
  obtain ⟨s0, hK0, hw0⟩ : ∃ y, k28.K W y cs0.toList ∧ Q28 y := by obtain ⟨m, hm⟩ := h0; exact elem28 _ _ _ hm
  obtain rfl : cs0 = #[.int .i64 s0.f0, .string s0.f1] := by have := k28_open hK0; cases cs0; simp_all
  have k1 := h1
  have lt1 : ∀ x ∈ p1, x.block < W.heap.size := by obtain ⟨m, hm⟩ := k1; exact DataW.trod_lt m _ _ _ hm
  obtain ⟨cs1, rfl, _⟩ := okWide_struct Try.underlying28 (hval 1 28 v1 rfl rfl)
  obtain ⟨s1, hK1, hw1⟩ : ∃ y, k28.K W y cs1.toList ∧ Q28 y := by obtain ⟨m, hm⟩ := h1; exact elem28 _ _ _ hm
  obtain rfl : cs1 = #[.int .i64 s1.f0, .string s1.f1] := by have := k28_open hK1; cases cs1; simp_all
  obtain ⟨k, h⟩ := Pure.FnExactMutationPath s0 s1 hw0 hw1
  refine (P.laws_FnExactMutationPath.calls k s0.f0 s0.f1 s1.f0 s1.f1 true W  h).mono fun e W' ⟨he, bel0⟩ => ?_
  have bel := bel0
  subst he
  exact ⟨_, rfl, _, _, _, [], _, [], hW', trodAll_mk1 (shut_bool Try.underlying4 _), (trodAll_cons_mk (Below.trod laidOut (by kernel_rfl) (of_decide_eq_true (by kernel_rfl)) k0 bel lt0) (trodAll_cons_mk (Below.trod laidOut (by kernel_rfl) (of_decide_eq_true (by kernel_rfl)) k1 bel lt1) trodAll_mk0)), rfl, bel.frame _, fun h => by cases h⟩
theorem over : Rows.fnExactMutationPathRow.holds Try.pinned (OpenSpec.ofChange Rows.fnExactMutationPathSpec) :=
  OpenClaim.holds_of_wide 7 Try.f7 rfl rfl rfl rfl rfl rfl rfl ⟨rfl, rfl, rfl, rfl, rfl⟩ rfl rfl rfl rfl rfl (by kernel_rfl) Try.func7 (by kernel_rfl)
    (of_decide_eq_true (by kernel_rfl)) (by unfold Func.isWrapper; first | (rw [if_pos (by decide +kernel)]; kernel_rfl) | (rw [if_neg (by decide +kernel)]; exact ⟨rfl, rfl⟩))
    (fun os started H enc _ => lifted os started H enc)
theorem proved : Rows.FnExactMutationPathSaid := over
#print axioms proved
end Go.Proofs.Ytoajlmlobaccdaa.fnExactMutationPath
namespace Go.Proofs.Ytoajlmlobaccdaa
/-- The row, under a short name, for the claim. -/
theorem fnExactMutationPath_holds : Rows.FnExactMutationPathSaid := fnExactMutationPath.proved
end Go.Proofs.Ytoajlmlobaccdaa
