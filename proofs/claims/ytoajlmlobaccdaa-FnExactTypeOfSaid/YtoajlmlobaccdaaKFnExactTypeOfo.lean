/- What the law FnExactTypeOf reaches, part 15: functions as plain Lean functions with the proofs that their calls come to them, and plain lemmas over these. Put together by a program (wip/pack.py). -/
import Derived.Test.YtoajlmlobaccdaaKFnExactTypeOfn
import Derived.Test.YtoajlmlobaccdaaKFnExactTypeOfk
import Derived.Test.YtoajlmlobaccdaaKFnExactTypeOff
import Derived.Test.YtoajlmlobaccdaaKFnExactTypeOfj
import Derived.Test.YtoajlmlobaccdaaKFnExactTypeOfm
namespace Go.Proofs.Ytoajlmlobaccdaa.Pure
set_option linter.unusedSimpArgs false
set_option linter.unusedVariables false
set_option maxRecDepth 100000
open Go.RowKit Go.Proofs.YtoajlmlobaccdaaW.PrintWords Go.Proofs.Ytoajlmlobaccdaa.P Go.Proofs.Ytoajlmlobaccdaa.Pl
structure Nd where
  w : List Int
  s : List UInt8
  b : List (List Int)
def ndOk (n : Nat) (e : Nd) : Bool := (spec_BraidsFrom.f 150 (n : Int) e.w == some e.b) && ((spec_SignsOfWiring.f 150 (n : Int) e.w).map (fun r => (r.1, r.2.1.data.toList, r.2.2)) == some ((n : Int), e.s, true))
def nodes3_0 : List Nd := [⟨[0, 1, 0], [43], [[1, 0, 1]]⟩, ⟨[1, 0, 1], [45], [[0, 1, 0]]⟩]
theorem nodes3_0_ok : (nodes3_0).all (ndOk 3) = true := by decide +kernel
def nodes3 : List Nd := nodes3_0
def nodes4_0 : List Nd := [⟨[0, 1, 0, 2, 1, 0], [43, 43, 43, 43], [[0, 1, 2, 1, 0, 1], [1, 0, 1, 2, 1, 0]]⟩, ⟨[0, 1, 2, 1, 0, 1], [43, 43, 43, 45], [[0, 1, 0, 2, 1, 0], [0, 2, 1, 0, 2, 1]]⟩, ⟨[1, 0, 1, 2, 1, 0], [45, 43, 43, 43], [[0, 1, 0, 2, 1, 0], [1, 0, 2, 1, 0, 2]]⟩, ⟨[0, 2, 1, 0, 2, 1], [43, 43, 45, 45], [[0, 1, 2, 1, 0, 1], [2, 1, 0, 1, 2, 1]]⟩, ⟨[1, 0, 2, 1, 0, 2], [45, 45, 43, 43], [[1, 0, 1, 2, 1, 0], [1, 2, 1, 0, 1, 2]]⟩, ⟨[2, 1, 0, 1, 2, 1], [43, 45, 45, 45], [[0, 2, 1, 0, 2, 1], [2, 1, 0, 2, 1, 2]]⟩, ⟨[1, 2, 1, 0, 1, 2], [45, 45, 45, 43], [[1, 0, 2, 1, 0, 2], [2, 1, 0, 2, 1, 2]]⟩, ⟨[2, 1, 0, 2, 1, 2], [45, 45, 45, 45], [[1, 2, 1, 0, 1, 2], [2, 1, 0, 1, 2, 1]]⟩]
theorem nodes4_0_ok : (nodes4_0).all (ndOk 4) = true := by decide +kernel
def nodes4 : List Nd := nodes4_0
def nodes5_0 : List Nd := [⟨[0, 1, 0, 2, 1, 0, 3, 2, 1, 0], [43, 43, 43, 43, 43, 43, 43, 43, 43, 43], [[0, 1, 0, 2, 1, 3, 2, 1, 0, 1], [0, 1, 2, 1, 0, 1, 3, 2, 1, 0], [1, 0, 1, 2, 1, 0, 3, 2, 1, 0]]⟩, ⟨[0, 1, 0, 2, 1, 3, 2, 1, 0, 1], [43, 43, 43, 43, 43, 43, 43, 43, 43, 45], [[0, 1, 0, 2, 1, 0, 3, 2, 1, 0], [0, 1, 0, 2, 3, 2, 1, 0, 2, 1], [1, 0, 1, 2, 1, 3, 2, 1, 0, 1]]⟩, ⟨[0, 1, 2, 1, 0, 1, 3, 2, 1, 0], [43, 43, 43, 43, 43, 43, 45, 43, 43, 43], [[0, 1, 0, 2, 1, 0, 3, 2, 1, 0], [0, 1, 2, 1, 0, 3, 2, 1, 0, 2], [0, 2, 1, 0, 2, 1, 3, 2, 1, 0]]⟩, ⟨[1, 0, 1, 2, 1, 0, 3, 2, 1, 0], [45, 43, 43, 43, 43, 43, 43, 43, 43, 43], [[0, 1, 0, 2, 1, 0, 3, 2, 1, 0], [1, 0, 1, 2, 1, 3, 2, 1, 0, 1], [1, 0, 2, 1, 0, 2, 3, 2, 1, 0]]⟩, ⟨[0, 1, 0, 2, 3, 2, 1, 0, 2, 1], [43, 43, 43, 43, 43, 43, 43, 43, 45, 45], [[0, 1, 0, 2, 1, 3, 2, 1, 0, 1], [0, 1, 0, 3, 2, 1, 0, 3, 2, 1], [0, 1, 2, 3, 2, 1, 0, 1, 2, 1], [1, 0, 1, 2, 3, 2, 1, 0, 2, 1]]⟩, ⟨[1, 0, 1, 2, 1, 3, 2, 1, 0, 1], [45, 43, 43, 43, 43, 43, 43, 43, 43, 45], [[0, 1, 0, 2, 1, 3, 2, 1, 0, 1], [1, 0, 1, 2, 1, 0, 3, 2, 1, 0], [1, 0, 1, 2, 3, 2, 1, 0, 2, 1], [1, 0, 2, 1, 2, 3, 2, 1, 0, 1]]⟩, ⟨[0, 1, 2, 1, 0, 3, 2, 1, 0, 2], [43, 43, 43, 43, 43, 43, 45, 45, 43, 43], [[0, 1, 2, 1, 0, 1, 3, 2, 1, 0], [0, 1, 2, 1, 3, 2, 1, 0, 1, 2], [0, 2, 1, 0, 2, 3, 2, 1, 0, 2]]⟩, ⟨[0, 2, 1, 0, 2, 1, 3, 2, 1, 0], [43, 43, 43, 45, 43, 43, 45, 43, 43, 43], [[0, 1, 2, 1, 0, 1, 3, 2, 1, 0], [0, 2, 1, 0, 2, 3, 2, 1, 0, 2], [2, 1, 0, 1, 2, 1, 3, 2, 1, 0]]⟩, ⟨[1, 0, 2, 1, 0, 2, 3, 2, 1, 0], [45, 45, 43, 43, 43, 43, 43, 43, 43, 43], [[1, 0, 1, 2, 1, 0, 3, 2, 1, 0], [1, 0, 2, 1, 0, 3, 2, 1, 0, 3], [1, 0, 2, 1, 2, 3, 2, 1, 0, 1], [1, 2, 1, 0, 1, 2, 3, 2, 1, 0]]⟩, ⟨[0, 1, 0, 3, 2, 1, 0, 3, 2, 1], [43, 43, 43, 43, 43, 45, 43, 43, 45, 45], [[0, 1, 0, 2, 3, 2, 1, 0, 2, 1], [0, 1, 3, 2, 1, 0, 1, 3, 2, 1], [1, 0, 1, 3, 2, 1, 0, 3, 2, 1]]⟩, ⟨[0, 1, 2, 3, 2, 1, 0, 1, 2, 1], [43, 43, 43, 43, 43, 43, 43, 45, 45, 45], [[0, 1, 0, 2, 3, 2, 1, 0, 2, 1], [0, 1, 2, 3, 2, 1, 0, 2, 1, 2], [0, 1, 3, 2, 1, 0, 1, 3, 2, 1]]⟩]
theorem nodes5_0_ok : (nodes5_0).all (ndOk 5) = true := by decide +kernel
def nodes5_1 : List Nd := [⟨[1, 0, 1, 2, 3, 2, 1, 0, 2, 1], [45, 43, 43, 43, 43, 43, 43, 43, 45, 45], [[0, 1, 0, 2, 3, 2, 1, 0, 2, 1], [1, 0, 1, 2, 1, 3, 2, 1, 0, 1], [1, 0, 1, 3, 2, 1, 0, 3, 2, 1]]⟩, ⟨[1, 0, 2, 1, 2, 3, 2, 1, 0, 1], [45, 45, 43, 43, 43, 43, 43, 43, 43, 45], [[1, 0, 1, 2, 1, 3, 2, 1, 0, 1], [1, 0, 2, 1, 0, 2, 3, 2, 1, 0], [1, 0, 2, 1, 3, 2, 1, 0, 1, 3]]⟩, ⟨[0, 1, 2, 1, 3, 2, 1, 0, 1, 2], [43, 43, 43, 43, 43, 43, 45, 45, 45, 43], [[0, 1, 2, 1, 0, 3, 2, 1, 0, 2], [0, 1, 2, 3, 2, 1, 0, 2, 1, 2], [0, 2, 1, 2, 3, 2, 1, 0, 1, 2]]⟩, ⟨[0, 2, 1, 0, 2, 3, 2, 1, 0, 2], [43, 43, 43, 45, 43, 43, 45, 45, 43, 43], [[0, 1, 2, 1, 0, 3, 2, 1, 0, 2], [0, 2, 1, 0, 2, 1, 3, 2, 1, 0], [0, 2, 1, 0, 3, 2, 1, 0, 3, 2], [0, 2, 1, 2, 3, 2, 1, 0, 1, 2], [2, 1, 0, 1, 2, 3, 2, 1, 0, 2]]⟩, ⟨[2, 1, 0, 1, 2, 1, 3, 2, 1, 0], [43, 45, 43, 45, 43, 43, 45, 43, 43, 43], [[0, 2, 1, 0, 2, 1, 3, 2, 1, 0], [2, 1, 0, 1, 2, 3, 2, 1, 0, 2], [2, 1, 0, 2, 1, 2, 3, 2, 1, 0]]⟩, ⟨[1, 0, 2, 1, 0, 3, 2, 1, 0, 3], [45, 45, 45, 43, 43, 43, 43, 43, 43, 43], [[1, 0, 2, 1, 0, 2, 3, 2, 1, 0], [1, 0, 2, 1, 3, 2, 1, 0, 1, 3], [1, 2, 1, 0, 1, 3, 2, 1, 0, 3]]⟩, ⟨[1, 2, 1, 0, 1, 2, 3, 2, 1, 0], [45, 45, 43, 45, 43, 43, 43, 43, 43, 43], [[1, 0, 2, 1, 0, 2, 3, 2, 1, 0], [1, 2, 1, 0, 1, 3, 2, 1, 0, 3], [2, 1, 0, 2, 1, 2, 3, 2, 1, 0]]⟩, ⟨[0, 1, 3, 2, 1, 0, 1, 3, 2, 1], [43, 43, 43, 43, 43, 45, 43, 45, 45, 45], [[0, 1, 0, 3, 2, 1, 0, 3, 2, 1], [0, 1, 2, 3, 2, 1, 0, 1, 2, 1], [0, 1, 3, 2, 1, 0, 3, 2, 1, 2], [0, 3, 2, 1, 0, 2, 1, 3, 2, 1]]⟩, ⟨[1, 0, 1, 3, 2, 1, 0, 3, 2, 1], [45, 43, 43, 43, 43, 45, 43, 43, 45, 45], [[0, 1, 0, 3, 2, 1, 0, 3, 2, 1], [1, 0, 1, 2, 3, 2, 1, 0, 2, 1], [1, 0, 3, 2, 1, 0, 2, 3, 2, 1]]⟩, ⟨[0, 1, 2, 3, 2, 1, 0, 2, 1, 2], [43, 43, 43, 43, 43, 43, 45, 45, 45, 45], [[0, 1, 2, 1, 3, 2, 1, 0, 1, 2], [0, 1, 2, 3, 2, 1, 0, 1, 2, 1], [0, 1, 3, 2, 1, 0, 3, 2, 1, 2]]⟩, ⟨[1, 0, 2, 1, 3, 2, 1, 0, 1, 3], [45, 45, 45, 43, 43, 43, 43, 43, 43, 45], [[1, 0, 2, 1, 0, 3, 2, 1, 0, 3], [1, 0, 2, 1, 2, 3, 2, 1, 0, 1], [1, 0, 2, 3, 2, 1, 0, 2, 1, 3]]⟩]
theorem nodes5_1_ok : (nodes5_1).all (ndOk 5) = true := by decide +kernel
def nodes5_2 : List Nd := [⟨[0, 2, 1, 2, 3, 2, 1, 0, 1, 2], [43, 43, 43, 45, 43, 43, 45, 45, 45, 43], [[0, 1, 2, 1, 3, 2, 1, 0, 1, 2], [0, 2, 1, 0, 2, 3, 2, 1, 0, 2], [0, 2, 1, 3, 2, 1, 0, 1, 3, 2]]⟩, ⟨[0, 2, 1, 0, 3, 2, 1, 0, 3, 2], [43, 43, 43, 45, 45, 43, 45, 45, 43, 43], [[0, 2, 1, 0, 2, 3, 2, 1, 0, 2], [0, 2, 1, 3, 2, 1, 0, 1, 3, 2], [2, 1, 0, 1, 3, 2, 1, 0, 3, 2]]⟩, ⟨[2, 1, 0, 1, 2, 3, 2, 1, 0, 2], [43, 45, 43, 45, 43, 43, 45, 45, 43, 43], [[0, 2, 1, 0, 2, 3, 2, 1, 0, 2], [2, 1, 0, 1, 2, 1, 3, 2, 1, 0], [2, 1, 0, 1, 3, 2, 1, 0, 3, 2]]⟩, ⟨[2, 1, 0, 2, 1, 2, 3, 2, 1, 0], [45, 45, 43, 45, 43, 43, 45, 43, 43, 43], [[1, 2, 1, 0, 1, 2, 3, 2, 1, 0], [2, 1, 0, 1, 2, 1, 3, 2, 1, 0], [2, 1, 0, 2, 1, 3, 2, 1, 0, 3]]⟩, ⟨[1, 2, 1, 0, 1, 3, 2, 1, 0, 3], [45, 45, 45, 45, 43, 43, 43, 43, 43, 43], [[1, 0, 2, 1, 0, 3, 2, 1, 0, 3], [1, 2, 1, 0, 1, 2, 3, 2, 1, 0], [1, 2, 1, 0, 3, 2, 1, 0, 2, 3], [2, 1, 0, 2, 1, 3, 2, 1, 0, 3]]⟩, ⟨[0, 1, 3, 2, 1, 0, 3, 2, 1, 2], [43, 43, 43, 43, 43, 45, 45, 45, 45, 45], [[0, 1, 2, 3, 2, 1, 0, 2, 1, 2], [0, 1, 3, 2, 1, 0, 1, 3, 2, 1], [0, 3, 2, 1, 0, 2, 3, 2, 1, 2]]⟩, ⟨[0, 3, 2, 1, 0, 2, 1, 3, 2, 1], [43, 43, 43, 43, 45, 45, 43, 45, 45, 45], [[0, 1, 3, 2, 1, 0, 1, 3, 2, 1], [0, 3, 2, 1, 0, 2, 3, 2, 1, 2], [3, 2, 1, 0, 1, 2, 1, 3, 2, 1]]⟩, ⟨[1, 0, 3, 2, 1, 0, 2, 3, 2, 1], [45, 43, 45, 43, 43, 45, 43, 43, 45, 45], [[1, 0, 1, 3, 2, 1, 0, 3, 2, 1], [1, 0, 3, 2, 1, 0, 3, 2, 1, 3], [1, 3, 2, 1, 0, 1, 2, 3, 2, 1]]⟩, ⟨[1, 0, 2, 3, 2, 1, 0, 2, 1, 3], [45, 45, 45, 43, 43, 45, 43, 43, 43, 45], [[1, 0, 2, 1, 3, 2, 1, 0, 1, 3], [1, 0, 3, 2, 1, 0, 3, 2, 1, 3], [1, 2, 3, 2, 1, 0, 1, 2, 1, 3]]⟩, ⟨[0, 2, 1, 3, 2, 1, 0, 1, 3, 2], [43, 43, 43, 45, 45, 43, 45, 45, 45, 43], [[0, 2, 1, 0, 3, 2, 1, 0, 3, 2], [0, 2, 1, 2, 3, 2, 1, 0, 1, 2], [0, 2, 3, 2, 1, 0, 2, 1, 3, 2]]⟩, ⟨[2, 1, 0, 1, 3, 2, 1, 0, 3, 2], [43, 45, 43, 45, 45, 43, 45, 45, 43, 43], [[0, 2, 1, 0, 3, 2, 1, 0, 3, 2], [2, 1, 0, 1, 2, 3, 2, 1, 0, 2], [2, 1, 0, 3, 2, 1, 0, 2, 3, 2]]⟩]
theorem nodes5_2_ok : (nodes5_2).all (ndOk 5) = true := by decide +kernel
def nodes5_3 : List Nd := [⟨[2, 1, 0, 2, 1, 3, 2, 1, 0, 3], [45, 45, 45, 45, 43, 43, 45, 43, 43, 43], [[1, 2, 1, 0, 1, 3, 2, 1, 0, 3], [2, 1, 0, 2, 1, 2, 3, 2, 1, 0], [2, 1, 0, 2, 3, 2, 1, 0, 2, 3]]⟩, ⟨[1, 2, 1, 0, 3, 2, 1, 0, 2, 3], [45, 45, 45, 45, 45, 43, 43, 43, 43, 43], [[1, 2, 1, 0, 1, 3, 2, 1, 0, 3], [1, 2, 1, 3, 2, 1, 0, 1, 2, 3], [2, 1, 0, 2, 3, 2, 1, 0, 2, 3]]⟩, ⟨[0, 3, 2, 1, 0, 2, 3, 2, 1, 2], [43, 43, 43, 43, 45, 45, 45, 45, 45, 45], [[0, 1, 3, 2, 1, 0, 3, 2, 1, 2], [0, 3, 2, 1, 0, 2, 1, 3, 2, 1], [0, 3, 2, 1, 0, 3, 2, 1, 3, 2], [3, 2, 1, 0, 1, 2, 3, 2, 1, 2]]⟩, ⟨[3, 2, 1, 0, 1, 2, 1, 3, 2, 1], [43, 43, 45, 43, 45, 45, 43, 45, 45, 45], [[0, 3, 2, 1, 0, 2, 1, 3, 2, 1], [3, 2, 1, 0, 1, 2, 3, 2, 1, 2], [3, 2, 1, 0, 2, 1, 2, 3, 2, 1]]⟩, ⟨[1, 0, 3, 2, 1, 0, 3, 2, 1, 3], [45, 45, 45, 43, 43, 45, 43, 43, 45, 45], [[1, 0, 2, 3, 2, 1, 0, 2, 1, 3], [1, 0, 3, 2, 1, 0, 2, 3, 2, 1], [1, 3, 2, 1, 0, 1, 3, 2, 1, 3]]⟩, ⟨[1, 3, 2, 1, 0, 1, 2, 3, 2, 1], [45, 43, 45, 43, 45, 45, 43, 43, 45, 45], [[1, 0, 3, 2, 1, 0, 2, 3, 2, 1], [1, 3, 2, 1, 0, 1, 3, 2, 1, 3], [3, 2, 1, 0, 2, 1, 2, 3, 2, 1]]⟩, ⟨[1, 2, 3, 2, 1, 0, 1, 2, 1, 3], [45, 45, 45, 43, 45, 45, 43, 43, 43, 45], [[1, 0, 2, 3, 2, 1, 0, 2, 1, 3], [1, 2, 3, 2, 1, 0, 2, 1, 2, 3], [1, 3, 2, 1, 0, 1, 3, 2, 1, 3]]⟩, ⟨[0, 2, 3, 2, 1, 0, 2, 1, 3, 2], [43, 43, 43, 45, 45, 45, 45, 45, 45, 43], [[0, 2, 1, 3, 2, 1, 0, 1, 3, 2], [0, 3, 2, 1, 0, 3, 2, 1, 3, 2], [2, 3, 2, 1, 0, 1, 2, 1, 3, 2]]⟩, ⟨[2, 1, 0, 3, 2, 1, 0, 2, 3, 2], [43, 45, 45, 45, 45, 43, 45, 45, 43, 43], [[2, 1, 0, 1, 3, 2, 1, 0, 3, 2], [2, 1, 0, 3, 2, 1, 0, 3, 2, 3], [2, 1, 3, 2, 1, 0, 1, 2, 3, 2]]⟩, ⟨[2, 1, 0, 2, 3, 2, 1, 0, 2, 3], [45, 45, 45, 45, 45, 43, 45, 43, 43, 43], [[1, 2, 1, 0, 3, 2, 1, 0, 2, 3], [2, 1, 0, 2, 1, 3, 2, 1, 0, 3], [2, 1, 0, 3, 2, 1, 0, 3, 2, 3], [2, 1, 2, 3, 2, 1, 0, 1, 2, 3]]⟩, ⟨[1, 2, 1, 3, 2, 1, 0, 1, 2, 3], [45, 45, 45, 45, 45, 45, 43, 43, 43, 43], [[1, 2, 1, 0, 3, 2, 1, 0, 2, 3], [1, 2, 3, 2, 1, 0, 2, 1, 2, 3], [2, 1, 2, 3, 2, 1, 0, 1, 2, 3]]⟩]
theorem nodes5_3_ok : (nodes5_3).all (ndOk 5) = true := by decide +kernel
def nodes5_4 : List Nd := [⟨[0, 3, 2, 1, 0, 3, 2, 1, 3, 2], [43, 43, 43, 45, 45, 45, 45, 45, 45, 45], [[0, 2, 3, 2, 1, 0, 2, 1, 3, 2], [0, 3, 2, 1, 0, 2, 3, 2, 1, 2], [3, 2, 1, 0, 1, 3, 2, 1, 3, 2]]⟩, ⟨[3, 2, 1, 0, 1, 2, 3, 2, 1, 2], [43, 43, 45, 43, 45, 45, 45, 45, 45, 45], [[0, 3, 2, 1, 0, 2, 3, 2, 1, 2], [3, 2, 1, 0, 1, 2, 1, 3, 2, 1], [3, 2, 1, 0, 1, 3, 2, 1, 3, 2]]⟩, ⟨[3, 2, 1, 0, 2, 1, 2, 3, 2, 1], [45, 43, 45, 43, 45, 45, 43, 45, 45, 45], [[1, 3, 2, 1, 0, 1, 2, 3, 2, 1], [3, 2, 1, 0, 1, 2, 1, 3, 2, 1], [3, 2, 1, 0, 2, 1, 3, 2, 1, 3]]⟩, ⟨[1, 3, 2, 1, 0, 1, 3, 2, 1, 3], [45, 45, 45, 43, 45, 45, 43, 43, 45, 45], [[1, 0, 3, 2, 1, 0, 3, 2, 1, 3], [1, 2, 3, 2, 1, 0, 1, 2, 1, 3], [1, 3, 2, 1, 0, 1, 2, 3, 2, 1], [1, 3, 2, 1, 0, 3, 2, 1, 2, 3], [3, 2, 1, 0, 2, 1, 3, 2, 1, 3]]⟩, ⟨[1, 2, 3, 2, 1, 0, 2, 1, 2, 3], [45, 45, 45, 45, 45, 45, 43, 43, 43, 45], [[1, 2, 1, 3, 2, 1, 0, 1, 2, 3], [1, 2, 3, 2, 1, 0, 1, 2, 1, 3], [1, 3, 2, 1, 0, 3, 2, 1, 2, 3]]⟩, ⟨[2, 3, 2, 1, 0, 1, 2, 1, 3, 2], [43, 43, 45, 45, 45, 45, 45, 45, 45, 43], [[0, 2, 3, 2, 1, 0, 2, 1, 3, 2], [2, 3, 2, 1, 0, 2, 1, 2, 3, 2], [3, 2, 1, 0, 1, 3, 2, 1, 3, 2]]⟩, ⟨[2, 1, 0, 3, 2, 1, 0, 3, 2, 3], [45, 45, 45, 45, 45, 43, 45, 45, 43, 43], [[2, 1, 0, 2, 3, 2, 1, 0, 2, 3], [2, 1, 0, 3, 2, 1, 0, 2, 3, 2], [2, 1, 3, 2, 1, 0, 1, 3, 2, 3]]⟩, ⟨[2, 1, 3, 2, 1, 0, 1, 2, 3, 2], [43, 45, 45, 45, 45, 45, 45, 45, 43, 43], [[2, 1, 0, 3, 2, 1, 0, 2, 3, 2], [2, 1, 3, 2, 1, 0, 1, 3, 2, 3], [2, 3, 2, 1, 0, 2, 1, 2, 3, 2]]⟩, ⟨[2, 1, 2, 3, 2, 1, 0, 1, 2, 3], [45, 45, 45, 45, 45, 45, 45, 43, 43, 43], [[1, 2, 1, 3, 2, 1, 0, 1, 2, 3], [2, 1, 0, 2, 3, 2, 1, 0, 2, 3], [2, 1, 3, 2, 1, 0, 1, 3, 2, 3]]⟩, ⟨[3, 2, 1, 0, 1, 3, 2, 1, 3, 2], [43, 43, 45, 45, 45, 45, 45, 45, 45, 45], [[0, 3, 2, 1, 0, 3, 2, 1, 3, 2], [2, 3, 2, 1, 0, 1, 2, 1, 3, 2], [3, 2, 1, 0, 1, 2, 3, 2, 1, 2], [3, 2, 1, 0, 3, 2, 1, 2, 3, 2]]⟩, ⟨[3, 2, 1, 0, 2, 1, 3, 2, 1, 3], [45, 45, 45, 43, 45, 45, 43, 45, 45, 45], [[1, 3, 2, 1, 0, 1, 3, 2, 1, 3], [3, 2, 1, 0, 2, 1, 2, 3, 2, 1], [3, 2, 1, 0, 2, 3, 2, 1, 2, 3]]⟩]
theorem nodes5_4_ok : (nodes5_4).all (ndOk 5) = true := by decide +kernel
def nodes5_5 : List Nd := [⟨[1, 3, 2, 1, 0, 3, 2, 1, 2, 3], [45, 45, 45, 45, 45, 45, 43, 43, 45, 45], [[1, 2, 3, 2, 1, 0, 2, 1, 2, 3], [1, 3, 2, 1, 0, 1, 3, 2, 1, 3], [3, 2, 1, 0, 2, 3, 2, 1, 2, 3]]⟩, ⟨[2, 3, 2, 1, 0, 2, 1, 2, 3, 2], [43, 45, 45, 45, 45, 45, 45, 45, 45, 43], [[2, 1, 3, 2, 1, 0, 1, 2, 3, 2], [2, 3, 2, 1, 0, 1, 2, 1, 3, 2], [2, 3, 2, 1, 0, 2, 1, 3, 2, 3], [3, 2, 1, 0, 3, 2, 1, 2, 3, 2]]⟩, ⟨[2, 1, 3, 2, 1, 0, 1, 3, 2, 3], [45, 45, 45, 45, 45, 45, 45, 45, 43, 43], [[2, 1, 0, 3, 2, 1, 0, 3, 2, 3], [2, 1, 2, 3, 2, 1, 0, 1, 2, 3], [2, 1, 3, 2, 1, 0, 1, 2, 3, 2], [2, 3, 2, 1, 0, 2, 1, 3, 2, 3]]⟩, ⟨[3, 2, 1, 0, 3, 2, 1, 2, 3, 2], [43, 45, 45, 45, 45, 45, 45, 45, 45, 45], [[2, 3, 2, 1, 0, 2, 1, 2, 3, 2], [3, 2, 1, 0, 1, 3, 2, 1, 3, 2], [3, 2, 1, 0, 3, 2, 1, 3, 2, 3]]⟩, ⟨[3, 2, 1, 0, 2, 3, 2, 1, 2, 3], [45, 45, 45, 45, 45, 45, 43, 45, 45, 45], [[1, 3, 2, 1, 0, 3, 2, 1, 2, 3], [3, 2, 1, 0, 2, 1, 3, 2, 1, 3], [3, 2, 1, 0, 3, 2, 1, 3, 2, 3]]⟩, ⟨[2, 3, 2, 1, 0, 2, 1, 3, 2, 3], [45, 45, 45, 45, 45, 45, 45, 45, 45, 43], [[2, 1, 3, 2, 1, 0, 1, 3, 2, 3], [2, 3, 2, 1, 0, 2, 1, 2, 3, 2], [3, 2, 1, 0, 3, 2, 1, 3, 2, 3]]⟩, ⟨[3, 2, 1, 0, 3, 2, 1, 3, 2, 3], [45, 45, 45, 45, 45, 45, 45, 45, 45, 45], [[2, 3, 2, 1, 0, 2, 1, 3, 2, 3], [3, 2, 1, 0, 2, 3, 2, 1, 2, 3], [3, 2, 1, 0, 3, 2, 1, 2, 3, 2]]⟩]
theorem nodes5_5_ok : (nodes5_5).all (ndOk 5) = true := by decide +kernel
def nodes5 : List Nd := nodes5_0 ++ nodes5_1 ++ nodes5_2 ++ nodes5_3 ++ nodes5_4 ++ nodes5_5
def nodes (n : Nat) : List Nd := if n = 3 then nodes3 else if n = 4 then nodes4 else nodes5
theorem nodes_ok (n : Nat) (h3 : 3 ≤ n) (h5 : n ≤ 5) : (nodes n).all (ndOk n) = true := by
  have : n = 3 ∨ n = 4 ∨ n = 5 := by omega
  rcases this with rfl | rfl | rfl
  · exact nodes3_0_ok
  · exact nodes4_0_ok
  · show (nodes5_0 ++ nodes5_1 ++ nodes5_2 ++ nodes5_3 ++ nodes5_4 ++ nodes5_5).all (ndOk 5) = true
    simp only [List.all_append, nodes5_0_ok, nodes5_1_ok, nodes5_2_ok, nodes5_3_ok, nodes5_4_ok, nodes5_5_ok, Bool.and_true]
def brT (n : Nat) (w : List Int) : Option (List (List Int)) := ((nodes n).find? fun e => decide (e.w = w)).map Nd.b
theorem brT_ev (n : Nat) (h3 : 3 ≤ n) (h5 : n ≤ 5) (w : List Int) (l : List (List Int)) (h : brT n w = some l) : Ev (fun k => spec_BraidsFrom.f k (n : Int) w) l := by
  unfold brT at h
  obtain ⟨e, he, hb⟩ := Option.map_eq_some_iff.1 h
  subst hb
  have hm := List.mem_of_find?_eq_some he
  have hw : e.w = w := by
    have h0 := List.find?_some he
    exact of_decide_eq_true h0
  have hk := List.all_eq_true.1 (nodes_ok n h3 h5) e hm
  unfold ndOk at hk
  rw [Bool.and_eq_true] at hk
  have h1 := eq_of_beq hk.1
  rw [hw] at h1
  exact Ev.of (spec_BraidsFrom.mono _ _) h1
theorem sgT_ev (n : Nat) (h3 : 3 ≤ n) (h5 : n ≤ 5) (e : Nd) (hm : e ∈ nodes n) : Ev (fun k => spec_SignsOfWiring.f k (n : Int) e.w) ((n : Int), (⟨e.s.toArray⟩ : ByteArray), true) := by
  have hk := List.all_eq_true.1 (nodes_ok n h3 h5) e hm
  unfold ndOk at hk
  rw [Bool.and_eq_true] at hk
  obtain ⟨⟨a, b, c⟩, h1, h2⟩ := Option.map_eq_some_iff.1 (eq_of_beq hk.2)
  simp only [Prod.mk.injEq] at h2
  obtain ⟨rfl, h3, rfl⟩ := h2
  have e2 : b = (⟨e.s.toArray⟩ : ByteArray) := ByteArray.ext (Array.ext' h3)
  rw [e2] at h1
  exact Ev.of (spec_SignsOfWiring.mono _ _) h1
def ordT (n : Nat) : List (List Int) := (nodes n).map Nd.w
def stT (n : Nat) : List Int := ((nodes n).map Nd.w).headD []
theorem reachT3 : rchP (brT 3) 70 0 [stT 3] = some (ordT 3) := by decide +kernel
theorem reachT4 : rchP (brT 4) 70 0 [stT 4] = some (ordT 4) := by decide +kernel
theorem reachT5 : rchP (brT 5) 70 0 [stT 5] = some (ordT 5) := by decide +kernel
theorem start_all : ([3, 4, 5] : List Nat).all (fun n => (spec_l15First.f 150 (n : Int)).bind (fun a => (spec_NormalWiring.f 150 (n : Int) a)) == some (stT n, true) && (spec_l1In.f (n : Int) 3 5 == some true) && (ordT n).all (fun w => decide (w.length = n * (n - 1) / 2)) && decide ((ordT n).length ≤ 62)) = true := by decide +kernel
theorem normals_ev (n : Nat) (h3 : 3 ≤ n) (h5 : n ≤ 5) : ∃ r, Ev (fun k => spec_NormalsOf.f k (n : Int)) r ∧ r.Perm (ordT n) := by
  have hs := List.all_eq_true.1 start_all n (by simp; omega)
  rw [Bool.and_eq_true, Bool.and_eq_true, Bool.and_eq_true] at hs
  obtain ⟨⟨⟨hs1, hs2⟩, hs3⟩, hs4⟩ := hs
  obtain ⟨a, ha, hw⟩ := Option.bind_eq_some_iff.1 (eq_of_beq hs1)
  have hl : ∀ y ∈ ordT n, y.length = n * (n - 1) / 2 := fun y hy => of_decide_eq_true (List.all_eq_true.1 hs3 y hy)
  have hle : (ordT n).length ≤ 62 := of_decide_eq_true hs4
  have hr : rchP (brT n) 70 0 [stT n] = some (ordT n) := by
    have : n = 3 ∨ n = 4 ∨ n = 5 := by omega
    rcases this with rfl | rfl | rfl
    · exact reachT3
    · exact reachT4
    · exact reachT5
  have hm : n * (n - 1) / 2 ≤ 1000000 := by
    have : n = 3 ∨ n = 4 ∨ n = 5 := by omega
    rcases this with rfl | rfl | rfl <;> decide
  obtain ⟨r, h1, hp⟩ := putAll_ex _ hm (ordT n) [] hl (fun _ h => by cases h) (by simp only [List.length_nil]; omega)
  rw [List.append_nil] at hp
  refine ⟨r, ?_, hp⟩
  unfold spec_NormalsOf.f
  exact Ev.bind0 (eq_of_beq hs2) (Ev.ite_pos rfl (Ev.bind (Ev.of (spec_l15First.mono _) ha) (Ev.bind (Ev.of (spec_NormalWiring.mono _ _) hw) (Ev.bind (reach_ev n (brT n) (brT_ev n h3 h5) 70 (stT n) (ordT n) hr) (Ev.ite_pos (by omega) h1)))))
end Go.Proofs.Ytoajlmlobaccdaa.Pure
namespace Go.Proofs.Ytoajlmlobaccdaa.Pure
set_option linter.unusedSimpArgs false
set_option linter.unusedVariables false
open Go.RowKit Go.Proofs.YtoajlmlobaccdaaW.PrintWords Go.Proofs.Ytoajlmlobaccdaa.P Go.Proofs.Ytoajlmlobaccdaa.Pl
def mixed (n : Nat) (s : ByteArray) (a b c d : Int) : Bool := !decide ((circT (sg n s b c d) (sg n s a c d) (sg n s a b d) (sg n s a b c)).toList = ([43, 43, 43, 43] : List UInt8))
def mixQ (n : Nat) (s : ByteArray) (q : Q4) : Bool := mixed n s q.f0 q.f1 q.f2 q.f3
def acyT (n : Nat) (s : ByteArray) : Bool := (quad n).all (mixQ n s)
theorem impl_acy_ev (n : Nat) (hn : n ≤ 7) (s : ByteArray) : Ev (fun k => impl_chi_isAcyclic.f k (tab n s)) (acyT n s) := by
  have hl := tab_length n s
  obtain ⟨hq, hq1⟩ := quad_ok n hn
  rw [List.all_eq_true] at hq
  unfold impl_chi_isAcyclic.f acyT
  rw [tab_n]
  refine Ev.ite_pos (by omega) (Ev.bind (quadsOf_ev n hn) ?_)
  have key := Ev.loop_to (fun i k => impl_chi_isAcyclic.l0 k (tab n s) (quad n) (quad n).length i) (quad n).length (fun i => ((quad n).drop i).all (mixQ n s)) ?_ ?_ 0 (by omega)
  · simpa using key
  · refine Ev.step (fun k => impl_chi_isAcyclic.l0.eq_2 ..) (Ev.ite_neg (by omega) (Ev.const ?_))
    rw [List.drop_of_length_le (by omega)]
    rfl
  · intro i hi ih
    have hr : rd_T180 (quad n) (i : Int) = (quad n)[i] := by
      unfold rd_T180
      rw [Int.toNat_natCast, getD_lt _ _ _ hi]
    have ht := hq _ (List.getElem_mem hi)
    rw [List.drop_eq_getElem_cons hi, List.all_cons]
    refine Ev.step (fun k => impl_chi_isAcyclic.l0.eq_2 ..) (Ev.ite_pos (by omega) (Ev.ite_pos (by omega) (Ev.ite_pos (by omega) ?_)))
    rw [hr, wrap_nat i (by omega)]
    generalize (quad n)[i] = q at ht ⊢
    obtain ⟨a, b, c, d⟩ := q
    unfold okQ at ht
    rw [decide_eq_true_eq] at ht
    dsimp only at ht
    obtain ⟨a, rfl⟩ := Int.eq_ofNat_of_zero_le ht.1
    obtain ⟨b, rfl⟩ := Int.eq_ofNat_of_zero_le (show 0 ≤ b by omega)
    obtain ⟨c, rfl⟩ := Int.eq_ofNat_of_zero_le (show 0 ≤ c by omega)
    obtain ⟨d, rfl⟩ := Int.eq_ofNat_of_zero_le (show 0 ≤ d by omega)
    refine Ev.bind (impl_circuit_ev n hn s a b c d (by omega) (by omega) (by omega) (by omega)) ?_
    rw [show mixQ n s (⟨a, b, c, d⟩ : Q4) = !decide ((circT (sg n s b c d) (sg n s a c d) (sg n s a b d) (sg n s a b c)).toList = ([43, 43, 43, 43] : List UInt8)) from rfl]
    by_cases h : (circT (sg n s b c d) (sg n s a c d) (sg n s a b d) (sg n s a b c)).toList = ([43, 43, 43, 43] : List UInt8)
    · rw [decide_eq_true h]
      exact Ev.ite_pos h (Ev.now _)
    · rw [decide_eq_false h]
      exact Ev.ite_neg h (by simpa using ih)
section
variable (n : Nat) (s : ByteArray)
def m4 (a b c d : Nat) : Bool := mixed n s a b c d
def m3 (a b c : Nat) : Bool := ((List.range n).drop (c + 1)).all (m4 n s a b c)
def m2 (a b : Nat) : Bool := ((List.range n).drop (b + 1)).all (m3 n s a b)
def m1 (a : Nat) : Bool := ((List.range n).drop (a + 1)).all (m2 n s a)
end
theorem acy_eq (n : Nat) (hn : n ≤ 7) (s : ByteArray) : (List.range n).all (m1 n s) = acyT n s := by
  unfold acyT
  rw [← listC_eq n hn]
  unfold listC
  rw [List.drop_zero, List.all_flatMap]
  simp only [List.all_flatMap, List.all_map]
  rfl
theorem spec_acy_ev (n : Nat) (hn : n ≤ 7) (s : ByteArray) (hs : s.size = (tri n).length) : Ev (fun k => spec_l4Acyclic.f k n s) (acyT n s) := by
  rw [← acy_eq n hn s]
  unfold spec_l4Acyclic.f
  have key := loopA (fun a k => spec_l4Acyclic.l0 k a n s) n (m1 n s) true 0 (by omega) ?_ ?_
  · simpa using key
  · exact Ev.step (fun k => spec_l4Acyclic.l0.eq_2 ..) (Ev.ite_neg (by omega) (Ev.now _))
  · intro a _ ha h0
    have key1 := loopA (fun b k => spec_l4Acyclic.l1 k a b n s) n (m2 n s a) (((List.range n).drop (a + 1)).all (m1 n s) && true) (a + 1) (by omega) ?_ ?_
    · refine Ev.step (fun k => spec_l4Acyclic.l0.eq_2 ..) (Ev.ite_pos (by omega) ?_)
      rw [wrap_nat a (by omega)]
      exact key1
    · refine Ev.step (fun k => spec_l4Acyclic.l1.eq_2 ..) (Ev.ite_neg (by omega) ?_)
      rw [wrap_nat a (by omega)]
      exact h0
    · intro b hab hb h1
      have key2 := loopA (fun c k => spec_l4Acyclic.l2 k a b c n s) n (m3 n s a b) (((List.range n).drop (b + 1)).all (m2 n s a) && (((List.range n).drop (a + 1)).all (m1 n s) && true)) (b + 1) (by omega) ?_ ?_
      · refine Ev.step (fun k => spec_l4Acyclic.l1.eq_2 ..) (Ev.ite_pos (by omega) ?_)
        rw [wrap_nat b (by omega)]
        exact key2
      · refine Ev.step (fun k => spec_l4Acyclic.l2.eq_2 ..) (Ev.ite_neg (by omega) ?_)
        rw [wrap_nat b (by omega)]
        exact h1
      · intro c hbc hc h2
        have key3 := loopA (fun d k => spec_l4Acyclic.l3 k a b c d n s) n (m4 n s a b c) (((List.range n).drop (c + 1)).all (m3 n s a b) && (((List.range n).drop (b + 1)).all (m2 n s a) && (((List.range n).drop (a + 1)).all (m1 n s) && true))) (c + 1) (by omega) ?_ ?_
        · refine Ev.step (fun k => spec_l4Acyclic.l2.eq_2 ..) (Ev.ite_pos (by omega) ?_)
          rw [wrap_nat c (by omega)]
          exact key3
        · refine Ev.step (fun k => spec_l4Acyclic.l3.eq_2 ..) (Ev.ite_neg (by omega) ?_)
          rw [wrap_nat c (by omega)]
          exact h2
        · intro d hcd hd h3
          refine Ev.step (fun k => spec_l4Acyclic.l3.eq_2 ..) (Ev.ite_pos (by omega) (Ev.bind (spec_circuit_ev n hn s hs a b c d (by omega) (by omega) (by omega) (by omega)) ?_))
          rw [show m4 n s a b c d = !decide ((circT (sg n s b c d) (sg n s a c d) (sg n s a b d) (sg n s a b c)).toList = ([43, 43, 43, 43] : List UInt8)) from rfl, wrap_nat d (by omega)]
          by_cases h : (circT (sg n s b c d) (sg n s a c d) (sg n s a b d) (sg n s a b c)).toList = ([43, 43, 43, 43] : List UInt8)
          · rw [decide_eq_true h]
            exact Ev.ite_pos h (Ev.now _)
          · rw [decide_eq_false h]
            exact Ev.ite_neg h (by simpa using h3)
def isA (n : Int) (s : ByteArray) : Bool := isM n s && acyT n.toNat s
theorem isM_S {n : Int} {s : ByteArray} (h : isM n s = true) : isS n s = true := by
  unfold isM at h
  rw [Bool.and_eq_true] at h
  exact h.1
theorem spec_IsAcyclic_ev (n : Int) (s : ByteArray) : Ev (fun k => spec_IsAcyclic.f k n s) (isA n s) := by
  unfold spec_IsAcyclic.f isA
  refine Ev.bind (spec_IsMatroid_ev n s) ?_
  cases hM : isM n s with
  | false => exact Ev.ite_neg (by simp) (Ev.now _)
  | true =>
    obtain ⟨h3, h7, hs, _⟩ := isS_bounds (isM_S hM)
    obtain ⟨n, rfl⟩ := Int.eq_ofNat_of_zero_le (show 0 ≤ n by omega)
    rw [Int.toNat_natCast] at hs ⊢
    exact Ev.ite_pos rfl (Ev.bind (spec_acy_ev n (by omega) s hs) (Ev.now _))
theorem impl_IsAcyclic_ev (n : Int) (s : ByteArray) : Ev (fun k => impl_IsAcyclic.f k n s) (isA n s) := by
  unfold impl_IsAcyclic.f isA
  refine Ev.bind (impl_IsMatroid_ev n s) ?_
  cases hM : isM n s with
  | false => exact Ev.ite_neg (by simp) (Ev.now _)
  | true =>
    obtain ⟨h3, h7, hs, _⟩ := isS_bounds (isM_S hM)
    obtain ⟨n, rfl⟩ := Int.eq_ofNat_of_zero_le (show 0 ≤ n by omega)
    rw [Int.toNat_natCast] at hs ⊢
    exact Ev.ite_pos rfl (Ev.bind (tableOf_ev n (by omega) s hs) (Ev.bind (impl_acy_ev n (by omega) s) (Ev.now _)))
end Go.Proofs.Ytoajlmlobaccdaa.Pure
namespace Go.Proofs.Ytoajlmlobaccdaa.Pure
set_option linter.unusedSimpArgs false
set_option linter.unusedVariables false
set_option maxRecDepth 100000
open Go.RowKit Go.Proofs.YtoajlmlobaccdaaW.PrintWords Go.Proofs.Ytoajlmlobaccdaa.P Go.Proofs.Ytoajlmlobaccdaa.Pl
def txt (n c : Nat) : ByteArray := strOfNums ((List.range (tri n).length).map fun m => if c.testBit m then (43 : Int) else 45)
def okNm (n : Nat) (q : List Int) : Bool := decide (q.length = n) && (q.all (fun x => decide (0 ≤ x ∧ x < (n : Int))) && decide q.Nodup)
theorem okNm_mem (n : Nat) (q : List Int) (h : okNm n q = true) : q ∈ AN n := by
  unfold okNm at h
  rw [Bool.and_eq_true, Bool.and_eq_true, decide_eq_true_eq, decide_eq_true_eq, List.all_eq_true] at h
  exact lev_of n n q h.1 (fun x hx => of_decide_eq_true (h.2.1 x hx)) h.2.2
def ceOk (n : Nat) (e : Nat × List Int) : Bool := okNm n e.2 && ((nodes n).map Nd.s).contains (pickT n (txt n e.1) e.2).data.toList
def cert3_0 : List (Nat × List Int) := [(0, [0, 1, 2]), (1, [0, 1, 2])]
theorem cert3_0_ok : cert3_0.all (ceOk 3) = true := by decide +kernel
def cert4_0 : List (Nat × List Int) := [(0, [0, 1, 2, 3]), (1, [0, 1, 2, 3]), (2, [1, 0, 2, 3]), (3, [0, 1, 2, 3]), (4, [0, 1, 3, 2]), (6, [0, 2, 1, 3]), (7, [0, 1, 2, 3]), (8, [0, 1, 2, 3]), (9, [0, 2, 1, 3]), (11, [0, 1, 3, 2]), (12, [0, 1, 2, 3]), (13, [1, 0, 2, 3]), (14, [0, 1, 2, 3]), (15, [0, 1, 2, 3])]
theorem cert4_0_ok : cert4_0.all (ceOk 4) = true := by decide +kernel
def cert5_0 : List (Nat × List Int) := [(0, [0, 1, 2, 3, 4]), (1, [0, 1, 2, 3, 4]), (3, [0, 1, 2, 3, 4]), (4, [1, 0, 2, 3, 4]), (6, [1, 0, 2, 3, 4]), (7, [0, 1, 2, 3, 4]), (11, [0, 1, 2, 3, 4]), (15, [0, 1, 2, 3, 4]), (20, [1, 2, 0, 3, 4]), (22, [1, 2, 0, 3, 4]), (30, [0, 2, 1, 3, 4]), (31, [0, 1, 2, 3, 4]), (32, [0, 1, 2, 4, 3]), (33, [0, 1, 2, 4, 3]), (48, [0, 1, 4, 2, 3]), (52, [0, 3, 2, 1, 4]), (56, [0, 1, 4, 3, 2]), (60, [0, 2, 3, 1, 4]), (62, [0, 2, 1, 3, 4]), (63, [0, 1, 2, 3, 4]), (64, [0, 1, 2, 3, 4]), (68, [1, 0, 2, 3, 4]), (72, [0, 1, 2, 3, 4]), (74, [0, 1, 2, 3, 4]), (75, [0, 1, 2, 3, 4]), (76, [1, 0, 2, 3, 4]), (77, [1, 0, 2, 3, 4]), (79, [0, 1, 2, 3, 4]), (84, [1, 2, 0, 3, 4]), (85, [1, 2, 0, 3, 4]), (93, [1, 0, 2, 3, 4]), (95, [0, 1, 2, 3, 4]), (96, [0, 1, 2, 4, 3])]
theorem cert5_0_ok : cert5_0.all (ceOk 5) = true := by decide +kernel
def cert5_1 : List (Nat × List Int) := [(112, [0, 1, 4, 2, 3]), (116, [0, 3, 2, 1, 4]), (117, [0, 3, 1, 2, 4]), (119, [0, 1, 3, 2, 4]), (127, [0, 1, 2, 3, 4]), (129, [0, 2, 1, 3, 4]), (131, [0, 2, 1, 3, 4]), (138, [0, 2, 1, 3, 4]), (139, [0, 2, 1, 3, 4]), (145, [2, 0, 1, 3, 4]), (146, [2, 0, 1, 3, 4]), (147, [2, 0, 1, 3, 4]), (148, [2, 1, 0, 3, 4]), (149, [2, 1, 0, 3, 4]), (150, [2, 0, 1, 3, 4]), (154, [0, 2, 1, 3, 4]), (158, [0, 2, 1, 3, 4]), (161, [0, 2, 1, 4, 3]), (165, [0, 2, 4, 1, 3]), (180, [0, 3, 1, 2, 4]), (181, [0, 3, 1, 2, 4]), (188, [0, 2, 3, 1, 4]), (190, [0, 2, 1, 3, 4]), (192, [0, 1, 2, 3, 4]), (193, [0, 2, 1, 3, 4]), (200, [0, 1, 2, 3, 4]), (202, [0, 1, 2, 3, 4]), (209, [1, 2, 0, 3, 4]), (213, [1, 2, 0, 3, 4]), (216, [0, 1, 2, 3, 4]), (217, [1, 0, 2, 3, 4]), (218, [0, 1, 2, 3, 4]), (221, [1, 0, 2, 3, 4])]
theorem cert5_1_ok : cert5_1.all (ceOk 5) = true := by decide +kernel
def cert5_2 : List (Nat × List Int) := [(222, [0, 1, 2, 3, 4]), (223, [0, 1, 2, 3, 4]), (224, [0, 1, 2, 4, 3]), (225, [0, 2, 1, 4, 3]), (229, [0, 2, 4, 1, 3]), (231, [0, 1, 3, 4, 2]), (245, [0, 3, 1, 2, 4]), (247, [0, 1, 3, 2, 4]), (254, [0, 1, 2, 3, 4]), (255, [0, 1, 2, 3, 4]), (262, [1, 0, 2, 4, 3]), (263, [0, 1, 2, 4, 3]), (271, [0, 1, 2, 4, 3]), (274, [1, 2, 4, 0, 3]), (278, [1, 2, 0, 4, 3]), (280, [0, 1, 3, 4, 2]), (282, [0, 2, 3, 4, 1]), (286, [0, 2, 1, 4, 3]), (287, [0, 1, 2, 4, 3]), (288, [0, 1, 2, 4, 3]), (289, [0, 1, 2, 4, 3]), (290, [1, 0, 2, 4, 3]), (293, [0, 1, 2, 4, 3]), (294, [1, 0, 2, 4, 3]), (295, [0, 1, 2, 4, 3]), (304, [0, 1, 3, 4, 2]), (306, [1, 0, 3, 4, 2]), (312, [0, 1, 3, 4, 2]), (387, [0, 2, 3, 1, 4]), (391, [0, 1, 4, 2, 3]), (392, [0, 1, 3, 2, 4]), (394, [0, 2, 3, 1, 4]), (395, [0, 2, 3, 1, 4])]
theorem cert5_2_ok : cert5_2.all (ceOk 5) = true := by decide +kernel
def cert5_3 : List (Nat × List Int) := [(399, [0, 1, 4, 2, 3]), (402, [1, 3, 0, 2, 4]), (403, [1, 3, 0, 2, 4]), (408, [0, 1, 3, 2, 4]), (410, [0, 2, 3, 1, 4]), (421, [0, 1, 3, 4, 2]), (423, [0, 1, 3, 4, 2]), (432, [0, 1, 3, 2, 4]), (434, [1, 0, 3, 2, 4]), (435, [1, 0, 3, 2, 4]), (436, [0, 1, 3, 2, 4]), (437, [0, 1, 3, 2, 4]), (439, [0, 1, 3, 2, 4]), (440, [0, 1, 3, 2, 4]), (444, [0, 1, 3, 2, 4]), (448, [0, 1, 2, 3, 4]), (449, [0, 2, 1, 3, 4]), (451, [0, 2, 3, 1, 4]), (455, [0, 1, 4, 3, 2]), (456, [0, 1, 2, 3, 4]), (465, [1, 2, 0, 3, 4]), (467, [1, 2, 3, 0, 4]), (472, [0, 1, 2, 3, 4]), (473, [1, 0, 2, 3, 4]), (487, [0, 1, 3, 4, 2]), (499, [1, 0, 3, 2, 4]), (503, [0, 1, 3, 2, 4]), (504, [0, 1, 2, 3, 4]), (505, [1, 0, 2, 3, 4]), (507, [1, 0, 2, 3, 4]), (508, [0, 1, 2, 3, 4]), (510, [0, 1, 2, 3, 4]), (511, [0, 1, 2, 3, 4])]
theorem cert5_3_ok : cert5_3.all (ceOk 5) = true := by decide +kernel
def cert5_4 : List (Nat × List Int) := [(512, [0, 1, 2, 3, 4]), (513, [0, 1, 2, 3, 4]), (515, [0, 1, 2, 3, 4]), (516, [1, 0, 2, 3, 4]), (518, [1, 0, 2, 3, 4]), (519, [0, 1, 2, 3, 4]), (520, [0, 1, 3, 2, 4]), (524, [1, 0, 3, 2, 4]), (536, [0, 1, 3, 4, 2]), (550, [1, 0, 2, 3, 4]), (551, [0, 1, 2, 3, 4]), (556, [1, 2, 3, 0, 4]), (558, [1, 2, 0, 3, 4]), (567, [0, 1, 2, 3, 4]), (568, [0, 1, 4, 3, 2]), (572, [0, 2, 3, 1, 4]), (574, [0, 2, 1, 3, 4]), (575, [0, 1, 2, 3, 4]), (579, [0, 1, 3, 2, 4]), (583, [0, 1, 3, 2, 4]), (584, [0, 1, 3, 2, 4]), (586, [0, 1, 3, 2, 4]), (587, [0, 1, 3, 2, 4]), (588, [1, 0, 3, 2, 4]), (589, [1, 0, 3, 2, 4]), (591, [0, 1, 3, 2, 4]), (600, [0, 1, 3, 4, 2]), (602, [0, 1, 3, 4, 2]), (613, [0, 2, 3, 1, 4]), (615, [0, 1, 3, 2, 4]), (620, [1, 3, 0, 2, 4]), (621, [1, 3, 0, 2, 4]), (624, [0, 1, 4, 2, 3])]
theorem cert5_4_ok : cert5_4.all (ceOk 5) = true := by decide +kernel
def cert5_5 : List (Nat × List Int) := [(628, [0, 2, 3, 1, 4]), (629, [0, 2, 3, 1, 4]), (631, [0, 1, 3, 2, 4]), (632, [0, 1, 4, 2, 3]), (636, [0, 2, 3, 1, 4]), (711, [0, 1, 3, 4, 2]), (717, [1, 0, 3, 4, 2]), (719, [0, 1, 3, 4, 2]), (728, [0, 1, 2, 4, 3]), (729, [1, 0, 2, 4, 3]), (730, [0, 1, 2, 4, 3]), (733, [1, 0, 2, 4, 3]), (734, [0, 1, 2, 4, 3]), (735, [0, 1, 2, 4, 3]), (736, [0, 1, 2, 4, 3]), (737, [0, 2, 1, 4, 3]), (741, [0, 2, 3, 4, 1]), (743, [0, 1, 3, 4, 2]), (745, [1, 2, 0, 4, 3]), (749, [1, 2, 4, 0, 3]), (752, [0, 1, 2, 4, 3]), (760, [0, 1, 2, 4, 3]), (761, [1, 0, 2, 4, 3]), (768, [0, 1, 2, 3, 4]), (769, [0, 1, 2, 3, 4]), (776, [0, 1, 3, 2, 4]), (778, [0, 3, 1, 2, 4]), (792, [0, 1, 3, 4, 2]), (794, [0, 2, 4, 1, 3]), (798, [0, 2, 1, 4, 3]), (799, [0, 1, 2, 4, 3]), (800, [0, 1, 2, 3, 4]), (801, [0, 1, 2, 3, 4])]
theorem cert5_5_ok : cert5_5.all (ceOk 5) = true := by decide +kernel
def cert5_6 : List (Nat × List Int) := [(802, [1, 0, 2, 3, 4]), (805, [0, 1, 2, 3, 4]), (806, [1, 0, 2, 3, 4]), (807, [0, 1, 2, 3, 4]), (810, [1, 2, 0, 3, 4]), (814, [1, 2, 0, 3, 4]), (821, [0, 1, 2, 3, 4]), (823, [0, 1, 2, 3, 4]), (830, [0, 2, 1, 3, 4]), (831, [0, 1, 2, 3, 4]), (833, [0, 2, 1, 3, 4]), (835, [0, 2, 3, 1, 4]), (842, [0, 3, 1, 2, 4]), (843, [0, 3, 1, 2, 4]), (858, [0, 2, 4, 1, 3]), (862, [0, 2, 1, 4, 3]), (865, [0, 2, 1, 3, 4]), (869, [0, 2, 1, 3, 4]), (873, [2, 0, 1, 3, 4]), (874, [2, 1, 0, 3, 4]), (875, [2, 1, 0, 3, 4]), (876, [2, 0, 1, 3, 4]), (877, [2, 0, 1, 3, 4]), (878, [2, 0, 1, 3, 4]), (884, [0, 2, 1, 3, 4]), (885, [0, 2, 1, 3, 4]), (892, [0, 2, 1, 3, 4]), (894, [0, 2, 1, 3, 4]), (896, [0, 1, 2, 3, 4]), (904, [0, 1, 3, 2, 4]), (906, [0, 3, 1, 2, 4]), (907, [0, 3, 2, 1, 4]), (911, [0, 1, 4, 2, 3])]
theorem cert5_6_ok : cert5_6.all (ceOk 5) = true := by decide +kernel
def cert5_7 : List (Nat × List Int) := [(927, [0, 1, 2, 4, 3]), (928, [0, 1, 2, 3, 4]), (930, [1, 0, 2, 3, 4]), (938, [1, 2, 0, 3, 4]), (939, [1, 2, 0, 3, 4]), (944, [0, 1, 2, 3, 4]), (946, [1, 0, 2, 3, 4]), (947, [1, 0, 2, 3, 4]), (948, [0, 1, 2, 3, 4]), (949, [0, 1, 2, 3, 4]), (951, [0, 1, 2, 3, 4]), (955, [1, 0, 2, 3, 4]), (959, [0, 1, 2, 3, 4]), (960, [0, 1, 2, 3, 4]), (961, [0, 2, 1, 3, 4]), (963, [0, 2, 3, 1, 4]), (967, [0, 1, 4, 3, 2]), (971, [0, 3, 2, 1, 4]), (975, [0, 1, 4, 2, 3]), (990, [0, 1, 2, 4, 3]), (991, [0, 1, 2, 4, 3]), (992, [0, 1, 2, 3, 4]), (993, [0, 2, 1, 3, 4]), (1001, [1, 2, 0, 3, 4]), (1003, [1, 2, 0, 3, 4]), (1008, [0, 1, 2, 3, 4]), (1012, [0, 1, 2, 3, 4]), (1016, [0, 1, 2, 3, 4]), (1017, [1, 0, 2, 3, 4]), (1019, [1, 0, 2, 3, 4]), (1020, [0, 1, 2, 3, 4]), (1022, [0, 1, 2, 3, 4]), (1023, [0, 1, 2, 3, 4])]
theorem cert5_7_ok : cert5_7.all (ceOk 5) = true := by decide +kernel
def cert (n : Nat) : List (Nat × List Int) := if n = 3 then cert3_0 else if n = 4 then cert4_0 else cert5_0 ++ cert5_1 ++ cert5_2 ++ cert5_3 ++ cert5_4 ++ cert5_5 ++ cert5_6 ++ cert5_7
theorem cert_ok (n : Nat) (h3 : 3 ≤ n) (h5 : n ≤ 5) : (cert n).all (ceOk n) = true := by
  have : n = 3 ∨ n = 4 ∨ n = 5 := by omega
  rcases this with rfl | rfl | rfl
  · exact cert3_0_ok
  · exact cert4_0_ok
  · show (cert5_0 ++ cert5_1 ++ cert5_2 ++ cert5_3 ++ cert5_4 ++ cert5_5 ++ cert5_6 ++ cert5_7).all (ceOk 5) = true
    simp only [List.all_append, cert5_0_ok, cert5_1_ok, cert5_2_ok, cert5_3_ok, cert5_4_ok, cert5_5_ok, cert5_6_ok, cert5_7_ok, Bool.and_true]
def inC5 (n c : Nat) : Bool := !isA (n : Int) (txt n c) || (cert n).any fun e => e.1 == c
theorem in3 : (List.range 2).all (inC5 3) = true := by decide +kernel
theorem in4 : (List.range 16).all (inC5 4) = true := by decide +kernel
theorem in5_0 : (List.range 128).all (fun i => inC5 5 (0 + i)) = true := by decide +kernel
theorem in5_1 : (List.range 128).all (fun i => inC5 5 (128 + i)) = true := by decide +kernel
theorem in5_2 : (List.range 128).all (fun i => inC5 5 (256 + i)) = true := by decide +kernel
theorem in5_3 : (List.range 128).all (fun i => inC5 5 (384 + i)) = true := by decide +kernel
theorem in5_4 : (List.range 128).all (fun i => inC5 5 (512 + i)) = true := by decide +kernel
theorem in5_5 : (List.range 128).all (fun i => inC5 5 (640 + i)) = true := by decide +kernel
theorem in5_6 : (List.range 128).all (fun i => inC5 5 (768 + i)) = true := by decide +kernel
theorem in5_7 : (List.range 128).all (fun i => inC5 5 (896 + i)) = true := by decide +kernel
theorem in_at (n : Nat) (h3 : 3 ≤ n) (h5 : n ≤ 5) (c : Nat) (hc : c < 2 ^ (tri n).length) (hA : isA (n : Int) (txt n c) = true) : ∃ q ∈ AN n, ∃ e ∈ nodes n, (pickT n (txt n c) q).data.toList = e.s := by
  have hin : inC5 n c = true := by
    have : n = 3 ∨ n = 4 ∨ n = 5 := by omega
    rcases this with rfl | rfl | rfl
    · exact List.all_eq_true.1 in3 c (List.mem_range.2 hc)
    · exact List.all_eq_true.1 in4 c (List.mem_range.2 hc)
    · have hc : c < 1024 := hc
      have key : ∀ j, j < 8 → (List.range 128).all (fun i => inC5 5 (128 * j + i)) = true := by
        intro j hj
        have : j = 0 ∨ j = 1 ∨ j = 2 ∨ j = 3 ∨ j = 4 ∨ j = 5 ∨ j = 6 ∨ j = 7 := by omega
        rcases this with rfl | rfl | rfl | rfl | rfl | rfl | rfl | rfl
        · exact in5_0
        · exact in5_1
        · exact in5_2
        · exact in5_3
        · exact in5_4
        · exact in5_5
        · exact in5_6
        · exact in5_7
      have h := List.all_eq_true.1 (key (c / 128) (by omega)) (c % 128) (List.mem_range.2 (by omega))
      rw [show 128 * (c / 128) + c % 128 = c by omega] at h
      exact h
  unfold inC5 at hin
  rw [hA, Bool.not_true, Bool.false_or, List.any_eq_true] at hin
  obtain ⟨e, he, hec⟩ := hin
  have hk := List.all_eq_true.1 (cert_ok n h3 h5) e he
  unfold ceOk at hk
  rw [Bool.and_eq_true] at hk
  have e1 : e.1 = c := by simpa using hec
  rw [e1] at hk
  have h2 : (pickT n (txt n c) e.2).data.toList ∈ (nodes n).map Nd.s := by simpa using hk.2
  obtain ⟨d, hd, hs⟩ := List.mem_map.1 h2
  exact ⟨e.2, okNm_mem n e.2 hk.1, d, hd, hs.symm⟩
set_option maxRecDepth 100000
open Go.RowKit Go.Proofs.YtoajlmlobaccdaaW.PrintWords Go.Proofs.Ytoajlmlobaccdaa.P Go.Proofs.Ytoajlmlobaccdaa.Pl
def LTof (n : Nat) (s : ByteArray) : ByteArray := minL s ((AN n).flatMap fun q => [pickT n s q, pickT n (oppT s) q])
theorem isS_good {n : Nat} {s : ByteArray} (h : isS (n : Int) s = true) : 3 ≤ n ∧ n ≤ 7 ∧ s.size = (tri n).length ∧ s.size ≤ 35 ∧ (List.range s.size).all (isPM s) = true := by
  obtain ⟨m, hm, h3, h7, hs, h35, hp⟩ := isS_nat h
  obtain rfl : n = m := by omega
  exact ⟨h3, h7, hs, h35, hp⟩
theorem orb_mem (n : Nat) (hn : n ≤ 6) (s : ByteArray) (h : isS (n : Int) s = true) (z : ByteArray) : z ∈ s :: ((AN n).flatMap fun q => [pickT n s q, pickT n (oppT s) q]) ↔ ∃ q ∈ AN n, z = pickT n s q ∨ z = pickT n (oppT s) q := by
  obtain ⟨h3, h7, hs, h35, hpm⟩ := isS_good h
  rw [List.mem_cons, List.mem_flatMap]
  constructor
  · rintro (h | ⟨q, hq, h⟩)
    · exact ⟨idL n, id_mem n hn, .inl (by rw [pick_id n hn s hs hpm]; exact h)⟩
    · exact ⟨q, hq, by simpa using h⟩
  · rintro ⟨q, hq, h⟩
    exact .inr ⟨q, hq, by simpa using h⟩
theorem least_ev (n : Nat) (hn : n ≤ 6) (s : ByteArray) (h : isS (n : Int) s = true) : Ev (fun k => spec_LeastSigns.f k (n : Int) s) ((n : Int), LTof n s, true) ∧ Ev (fun k => impl_LeastSigns.f k (n : Int) s) ((n : Int), LTof n s, true) := by
  obtain ⟨h3, h7, hs, h35, hpm⟩ := isS_good h
  have hF := fits_ev (n : Int) s
  rw [h, decide_eq_true (show (n : Int) ≤ 6 by omega)] at hF
  have h1 := spec_least n hn s (oppT s) hs (by rw [oppT_sizeL]; exact hs) (AN n).length 0 (by omega) s
  rw [List.drop_zero] at h1
  have hS : Ev (fun k => spec_LeastSigns.f k (n : Int) s) ((n : Int), LTof n s, true) := by
    unfold spec_LeastSigns.f
    exact Ev.bind hF (Ev.ite_pos rfl (Ev.bind (opp_spec n s h) (Ev.bind (orders_ev n hn) h1)))
  obtain ⟨v, e1, e2⟩ := least_both (n : Int) s (by omega)
  have := Ev.uniq e1 hS
  rw [this] at e2
  exact ⟨hS, e2⟩
theorem pick_good (n : Nat) (h5 : n ≤ 6) (s : ByteArray) (h : isS (n : Int) s = true) (q : List Int) : isS (n : Int) (pickT n s q) = true := by
  obtain ⟨h3, h7, hs, h35, hpm⟩ := isS_good h
  have hz := pick_size n s q
  have hl : (pickC n s q).length = (tri n).length := by unfold pickC; rw [List.length_map]
  unfold isS at h ⊢
  rw [Bool.and_eq_true] at h ⊢
  have hd := of_decide_eq_true h.1
  refine ⟨decide_eq_true ⟨hd.1, hd.2.1, by rw [hz, ← hs]; exact hd.2.2⟩, ?_⟩
  rw [List.all_eq_true]
  intro m hm
  have hm : m < (tri n).length := by rw [hz] at hm; simpa using hm
  have e0 : (pickC n s q)[m]'(by omega) = pm (sg n s (rd q (tri n)[m].f0) (rd q (tri n)[m].f1) (rd q (tri n)[m].f2)) := by simp [pickC]
  have e : bt (pickT n s q) (m : Int) = pm (sg n s (rd q (tri n)[m].f0) (rd q (tri n)[m].f1) (rd q (tri n)[m].f2)) := by
    unfold pickT
    rw [bt_strOf _ _ (by omega) (by rw [e0]; unfold pm; split <;> decide), e0]
  unfold isPM
  rw [e]
  unfold pm
  split <;> rfl
theorem inv_comp (n : Nat) (h5 : n ≤ 6) (q p : List Int) (hq : q ∈ AN n) (hp : p ∈ AN n) : comp q (comp (inv q) p) = p := by
  have hQ := AN_P n h5 q hq
  have hP := AN_P n h5 p hp
  have hl : p.length = n := hP.1
  apply List.ext_getElem
  · unfold comp; rw [List.length_map, List.length_map]
  · intro i h1 h2
    have hi : i < n := by omega
    obtain ⟨a, ha⟩ := Int.eq_ofNat_of_zero_le (hP.2.2 i hi).1.1
    have ha2 : a < n := by have := (hP.2.2 i hi).1.2.1; omega
    have e1 : p[i] = (a : Int) := by rw [← rdIdx p i h2, ha]
    have e2 : (comp (inv q) p)[i]'(by unfold comp; rw [List.length_map]; exact h2) = rd (inv q) (a : Int) := by
      simp only [comp, List.getElem_map, e1]
    have e3 : (comp q (comp (inv q) p))[i] = rd q (rd (inv q) (a : Int)) := by
      have : (comp q (comp (inv q) p))[i] = rd q ((comp (inv q) p)[i]'(by unfold comp; rw [List.length_map]; exact h2)) := by simp only [comp, List.getElem_map]
      rw [this, e2]
    rw [e3, e1]
    obtain ⟨b, hb⟩ := Int.eq_ofNat_of_zero_le (hQ.2.2 a ha2).1.2.2.1
    have hb2 : b < n := by have := (hQ.2.2 a ha2).1.2.2.2; omega
    rw [hb]
    exact (((hQ.2.2 b hb2).2 a ha2).2 hb).symm
theorem LT_pick (n : Nat) (h3 : 3 ≤ n) (h5 : n ≤ 5) (s : ByteArray) (h : isS (n : Int) s = true) (q : List Int) (hq : q ∈ AN n) : LTof n (pickT n s q) = LTof n s := by
  obtain ⟨_, _, hs, h35, hpm⟩ := isS_good h
  have ho : isS (n : Int) (pickT n s q) = true := pick_good n (by omega) s h q
  have hopp : oppT (pickT n s q) = pickT n (oppT s) q := (pick_opp n (by omega) s hs hpm q (AN_P n (by omega) q hq)).symm
  refine minL_unique _ _ _ _ (fun z => ?_)
  rw [orb_mem n (by omega) _ ho, orb_mem n (by omega) _ h, hopp]
  constructor
  · rintro ⟨p, hp, hz⟩
    refine ⟨comp q p, comp_mem n h3 h5 q p hq hp, ?_⟩
    rw [pick_pick n h3 h5 s q p hq hp, pick_pick n h3 h5 (oppT s) q p hq hp] at hz
    exact hz
  · rintro ⟨p, hp, hz⟩
    have hi := inv_mem n (by omega) q hq
    have hc := comp_mem n h3 h5 (inv q) p hi hp
    refine ⟨comp (inv q) p, hc, ?_⟩
    rw [pick_pick n h3 h5 s q _ hq hc, pick_pick n h3 h5 (oppT s) q _ hq hc, inv_comp n (by omega) q p hq hp]
    exact hz
def numOf (b : List UInt8) : Nat := b.foldr (fun x a => 2 * a + (if x = 43 then 1 else 0)) 0
theorem nodes_in : ([3, 4, 5] : List Nat).all (fun n => (nodes n).all fun e => decide (numOf e.s < 2 ^ (tri n).length) && ((txt n (numOf e.s)).data.toList == e.s && isA (n : Int) (txt n (numOf e.s)))) = true := by decide +kernel
theorem node_at (n : Nat) (h3 : 3 ≤ n) (h5 : n ≤ 5) (e : Nd) (he : e ∈ nodes n) : ∃ c, c < 2 ^ (tri n).length ∧ txt n c = ⟨e.s.toArray⟩ ∧ isA (n : Int) (txt n c) = true := by
  have h := List.all_eq_true.1 (List.all_eq_true.1 nodes_in n (by simp; omega)) e he
  rw [Bool.and_eq_true, Bool.and_eq_true] at h
  exact ⟨numOf e.s, of_decide_eq_true h.1, ByteArray.ext (Array.ext' (eq_of_beq h.2.1)), h.2.2⟩
theorem ty_ev (n : Nat) (h3 : 3 ≤ n) (h5 : n ≤ 5) : ∀ (l : List (List Int)) (out : List ByteArray), (∀ w ∈ l, ∃ e ∈ nodes n, e.w = w) → out.length + l.length ≤ 1000000 → ascB out → ∃ o, Ev (fun k => tyF k (n : Int) l out) o ∧ ascB o ∧ (∀ z, z ∈ o ↔ z ∈ out ∨ ∃ e ∈ nodes n, e.w ∈ l ∧ z = LTof n ⟨e.s.toArray⟩) ∧ o.length ≤ out.length + l.length
  | [], out, _, _, ha => ⟨out, Ev.const rfl, ha, fun z => ⟨.inl, fun h => h.elim id (fun ⟨_, _, h, _⟩ => by cases h)⟩, Nat.le_refl _⟩
  | w :: r, out, hw, hl, ha => by
    rw [List.length_cons] at hl
    obtain ⟨e, he, rfl⟩ := hw w List.mem_cons_self
    obtain ⟨c, hc, htx, hA⟩ := node_at n h3 h5 e he
    have hS : isS (n : Int) (⟨e.s.toArray⟩ : ByteArray) = true := by rw [← htx]; exact isM_S (by unfold isA at hA; rw [Bool.and_eq_true] at hA; exact hA.1)
    have h1 := sgT_ev n h3 h5 e he
    have h2 := (least_ev n (by omega) _ hS).1
    have h3' := l19Put_ev out (LTof n ⟨e.s.toArray⟩) (by omega)
    have hpl := putB_len out (LTof n ⟨e.s.toArray⟩)
    obtain ⟨o, ho, hoa, hom, hol⟩ := ty_ev n h3 h5 r (putB out (LTof n ⟨e.s.toArray⟩)) (fun w hw' => hw w (List.mem_cons_of_mem _ hw')) (by omega) (putB_asc _ _ ha)
    refine ⟨o, Ev.bind h1 (Ev.bind h2 (Ev.bind h3' ho)), hoa, fun z => ?_, by rw [List.length_cons]; omega⟩
    rw [hom z, putB_mem]
    constructor
    · rintro ((h | h) | ⟨d, hd, hdw, hz⟩)
      · exact .inr ⟨e, he, List.mem_cons_self, h⟩
      · exact .inl h
      · exact .inr ⟨d, hd, List.mem_cons_of_mem _ hdw, hz⟩
    · rintro (h | ⟨d, hd, hdw, hz⟩)
      · exact .inl (.inr h)
      · rcases List.mem_cons.1 hdw with hew | hdw
        · have hu : d.s = e.s := by
            have g1 := sgT_ev n h3 h5 d hd
            rw [hew] at g1
            have g2 := Ev.uniq g1 h1
            have g3 := congrArg (fun x : Int × ByteArray × Bool => x.2.1.data.toList) g2
            simpa using g3
          rw [hu] at hz
          exact .inl (.inl hz)
        · exact .inr ⟨d, hd, hdw, hz⟩
theorem spec_types (n : Nat) (h3 : 3 ≤ n) (h5 : n ≤ 5) : ∃ o, Ev (fun k => spec_TypesOf.f k (n : Int)) o ∧ ascB o ∧ (∀ z, z ∈ o ↔ ∃ e ∈ nodes n, z = LTof n ⟨e.s.toArray⟩) ∧ o.length ≤ 62 := by
  obtain ⟨r, hr, hp⟩ := normals_ev n h3 h5
  have hs := List.all_eq_true.1 start_all n (by simp; omega)
  rw [Bool.and_eq_true, Bool.and_eq_true, Bool.and_eq_true] at hs
  have hle : (ordT n).length ≤ 62 := of_decide_eq_true hs.2
  have hlen := hp.length_eq
  obtain ⟨o, ho, hoa, hom, hol⟩ := ty_ev n h3 h5 r [] (fun w hw => by
    obtain ⟨e, he, h⟩ := List.mem_map.1 (hp.mem_iff.1 hw)
    exact ⟨e, he, h⟩) (by simp only [List.length_nil]; omega) List.Pairwise.nil
  refine ⟨o, ?_, hoa, fun z => ?_, by simp only [List.length_nil] at hol; omega⟩
  · unfold spec_TypesOf.f
    exact Ev.bind0 (eq_of_beq hs.1.1.2) (Ev.ite_pos rfl (Ev.bind hr (Ev.ite_pos (by omega) ho)))
  · rw [hom z]
    constructor
    · rintro (h | ⟨e, he, _, hz⟩)
      · cases h
      · exact ⟨e, he, hz⟩
    · rintro ⟨e, he, hz⟩
      exact .inr ⟨e, he, hp.mem_iff.2 (List.mem_map.2 ⟨e, he, rfl⟩), hz⟩
set_option maxRecDepth 100000
open Go.RowKit Go.Proofs.YtoajlmlobaccdaaW.PrintWords Go.Proofs.Ytoajlmlobaccdaa.P Go.Proofs.Ytoajlmlobaccdaa.Pl
def bitV (c k : Nat) : Int := if c.testBit k then 1 else -1
theorem all_bit : (List.range 1024).all (fun c => (List.range 10).all fun k => wrap64 (wrap64 (2 * (Go.bits .and .i64 (shr .i64 (c : Int) (k : Int)) 1)) - 1) == bitV c k) = true := by decide +kernel
theorem bit_at (c k : Nat) (hc : c < 1024) (hk : k < 10) : wrap64 (wrap64 (2 * (Go.bits .and .i64 (shr .i64 (c : Int) (k : Int)) 1)) - 1) = bitV c k :=
  eq_of_beq (List.all_eq_true.1 (List.all_eq_true.1 all_bit c (List.mem_range.2 hc)) k (List.mem_range.2 hk))
theorem all_pow : ([3, 4, 5] : List Nat).all (fun n => decide (shl .i64 1 ((tri n).length : Int) = ((2 ^ (tri n).length : Nat) : Int) ∧ (tri n).length ≤ 10 ∧ 2 ^ (tri n).length ≤ 1024)) = true := by decide +kernel
theorem pow_at (n : Nat) (h3 : 3 ≤ n) (h5 : n ≤ 5) : shl .i64 1 ((tri n).length : Int) = ((2 ^ (tri n).length : Nat) : Int) ∧ (tri n).length ≤ 10 ∧ 2 ^ (tri n).length ≤ 1024 :=
  of_decide_eq_true (List.all_eq_true.1 all_pow n (by simp; omega))
def tabV (n c : Nat) : List Int := fill (bitV c) (tri n) 0 (chiNew n)
theorem tabV_codes (n : Nat) (h5 : n ≤ 5) (c : Nat) : strOfNums (codesT (tabV n c) (tri n)) = txt n c := by
  unfold txt
  congr 1
  apply List.ext_getElem
  · simp [codesT]
  · intro m h1 h2
    have hm : m < (tri n).length := by simpa [codesT] using h1
    obtain ⟨x, y, z, hxy, hyz, hzn, e⟩ := tri_nat n (by omega) m hm
    have hsrc := tri_src n (by omega) m hm
    rw [e] at hsrc
    have hch := chiA_fill (bitV c) x y z (by omega) (by omega) (by omega) (tri n) (tri_ok7 n (by omega)) 0 (chiNew n) (chiNew_length _)
    simp only [codesT, List.getElem_map, List.getElem_range, e]
    show pm (chiA (tabV n c) x y z) = _
    unfold tabV
    rw [hch, hsrc]
    show pm (bitV c m) = _
    unfold bitV pm
    cases c.testBit m <;> rfl
def outsI (n c : Nat) : List ByteArray := ((List.range c).filter fun c => isA (n : Int) (txt n c)).map fun c => LTof n (txt n c)
theorem outsI_succ (n c : Nat) : outsI n (c + 1) = outsI n c ++ if isA (n : Int) (txt n c) = true then [LTof n (txt n c)] else [] := by
  unfold outsI
  rw [List.range_succ, List.filter_append, List.map_append]
  congr 1
  cases h : isA (n : Int) (txt n c) with
  | true => simp [h]
  | false => simp [h]
theorem outsI_len (n c : Nat) : (outsI n c).length ≤ c := by
  unfold outsI
  rw [List.length_map]
  have := List.length_filter_le (fun c => isA (n : Int) (txt n c)) (List.range c)
  rw [List.length_range] at this
  exact this
theorem impl_types (n : Nat) (h3 : 3 ≤ n) (h5 : n ≤ 5) : Ev (fun k => impl_TypesOf.f k (n : Int)) (compS (sortS (outsI n (2 ^ (tri n).length)))) := by
  obtain ⟨hp, h10, h1024⟩ := pow_at n h3 h5
  unfold impl_TypesOf.f
  refine Ev.ite_neg (by omega) ?_
  rw [decide_eq_false (show ¬ ((n : Int) > 5) by omega)]
  refine Ev.step (fun k => impl_TypesOf.j0.eq_2 ..) (Ev.ite_neg (by simp) (Ev.bind (triplesOf_ev n (by omega)) ?_))
  refine Ev.loop (fun c k => impl_TypesOf.l0 k (n : Int) (tri n) (outsI n c) (c : Nat)) (2 ^ (tri n).length) _ ?_ ?_ 0 (Nat.zero_le _)
  · refine Ev.step (fun k => impl_TypesOf.l0.eq_2 ..) (Ev.ite_neg (by rw [hp]; omega) ?_)
    have hl := outsI_len n (2 ^ (tri n).length)
    have e1 : slices_Sort_Sstring_string.f (outsI n (2 ^ (tri n).length)) = some (sortS (outsI n (2 ^ (tri n).length))) := by
      unfold slices_Sort_Sstring_string.f
      rw [if_pos (by omega)]
    have hl2 := sortS_length (outsI n (2 ^ (tri n).length))
    have e2 : slices_Compact_Sstring_string.f (sortS (outsI n (2 ^ (tri n).length))) = some (compS (sortS (outsI n (2 ^ (tri n).length)))) := rfl
    exact Ev.bind0 e1 (Ev.bind0 e2 (Ev.now _))
  · intro c hc ih
    refine Ev.step (fun k => impl_TypesOf.l0.eq_2 ..) (Ev.ite_pos (by rw [hp]; omega) ?_)
    have key := Ev.loop (fun j k => impl_TypesOf.l1 k (n : Int) (tri n) (outsI n c) (c : Nat) (fill (bitV c) ((tri n).take j) 0 (chiNew n)) (tri n) ((tri n).length : Int) (j : Nat)) (tri n).length (compS (sortS (outsI n (2 ^ (tri n).length)))) ?_ ?_ 0 (by omega)
    · simpa [fill] using key
    · rw [List.take_length]
      refine Ev.step (fun k => impl_TypesOf.l1.eq_2 ..) (Ev.ite_neg (by omega) ?_)
      have hl : (tabV n c).length = 344 := by unfold tabV; rw [fill_length, chiNew_length]
      have hcN : chiN (tabV n c) = n := by unfold tabV; rw [chiN_fill _ _ _ _ (chiNew_length _)]; rfl
      have hs := signs_ev n (by omega) (tabV n c) hl hcN
      rw [tabV_codes n h5 c] at hs
      refine Ev.bind hs (Ev.bind (impl_IsAcyclic_ev (n : Int) (txt n c)) ?_)
      rw [outsI_succ] at ih
      rw [wrap_nat c (by omega)]
      cases hA : isA (n : Int) (txt n c) with
      | true =>
        rw [hA, if_pos rfl] at ih
        have hS : isS (n : Int) (txt n c) = true := isM_S (by unfold isA at hA; rw [Bool.and_eq_true] at hA; exact hA.1)
        have hle := outsI_len n c
        exact Ev.ite_pos rfl (Ev.bind (least_ev n (by omega) _ hS).2 (Ev.ite_pos (by omega) ih))
      | false =>
        rw [hA, if_neg (by simp), List.append_nil] at ih
        exact Ev.ite_neg (by simp) ih
    · intro j hj ih2
      refine Ev.step (fun k => impl_TypesOf.l1.eq_2 ..) (Ev.ite_pos (by omega) (Ev.ite_pos (by omega) (Ev.ite_pos (by omega) ?_)))
      have ht := tri_at n (by omega) j hj
      rw [wrap_nat j (by omega), rdT_lt _ j hj, bit_at c j (by omega) (by omega)]
      rw [List.take_succ_eq_append_getElem hj, fill_append, Nat.zero_add, List.length_take, Nat.min_eq_left (by omega)] at ih2
      have hl : (fill (bitV c) ((tri n).take j) 0 (chiNew n)).length = 344 := by rw [fill_length, chiNew_length]
      generalize fill (bitV c) ((tri n).take j) 0 (chiNew n) = l at ih2 hl ⊢
      generalize (tri n)[j] = t at ih2 ht ⊢
      unfold okT at ht
      rw [decide_eq_true_eq] at ht
      have hset : impl_chi_set.f l t.f0 t.f1 t.f2 (bitV c j) = some (put3 l t (bitV c j)) := by
        unfold impl_chi_set.f
        rw [if_pos ⟨hl, by omega, by omega, by omega⟩]
        rfl
      exact Ev.bind0 hset ih2
theorem types_same (n : Nat) (h3 : 3 ≤ n) (h5 : n ≤ 5) : ∃ v : List ByteArray, Ev (fun k => spec_TypesOf.f k (n : Int)) v ∧ Ev (fun k => impl_TypesOf.f k (n : Int)) v ∧ v.length ≤ 62 := by
  obtain ⟨o, ho, hoa, hom, hol⟩ := spec_types n h3 h5
  have hi := impl_types n h3 h5
  have e : o = compS (sortS (outsI n (2 ^ (tri n).length))) := by
    refine asc_unique hoa (compS_asc _) (fun z => ?_)
    rw [hom z, (compS_spec _).2 z]
    unfold outsI
    rw [List.mem_map]
    constructor
    · rintro ⟨e, he, rfl⟩
      obtain ⟨c, hc, htx, hA⟩ := node_at n h3 h5 e he
      exact ⟨c, List.mem_filter.2 ⟨List.mem_range.2 hc, hA⟩, by rw [htx]⟩
    · rintro ⟨c, hc, rfl⟩
      obtain ⟨hc1, hA⟩ := List.mem_filter.1 hc
      obtain ⟨q, hq, d, hd, hs⟩ := in_at n h3 h5 c (List.mem_range.1 hc1) hA
      have hS : isS (n : Int) (txt n c) = true := isM_S (by unfold isA at hA; rw [Bool.and_eq_true] at hA; exact hA.1)
      refine ⟨d, hd, ?_⟩
      rw [← LT_pick n h3 h5 _ hS q hq]
      congr 1
      exact ByteArray.ext (Array.ext' hs)
  rw [← e] at hi
  exact ⟨o, ho, hi, hol⟩
theorem types_both (n : Int) : ∃ v : List ByteArray, Ev (fun k => spec_TypesOf.f k n) v ∧ Ev (fun k => impl_TypesOf.f k n) v ∧ v.length ≤ 62 := by
  by_cases h : 3 ≤ n ∧ n ≤ 5
  · obtain ⟨m, rfl⟩ := Int.eq_ofNat_of_zero_le (show 0 ≤ n by omega)
    exact types_same m (by omega) (by omega)
  · refine ⟨[], ?_, ?_, by simp⟩
    · have e : spec_l1In.f n 3 5 = some false := by
        unfold spec_l1In.f
        by_cases h1 : n ≥ 3
        · rw [if_pos h1, decide_eq_false (by omega)]
        · rw [if_neg h1]
      unfold spec_TypesOf.f
      exact Ev.bind0 e (Ev.ite_neg (by simp) (Ev.now _))
    · unfold impl_TypesOf.f
      have hj : Ev (fun k => impl_TypesOf.j0 k n true) ([] : List ByteArray) := Ev.step (fun k => impl_TypesOf.j0.eq_2 ..) (Ev.ite_pos rfl (Ev.now _))
      by_cases h1 : n < 3
      · exact Ev.ite_pos h1 hj
      · refine Ev.ite_neg h1 ?_
        rw [decide_eq_true (show n > 5 by omega)]
        exact hj
end Go.Proofs.Ytoajlmlobaccdaa.Pure
namespace Go.Proofs.Ytoajlmlobaccdaa.Pure
set_option linter.unusedSimpArgs false
set_option linter.unusedVariables false
open Go.RowKit Go.Proofs.YtoajlmlobaccdaaW.PrintWords Go.Proofs.Ytoajlmlobaccdaa.P Go.Proofs.Ytoajlmlobaccdaa.Pl Go.Proofs.Ytoajlmlobaccdaa.Rk
theorem szSigns_eqY (n : Int) (s : ByteArray) (a : Int) (h0 : 0 ≤ a) (h1 : a ≤ 1048576) (hl : s.size ≤ 9223372036854775807) : laws_szSigns.f n s a = some (if a < s.size then -1 else a - s.size) := by
  unfold laws_szSigns.f
  rw [wrap_in (by omega) (by omega)]
  by_cases h : a < (s.size : Int)
  · rw [if_pos h, if_pos (by omega)]
  · rw [if_neg h, if_neg (by omega)]
def plc (x : ByteArray) : List ByteArray → Int → Int
  | [], _ => -1
  | y :: r, i => if y = x then i else plc x r (i + 1)
theorem toL_inj {a b : ByteArray} (h : a.toList = b.toList) : a = b := by
  rw [Lib.toList_data, Lib.toList_data] at h
  exact ByteArray.ext (Array.ext' h)
theorem spec_plc (l : List ByteArray) (hl : l.length ≤ 1000) (x : ByteArray) (m : Int) : ∀ d i, i + d = l.length → Ev (fun k => spec_TypeOf.l0 k l (i : Nat) m x) (plc x (l.drop i) (i : Nat))
  | 0, i, hi => by
    rw [List.drop_of_length_le (by omega)]
    exact Ev.step (fun k => spec_TypeOf.l0.eq_2 ..) (Ev.ite_neg (by omega) (Ev.now _))
  | d + 1, i, hi => by
    have hil : i < l.length := by omega
    have ih := spec_plc l hl x m d (i + 1) (by omega)
    rw [List.drop_eq_getElem_cons hil, plc]
    refine Ev.step (fun k => spec_TypeOf.l0.eq_2 ..) (Ev.ite_pos (by omega) (Ev.ite_pos (by omega) ?_))
    rw [rdB l i hil, wrap_nat i (by omega)]
    by_cases e : l[i] = x
    · rw [if_pos e]
      exact Ev.ite_pos (by rw [e]) (Ev.now _)
    · rw [if_neg e, show ((i : Nat) : Int) + 1 = ((i + 1 : Nat) : Int) by omega]
      exact Ev.ite_neg (fun h2 => e (toL_inj h2)) ih
theorem impl_plc (l : List ByteArray) (hl : l.length ≤ 1000) (x : ByteArray) : ∀ d i, i + d = l.length → Ev (fun k => slices_Index_Sstring_string.l0 k l x (l.length : Int) (i : Nat)) (plc x (l.drop i) (i : Nat))
  | 0, i, hi => by
    rw [List.drop_of_length_le (by omega)]
    exact Ev.step (fun k => slices_Index_Sstring_string.l0.eq_2 ..) (Ev.ite_neg (by omega) (Ev.now _))
  | d + 1, i, hi => by
    have hil : i < l.length := by omega
    have ih := impl_plc l hl x d (i + 1) (by omega)
    rw [List.drop_eq_getElem_cons hil, plc]
    refine Ev.step (fun k => slices_Index_Sstring_string.l0.eq_2 ..) (Ev.ite_pos (by omega) (Ev.ite_pos (by omega) (Ev.ite_pos (by omega) ?_)))
    rw [rdB l i hil, wrap_nat i (by omega)]
    by_cases e : l[i] = x
    · rw [if_pos e]
      exact Ev.ite_pos (by rw [e]) (Ev.now _)
    · rw [if_neg e, show ((i : Nat) : Int) + 1 = ((i + 1 : Nat) : Int) by omega]
      exact Ev.ite_neg (fun h2 => e (toL_inj h2.symm)) ih
theorem type_both (n : Int) (s : ByteArray) (hz : s.size ≤ 9223372036854775807) : ∃ v : Int, Ev (fun k => spec_TypeOf.f k n s) v ∧ Ev (fun k => impl_TypeOf.f k n s) v := by
  have hS := spec_IsAcyclic_ev n s
  have hI := impl_IsAcyclic_ev n s
  have s0 : Ev (fun k => spec_TypeOf.j0 k true n s) (-1) := Ev.step (fun k => spec_TypeOf.j0.eq_2 ..) (Ev.ite_pos rfl (Ev.now _))
  have i0 : Ev (fun k => impl_TypeOf.j0 k true n s) (-1) := Ev.step (fun k => impl_TypeOf.j0.eq_2 ..) (Ev.ite_pos rfl (Ev.now _))
  unfold spec_TypeOf.f impl_TypeOf.f
  cases hA : isA n s with
  | false =>
    rw [hA] at hS hI
    exact ⟨-1, Ev.bind hS (Ev.ite_neg (by simp) s0), Ev.bind hI (Ev.ite_neg (by simp) i0)⟩
  | true =>
    rw [hA] at hS hI
    by_cases h5 : n > 5
    · refine ⟨-1, Ev.bind hS (Ev.ite_pos rfl ?_), Ev.bind hI (Ev.ite_pos rfl ?_)⟩
      · rw [decide_eq_true h5]; exact s0
      · rw [decide_eq_true h5]; exact i0
    · obtain ⟨v, e1, e2⟩ := least_both n s hz
      obtain ⟨l, t1, t2, hl⟩ := types_both n
      have p1 := spec_plc l (by omega) v.2.1 v.1 l.length 0 (by omega)
      have p2 := impl_plc l (by omega) v.2.1 l.length 0 (by omega)
      rw [List.drop_zero] at p1 p2
      refine ⟨plc v.2.1 l ((0 : Nat) : Int), Ev.bind hS (Ev.ite_pos rfl ?_), Ev.bind hI (Ev.ite_pos rfl ?_)⟩
      · rw [decide_eq_false h5]
        exact Ev.step (fun k => spec_TypeOf.j0.eq_2 ..) (Ev.ite_neg (by simp) (Ev.bind e1 (Ev.bind t1 p1)))
      · rw [decide_eq_false h5]
        exact Ev.step (fun k => impl_TypeOf.j0.eq_2 ..) (Ev.ite_neg (by simp) (Ev.bind e2 (Ev.bind t2 (Ev.bind (by unfold slices_Index_Sstring_string.f; exact p2) (Ev.now _)))))
theorem FnExactTypeOf (s0 : S28) (hq : Q28 s0) : ∃ k, laws_FnExactTypeOf.f k s0.f0 s0.f1 = some true := by
  refine Ev.rounds (g := fun k => laws_FnExactTypeOf.f k s0.f0 s0.f1) ?_
  unfold laws_FnExactTypeOf.f
  refine Ev.bind0 (szSigns_eqY _ _ 1048576 (by omega) (by omega) hq.2) ?_
  by_cases hs : 1048576 < (s0.f1.size : Int)
  · rw [if_pos hs]
    exact Ev.ite_pos (by omega) (Ev.now _)
  rw [if_neg hs]
  refine Ev.ite_neg (by omega) ?_
  obtain ⟨v, h1, h2⟩ := type_both s0.f0 s0.f1 hq.2
  exact Ev.bind0 rfl (Ev.bind h1 (Ev.bind0 rfl (Ev.bind h2 (Ev.ite_pos rfl (Ev.now _)))))
end Go.Proofs.Ytoajlmlobaccdaa.Pure
