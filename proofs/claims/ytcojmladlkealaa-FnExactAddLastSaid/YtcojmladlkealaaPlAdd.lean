/- What AddFirst's and AddLast's parts come to: the places at which one more wire is taken to the beginning. -/
import Derived.Test.YtcojmladlkealaaPlWire
import Derived.Test.YtcojmladlkealaaPFImplTaken
namespace Go.Proofs.Ytcojmladlkealaa.Pure
open Go.RowKit Go.Proofs.YtcojmladlkealaaW.PrintWords Go.Proofs.Ytcojmladlkealaa.P Go.Proofs.Ytcojmladlkealaa.Pl
theorem upTo_3 : (upTo 3).reverse = [2, 1, 0] := rfl
theorem upTo_4 : (upTo 4).reverse = [3, 2, 1, 0] := rfl
theorem upTo_5 : (upTo 5).reverse = [4, 3, 2, 1, 0] := rfl
theorem taken_ev (m : Nat) (h3 : 3 ≤ m) (h5 : m ≤ 5) : Ev (fun k => impl_taken.f k (wrap64 ((m : Int) + 1))) (upTo m).reverse := by
  have : m = 3 ∨ m = 4 ∨ m = 5 := by omega
  obtain rfl | rfl | rfl := this
  · exact Ev.of (impl_taken.mono _) (k := 20) (by rw [upTo_3]; kernel_rfl)
  · exact Ev.of (impl_taken.mono _) (k := 20) (by rw [upTo_4]; kernel_rfl)
  · exact Ev.of (impl_taken.mono _) (k := 20) (by rw [upTo_5]; kernel_rfl)
end Go.Proofs.Ytcojmladlkealaa.Pure
