/- What the law FnExactHalvingLines reaches, part 13: functions as plain Lean functions with the proofs that their calls come to them, and plain lemmas over these. Put together by a program (wip/pack.py). -/
import Derived.Test.YtajogmlblknfdaaKFnExactHalvingLinesc
import Derived.Test.YtajogmlblknfdaaKFnExactHalvingLinesg
import Derived.Test.YtajogmlblknfdaaKFnExactHalvingLinesl
import Derived.Test.YtajogmlblknfdaaKFnExactHalvingLinesa
import Derived.ChangeArms
import Derived.Deep.Slices
import Derived.Deep.Fields
import Derived.WideShapes
import Derived.KernelRfl
import Derived.Test.YtajogmlblknfdaaKFnExactHalvingLinesj
namespace Go.Proofs.Ytajogmlblknfdaa.P
open Go.RowKit Go.Proofs.YtajogmlblknfdaaW.PrintWords Go.Proofs.YtajogmlblknfdaaW.PrintLast Go.Proofs.YtajogmlblknfdaaW.PrintMore
set_option linter.unusedVariables false
set_option linter.unusedSimpArgs false
theorem drawn_belowFnExactHalvingLines {w w' : World} (h : Drawn0 w w') : Below w.heap.size w w' := by
  obtain ⟨n, rfl⟩ := h
  exact pw_below_drewN (Below.refl _ _) n
def laws_FnExactHalvingLines.f (k : Nat) (a0_0 : Int) (a0_1 : ByteArray) (a1 : Int) (a2 : Int) : Option Bool := (laws_szSigns.f a0_0 a0_1 1048576).bind fun t => if t < 0 then some true else (spec_HalvingLines.f k a0_0 a0_1 a1 a2).bind fun W_ => (impl_HalvingLines.f k a0_0 a0_1 a1 a2).bind fun G_ => if laws_eqIntSS.f k G_ W_ = some true then (laws_markIntSS.f k G_ 1).bind fun m => if laws_heldIntSS.f k m.2 1 = some m.1 ∧ 0 ≤ m.1 ∧ G_.length = m.2.length then some true else none else none
set_option maxHeartbeats 8000000 in
set_option maxRecDepth 100000 in
theorem laws_FnExactHalvingLines.calls (k : Nat) (a0_0 : Int) (a0_1 : ByteArray) (a1 : Int) (a2 : Int) (r : Bool) (w : World) (h : laws_FnExactHalvingLines.f k a0_0 a0_1 a1 a2 = some r) :
    Calls Try.prog 6 #[.agg #[.int .i64 a0_0, .string a0_1], .int .i64 a1, .int .i64 a2] w fun e w' => e = .returned (.bool r) ∧ Below w.heap.size w w' := by
  have HB := Aside0.mk (Below.refl w.heap.size w)
  unfold laws_FnExactHalvingLines.f at h
  obtain ⟨t, A10, h⟩ := Option.bind_eq_some_iff.mp h
  have A1 := Aside0.mk A10
  clear A10
  by_cases ht : t < 0
  · rw [if_pos ht] at h
    obtain rfl := Option.some.inj h
    have c4b0 : decide (t < 0) = true := decide_eq_true ht
    clear ht h
    go_enter Try.func6, Try.ntmps6
    go_wp2_with (first | ((with_reducible refine gate_dst (N := 3) rfl ?_); refine box_event ?hg (N := 3) ?hd (cs := #[.int .i64 a0_0, .string a0_1]) (t := 38) ?hr ?_; (case hd => rfl); (case hg => rfl); (case hr => first | (go_simp; done) | (go_simp; rfl)); intro gb hg w5 hbox hb; have n0_ := Aside0.mk (below_step HB.out hb); have n1_ := Aside0.mk hbox; clear HB; have HB := n0_; have BK := n1_; clear n0_ n1_ hb hbox hg; have hcz0_ : World.cell? _ ⟨gb, 0, none⟩ = some (.int .i64 a0_0) := (blk_cell BK.out 0).trans rfl; have hcz1_ : World.cell? _ ⟨gb, 1, none⟩ = some (.string a0_1) := (blk_cell BK.out 1).trans rfl; have hfz0_ := blk_frozen BK.out 0; have hfz1_ := blk_frozen BK.out 1) | ((with_reducible refine gate_callee (f := 21) rfl ?_); refine goesL_ (some 15) rfl rfl Try.func21 (by kernel_rfl) rfl #[.agg #[.int .i64 a0_0, .string a0_1], .int .i64 1048576] rfl (by (try simp only [List.map_toArray, List.map_cons, List.map_nil]); first | done | rfl) ?_; (with_reducible refine (laws_szSigns.calls a0_0 a0_1 1048576 t _ A1.out).mono ?_); rintro e w_ ⟨rfl, hb⟩; refine ⟨_, rfl, ?_⟩; have n0_ := Aside0.mk (blk_below (g := gb) (o := .cells #[.int .i64 a0_0, .string a0_1] 38 (0, 0)) BK.out hb); have n1_ := Aside0.mk (below_step HB.out hb); clear BK HB; have BK := n0_; have HB := n1_; clear n0_ n1_; (try clear hcz0_ hcz1_ hfz0_ hfz1_); clear hb; have hcz0_ : World.cell? _ ⟨gb, 0, none⟩ = some (.int .i64 a0_0) := (blk_cell BK.out 0).trans rfl; have hcz1_ : World.cell? _ ⟨gb, 1, none⟩ = some (.string a0_1) := (blk_cell BK.out 1).trans rfl; have hfz0_ := blk_frozen BK.out 0; have hfz1_ := blk_frozen BK.out 1))
    go_ret
    exact ⟨by first | rfl | (simp [*]), HB.out⟩
  · rw [if_neg ht] at h
    have c4b0 : decide (t < 0) = false := decide_eq_false ht
    clear ht
    obtain ⟨W_, A20, h⟩ := Option.bind_eq_some_iff.mp h
    obtain ⟨G_, A30, h⟩ := Option.bind_eq_some_iff.mp h
    by_cases he : laws_eqIntSS.f k G_ W_ = some true
    · rw [if_pos he] at h
      obtain ⟨⟨m1_, m2_⟩, A50, h⟩ := Option.bind_eq_some_iff.mp h
      by_cases hm : laws_heldIntSS.f k m2_ 1 = some m1_ ∧ 0 ≤ m1_ ∧ G_.length = m2_.length
      · rw [if_pos hm] at h
        obtain rfl := Option.some.inj h
        have c7b0 : decide (m1_ < 0) = false := decide_eq_false (by omega)
        have A2 := Aside0.mk A20
        have A3 := Aside0.mk A30
        have A4 := Aside0.mk he
        have A5 := Aside0.mk A50
        have A6 := Aside0.mk hm.1
        have HLN := Aside0.mk hm.2.2
        clear A20 A30 he A50 hm h
        go_enter Try.func6, Try.ntmps6
        go_wp2_with (first | ((with_reducible refine gate_dst (N := 3) rfl ?_); refine box_event ?hg (N := 3) ?hd (cs := #[.int .i64 a0_0, .string a0_1]) (t := 38) ?hr ?_; (case hd => rfl); (case hg => rfl); (case hr => first | (go_simp; done) | (go_simp; rfl)); intro gb hg w5 hbox hb; have n0_ := Aside0.mk (below_step HB.out hb); have n1_ := Aside0.mk hbox; clear HB; have HB := n0_; have BK := n1_; clear n0_ n1_ hb hbox hg; have hcz0_ : World.cell? _ ⟨gb, 0, none⟩ = some (.int .i64 a0_0) := (blk_cell BK.out 0).trans rfl; have hcz1_ : World.cell? _ ⟨gb, 1, none⟩ = some (.string a0_1) := (blk_cell BK.out 1).trans rfl; have hfz0_ := blk_frozen BK.out 0; have hfz1_ := blk_frozen BK.out 1) | ((with_reducible refine gate_callee (f := 21) rfl ?_); refine goesL_ (some 15) rfl rfl Try.func21 (by kernel_rfl) rfl #[.agg #[.int .i64 a0_0, .string a0_1], .int .i64 1048576] rfl (by (try simp only [List.map_toArray, List.map_cons, List.map_nil]); first | done | rfl) ?_; (with_reducible refine (laws_szSigns.calls a0_0 a0_1 1048576 t _ A1.out).mono ?_); rintro e w_ ⟨rfl, hb⟩; refine ⟨_, rfl, ?_⟩; have n0_ := Aside0.mk (blk_below (g := gb) (o := .cells #[.int .i64 a0_0, .string a0_1] 38 (0, 0)) BK.out hb); have n1_ := Aside0.mk (below_step HB.out hb); clear BK HB; have BK := n0_; have HB := n1_; clear n0_ n1_; (try clear hcz0_ hcz1_ hfz0_ hfz1_); clear hb; have hcz0_ : World.cell? _ ⟨gb, 0, none⟩ = some (.int .i64 a0_0) := (blk_cell BK.out 0).trans rfl; have hcz1_ : World.cell? _ ⟨gb, 1, none⟩ = some (.string a0_1) := (blk_cell BK.out 1).trans rfl; have hfz0_ := blk_frozen BK.out 0; have hfz1_ := blk_frozen BK.out 1) | ((with_reducible refine gate_callee (f := 23) rfl ?_); refine goesL_ (some 19) rfl rfl Try.func23 (by kernel_rfl) rfl #[.agg #[.int .i64 a0_0, .string a0_1]] rfl (by (try simp only [List.map_toArray, List.map_cons, List.map_nil]); first | done | rfl) ?_; (with_reducible refine (laws_toSigns.calls a0_0 a0_1 a0_0 a0_1 _ rfl).mono ?_); rintro e w_ ⟨rfl, hb⟩; refine ⟨_, rfl, ?_⟩; have n0_ := Aside0.mk (blk_below (g := gb) (o := .cells #[.int .i64 a0_0, .string a0_1] 38 (0, 0)) BK.out hb); have n1_ := Aside0.mk (below_step HB.out hb); clear BK HB; have BK := n0_; have HB := n1_; clear n0_ n1_; (try clear hcz0_ hcz1_ hfz0_ hfz1_); (try (have m_ := Aside0.mk (Kd.S_below HS0.out hb); clear HS0; have HS0 := m_; clear m_)); (try (have m_ := Aside0.mk (Kd.S_below HS1.out hb); clear HS1; have HS1 := m_; clear m_)); (try (have m_ := Aside0.mk (Kd.S_below HS2.out hb); clear HS2; have HS2 := m_; clear m_)); clear hb; have hcz0_ : World.cell? _ ⟨gb, 0, none⟩ = some (.int .i64 a0_0) := (blk_cell BK.out 0).trans rfl; have hcz1_ : World.cell? _ ⟨gb, 1, none⟩ = some (.string a0_1) := (blk_cell BK.out 1).trans rfl; have hfz0_ := blk_frozen BK.out 0; have hfz1_ := blk_frozen BK.out 1) | ((with_reducible refine gate_callee (f := 23) rfl ?_); refine goesL_ (some 24) rfl rfl Try.func23 (by kernel_rfl) rfl #[.agg #[.int .i64 a0_0, .string a0_1]] rfl (by (try simp only [List.map_toArray, List.map_cons, List.map_nil]); first | done | rfl) ?_; (with_reducible refine (laws_toSigns.calls a0_0 a0_1 a0_0 a0_1 _ rfl).mono ?_); rintro e w_ ⟨rfl, hb⟩; refine ⟨_, rfl, ?_⟩; have n0_ := Aside0.mk (blk_below (g := gb) (o := .cells #[.int .i64 a0_0, .string a0_1] 38 (0, 0)) BK.out hb); have n1_ := Aside0.mk (below_step HB.out hb); clear BK HB; have BK := n0_; have HB := n1_; clear n0_ n1_; (try clear hcz0_ hcz1_ hfz0_ hfz1_); (try (have m_ := Aside0.mk (Kd.S_below HS0.out hb); clear HS0; have HS0 := m_; clear m_)); (try (have m_ := Aside0.mk (Kd.S_below HS1.out hb); clear HS1; have HS1 := m_; clear m_)); (try (have m_ := Aside0.mk (Kd.S_below HS2.out hb); clear HS2; have HS2 := m_; clear m_)); clear hb; have hcz0_ : World.cell? _ ⟨gb, 0, none⟩ = some (.int .i64 a0_0) := (blk_cell BK.out 0).trans rfl; have hcz1_ : World.cell? _ ⟨gb, 1, none⟩ = some (.string a0_1) := (blk_cell BK.out 1).trans rfl; have hfz0_ := blk_frozen BK.out 0; have hfz1_ := blk_frozen BK.out 1) | ((with_reducible refine gate_callee (f := 23) rfl ?_); refine goesL_ (some 44) rfl rfl Try.func23 (by kernel_rfl) rfl #[.agg #[.int .i64 a0_0, .string a0_1]] rfl (by (try simp only [List.map_toArray, List.map_cons, List.map_nil]); first | done | rfl) ?_; (with_reducible refine (laws_toSigns.calls a0_0 a0_1 a0_0 a0_1 _ rfl).mono ?_); rintro e w_ ⟨rfl, hb⟩; refine ⟨_, rfl, ?_⟩; have n0_ := Aside0.mk (blk_below (g := gb) (o := .cells #[.int .i64 a0_0, .string a0_1] 38 (0, 0)) BK.out hb); have n1_ := Aside0.mk (below_step HB.out hb); clear BK HB; have BK := n0_; have HB := n1_; clear n0_ n1_; (try clear hcz0_ hcz1_ hfz0_ hfz1_); (try (have m_ := Aside0.mk (Kd.S_below HS0.out hb); clear HS0; have HS0 := m_; clear m_)); (try (have m_ := Aside0.mk (Kd.S_below HS1.out hb); clear HS1; have HS1 := m_; clear m_)); (try (have m_ := Aside0.mk (Kd.S_below HS2.out hb); clear HS2; have HS2 := m_; clear m_)); clear hb; have hcz0_ : World.cell? _ ⟨gb, 0, none⟩ = some (.int .i64 a0_0) := (blk_cell BK.out 0).trans rfl; have hcz1_ : World.cell? _ ⟨gb, 1, none⟩ = some (.string a0_1) := (blk_cell BK.out 1).trans rfl; have hfz0_ := blk_frozen BK.out 0; have hfz1_ := blk_frozen BK.out 1) | ((with_reducible refine gate_callee (f := 27) rfl ?_); refine goesL_ (some 22) rfl rfl Try.func27 (by kernel_rfl) rfl #[.agg #[.int .i64 a0_0, .string a0_1], .int .i64 a1, .int .i64 a2] rfl (by (try simp only [List.map_toArray, List.map_cons, List.map_nil]); first | done | rfl) ?_; (with_reducible refine (spec_HalvingLines.calls k a0_0 a0_1 a1 a2 W_ _ A2.out).mono ?_); rintro e w_ ⟨v0_, rfl, hs, hb⟩; obtain ⟨A0_, c0_, rfl⟩ := Kd.S_slice hs; refine ⟨_, rfl, ?_⟩; have n0_ := Aside0.mk (blk_below (g := gb) (o := .cells #[.int .i64 a0_0, .string a0_1] 38 (0, 0)) BK.out hb); have n1_ := Aside0.mk (below_step HB.out hb); clear BK HB; have BK := n0_; have HB := n1_; clear n0_ n1_; (try clear hcz0_ hcz1_ hfz0_ hfz1_); have HS0 := Aside0.mk (Kd.S_lower hs (Nat.le_refl _)); clear hs; clear hb; have hcz0_ : World.cell? _ ⟨gb, 0, none⟩ = some (.int .i64 a0_0) := (blk_cell BK.out 0).trans rfl; have hcz1_ : World.cell? _ ⟨gb, 1, none⟩ = some (.string a0_1) := (blk_cell BK.out 1).trans rfl; have hfz0_ := blk_frozen BK.out 0; have hfz1_ := blk_frozen BK.out 1) | ((with_reducible refine gate_callee (f := 28) rfl ?_); refine goesL_ (some 27) rfl rfl Try.func28 (by kernel_rfl) rfl #[.agg #[.int .i64 a0_0, .string a0_1], .int .i64 a1, .int .i64 a2] rfl (by (try simp only [List.map_toArray, List.map_cons, List.map_nil]); first | done | rfl) ?_; (with_reducible refine (impl_HalvingLines.calls k a0_0 a0_1 a1 a2 G_ _ A3.out).mono ?_); rintro e w_ ⟨v1_, rfl, hs, hb⟩; obtain ⟨A1_, c1_, rfl⟩ := Kd.S_slice hs; refine ⟨_, rfl, ?_⟩; have HGB := Aside0.mk (blk_lt BK.out); have m_ := Aside0.mk (Kd.S_old HS0.out hb); clear HS0; have HS0 := m_; clear m_; have HS1 := Aside0.mk (Kd.S_lower (Kd.S_mono (Kd.S_bound hs) (fun k_ hk_ => hk_.2.1)) HB.out.size); clear hs; have n0_ := Aside0.mk (blk_below (g := gb) (o := .cells #[.int .i64 a0_0, .string a0_1] 38 (0, 0)) BK.out hb); have n1_ := Aside0.mk (below_step HB.out hb); clear BK HB; have BK := n0_; have HB := n1_; clear n0_ n1_; (try clear hcz0_ hcz1_ hfz0_ hfz1_); clear hb; have hcz0_ : World.cell? _ ⟨gb, 0, none⟩ = some (.int .i64 a0_0) := (blk_cell BK.out 0).trans rfl; have hcz1_ : World.cell? _ ⟨gb, 1, none⟩ = some (.string a0_1) := (blk_cell BK.out 1).trans rfl; have hfz0_ := blk_frozen BK.out 0; have hfz1_ := blk_frozen BK.out 1) | ((with_reducible refine gate_callee (f := 28) rfl ?_); refine goesL_ (some 47) rfl rfl Try.func28 (by kernel_rfl) rfl #[.agg #[.int .i64 a0_0, .string a0_1], .int .i64 a1, .int .i64 a2] rfl (by (try simp only [List.map_toArray, List.map_cons, List.map_nil]); first | done | rfl) ?_; (with_reducible refine (impl_HalvingLines.calls k a0_0 a0_1 a1 a2 G_ _ A3.out).mono ?_); rintro e w_ ⟨v2_, rfl, hs, hb⟩; obtain ⟨A2_, c2_, rfl⟩ := Kd.S_slice hs; refine ⟨_, rfl, ?_⟩; have n0_ := Aside0.mk (blk_below (g := gb) (o := .cells #[.int .i64 a0_0, .string a0_1] 38 (0, 0)) BK.out hb); have n1_ := Aside0.mk (below_step HB.out hb); clear BK HB; have BK := n0_; have HB := n1_; clear n0_ n1_; (try clear hcz0_ hcz1_ hfz0_ hfz1_); (try (have m_ := Aside0.mk (Kd.S_below HS0.out hb); clear HS0; have HS0 := m_; clear m_)); (try (have m_ := Aside0.mk (Kd.S_below HS1.out hb); clear HS1; have HS1 := m_; clear m_)); (try (have m_ := Aside0.mk (Kd.S_below HS2.out hb); clear HS2; have HS2 := m_; clear m_)); have HS2 := Aside0.mk hs; clear hs; clear hb; have hcz0_ : World.cell? _ ⟨gb, 0, none⟩ = some (.int .i64 a0_0) := (blk_cell BK.out 0).trans rfl; have hcz1_ : World.cell? _ ⟨gb, 1, none⟩ = some (.string a0_1) := (blk_cell BK.out 1).trans rfl; have hfz0_ := blk_frozen BK.out 0; have hfz1_ := blk_frozen BK.out 1) | ((with_reducible refine gate_callee (f := 16) rfl ?_); refine goesL_ (some 30) rfl rfl Try.func16 (by kernel_rfl) rfl #[.slice A1_ G_.length c1_, .slice A0_ W_.length c0_] rfl (by (try simp only [List.map_toArray, List.map_cons, List.map_nil]); first | done | rfl) ?_; (with_reducible refine (laws_eqIntSS.calls k _ _ G_ _ _ W_ true _ (Kd.S_reads' HS1.out).2.2 (Kd.S_reads' HS1.out).2.1 (Kd.S_reads' HS0.out).2.2 (Kd.S_reads' HS0.out).2.1 A4.out).mono ?_); rintro e w_ ⟨rfl, hdr⟩; have hb := drawn_belowFnExactHalvingLines hdr; clear hdr; refine ⟨_, rfl, ?_⟩; have n0_ := Aside0.mk (blk_below (g := gb) (o := .cells #[.int .i64 a0_0, .string a0_1] 38 (0, 0)) BK.out hb); have n1_ := Aside0.mk (below_step HB.out hb); clear BK HB; have BK := n0_; have HB := n1_; clear n0_ n1_; (try clear hcz0_ hcz1_ hfz0_ hfz1_); (try (have m_ := Aside0.mk (Kd.S_below HS0.out hb); clear HS0; have HS0 := m_; clear m_)); (try (have m_ := Aside0.mk (Kd.S_below HS1.out hb); clear HS1; have HS1 := m_; clear m_)); (try (have m_ := Aside0.mk (Kd.S_below HS2.out hb); clear HS2; have HS2 := m_; clear m_)); clear hb; have hcz0_ : World.cell? _ ⟨gb, 0, none⟩ = some (.int .i64 a0_0) := (blk_cell BK.out 0).trans rfl; have hcz1_ : World.cell? _ ⟨gb, 1, none⟩ = some (.string a0_1) := (blk_cell BK.out 1).trans rfl; have hfz0_ := blk_frozen BK.out 0; have hfz1_ := blk_frozen BK.out 1) | ((with_reducible refine gate_callee (f := 16) rfl ?_); refine goesL_ (some 50) rfl rfl Try.func16 (by kernel_rfl) rfl #[.slice A2_ G_.length c2_, .slice A0_ W_.length c0_] rfl (by (try simp only [List.map_toArray, List.map_cons, List.map_nil]); first | done | rfl) ?_; (with_reducible refine (laws_eqIntSS.calls k _ _ G_ _ _ W_ true _ (Kd.S_reads' HS2.out).2.2 (Kd.S_reads' HS2.out).2.1 (Kd.S_reads' HS0.out).2.2 (Kd.S_reads' HS0.out).2.1 A4.out).mono ?_); rintro e w_ ⟨rfl, hdr⟩; have hb := drawn_belowFnExactHalvingLines hdr; clear hdr; refine ⟨_, rfl, ?_⟩; have n0_ := Aside0.mk (blk_below (g := gb) (o := .cells #[.int .i64 a0_0, .string a0_1] 38 (0, 0)) BK.out hb); have n1_ := Aside0.mk (below_step HB.out hb); clear BK HB; have BK := n0_; have HB := n1_; clear n0_ n1_; (try clear hcz0_ hcz1_ hfz0_ hfz1_); (try (have m_ := Aside0.mk (Kd.S_below HS0.out hb); clear HS0; have HS0 := m_; clear m_)); (try (have m_ := Aside0.mk (Kd.S_below HS1.out hb); clear HS1; have HS1 := m_; clear m_)); (try (have m_ := Aside0.mk (Kd.S_below HS2.out hb); clear HS2; have HS2 := m_; clear m_)); clear hb; have hcz0_ : World.cell? _ ⟨gb, 0, none⟩ = some (.int .i64 a0_0) := (blk_cell BK.out 0).trans rfl; have hcz1_ : World.cell? _ ⟨gb, 1, none⟩ = some (.string a0_1) := (blk_cell BK.out 1).trans rfl; have hfz0_ := blk_frozen BK.out 0; have hfz1_ := blk_frozen BK.out 1) | ((with_reducible refine gate_callee (f := 19) rfl ?_); refine goesL_ (some 34) rfl rfl Try.func19 (by kernel_rfl) rfl #[.slice A1_ G_.length c1_, .int .i64 1] rfl (by (try simp only [List.map_toArray, List.map_cons, List.map_nil]); first | done | rfl) ?_; (with_reducible refine (laws_markIntSS.calls k _ _ G_ 1 m1_ m2_ w _ HB.out HS1.out A5.out).mono ?_); rintro e w_ ⟨rfl, hs, hbw, hk⟩; refine ⟨_, rfl, ?_⟩; have n0_ := Aside0.mk ((hk.2 gb (blk_lt BK.out) (fun h_ => Nat.not_le.2 HGB.out h_)).trans BK.out); have n1_ := Aside0.mk hbw; have n2_ := Aside0.mk (Kd.S_step HS0.out (fun k_ hk_ hlt_ => hk.2 k_ hlt_ (fun h_ => Nat.not_le.2 hk_.2 h_))); have n3_ := Aside0.mk hs; clear BK HB HS0 HS1 hs hbw hk; have BK := n0_; have HB := n1_; have HS0 := n2_; have HS1 := n3_; clear n0_ n1_ n2_ n3_; (try clear hcz0_ hcz1_ hfz0_ hfz1_); have hcz0_ : World.cell? _ ⟨gb, 0, none⟩ = some (.int .i64 a0_0) := (blk_cell BK.out 0).trans rfl; have hcz1_ : World.cell? _ ⟨gb, 1, none⟩ = some (.string a0_1) := (blk_cell BK.out 1).trans rfl; have hfz0_ := blk_frozen BK.out 0; have hfz1_ := blk_frozen BK.out 1) | ((with_reducible refine gate_callee (f := 20) rfl ?_); refine goesL_ (some 37) rfl rfl Try.func20 (by kernel_rfl) rfl #[.slice A1_ G_.length c1_, .int .i64 1] rfl (by (try simp only [List.map_toArray, List.map_cons, List.map_nil]); first | done | rfl) ?_; refine calls_of_args (args' := #[.slice A1_ m2_.length c1_, .int .i64 1]) (by rw [HLN.out]) ?_; (with_reducible refine (laws_heldIntSS.calls k _ _ m2_ 1 m1_ _ (Kd.S_reads' HS1.out).2.2 (by have h_ := (Kd.S_reads' HS1.out).2.1; have h2_ := HLN.out; omega) A6.out).mono ?_); rintro e w_ ⟨rfl, hdr⟩; have hb := drawn_belowFnExactHalvingLines hdr; clear hdr; refine ⟨_, rfl, ?_⟩; have n0_ := Aside0.mk (blk_below (g := gb) (o := .cells #[.int .i64 a0_0, .string a0_1] 38 (0, 0)) BK.out hb); have n1_ := Aside0.mk (below_step HB.out hb); clear BK HB; have BK := n0_; have HB := n1_; clear n0_ n1_; (try clear hcz0_ hcz1_ hfz0_ hfz1_); (try (have m_ := Aside0.mk (Kd.S_below HS0.out hb); clear HS0; have HS0 := m_; clear m_)); (try (have m_ := Aside0.mk (Kd.S_below HS1.out hb); clear HS1; have HS1 := m_; clear m_)); (try (have m_ := Aside0.mk (Kd.S_below HS2.out hb); clear HS2; have HS2 := m_; clear m_)); clear hb; have hcz0_ : World.cell? _ ⟨gb, 0, none⟩ = some (.int .i64 a0_0) := (blk_cell BK.out 0).trans rfl; have hcz1_ : World.cell? _ ⟨gb, 1, none⟩ = some (.string a0_1) := (blk_cell BK.out 1).trans rfl; have hfz0_ := blk_frozen BK.out 0; have hfz1_ := blk_frozen BK.out 1) | ((with_reducible refine gate_callee (f := 20) rfl ?_); refine goesL_ (some 54) rfl rfl Try.func20 (by kernel_rfl) rfl #[.slice A1_ G_.length c1_, .int .i64 1] rfl (by (try simp only [List.map_toArray, List.map_cons, List.map_nil]); first | done | rfl) ?_; refine calls_of_args (args' := #[.slice A1_ m2_.length c1_, .int .i64 1]) (by rw [HLN.out]) ?_; (with_reducible refine (laws_heldIntSS.calls k _ _ m2_ 1 m1_ _ (Kd.S_reads' HS1.out).2.2 (by have h_ := (Kd.S_reads' HS1.out).2.1; have h2_ := HLN.out; omega) A6.out).mono ?_); rintro e w_ ⟨rfl, hdr⟩; have hb := drawn_belowFnExactHalvingLines hdr; clear hdr; refine ⟨_, rfl, ?_⟩; have n0_ := Aside0.mk (blk_below (g := gb) (o := .cells #[.int .i64 a0_0, .string a0_1] 38 (0, 0)) BK.out hb); have n1_ := Aside0.mk (below_step HB.out hb); clear BK HB; have BK := n0_; have HB := n1_; clear n0_ n1_; (try clear hcz0_ hcz1_ hfz0_ hfz1_); (try (have m_ := Aside0.mk (Kd.S_below HS0.out hb); clear HS0; have HS0 := m_; clear m_)); (try (have m_ := Aside0.mk (Kd.S_below HS1.out hb); clear HS1; have HS1 := m_; clear m_)); (try (have m_ := Aside0.mk (Kd.S_below HS2.out hb); clear HS2; have HS2 := m_; clear m_)); clear hb; have hcz0_ : World.cell? _ ⟨gb, 0, none⟩ = some (.int .i64 a0_0) := (blk_cell BK.out 0).trans rfl; have hcz1_ : World.cell? _ ⟨gb, 1, none⟩ = some (.string a0_1) := (blk_cell BK.out 1).trans rfl; have hfz0_ := blk_frozen BK.out 0; have hfz1_ := blk_frozen BK.out 1))
        go_ret
        exact ⟨by first | rfl | (simp [*]), HB.out⟩
      · rw [if_neg hm] at h
        exact absurd h (by simp)
    · rw [if_neg he] at h
      exact absurd h (by simp)
end Go.Proofs.Ytajogmlblknfdaa.P
namespace Go.Proofs.Ytajogmlblknfdaa.Rk
open Go.RowKit Go.ChangeShapes Go.WideShapes Go.Deep Go.Proofs.YtajogmlblknfdaaW.PrintWords
def I64 (n : Int) : Prop := -9223372036854775808 ≤ n ∧ n ≤ 9223372036854775807
theorem I64_of {n : Int} (h : (Lit.int .i64 n).wf = true) : I64 n := by
  have e1 : IntKind.i64.min = -9223372036854775808 := by decide
  have e2 : IntKind.i64.max = 9223372036854775807 := by decide
  simp [Lit.wf, e1, e2] at h
  unfold I64
  omega
section
variable {H : Type} {enc : TypeId × Value → H} {P : Program} {w : World} {base : Nat} {spare : Nat → Bool} {held : Bool} {α : Type}
def Elem (enc : TypeId × Value → H) (P : Program) (w : World) (base : Nat) (spare : Nat → Bool) (held : Bool) (e : TypeId) (d : Kd α) (Q : α → Prop) : Prop :=
  ∀ (fuel : Nat) (cs : List Value) (x : DataW H × List MemPlace), DataW.trod enc P w base spare held fuel e cs = some x → ∃ y, d.K w y cs ∧ Q y
end
end Go.Proofs.Ytajogmlblknfdaa.Rk
namespace Go.Proofs.Ytajogmlblknfdaa.P
open Go.RowKit Go.ChangeShapes Go.WideShapes Go.Deep Go.Proofs.Ytajogmlblknfdaa.Rk Go.Proofs.YtajogmlblknfdaaW.PrintWords
theorem cells_3 : Try.prog.cellsOf 3 = 1 := by kernel_rfl
theorem cells_9 : Try.prog.cellsOf 9 = 1 := by kernel_rfl
def Q24 (x : S24) : Prop := I64 x.f0 ∧ I64 x.f1
instance : Inhabited S24 := ⟨z24⟩
def Q30 (x : S30) : Prop := I64 x.f0 ∧ I64 x.f1
instance : Inhabited S30 := ⟨z30⟩
def Q38 (x : S38) : Prop := I64 x.f0 ∧ x.f1.size ≤ 9223372036854775807
instance : Inhabited S38 := ⟨z38⟩
theorem cells_38 : Try.prog.cellsOf 38 = 2 := by kernel_rfl
set_option maxRecDepth 100000 in
theorem elem38 {H : Type} {enc : TypeId × Value → H} {w : World} {base : Nat} {spare : Nat → Bool} {held : Bool} : Elem enc Try.prog w base spare held 38 k38 Q38 := by
  intro fuel cs x h
  obtain ⟨xs, n, _, _, hlen, hxl, hf⟩ := DataW.trod_struct Try.underlying38 h
  rw [cells_38] at hlen
  match cs, hlen with
  | [c0, c1], _ =>
    have h0 : DataW.trod enc Try.prog w base spare held n 3 (List.take (Try.prog.cellsOf 3) (List.drop 0 [c0, c1])) = xs[0]? := hf 0 _ rfl
    rw [cells_3] at h0
    have y0 : xs[0]? = some (xs[0]'(by rw [hxl]; decide)) := List.getElem?_eq_getElem _
    rw [y0] at h0
    obtain ⟨n0, e0, _, w0⟩ := DataW.trod_int Try.underlying3 h0
    have e0' : c0 = .int .i64 n0 := by simpa using e0
    have h1 : DataW.trod enc Try.prog w base spare held n 9 (List.take (Try.prog.cellsOf 9) (List.drop 1 [c0, c1])) = xs[1]? := hf 1 _ rfl
    rw [cells_9] at h1
    have y1 : xs[1]? = some (xs[1]'(by rw [hxl]; decide)) := List.getElem?_eq_getElem _
    rw [y1] at h1
    obtain ⟨n1, e1, _, w1⟩ := DataW.trod_string Try.underlying9 h1
    unfold maxLen at w1
    have e1' : c1 = .string n1 := by simpa using e1
    subst e0' e1'
    exact ⟨⟨n0, n1⟩, k38_mk w ⟨n0, n1⟩, I64_of w0, w1⟩
end Go.Proofs.Ytajogmlblknfdaa.P
namespace Go.Proofs.Ytajogmlblknfdaa.P
open Go.RowKit Go.Proofs.YtajogmlblknfdaaW.PrintWords Go.Proofs.YtajogmlblknfdaaW.PrintLast Go.Proofs.YtajogmlblknfdaaW.PrintMore
attribute [local go_sem] ptrOf_slice
attribute [local go_sem] max2_int min2_int max_two min_two max_three min_three max_four min_four
set_option linter.unusedVariables false
set_option linter.unusedSimpArgs false
def impl_chi_split.l0 : Nat → ByteArray → Int → Int → List Int → Int → Int → Option (Int × Int)
 | 0, _, _, _, _, _, _ => none
 | k + 1, x12, x13, x14, x27, x28, x29 => if x29 < x28 then (if 0 ≤ x29 then (if x29 < (x27.length : Int) then (if x29 < (x12.size : Int) then (if (bt x12 x29) = 43 then (if 0 ≤ (rd x27 x29) then (impl_chi_split.l0 k x12 (Go.bits .or .i64 x13 (shl .i64 1 (rd x27 x29))) x14 x27 x28 (wrap64 (x29 + 1))) else (none)) else (if 0 ≤ (rd x27 x29) then (impl_chi_split.l0 k x12 x13 (Go.bits .or .i64 x14 (shl .i64 1 (rd x27 x29))) x27 x28 (wrap64 (x29 + 1))) else (none))) else (none)) else (none)) else (none)) else (some (x13, x14))
def impl_chi_split.f (k : Nat) (l0 : List Int) (a1 : Int) (a2 : Int) (a3 : Int) (a4 : Int) : Option (Int × Int) := (impl_chi_circuit.f k l0 a1 a2 a3 a4).bind fun t966 => ((some (([a1, a2, a3, a4] : List Int) : List Int)).bind fun y967 => (impl_chi_split.l0 k t966 0 0 y967 (y967.length : Int) 0))
theorem impl_chi_split.mono_l : ∀ k, (∀ y0 y1 y2 y3 y4 y5, LeO (impl_chi_split.l0 k y0 y1 y2 y3 y4 y5) (impl_chi_split.l0 (k + 1) y0 y1 y2 y3 y4 y5))
 | 0 => fun _ _ _ _ _ _ r h => by simp [impl_chi_split.l0] at h
 | k + 1 => by
  have ih0 := impl_chi_split.mono_l k
  ·intro y0 y1 y2 y3 y4 y5
   unfold impl_chi_split.l0
   repeat' first
   | (with_reducible exact ih0 _ _ _ _ _ _)
   | (with_reducible exact impl_chi_circuit.mono _ _ _ _ _ _)
   | (with_reducible exact LeO.refl _)
   | (with_reducible exact LeO.none _)
   | (with_reducible refine LeO.ite ?_ ?_)
   | (with_reducible refine LeO.bind ?_ (fun _ => ?_))
   | exact ih0 _ _ _ _ _ _
   | exact impl_chi_circuit.mono _ _ _ _ _ _
   | exact LeO.none _
   | refine LeO.ite ?_ ?_
   | refine LeO.bind ?_ (fun _ => ?_)
theorem impl_chi_split.mono : ∀ a0 a1 a2 a3 a4 k, LeO (impl_chi_split.f k a0 a1 a2 a3 a4) (impl_chi_split.f (k + 1) a0 a1 a2 a3 a4) := by
 intro a0 a1 a2 a3 a4 k
 have ih0 := impl_chi_split.mono_l k
 unfold impl_chi_split.f
 repeat' first
   | (with_reducible exact ih0 _ _ _ _ _ _)
   | (with_reducible exact impl_chi_circuit.mono _ _ _ _ _ _)
   | (with_reducible exact LeO.refl _)
   | (with_reducible exact LeO.none _)
   | (with_reducible refine LeO.ite ?_ ?_)
   | (with_reducible refine LeO.bind ?_ (fun _ => ?_))
   | exact ih0 _ _ _ _ _ _
   | exact impl_chi_circuit.mono _ _ _ _ _ _
   | exact LeO.none _
   | refine LeO.ite ?_ ?_
   | refine LeO.bind ?_ (fun _ => ?_)
set_option maxHeartbeats 8000000 in
set_option maxRecDepth 100000 in
theorem impl_chi_split.calls (k : Nat) (A0 : Option Addr) (c0 : Nat) (l0 : List Int) (a1 : Int) (a2 : Int) (a3 : Int) (a4 : Int) (r1 : Int) (r2 : Int) (w : World) (hr0 : Kd.C (Kd.int .i64) w A0 l0.length l0) (hc0 : l0.length ≤ c0) (h : impl_chi_split.f k l0 a1 a2 a3 a4 = some (r1, r2)) :
  Calls Try.prog 135 #[.pointer A0, .int .i64 a1, .int .i64 a2, .int .i64 a3, .int .i64 a4] w fun e w' => e = .returned (.tuple #[.int .i64 r1, .int .i64 r2]) ∧ Below w.heap.size w w' := by
 have HR0 := Aside0.mk hr0
 have HC0 := Aside0.mk hc0
 clear hr0 hc0
 have HB := Aside0.mk (Below.refl w.heap.size w)
 have H : ((impl_chi_circuit.f k l0 a1 a2 a3 a4).bind fun t966 => ((some (([a1, a2, a3, a4] : List Int) : List Int)).bind fun y967 => (impl_chi_split.l0 k t966 0 0 y967 (y967.length : Int) 0))) = some (r1, r2) := h
 clear h
 replace H := Option.bind_eq_some_iff.mp H
 obtain ⟨t966, A60, H⟩ := H
 replace H : ((some (([a1, a2, a3, a4] : List Int) : List Int)).bind fun y967 => (impl_chi_split.l0 k t966 0 0 y967 (y967.length : Int) 0)) = some (r1, r2) := H
 have A6 := Aside0.mk A60
 clear A60
 obtain ⟨y967, hy967⟩ : ∃ y_ : List Int, y_ = (([a1, a2, a3, a4] : List Int)) := ⟨_, rfl⟩
 replace H : (impl_chi_split.l0 k t966 0 0 y967 (y967.length : Int) 0) = some (r1, r2) := by first | (rw [hy967]; with_reducible exact H) | (have H2_ := (Option.bind_some _ _).symm.trans H; rw [hy967]; with_reducible exact H2_) | (have H2_ := (Option.bind_some _ _).symm.trans H; with_reducible exact H2_) | with_reducible exact H | (rw [hy967]; exact H) | exact H
 have Ny967 := Aside0.mk hy967
 clear hy967
 have H' := Aside0.mk H
 clear H
 go_enter Try.func135, Try.ntmps135
 go_wp2_with (first | ((with_reducible refine gate_callee (f := 114) rfl ?_); refine goesL_ (some 22) rfl rfl Try.func114 (by kernel_rfl) rfl #[.pointer A0, .int .i64 a1, .int .i64 a2, .int .i64 a3, .int .i64 a4] rfl (by (try simp only [List.map_toArray, List.map_cons, List.map_nil]); first | done | rfl | (simp only [List.length_drop, List.length_take]; rfl)) ?_; (refine (impl_chi_circuit.calls k _ c0 l0 a1 a2 a3 a4 t966 _ ?side1 ?side2 A6.out).mono ?_); (case side1 => repeat (first | exact HR0.out | (with_reducible refine Kd.C_alloc ?_ _) | (with_reducible refine Kd.C_drewN ?_ _) | (with_reducible refine Kd.C_drew ?_))); (case side2 => exact HC0.out); rintro e w7 ⟨rfl, hb⟩; refine ⟨_, rfl, ?_⟩; have n0_ := Aside0.mk (below_step (by repeat (first | (with_reducible first | exact HB.out | apply below_alloc | apply pw_below_drewN | apply below_drew1) | exact HB.out)) hb); clear HB; have HB := n0_; clear n0_; (try clear hb); (try clear hb2); (try clear hk); (try clear hi)) | ((with_reducible refine gate_dst (N := 27) rfl ?_); refine Kd.R_lit (Kd.int .i64) _ 3 ?hg (N := 27) ?hd (xs := ([a1, a2, a3, a4] : List Int)) (inner := [.int .i64 a1, .int .i64 a2, .int .i64 a3, .int .i64 a4]) (ok := fun _ => True) (okp := fun _ => True) ?hr ?hp (fun _ hk => hk) trivial (Below.refl _ _) (Nat.le_refl _) (by simp) ?_; (case hd => rfl); (case hg => rfl); (case hr => first | (go_simp; done) | (go_simp; rfl)); (case hp => exact (Reps.one (show Kd.M (Kd.int .i64) _ _ _ a1 [.int .i64 a1] from rfl) (Reps.one (show Kd.M (Kd.int .i64) _ _ _ a2 [.int .i64 a2] from rfl) (Reps.one (show Kd.M (Kd.int .i64) _ _ _ a3 [.int .i64 a3] from rfl) (Reps.one (show Kd.M (Kd.int .i64) _ _ _ a4 [.int .i64 a4] from rfl) (Reps.none _ _)))))); intro v968 w8 ho9 hb hg_ hnew_; clear hg_ hnew_; (first | rw [← Ny967.out] at ho9 | (simp only [Int.reduceToNat] at ho9; rw [← Ny967.out] at ho9)); have n0_ := Aside0.mk (Kd.R_lower ho9 (below_size (by repeat (first | (with_reducible first | exact HB.out | apply below_alloc | apply pw_below_drewN | apply below_drew1) | exact HB.out)))); have n1_ := Aside0.mk (below_step (by repeat (first | (with_reducible first | exact HB.out | apply below_alloc | apply pw_below_drewN | apply below_drew1) | exact HB.out)) hb); clear HB; have HO969 := n0_; have HB := n1_; clear n0_ n1_; clear hb ho9; obtain ⟨Ao10, co10, eo10⟩ := Kd.R_slice HO969.out; subst eo10))
 go_loopg [13, 14, 29] k (fun kq v13 v14 v29 w' => ∃ (x13_1 : Int) (x14_1 : Int) (x29_1 : Int), v13 = .int .i64 x13_1 ∧ v14 = .int .i64 x14_1 ∧ v29 = .int .i64 x29_1 ∧ Aside0 (impl_chi_split.l0 kq t966 x13_1 x14_1 y967 (y967.length : Int) x29_1 = some (r1, r2)) ∧ Aside0 (kq ≤ k) ∧ Aside0 (Kd.R (Kd.int .i64) 3 w' w.heap.size (fun _ => True) (.slice Ao10 y967.length co10) y967) ∧ Aside0 (Below w.heap.size w w'))
 case atStart => exact ⟨(0), (0), (0), (by first | rfl | (simp; done) | (simp [*]; done)), (by first | rfl | (simp; done) | (simp [*]; done)), (by first | rfl | (simp; done) | (simp [*]; done)), H', ⟨Nat.le_refl _⟩, ⟨by (with_reducible repeat (first | apply Kd.R_alloc | apply Kd.R_drewN | apply Kd.R_drew)); exact HO969.out⟩, ⟨by repeat (first | (with_reducible first | exact HB.out | apply below_alloc | apply pw_below_drewN | apply below_drew1) | exact HB.out)⟩⟩
 case round =>
  clear H'
  try clear c1
  try clear p2
  obtain ⟨x13_1, x14_1, x29_1, rfl, rfl, rfl, HA, HK1, HO_27, HB⟩ := hrel
  cases gk with
  | zero => exact absurd HA.out (by simp [impl_chi_split.l0])
  | succ k1 =>
   have H := HA.out
   clear HA
   simp only [impl_chi_split.l0] at H
   by_cases c11 : x29_1 < (y967.length : Int)
   ·rw [if_pos c11] at H
    have c11b0 : decide (x29_1 < (y967.length : Int)) = true := decide_eq_true c11
    clear c11
    by_cases c12 : 0 ≤ x29_1
    ·rw [if_pos c12] at H
     have c12b0 : decide (0 ≤ x29_1) = true := decide_eq_true c12
     clear c12
     by_cases c13 : x29_1 < (y967.length : Int)
     ·rw [if_pos c13] at H
      have c13b0 : decide (x29_1 < (y967.length : Int)) = true := decide_eq_true c13
      clear c13
      by_cases c14 : x29_1 < (t966.size : Int)
      ·rw [if_pos c14] at H
       have c14b0 : decide (x29_1 < (t966.size : Int)) = true := decide_eq_true c14
       clear c14
       by_cases c16 : (bt t966 x29_1) = 43
       ·rw [if_pos c16] at H
        have c16b0 : ((bt t966 x29_1) == 43) = true := beq_iff_eq.mpr c16
        have c16b1 : ((bt t966 x29_1) != 43) = false := bne_eq_false_iff_eq.mpr c16
        clear c16
        by_cases c17 : 0 ≤ (rd y967 x29_1)
        ·rw [if_pos c17] at H
         have c17b0 := eq_true c17
         have c17b1 : decide (0 ≤ (rd y967 x29_1)) = true := decide_eq_true c17
         clear c17
         obtain ⟨ji18, hji18⟩ : ∃ j_ : Int, (shl .i64 1 (rd y967 x29_1)) = j_ := ⟨_, rfl⟩
         replace H : (impl_chi_split.l0 k1 t966 (Go.bits .or .i64 x13_1 (ji18)) x14_1 y967 (y967.length : Int) (wrap64 (x29_1 + 1))) = some (r1, r2) := by first | (rw [hji18] at H; exact H) | (simp only [hji18] at H ⊢; exact H)
         have hji18_ : (IntKind.i64.wrap (1 * 2 ^ min (rd y967 x29_1).toNat 64)) = ji18 := hji18
         have hji18z : (rd y967 x29_1) ≤ 64 → (IntKind.i64.wrap (1 * 2 ^ (rd y967 x29_1).toNat)) = ji18 := shl_small hji18
         have hji18u : (IntKind.i64.wrap (2 ^ min (rd y967 x29_1).toNat 64)) = ji18 := by have h_ := hji18_; rw [Int.one_mul] at h_; exact h_
         have hji18v : (rd y967 x29_1) ≤ 64 → (IntKind.i64.wrap (2 ^ (rd y967 x29_1).toNat)) = ji18 := fun hle_ => by have h_ := hji18z hle_; rw [Int.one_mul] at h_; exact h_
         have hji18y : (wrap64 (1 * 2 ^ min (rd y967 x29_1).toNat 64)) = ji18 := (i64_w _).symm.trans hji18_
         have hji18x : (rd y967 x29_1) ≤ 64 → (wrap64 (1 * 2 ^ (rd y967 x29_1).toNat)) = ji18 := fun h_ => (i64_w _).symm.trans (hji18z h_)
         have H' := Aside0.mk H
         clear H
         have p970 : 0 ≤ (x29_1 : Int) := of_decide_eq_true (by first | (with_reducible assumption) | assumption)
         have q970 : x29_1 < (y967.length : Int) := of_decide_eq_true (by first | (with_reducible assumption) | assumption)
         obtain ⟨ad970, e970, hx970_0⟩ := Kd.at_int (Kd.R_reads' HO_27.out).2.2 x29_1 p970 q970
         cases e970
         replace p970 := eq_true p970
         replace q970 := eq_true q970
         have p15 : 0 ≤ (x29_1 : Int) := of_decide_eq_true (by first | (with_reducible assumption) | assumption)
         have q15 : x29_1 < (t966.size : Int) := of_decide_eq_true (by first | (with_reducible assumption) | assumption)
         have hx15 := bt_at t966 x29_1
         replace p15 := eq_true p15
         replace q15 := eq_true q15
         go_wp2
         go_roundg k1
         case measure => have := HK1.out; omega
         case rel => exact ⟨(Go.bits .or .i64 x13_1 (ji18)), (x14_1), (wrap64 (x29_1 + 1)), (by first | rfl | (simp; done) | (simp only [← hji18] <;> (first | rfl | simp)) | (simp [*]; done)), (by first | rfl | (simp; done) | (simp [*]; done)), (by first | rfl | (simp; done) | (simp [*]; done)), H', ⟨by have := HK1.out; omega⟩, ⟨by (with_reducible repeat (first | apply Kd.R_alloc | apply Kd.R_drewN | apply Kd.R_drew)); exact HO_27.out⟩, ⟨by repeat (first | (with_reducible first | exact HB.out | apply below_alloc | apply pw_below_drewN | apply below_drew1) | exact HB.out)⟩⟩
        ·rw [if_neg c17] at H
         exact absurd H (by simp)
       ·rw [if_neg c16] at H
        have c16b0 : ((bt t966 x29_1) == 43) = false := beq_eq_false_iff_ne.mpr c16
        have c16b1 : ((bt t966 x29_1) != 43) = true := bne_iff_ne.mpr c16
        by_cases c19 : 0 ≤ (rd y967 x29_1)
        ·rw [if_pos c19] at H
         have c19b0 := eq_true c19
         have c19b1 : decide (0 ≤ (rd y967 x29_1)) = true := decide_eq_true c19
         clear c19
         obtain ⟨ji20, hji20⟩ : ∃ j_ : Int, (shl .i64 1 (rd y967 x29_1)) = j_ := ⟨_, rfl⟩
         replace H : (impl_chi_split.l0 k1 t966 x13_1 (Go.bits .or .i64 x14_1 (ji20)) y967 (y967.length : Int) (wrap64 (x29_1 + 1))) = some (r1, r2) := by first | (rw [hji20] at H; exact H) | (simp only [hji20] at H ⊢; exact H)
         have hji20_ : (IntKind.i64.wrap (1 * 2 ^ min (rd y967 x29_1).toNat 64)) = ji20 := hji20
         have hji20z : (rd y967 x29_1) ≤ 64 → (IntKind.i64.wrap (1 * 2 ^ (rd y967 x29_1).toNat)) = ji20 := shl_small hji20
         have hji20u : (IntKind.i64.wrap (2 ^ min (rd y967 x29_1).toNat 64)) = ji20 := by have h_ := hji20_; rw [Int.one_mul] at h_; exact h_
         have hji20v : (rd y967 x29_1) ≤ 64 → (IntKind.i64.wrap (2 ^ (rd y967 x29_1).toNat)) = ji20 := fun hle_ => by have h_ := hji20z hle_; rw [Int.one_mul] at h_; exact h_
         have hji20y : (wrap64 (1 * 2 ^ min (rd y967 x29_1).toNat 64)) = ji20 := (i64_w _).symm.trans hji20_
         have hji20x : (rd y967 x29_1) ≤ 64 → (wrap64 (1 * 2 ^ (rd y967 x29_1).toNat)) = ji20 := fun h_ => (i64_w _).symm.trans (hji20z h_)
         have H' := Aside0.mk H
         clear H
         have p970 : 0 ≤ (x29_1 : Int) := of_decide_eq_true (by first | (with_reducible assumption) | assumption)
         have q970 : x29_1 < (y967.length : Int) := of_decide_eq_true (by first | (with_reducible assumption) | assumption)
         obtain ⟨ad970, e970, hx970_0⟩ := Kd.at_int (Kd.R_reads' HO_27.out).2.2 x29_1 p970 q970
         cases e970
         replace p970 := eq_true p970
         replace q970 := eq_true q970
         have p15 : 0 ≤ (x29_1 : Int) := of_decide_eq_true (by first | (with_reducible assumption) | assumption)
         have q15 : x29_1 < (t966.size : Int) := of_decide_eq_true (by first | (with_reducible assumption) | assumption)
         have hx15 := bt_at t966 x29_1
         replace p15 := eq_true p15
         replace q15 := eq_true q15
         go_wp2
         go_roundg k1
         case measure => have := HK1.out; omega
         case rel => exact ⟨(x13_1), (Go.bits .or .i64 x14_1 (ji20)), (wrap64 (x29_1 + 1)), (by first | rfl | (simp; done) | (simp [*]; done)), (by first | rfl | (simp; done) | (simp only [← hji20] <;> (first | rfl | simp)) | (simp [*]; done)), (by first | rfl | (simp; done) | (simp [*]; done)), H', ⟨by have := HK1.out; omega⟩, ⟨by (with_reducible repeat (first | apply Kd.R_alloc | apply Kd.R_drewN | apply Kd.R_drew)); exact HO_27.out⟩, ⟨by repeat (first | (with_reducible first | exact HB.out | apply below_alloc | apply pw_below_drewN | apply below_drew1) | exact HB.out)⟩⟩
        ·rw [if_neg c19] at H
         exact absurd H (by simp)
      ·rw [if_neg c14] at H
       exact absurd H (by simp)
     ·rw [if_neg c13] at H
      exact absurd H (by simp)
    ·rw [if_neg c12] at H
     exact absurd H (by simp)
   ·rw [if_neg c11] at H
    have c11b0 : decide (x29_1 < (y967.length : Int)) = false := decide_eq_false c11
    clear c11
    simp only [Option.some.injEq, Prod.mk.injEq] at H
    obtain ⟨rfl, rfl⟩ := H
    go_wp2
    go_ret2
    exact ⟨by first | rfl | (simp [errW_none, errW_some] <;> rfl) | (simp [*, errW_none, errW_some] <;> rfl), by repeat (first | (with_reducible first | exact HB.out | apply below_alloc | apply pw_below_drewN | apply below_drew1) | exact HB.out)⟩
def impl_single.l0 : Nat → Int → Int → Option (Int)
 | 0, _, _ => none
 | k + 1, x0, x3 => if x3 < 7 then (if 0 ≤ x3 then (if x0 = (shl .i64 1 x3) then (some x3) else (impl_single.l0 k x0 (wrap64 (x3 + 1)))) else (none)) else (some (-1))
def impl_single.f (k : Nat) (a0 : Int) : Option (Int) := impl_single.l0 k a0 0
theorem impl_single.mono_l : ∀ k, (∀ y0 y1, LeO (impl_single.l0 k y0 y1) (impl_single.l0 (k + 1) y0 y1))
 | 0 => fun _ _ r h => by simp [impl_single.l0] at h
 | k + 1 => by
  have ih0 := impl_single.mono_l k
  ·intro y0 y1
   unfold impl_single.l0
   repeat' first
   | (with_reducible exact ih0 _ _)
   | (with_reducible exact LeO.refl _)
   | (with_reducible exact LeO.none _)
   | (with_reducible refine LeO.ite ?_ ?_)
   | (with_reducible refine LeO.bind ?_ (fun _ => ?_))
   | exact ih0 _ _
   | exact LeO.none _
   | refine LeO.ite ?_ ?_
   | refine LeO.bind ?_ (fun _ => ?_)
theorem impl_single.mono : ∀ a0 k, LeO (impl_single.f k a0) (impl_single.f (k + 1) a0) := by
 intro a0 k
 have ih0 := impl_single.mono_l k
 unfold impl_single.f
 repeat' first
   | (with_reducible exact ih0 _ _)
   | (with_reducible exact LeO.refl _)
   | (with_reducible exact LeO.none _)
   | (with_reducible refine LeO.ite ?_ ?_)
   | (with_reducible refine LeO.bind ?_ (fun _ => ?_))
   | exact ih0 _ _
   | exact LeO.none _
   | refine LeO.ite ?_ ?_
   | refine LeO.bind ?_ (fun _ => ?_)
set_option maxHeartbeats 8000000 in
set_option maxRecDepth 100000 in
theorem impl_single.calls (k : Nat) (a0 : Int) (r : Int) (w : World) (h : impl_single.f k a0 = some r) :
  Calls Try.prog 136 #[.int .i64 a0] w fun e w' => e = .returned (.int .i64 r) ∧ Drawn0 w w' := by
 have H : (impl_single.l0 k a0 0) = some r := h
 clear h
 have H' := Aside0.mk H
 clear H
 go_enter Try.func136, Try.ntmps136
 go_wp2
 go_loopg [3] k (fun kq v3 w' => ∃ (x3_1 : Int), v3 = .int .i64 x3_1 ∧ Aside0 (impl_single.l0 kq a0 x3_1 = some r) ∧ Aside0 (kq ≤ k) ∧ Drawn0 w w')
 case atStart => exact ⟨(0), (by first | rfl | (simp; done) | (simp [*]; done)), H', ⟨Nat.le_refl _⟩, by repeat (first | exact Drawn0.refl _ | apply Drawn0.step)⟩
 case round =>
  clear H'
  try clear c1
  obtain ⟨x3_1, rfl, HA, HK1, ⟨m1, rfl⟩⟩ := hrel
  cases gk with
  | zero => exact absurd HA.out (by simp [impl_single.l0])
  | succ k1 =>
   have H := HA.out
   clear HA
   simp only [impl_single.l0] at H
   by_cases c2 : x3_1 < 7
   ·rw [if_pos c2] at H
    have c2b0 : decide (x3_1 < 7) = true := decide_eq_true c2
    clear c2
    by_cases c3 : 0 ≤ x3_1
    ·rw [if_pos c3] at H
     have c3b0 := eq_true c3
     have c3b1 : decide (0 ≤ x3_1) = true := decide_eq_true c3
     clear c3
     obtain ⟨ji4, hji4⟩ : ∃ j_ : Int, (shl .i64 1 x3_1) = j_ := ⟨_, rfl⟩
     replace H : (if a0 = (ji4) then (some x3_1) else (impl_single.l0 k1 a0 (wrap64 (x3_1 + 1)))) = some r := by first | (rw [hji4] at H; exact H) | (simp only [hji4] at H ⊢; exact H)
     have hji4_ : (IntKind.i64.wrap (1 * 2 ^ min x3_1.toNat 64)) = ji4 := hji4
     have hji4z : x3_1 ≤ 64 → (IntKind.i64.wrap (1 * 2 ^ x3_1.toNat)) = ji4 := shl_small hji4
     have hji4u : (IntKind.i64.wrap (2 ^ min x3_1.toNat 64)) = ji4 := by have h_ := hji4_; rw [Int.one_mul] at h_; exact h_
     have hji4v : x3_1 ≤ 64 → (IntKind.i64.wrap (2 ^ x3_1.toNat)) = ji4 := fun hle_ => by have h_ := hji4z hle_; rw [Int.one_mul] at h_; exact h_
     have hji4y : (wrap64 (1 * 2 ^ min x3_1.toNat 64)) = ji4 := (i64_w _).symm.trans hji4_
     have hji4x : x3_1 ≤ 64 → (wrap64 (1 * 2 ^ x3_1.toNat)) = ji4 := fun h_ => (i64_w _).symm.trans (hji4z h_)
     by_cases c5 : a0 = (ji4)
     ·rw [if_pos c5] at H
      have c5b0 : (a0 == (ji4)) = true := beq_iff_eq.mpr c5
      have c5b1 : (a0 != (ji4)) = false := bne_eq_false_iff_eq.mpr c5
      clear c5
      obtain rfl := Option.some.inj H
      go_wp2
      go_ret
      exact ⟨by first | rfl | (simp; done) | (simp only [← hji4] <;> (first | rfl | simp)) | (simp [*]; done), by repeat (first | exact Drawn0.refl _ | apply Drawn0.step)⟩
     ·rw [if_neg c5] at H
      have c5b0 : (a0 == (ji4)) = false := beq_eq_false_iff_ne.mpr c5
      have c5b1 : (a0 != (ji4)) = true := bne_iff_ne.mpr c5
      have H' := Aside0.mk H
      clear H
      go_wp2
      go_roundg k1
      case measure => have := HK1.out; omega
      case rel => exact ⟨(wrap64 (x3_1 + 1)), (by first | rfl | (simp; done) | (simp [*]; done)), H', ⟨by have := HK1.out; omega⟩, by repeat (first | exact Drawn0.refl _ | apply Drawn0.step)⟩
    ·rw [if_neg c3] at H
     exact absurd H (by simp)
   ·rw [if_neg c2] at H
    have c2b0 : decide (x3_1 < 7) = false := decide_eq_false c2
    clear c2
    obtain rfl := Option.some.inj H
    go_wp2
    go_ret
    exact ⟨by first | rfl | (simp; done) | (simp [*]; done), by repeat (first | exact Drawn0.refl _ | apply Drawn0.step)⟩
def impl_chi_inner.f (k : Nat) (l0 : List Int) (a1 : Int) (a2 : Int) (a3 : Int) (a4 : Int) : Option (Int) := (impl_chi_split.f k l0 a1 a2 a3 a4).bind fun bt971 => ((impl_single.f k bt971.1).bind fun t973 => ((impl_single.f k bt971.2).bind fun t974 => (some (mx t973 t974))))
theorem impl_chi_inner.mono : ∀ a0 a1 a2 a3 a4 k, LeO (impl_chi_inner.f k a0 a1 a2 a3 a4) (impl_chi_inner.f (k + 1) a0 a1 a2 a3 a4) := by
 intro a0 a1 a2 a3 a4 k
 unfold impl_chi_inner.f
 repeat' first
   | (with_reducible exact impl_chi_split.mono _ _ _ _ _ _)
   | (with_reducible exact impl_single.mono _ _)
   | (with_reducible exact LeO.refl _)
   | (with_reducible exact LeO.none _)
   | (with_reducible refine LeO.ite ?_ ?_)
   | (with_reducible refine LeO.bind ?_ (fun _ => ?_))
   | exact impl_chi_split.mono _ _ _ _ _ _
   | exact impl_single.mono _ _
   | exact LeO.none _
   | refine LeO.ite ?_ ?_
   | refine LeO.bind ?_ (fun _ => ?_)
set_option maxHeartbeats 8000000 in
set_option maxRecDepth 100000 in
theorem impl_chi_inner.calls (k : Nat) (A0 : Option Addr) (c0 : Nat) (l0 : List Int) (a1 : Int) (a2 : Int) (a3 : Int) (a4 : Int) (r : Int) (w : World) (hr0 : Kd.C (Kd.int .i64) w A0 l0.length l0) (hc0 : l0.length ≤ c0) (h : impl_chi_inner.f k l0 a1 a2 a3 a4 = some r) :
  Calls Try.prog 134 #[.pointer A0, .int .i64 a1, .int .i64 a2, .int .i64 a3, .int .i64 a4] w fun e w' => e = .returned (.int .i64 r) ∧ Below w.heap.size w w' := by
 have HR0 := Aside0.mk hr0
 have HC0 := Aside0.mk hc0
 clear hr0 hc0
 have HB := Aside0.mk (Below.refl w.heap.size w)
 have H : ((impl_chi_split.f k l0 a1 a2 a3 a4).bind fun bt971 => ((impl_single.f k bt971.1).bind fun t973 => ((impl_single.f k bt971.2).bind fun t974 => (some (mx t973 t974))))) = some r := h
 clear h
 replace H := Option.bind_eq_some_iff.mp H
 obtain ⟨⟨t971, t972⟩, A60, H⟩ := H
 replace H : ((impl_single.f k t971).bind fun t973 => ((impl_single.f k t972).bind fun t974 => (some (mx t973 t974)))) = some r := H
 have A6 := Aside0.mk A60
 clear A60
 replace H := Option.bind_eq_some_iff.mp H
 obtain ⟨t973, A70, H⟩ := H
 replace H : ((impl_single.f k t972).bind fun t974 => (some (mx t973 t974))) = some r := H
 have A7 := Aside0.mk A70
 clear A70
 replace H := Option.bind_eq_some_iff.mp H
 obtain ⟨t974, A80, H⟩ := H
 replace H : (some (mx t973 t974)) = some r := H
 have A8 := Aside0.mk A80
 clear A80
 obtain ⟨ji9, hji9⟩ : ∃ j_ : Int, (mx t973 t974) = j_ := ⟨_, rfl⟩
 replace H : (some ji9) = some r := by first | (rw [hji9] at H; exact H) | (simp only [hji9] at H ⊢; exact H)
 (try rw [hji9] at A6)
 (try rw [hji9] at A7)
 (try rw [hji9] at A8)
 have hji9_ : (if t973 < t974 then t974 else t973) = ji9 := hji9
 obtain rfl := Option.some.inj H
 go_enter Try.func134, Try.ntmps134
 go_wp2_with (first | ((with_reducible refine gate_callee (f := 135) rfl ?_); refine goesL_ (some 19) rfl rfl Try.func135 (by kernel_rfl) rfl #[.pointer A0, .int .i64 a1, .int .i64 a2, .int .i64 a3, .int .i64 a4] rfl (by (try simp only [List.map_toArray, List.map_cons, List.map_nil]); first | done | rfl | (simp only [List.length_drop, List.length_take]; rfl)) ?_; (refine (impl_chi_split.calls k _ c0 l0 a1 a2 a3 a4 t971 t972 _ ?side1 ?side2 A6.out).mono ?_); (case side1 => repeat (first | exact HR0.out | (with_reducible refine Kd.C_alloc ?_ _) | (with_reducible refine Kd.C_drewN ?_ _) | (with_reducible refine Kd.C_drew ?_))); (case side2 => exact HC0.out); rintro e w10 ⟨rfl, hb⟩; refine ⟨_, rfl, ?_⟩; have n0_ := Aside0.mk (below_step (by repeat (first | (with_reducible first | exact HB.out | apply below_alloc | apply pw_below_drewN | apply below_drew1) | exact HB.out)) hb); clear HB; have HB := n0_; clear n0_; (try clear hb); (try clear hb2); (try clear hk); (try clear hi)) | ((with_reducible refine gate_callee (f := 136) rfl ?_); refine goesL_ (some 23) rfl rfl Try.func136 (by kernel_rfl) rfl #[.int .i64 t971] rfl (by (try simp only [List.map_toArray, List.map_cons, List.map_nil]); first | done | rfl | (simp only [List.length_drop, List.length_take]; rfl)) ?_; (with_reducible refine (impl_single.calls k t971 t973 _ A7.out).mono ?_); rintro e w' ⟨rfl, ⟨nd, rfl⟩⟩; refine ⟨_, rfl, ?_⟩) | ((with_reducible refine gate_callee (f := 136) rfl ?_); refine goesL_ (some 25) rfl rfl Try.func136 (by kernel_rfl) rfl #[.int .i64 t972] rfl (by (try simp only [List.map_toArray, List.map_cons, List.map_nil]); first | done | rfl | (simp only [List.length_drop, List.length_take]; rfl)) ?_; (with_reducible refine (impl_single.calls k t972 t974 _ A8.out).mono ?_); rintro e w' ⟨rfl, ⟨nd, rfl⟩⟩; refine ⟨_, rfl, ?_⟩))
 go_ret
 exact ⟨by first | rfl | (simp [errW_none, errW_some] <;> rfl) | (simp only [← hji9]; first | rfl | (simp [errW_none, errW_some] <;> rfl)) | (simp [*, errW_none, errW_some] <;> rfl), by repeat (first | (with_reducible first | exact HB.out | apply below_alloc | apply pw_below_drewN | apply below_drew1) | exact HB.out)⟩
def impl_chi_isInside.f (k : Nat) (l0 : List Int) (a1 : Int) (a2 : Int) (a3 : Int) (a4 : Int) : Option (Bool) := (impl_chi_inner.f k l0 a1 a2 a3 a4).bind fun t975 => (some (t975 == a1))
theorem impl_chi_isInside.mono : ∀ a0 a1 a2 a3 a4 k, LeO (impl_chi_isInside.f k a0 a1 a2 a3 a4) (impl_chi_isInside.f (k + 1) a0 a1 a2 a3 a4) := by
 intro a0 a1 a2 a3 a4 k
 unfold impl_chi_isInside.f
 repeat' first
   | (with_reducible exact impl_chi_inner.mono _ _ _ _ _ _)
   | (with_reducible exact LeO.refl _)
   | (with_reducible exact LeO.none _)
   | (with_reducible refine LeO.ite ?_ ?_)
   | (with_reducible refine LeO.bind ?_ (fun _ => ?_))
   | exact impl_chi_inner.mono _ _ _ _ _ _
   | exact LeO.none _
   | refine LeO.ite ?_ ?_
   | refine LeO.bind ?_ (fun _ => ?_)
set_option maxHeartbeats 8000000 in
set_option maxRecDepth 100000 in
theorem impl_chi_isInside.calls (k : Nat) (A0 : Option Addr) (c0 : Nat) (l0 : List Int) (a1 : Int) (a2 : Int) (a3 : Int) (a4 : Int) (r : Bool) (w : World) (hr0 : Kd.C (Kd.int .i64) w A0 l0.length l0) (hc0 : l0.length ≤ c0) (h : impl_chi_isInside.f k l0 a1 a2 a3 a4 = some r) :
  Calls Try.prog 133 #[.pointer A0, .int .i64 a1, .int .i64 a2, .int .i64 a3, .int .i64 a4] w fun e w' => e = .returned (.bool r) ∧ Below w.heap.size w w' := by
 have HR0 := Aside0.mk hr0
 have HC0 := Aside0.mk hc0
 clear hr0 hc0
 have HB := Aside0.mk (Below.refl w.heap.size w)
 have H : ((impl_chi_inner.f k l0 a1 a2 a3 a4).bind fun t975 => (some (t975 == a1))) = some r := h
 clear h
 replace H := Option.bind_eq_some_iff.mp H
 obtain ⟨t975, A60, H⟩ := H
 replace H : (some (t975 == a1)) = some r := H
 have A6 := Aside0.mk A60
 clear A60
 obtain rfl := Option.some.inj H
 go_enter Try.func133, Try.ntmps133
 go_wp2_with (first | ((with_reducible refine gate_callee (f := 134) rfl ?_); refine goesL_ (some 16) rfl rfl Try.func134 (by kernel_rfl) rfl #[.pointer A0, .int .i64 a1, .int .i64 a2, .int .i64 a3, .int .i64 a4] rfl (by (try simp only [List.map_toArray, List.map_cons, List.map_nil]); first | done | rfl | (simp only [List.length_drop, List.length_take]; rfl)) ?_; (refine (impl_chi_inner.calls k _ c0 l0 a1 a2 a3 a4 t975 _ ?side1 ?side2 A6.out).mono ?_); (case side1 => repeat (first | exact HR0.out | (with_reducible refine Kd.C_alloc ?_ _) | (with_reducible refine Kd.C_drewN ?_ _) | (with_reducible refine Kd.C_drew ?_))); (case side2 => exact HC0.out); rintro e w7 ⟨rfl, hb⟩; refine ⟨_, rfl, ?_⟩; have n0_ := Aside0.mk (below_step (by repeat (first | (with_reducible first | exact HB.out | apply below_alloc | apply pw_below_drewN | apply below_drew1) | exact HB.out)) hb); clear HB; have HB := n0_; clear n0_; (try clear hb); (try clear hb2); (try clear hk); (try clear hi)))
 go_ret
 exact ⟨by first | rfl | (simp [errW_none, errW_some] <;> rfl) | (simp [*, errW_none, errW_some] <;> rfl), by repeat (first | (with_reducible first | exact HB.out | apply below_alloc | apply pw_below_drewN | apply below_drew1) | exact HB.out)⟩
def impl_chi_inHull.l0 : Nat → List Int → Int → Int → List (S60) → Int → Int → Option (Bool)
 | 0, _, _, _, _, _, _ => none
 | k + 1, x0, x1, x2, x14, x15, x16 => if x16 < x15 then (if 0 ≤ x16 then (if x16 < (x14.length : Int) then (if 0 ≤ ((rd_T60 x14 x16).f0) then (if 0 ≤ ((rd_T60 x14 x16).f1) then (if 0 ≤ ((rd_T60 x14 x16).f2) then (if (Go.bits .and .i64 x1 (Go.bits .or .i64 (Go.bits .or .i64 (shl .i64 1 ((rd_T60 x14 x16).f0)) (shl .i64 1 ((rd_T60 x14 x16).f1))) (shl .i64 1 ((rd_T60 x14 x16).f2)))) = (Go.bits .or .i64 (Go.bits .or .i64 (shl .i64 1 ((rd_T60 x14 x16).f0)) (shl .i64 1 ((rd_T60 x14 x16).f1))) (shl .i64 1 ((rd_T60 x14 x16).f2))) then ((impl_chi_isInside.f k x0 x2 ((rd_T60 x14 x16).f0) ((rd_T60 x14 x16).f1) ((rd_T60 x14 x16).f2)).bind fun t982 => (if t982 = true then (some true) else (impl_chi_inHull.l0 k x0 x1 x2 x14 x15 (wrap64 (x16 + 1))))) else (impl_chi_inHull.l0 k x0 x1 x2 x14 x15 (wrap64 (x16 + 1)))) else (none)) else (none)) else (none)) else (none)) else (none)) else (some false)
def impl_chi_inHull.f (k : Nat) (l0 : List Int) (a1 : Int) (a2 : Int) : Option (Bool) := if 344 ≤ (l0.length : Int) then ((impl_triplesOf.f k (chiN l0)).bind fun t977 => (impl_chi_inHull.l0 k l0 a1 a2 t977 (t977.length : Int) 0)) else (none)
theorem impl_chi_inHull.mono_l : ∀ k, (∀ y0 y1 y2 y3 y4 y5, LeO (impl_chi_inHull.l0 k y0 y1 y2 y3 y4 y5) (impl_chi_inHull.l0 (k + 1) y0 y1 y2 y3 y4 y5))
 | 0 => fun _ _ _ _ _ _ r h => by simp [impl_chi_inHull.l0] at h
 | k + 1 => by
  have ih0 := impl_chi_inHull.mono_l k
  ·intro y0 y1 y2 y3 y4 y5
   unfold impl_chi_inHull.l0
   repeat' first
   | (with_reducible exact ih0 _ _ _ _ _ _)
   | (with_reducible exact impl_chi_isInside.mono _ _ _ _ _ _)
   | (with_reducible exact impl_triplesOf.mono _ _)
   | (with_reducible exact LeO.refl _)
   | (with_reducible exact LeO.none _)
   | (with_reducible refine LeO.ite ?_ ?_)
   | (with_reducible refine LeO.bind ?_ (fun _ => ?_))
   | exact ih0 _ _ _ _ _ _
   | exact impl_chi_isInside.mono _ _ _ _ _ _
   | exact impl_triplesOf.mono _ _
   | exact LeO.none _
   | refine LeO.ite ?_ ?_
   | refine LeO.bind ?_ (fun _ => ?_)
theorem impl_chi_inHull.mono : ∀ a0 a1 a2 k, LeO (impl_chi_inHull.f k a0 a1 a2) (impl_chi_inHull.f (k + 1) a0 a1 a2) := by
 intro a0 a1 a2 k
 have ih0 := impl_chi_inHull.mono_l k
 unfold impl_chi_inHull.f
 repeat' first
   | (with_reducible exact ih0 _ _ _ _ _ _)
   | (with_reducible exact impl_chi_isInside.mono _ _ _ _ _ _)
   | (with_reducible exact impl_triplesOf.mono _ _)
   | (with_reducible exact LeO.refl _)
   | (with_reducible exact LeO.none _)
   | (with_reducible refine LeO.ite ?_ ?_)
   | (with_reducible refine LeO.bind ?_ (fun _ => ?_))
   | exact ih0 _ _ _ _ _ _
   | exact impl_chi_isInside.mono _ _ _ _ _ _
   | exact impl_triplesOf.mono _ _
   | exact LeO.none _
   | refine LeO.ite ?_ ?_
   | refine LeO.bind ?_ (fun _ => ?_)
set_option maxHeartbeats 8000000 in
set_option maxRecDepth 100000 in
theorem impl_chi_inHull.calls (k : Nat) (A0 : Option Addr) (c0 : Nat) (l0 : List Int) (a1 : Int) (a2 : Int) (r : Bool) (w : World) (hr0 : Kd.C (Kd.int .i64) w A0 l0.length l0) (hc0 : l0.length ≤ c0) (h : impl_chi_inHull.f k l0 a1 a2 = some r) :
  Calls Try.prog 129 #[.pointer A0, .int .i64 a1, .int .i64 a2] w fun e w' => e = .returned (.bool r) ∧ Below w.heap.size w w' := by
 have hu60 := Try.underlying60
 have HR0 := Aside0.mk hr0
 have HC0 := Aside0.mk hc0
 clear hr0 hc0
 have HB := Aside0.mk (Below.refl w.heap.size w)
 have H : (if 344 ≤ (l0.length : Int) then ((impl_triplesOf.f k (chiN l0)).bind fun t977 => (impl_chi_inHull.l0 k l0 a1 a2 t977 (t977.length : Int) 0)) else (none)) = some r := h
 clear h
 by_cases c4 : 344 ≤ (l0.length : Int)
 ·rw [if_pos c4] at H
  have c4b0 := eq_true c4
  have c4b1 : decide (344 ≤ (l0.length : Int)) = true := decide_eq_true c4
  clear c4
  replace H := Option.bind_eq_some_iff.mp H
  obtain ⟨t977, A50, H⟩ := H
  replace H : (impl_chi_inHull.l0 k l0 a1 a2 t977 (t977.length : Int) 0) = some r := H
  have A5 := Aside0.mk A50
  clear A50
  have H' := Aside0.mk H
  clear H
  have q976 : 344 ≤ (l0.length : Int) := of_decide_eq_true (by first | (with_reducible assumption) | assumption)
  obtain ⟨ad976, e976, hx976_0⟩ := chi_n HR0.out q976
  cases e976
  go_enter Try.func129, Try.ntmps129
  go_wp2_with (first | (go_at_call 44; (with_reducible refine (impl_triplesOf.calls k (chiN l0) t977 _ A5.out).mono ?_); rintro e w6 ⟨v978, rfl, ho0, hb⟩; have n0_ := Aside0.mk (Kd.R_lower ho0 (below_size (by repeat (first | (with_reducible first | exact HB.out | apply below_alloc | apply pw_below_drewN | apply below_drew1) | exact HB.out)))); have n1_ := Aside0.mk (below_step (by repeat (first | (with_reducible first | exact HB.out | apply below_alloc | apply pw_below_drewN | apply below_drew1) | exact HB.out)) hb); clear HB; have HO979 := n0_; have HB := n1_; clear n0_ n1_; (try clear hb); (try clear hb2); (try clear hk); (try clear hi); (try clear ho0); obtain ⟨Ao7, co7, eo7⟩ := Kd.R_slice HO979.out; subst eo7))
  repeat (go_quiet (first | (go_at_call 44; (with_reducible refine (impl_triplesOf.calls k (chiN l0) t977 _ A5.out).mono ?_); rintro e w6 ⟨v978, rfl, ho0, hb⟩; have n0_ := Aside0.mk (Kd.R_lower ho0 (below_size (by repeat (first | (with_reducible first | exact HB.out | apply below_alloc | apply pw_below_drewN | apply below_drew1) | exact HB.out)))); have n1_ := Aside0.mk (below_step (by repeat (first | (with_reducible first | exact HB.out | apply below_alloc | apply pw_below_drewN | apply below_drew1) | exact HB.out)) hb); clear HB; have HO979 := n0_; have HB := n1_; clear n0_ n1_; (try clear hb); (try clear hb2); (try clear hk); (try clear hi); (try clear ho0); obtain ⟨Ao7, co7, eo7⟩ := Kd.R_slice HO979.out; subst eo7)); try go_wp2_with (first | (go_at_call 44; (with_reducible refine (impl_triplesOf.calls k (chiN l0) t977 _ A5.out).mono ?_); rintro e w6 ⟨v978, rfl, ho0, hb⟩; have n0_ := Aside0.mk (Kd.R_lower ho0 (below_size (by repeat (first | (with_reducible first | exact HB.out | apply below_alloc | apply pw_below_drewN | apply below_drew1) | exact HB.out)))); have n1_ := Aside0.mk (below_step (by repeat (first | (with_reducible first | exact HB.out | apply below_alloc | apply pw_below_drewN | apply below_drew1) | exact HB.out)) hb); clear HB; have HO979 := n0_; have HB := n1_; clear n0_ n1_; (try clear hb); (try clear hb2); (try clear hk); (try clear hi); (try clear ho0); obtain ⟨Ao7, co7, eo7⟩ := Kd.R_slice HO979.out; subst eo7)))
  go_loopg [16] k (fun kq v16 w' => ∃ (x16_1 : Int), v16 = .int .i64 x16_1 ∧ Aside0 (impl_chi_inHull.l0 kq l0 a1 a2 t977 (t977.length : Int) x16_1 = some r) ∧ Aside0 (kq ≤ k) ∧ Aside0 (Kd.R k60 60 w' w.heap.size (fun _ => True) (.slice Ao7 t977.length co7) t977) ∧ Aside0 (Below w.heap.size w w'))
  case atStart => exact ⟨(0), (by first | rfl | (simp; done) | (simp [*]; done)), H', ⟨Nat.le_refl _⟩, ⟨by (with_reducible repeat (first | apply Kd.R_alloc | apply Kd.R_drewN | apply Kd.R_drew)); exact HO979.out⟩, ⟨by repeat (first | (with_reducible first | exact HB.out | apply below_alloc | apply pw_below_drewN | apply below_drew1) | exact HB.out)⟩⟩
  case round =>
   clear H'
   try clear c1
   try clear p2
   try clear c4
   try clear c4b0
   try clear c4b1
   try clear hx976_0
   try clear q976
   obtain ⟨x16_1, rfl, HA, HK1, HO_14, HB⟩ := hrel
   cases gk with
   | zero => exact absurd HA.out (by simp [impl_chi_inHull.l0])
   | succ k1 =>
    have H := HA.out
    clear HA
    simp only [impl_chi_inHull.l0] at H
    by_cases c8 : x16_1 < (t977.length : Int)
    ·rw [if_pos c8] at H
     have c8b0 : decide (x16_1 < (t977.length : Int)) = true := decide_eq_true c8
     clear c8
     by_cases c9 : 0 ≤ x16_1
     ·rw [if_pos c9] at H
      have c9b0 : decide (0 ≤ x16_1) = true := decide_eq_true c9
      clear c9
      by_cases c10 : x16_1 < (t977.length : Int)
      ·rw [if_pos c10] at H
       have c10b0 : decide (x16_1 < (t977.length : Int)) = true := decide_eq_true c10
       clear c10
       by_cases c11 : 0 ≤ ((rd_T60 t977 x16_1).f0)
       ·rw [if_pos c11] at H
        have c11b0 := eq_true c11
        have c11b1 : decide (0 ≤ ((rd_T60 t977 x16_1).f0)) = true := decide_eq_true c11
        clear c11
        obtain ⟨ji12, hji12⟩ : ∃ j_ : Int, (shl .i64 1 ((rd_T60 t977 x16_1).f0)) = j_ := ⟨_, rfl⟩
        replace H : (if 0 ≤ ((rd_T60 t977 x16_1).f1) then (if 0 ≤ ((rd_T60 t977 x16_1).f2) then (if (Go.bits .and .i64 a1 (Go.bits .or .i64 (Go.bits .or .i64 (ji12) (shl .i64 1 ((rd_T60 t977 x16_1).f1))) (shl .i64 1 ((rd_T60 t977 x16_1).f2)))) = (Go.bits .or .i64 (Go.bits .or .i64 (ji12) (shl .i64 1 ((rd_T60 t977 x16_1).f1))) (shl .i64 1 ((rd_T60 t977 x16_1).f2))) then ((impl_chi_isInside.f k1 l0 a2 ((rd_T60 t977 x16_1).f0) ((rd_T60 t977 x16_1).f1) ((rd_T60 t977 x16_1).f2)).bind fun t982 => (if t982 = true then (some true) else (impl_chi_inHull.l0 k1 l0 a1 a2 t977 (t977.length : Int) (wrap64 (x16_1 + 1))))) else (impl_chi_inHull.l0 k1 l0 a1 a2 t977 (t977.length : Int) (wrap64 (x16_1 + 1)))) else (none)) else (none)) = some r := by first | (rw [hji12] at H; exact H) | (simp only [hji12] at H ⊢; exact H)
        have hji12_ : (IntKind.i64.wrap (1 * 2 ^ min ((rd_T60 t977 x16_1).f0).toNat 64)) = ji12 := hji12
        have hji12z : ((rd_T60 t977 x16_1).f0) ≤ 64 → (IntKind.i64.wrap (1 * 2 ^ ((rd_T60 t977 x16_1).f0).toNat)) = ji12 := shl_small hji12
        have hji12u : (IntKind.i64.wrap (2 ^ min ((rd_T60 t977 x16_1).f0).toNat 64)) = ji12 := by have h_ := hji12_; rw [Int.one_mul] at h_; exact h_
        have hji12v : ((rd_T60 t977 x16_1).f0) ≤ 64 → (IntKind.i64.wrap (2 ^ ((rd_T60 t977 x16_1).f0).toNat)) = ji12 := fun hle_ => by have h_ := hji12z hle_; rw [Int.one_mul] at h_; exact h_
        have hji12y : (wrap64 (1 * 2 ^ min ((rd_T60 t977 x16_1).f0).toNat 64)) = ji12 := (i64_w _).symm.trans hji12_
        have hji12x : ((rd_T60 t977 x16_1).f0) ≤ 64 → (wrap64 (1 * 2 ^ ((rd_T60 t977 x16_1).f0).toNat)) = ji12 := fun h_ => (i64_w _).symm.trans (hji12z h_)
        by_cases c13 : 0 ≤ ((rd_T60 t977 x16_1).f1)
        ·rw [if_pos c13] at H
         have c13b0 := eq_true c13
         have c13b1 : decide (0 ≤ ((rd_T60 t977 x16_1).f1)) = true := decide_eq_true c13
         clear c13
         obtain ⟨ji14, hji14⟩ : ∃ j_ : Int, (shl .i64 1 ((rd_T60 t977 x16_1).f1)) = j_ := ⟨_, rfl⟩
         replace H : (if 0 ≤ ((rd_T60 t977 x16_1).f2) then (if (Go.bits .and .i64 a1 (Go.bits .or .i64 (Go.bits .or .i64 (ji12) (ji14)) (shl .i64 1 ((rd_T60 t977 x16_1).f2)))) = (Go.bits .or .i64 (Go.bits .or .i64 (ji12) (ji14)) (shl .i64 1 ((rd_T60 t977 x16_1).f2))) then ((impl_chi_isInside.f k1 l0 a2 ((rd_T60 t977 x16_1).f0) ((rd_T60 t977 x16_1).f1) ((rd_T60 t977 x16_1).f2)).bind fun t982 => (if t982 = true then (some true) else (impl_chi_inHull.l0 k1 l0 a1 a2 t977 (t977.length : Int) (wrap64 (x16_1 + 1))))) else (impl_chi_inHull.l0 k1 l0 a1 a2 t977 (t977.length : Int) (wrap64 (x16_1 + 1)))) else (none)) = some r := by first | (rw [hji14] at H; exact H) | (simp only [hji14] at H ⊢; exact H)
         have hji14_ : (IntKind.i64.wrap (1 * 2 ^ min ((rd_T60 t977 x16_1).f1).toNat 64)) = ji14 := hji14
         have hji14z : ((rd_T60 t977 x16_1).f1) ≤ 64 → (IntKind.i64.wrap (1 * 2 ^ ((rd_T60 t977 x16_1).f1).toNat)) = ji14 := shl_small hji14
         have hji14u : (IntKind.i64.wrap (2 ^ min ((rd_T60 t977 x16_1).f1).toNat 64)) = ji14 := by have h_ := hji14_; rw [Int.one_mul] at h_; exact h_
         have hji14v : ((rd_T60 t977 x16_1).f1) ≤ 64 → (IntKind.i64.wrap (2 ^ ((rd_T60 t977 x16_1).f1).toNat)) = ji14 := fun hle_ => by have h_ := hji14z hle_; rw [Int.one_mul] at h_; exact h_
         have hji14y : (wrap64 (1 * 2 ^ min ((rd_T60 t977 x16_1).f1).toNat 64)) = ji14 := (i64_w _).symm.trans hji14_
         have hji14x : ((rd_T60 t977 x16_1).f1) ≤ 64 → (wrap64 (1 * 2 ^ ((rd_T60 t977 x16_1).f1).toNat)) = ji14 := fun h_ => (i64_w _).symm.trans (hji14z h_)
         by_cases c15 : 0 ≤ ((rd_T60 t977 x16_1).f2)
         ·rw [if_pos c15] at H
          have c15b0 := eq_true c15
          have c15b1 : decide (0 ≤ ((rd_T60 t977 x16_1).f2)) = true := decide_eq_true c15
          clear c15
          obtain ⟨ji16, hji16⟩ : ∃ j_ : Int, (shl .i64 1 ((rd_T60 t977 x16_1).f2)) = j_ := ⟨_, rfl⟩
          replace H : (if (Go.bits .and .i64 a1 (Go.bits .or .i64 (Go.bits .or .i64 (ji12) (ji14)) (ji16))) = (Go.bits .or .i64 (Go.bits .or .i64 (ji12) (ji14)) (ji16)) then ((impl_chi_isInside.f k1 l0 a2 ((rd_T60 t977 x16_1).f0) ((rd_T60 t977 x16_1).f1) ((rd_T60 t977 x16_1).f2)).bind fun t982 => (if t982 = true then (some true) else (impl_chi_inHull.l0 k1 l0 a1 a2 t977 (t977.length : Int) (wrap64 (x16_1 + 1))))) else (impl_chi_inHull.l0 k1 l0 a1 a2 t977 (t977.length : Int) (wrap64 (x16_1 + 1)))) = some r := by first | (rw [hji16] at H; exact H) | (simp only [hji16] at H ⊢; exact H)
          have hji16_ : (IntKind.i64.wrap (1 * 2 ^ min ((rd_T60 t977 x16_1).f2).toNat 64)) = ji16 := hji16
          have hji16z : ((rd_T60 t977 x16_1).f2) ≤ 64 → (IntKind.i64.wrap (1 * 2 ^ ((rd_T60 t977 x16_1).f2).toNat)) = ji16 := shl_small hji16
          have hji16u : (IntKind.i64.wrap (2 ^ min ((rd_T60 t977 x16_1).f2).toNat 64)) = ji16 := by have h_ := hji16_; rw [Int.one_mul] at h_; exact h_
          have hji16v : ((rd_T60 t977 x16_1).f2) ≤ 64 → (IntKind.i64.wrap (2 ^ ((rd_T60 t977 x16_1).f2).toNat)) = ji16 := fun hle_ => by have h_ := hji16z hle_; rw [Int.one_mul] at h_; exact h_
          have hji16y : (wrap64 (1 * 2 ^ min ((rd_T60 t977 x16_1).f2).toNat 64)) = ji16 := (i64_w _).symm.trans hji16_
          have hji16x : ((rd_T60 t977 x16_1).f2) ≤ 64 → (wrap64 (1 * 2 ^ ((rd_T60 t977 x16_1).f2).toNat)) = ji16 := fun h_ => (i64_w _).symm.trans (hji16z h_)
          by_cases c17 : (Go.bits .and .i64 a1 (Go.bits .or .i64 (Go.bits .or .i64 (ji12) (ji14)) (ji16))) = (Go.bits .or .i64 (Go.bits .or .i64 (ji12) (ji14)) (ji16))
          ·rw [if_pos c17] at H
           have c17b0 : ((Go.bits .and .i64 a1 (Go.bits .or .i64 (Go.bits .or .i64 (ji12) (ji14)) (ji16))) == (Go.bits .or .i64 (Go.bits .or .i64 (ji12) (ji14)) (ji16))) = true := beq_iff_eq.mpr c17
           have c17b1 : ((Go.bits .and .i64 a1 (Go.bits .or .i64 (Go.bits .or .i64 (ji12) (ji14)) (ji16))) != (Go.bits .or .i64 (Go.bits .or .i64 (ji12) (ji14)) (ji16))) = false := bne_eq_false_iff_eq.mpr c17
           clear c17
           replace H := Option.bind_eq_some_iff.mp H
           obtain ⟨t982, A180, H⟩ := H
           replace H : (if t982 = true then (some true) else (impl_chi_inHull.l0 k1 l0 a1 a2 t977 (t977.length : Int) (wrap64 (x16_1 + 1)))) = some r := H
           have A18 := Aside0.mk A180
           clear A180
           by_cases c19 : t982 = true
           ·subst c19
            have H1 : (some true) = some r := by rw [if_pos rfl] at H; exact H
            clear H
            have H := H1
            clear H1
            obtain rfl := Option.some.inj H
            have p980 : 0 ≤ (x16_1 : Int) := of_decide_eq_true (by first | (with_reducible assumption) | assumption)
            have q980 : x16_1 < (t977.length : Int) := of_decide_eq_true (by first | (with_reducible assumption) | assumption)
            obtain ⟨ad980, e980, hx980_0, hx980_1, hx980_2⟩ := at_T60 (Kd.R_reads' HO_14.out).2.2 x16_1 p980 q980
            cases e980
            replace p980 := eq_true p980
            replace q980 := eq_true q980
            go_wp2_with (first | ((with_reducible refine gate_dst (N := 8) rfl ?_); refine box_event ?hg (N := 8) ?hd (cs := #[.int .i64 0, .int .i64 0, .int .i64 0]) (t := 60) ?hr ?_; (case hd => rfl); (case hg => rfl); (case hr => first | (go_simp; done) | (go_simp; rfl)); intro gb981 hg w20 hbox hb; have n0_ := Aside0.mk (Kd.R_below (Kd.R_elderB (by (with_reducible repeat (first | apply Kd.R_alloc | apply Kd.R_drewN | apply Kd.R_drew)); exact HO_14.out) gb981 (Nat.le_of_eq hg.symm)) hb); have n1_ := Aside0.mk (below_step (by repeat (first | (with_reducible first | exact HB.out | apply below_alloc | apply pw_below_drewN | apply below_drew1) | exact HB.out)) hb); have n2_ := Aside0.mk (hbox); have n3_ := Aside0.mk ((by rw [hg]; exact (below_size (by repeat (first | (with_reducible first | exact HB.out | apply below_alloc | apply pw_below_drewN | apply below_drew1) | exact HB.out))) : w.heap.size ≤ gb981)); have n4_ := Aside0.mk ((by rw [hg]; exact (below_size (by repeat (first | (with_reducible first | exact HB.out | apply below_alloc | apply pw_below_drewN | apply below_drew1) | exact HB.out))) : w.heap.size ≤ gb981)); clear HO_14; clear HB; have HO_14 := n0_; have HB := n1_; have BK981 := n2_; have GW981 := n3_; have GE981 := n4_; clear n0_ n1_ n2_ n3_ n4_; clear hb hbox hg; have hcz21_0 : w20.cell? ⟨gb981, 0, none⟩ = some (.int .i64 0) := (blk_cell BK981.out 0).trans rfl; have hcz21_1 : w20.cell? ⟨gb981, 1, none⟩ = some (.int .i64 0) := (blk_cell BK981.out 1).trans rfl; have hcz21_2 : w20.cell? ⟨gb981, 2, none⟩ = some (.int .i64 0) := (blk_cell BK981.out 2).trans rfl; have hfz21_0 := blk_frozen BK981.out 0; have hfz21_1 := blk_frozen BK981.out 1; have hfz21_2 := blk_frozen BK981.out 2) | (go_at_call 133; (refine (impl_chi_isInside.calls k1 _ c0 l0 a2 ((rd_T60 t977 x16_1).f0) ((rd_T60 t977 x16_1).f1) ((rd_T60 t977 x16_1).f2) true _ ?side1 ?side2 A18.out).mono ?_); (case side1 => exact Kd.C_below HR0.out (by repeat (first | (with_reducible first | exact HB.out | apply below_alloc | apply pw_below_drewN | apply below_drew1 | refine below_set ?_ GE981.out) | exact HB.out))); (case side2 => exact HC0.out); rintro e w22 ⟨rfl, hb⟩; have n0_ := Aside0.mk (Kd.R_below (by (with_reducible repeat (first | apply Kd.R_alloc | apply Kd.R_drewN | apply Kd.R_drew)); exact (Kd.R_mono (Kd.R_far (p := ⟨gb981, 2, none⟩) (Kd.R_far (p := ⟨gb981, 1, none⟩) (Kd.R_far (p := ⟨gb981, 0, none⟩) (Kd.R_mono HO_14.out (fun k_ hk => (⟨hk, hk.2⟩ : _ ∧ k_ ≠ gb981))) (fun _ hk => hk.2) (.int .i64 ((rd_T60 t977 x16_1).f0))) (fun _ hk => hk.2) (.int .i64 ((rd_T60 t977 x16_1).f1))) (fun _ hk => hk.2) (.int .i64 ((rd_T60 t977 x16_1).f2))) (fun _ h_ => h_.1))) hb); have n1_ := Aside0.mk (blk_below (g := gb981) (o := .cells #[.int .i64 ((rd_T60 t977 x16_1).f0), .int .i64 ((rd_T60 t977 x16_1).f1), .int .i64 ((rd_T60 t977 x16_1).f2)] 60 (0, 0)) (by (with_reducible repeat (first | refine blk_drewN ?_ _ | refine blk_drew ?_ | refine blk_alloc ?_ _)); refine blk_put (cs := #[.int .i64 ((rd_T60 t977 x16_1).f0), .int .i64 ((rd_T60 t977 x16_1).f1), .int .i64 0]) ?_ 2 _ rfl; (with_reducible repeat (first | refine blk_drewN ?_ _ | refine blk_drew ?_ | refine blk_alloc ?_ _)); refine blk_put (cs := #[.int .i64 ((rd_T60 t977 x16_1).f0), .int .i64 0, .int .i64 0]) ?_ 1 _ rfl; (with_reducible repeat (first | refine blk_drewN ?_ _ | refine blk_drew ?_ | refine blk_alloc ?_ _)); refine blk_put (cs := #[.int .i64 0, .int .i64 0, .int .i64 0]) ?_ 0 _ rfl; (with_reducible repeat (first | refine blk_drewN ?_ _ | refine blk_drew ?_ | refine blk_alloc ?_ _)); exact BK981.out) hb); have n2_ := Aside0.mk (below_step (by repeat (first | (with_reducible first | exact HB.out | apply below_alloc | apply pw_below_drewN | apply below_drew1 | refine below_set ?_ GE981.out) | exact HB.out)) hb); clear HO_14; clear BK981; clear HB; have HO_14 := n0_; have BK981 := n1_; have HB := n2_; clear n0_ n1_ n2_; (try clear hb); (try clear hb2); (try clear hk); (try clear hi)))
            repeat (go_quiet (first | ((with_reducible refine gate_dst (N := 8) rfl ?_); refine box_event ?hg (N := 8) ?hd (cs := #[.int .i64 0, .int .i64 0, .int .i64 0]) (t := 60) ?hr ?_; (case hd => rfl); (case hg => rfl); (case hr => first | (go_simp; done) | (go_simp; rfl)); intro gb981 hg w20 hbox hb; have n0_ := Aside0.mk (Kd.R_below (Kd.R_elderB (by (with_reducible repeat (first | apply Kd.R_alloc | apply Kd.R_drewN | apply Kd.R_drew)); exact HO_14.out) gb981 (Nat.le_of_eq hg.symm)) hb); have n1_ := Aside0.mk (below_step (by repeat (first | (with_reducible first | exact HB.out | apply below_alloc | apply pw_below_drewN | apply below_drew1) | exact HB.out)) hb); have n2_ := Aside0.mk (hbox); have n3_ := Aside0.mk ((by rw [hg]; exact (below_size (by repeat (first | (with_reducible first | exact HB.out | apply below_alloc | apply pw_below_drewN | apply below_drew1) | exact HB.out))) : w.heap.size ≤ gb981)); have n4_ := Aside0.mk ((by rw [hg]; exact (below_size (by repeat (first | (with_reducible first | exact HB.out | apply below_alloc | apply pw_below_drewN | apply below_drew1) | exact HB.out))) : w.heap.size ≤ gb981)); clear HO_14; clear HB; have HO_14 := n0_; have HB := n1_; have BK981 := n2_; have GW981 := n3_; have GE981 := n4_; clear n0_ n1_ n2_ n3_ n4_; clear hb hbox hg; have hcz21_0 : w20.cell? ⟨gb981, 0, none⟩ = some (.int .i64 0) := (blk_cell BK981.out 0).trans rfl; have hcz21_1 : w20.cell? ⟨gb981, 1, none⟩ = some (.int .i64 0) := (blk_cell BK981.out 1).trans rfl; have hcz21_2 : w20.cell? ⟨gb981, 2, none⟩ = some (.int .i64 0) := (blk_cell BK981.out 2).trans rfl; have hfz21_0 := blk_frozen BK981.out 0; have hfz21_1 := blk_frozen BK981.out 1; have hfz21_2 := blk_frozen BK981.out 2) | (go_at_call 133; (refine (impl_chi_isInside.calls k1 _ c0 l0 a2 ((rd_T60 t977 x16_1).f0) ((rd_T60 t977 x16_1).f1) ((rd_T60 t977 x16_1).f2) true _ ?side1 ?side2 A18.out).mono ?_); (case side1 => exact Kd.C_below HR0.out (by repeat (first | (with_reducible first | exact HB.out | apply below_alloc | apply pw_below_drewN | apply below_drew1 | refine below_set ?_ GE981.out) | exact HB.out))); (case side2 => exact HC0.out); rintro e w22 ⟨rfl, hb⟩; have n0_ := Aside0.mk (Kd.R_below (by (with_reducible repeat (first | apply Kd.R_alloc | apply Kd.R_drewN | apply Kd.R_drew)); exact (Kd.R_mono (Kd.R_far (p := ⟨gb981, 2, none⟩) (Kd.R_far (p := ⟨gb981, 1, none⟩) (Kd.R_far (p := ⟨gb981, 0, none⟩) (Kd.R_mono HO_14.out (fun k_ hk => (⟨hk, hk.2⟩ : _ ∧ k_ ≠ gb981))) (fun _ hk => hk.2) (.int .i64 ((rd_T60 t977 x16_1).f0))) (fun _ hk => hk.2) (.int .i64 ((rd_T60 t977 x16_1).f1))) (fun _ hk => hk.2) (.int .i64 ((rd_T60 t977 x16_1).f2))) (fun _ h_ => h_.1))) hb); have n1_ := Aside0.mk (blk_below (g := gb981) (o := .cells #[.int .i64 ((rd_T60 t977 x16_1).f0), .int .i64 ((rd_T60 t977 x16_1).f1), .int .i64 ((rd_T60 t977 x16_1).f2)] 60 (0, 0)) (by (with_reducible repeat (first | refine blk_drewN ?_ _ | refine blk_drew ?_ | refine blk_alloc ?_ _)); refine blk_put (cs := #[.int .i64 ((rd_T60 t977 x16_1).f0), .int .i64 ((rd_T60 t977 x16_1).f1), .int .i64 0]) ?_ 2 _ rfl; (with_reducible repeat (first | refine blk_drewN ?_ _ | refine blk_drew ?_ | refine blk_alloc ?_ _)); refine blk_put (cs := #[.int .i64 ((rd_T60 t977 x16_1).f0), .int .i64 0, .int .i64 0]) ?_ 1 _ rfl; (with_reducible repeat (first | refine blk_drewN ?_ _ | refine blk_drew ?_ | refine blk_alloc ?_ _)); refine blk_put (cs := #[.int .i64 0, .int .i64 0, .int .i64 0]) ?_ 0 _ rfl; (with_reducible repeat (first | refine blk_drewN ?_ _ | refine blk_drew ?_ | refine blk_alloc ?_ _)); exact BK981.out) hb); have n2_ := Aside0.mk (below_step (by repeat (first | (with_reducible first | exact HB.out | apply below_alloc | apply pw_below_drewN | apply below_drew1 | refine below_set ?_ GE981.out) | exact HB.out)) hb); clear HO_14; clear BK981; clear HB; have HO_14 := n0_; have BK981 := n1_; have HB := n2_; clear n0_ n1_ n2_; (try clear hb); (try clear hb2); (try clear hk); (try clear hi))); try go_wp2_with (first | ((with_reducible refine gate_dst (N := 8) rfl ?_); refine box_event ?hg (N := 8) ?hd (cs := #[.int .i64 0, .int .i64 0, .int .i64 0]) (t := 60) ?hr ?_; (case hd => rfl); (case hg => rfl); (case hr => first | (go_simp; done) | (go_simp; rfl)); intro gb981 hg w20 hbox hb; have n0_ := Aside0.mk (Kd.R_below (Kd.R_elderB (by (with_reducible repeat (first | apply Kd.R_alloc | apply Kd.R_drewN | apply Kd.R_drew)); exact HO_14.out) gb981 (Nat.le_of_eq hg.symm)) hb); have n1_ := Aside0.mk (below_step (by repeat (first | (with_reducible first | exact HB.out | apply below_alloc | apply pw_below_drewN | apply below_drew1) | exact HB.out)) hb); have n2_ := Aside0.mk (hbox); have n3_ := Aside0.mk ((by rw [hg]; exact (below_size (by repeat (first | (with_reducible first | exact HB.out | apply below_alloc | apply pw_below_drewN | apply below_drew1) | exact HB.out))) : w.heap.size ≤ gb981)); have n4_ := Aside0.mk ((by rw [hg]; exact (below_size (by repeat (first | (with_reducible first | exact HB.out | apply below_alloc | apply pw_below_drewN | apply below_drew1) | exact HB.out))) : w.heap.size ≤ gb981)); clear HO_14; clear HB; have HO_14 := n0_; have HB := n1_; have BK981 := n2_; have GW981 := n3_; have GE981 := n4_; clear n0_ n1_ n2_ n3_ n4_; clear hb hbox hg; have hcz21_0 : w20.cell? ⟨gb981, 0, none⟩ = some (.int .i64 0) := (blk_cell BK981.out 0).trans rfl; have hcz21_1 : w20.cell? ⟨gb981, 1, none⟩ = some (.int .i64 0) := (blk_cell BK981.out 1).trans rfl; have hcz21_2 : w20.cell? ⟨gb981, 2, none⟩ = some (.int .i64 0) := (blk_cell BK981.out 2).trans rfl; have hfz21_0 := blk_frozen BK981.out 0; have hfz21_1 := blk_frozen BK981.out 1; have hfz21_2 := blk_frozen BK981.out 2) | (go_at_call 133; (refine (impl_chi_isInside.calls k1 _ c0 l0 a2 ((rd_T60 t977 x16_1).f0) ((rd_T60 t977 x16_1).f1) ((rd_T60 t977 x16_1).f2) true _ ?side1 ?side2 A18.out).mono ?_); (case side1 => exact Kd.C_below HR0.out (by repeat (first | (with_reducible first | exact HB.out | apply below_alloc | apply pw_below_drewN | apply below_drew1 | refine below_set ?_ GE981.out) | exact HB.out))); (case side2 => exact HC0.out); rintro e w22 ⟨rfl, hb⟩; have n0_ := Aside0.mk (Kd.R_below (by (with_reducible repeat (first | apply Kd.R_alloc | apply Kd.R_drewN | apply Kd.R_drew)); exact (Kd.R_mono (Kd.R_far (p := ⟨gb981, 2, none⟩) (Kd.R_far (p := ⟨gb981, 1, none⟩) (Kd.R_far (p := ⟨gb981, 0, none⟩) (Kd.R_mono HO_14.out (fun k_ hk => (⟨hk, hk.2⟩ : _ ∧ k_ ≠ gb981))) (fun _ hk => hk.2) (.int .i64 ((rd_T60 t977 x16_1).f0))) (fun _ hk => hk.2) (.int .i64 ((rd_T60 t977 x16_1).f1))) (fun _ hk => hk.2) (.int .i64 ((rd_T60 t977 x16_1).f2))) (fun _ h_ => h_.1))) hb); have n1_ := Aside0.mk (blk_below (g := gb981) (o := .cells #[.int .i64 ((rd_T60 t977 x16_1).f0), .int .i64 ((rd_T60 t977 x16_1).f1), .int .i64 ((rd_T60 t977 x16_1).f2)] 60 (0, 0)) (by (with_reducible repeat (first | refine blk_drewN ?_ _ | refine blk_drew ?_ | refine blk_alloc ?_ _)); refine blk_put (cs := #[.int .i64 ((rd_T60 t977 x16_1).f0), .int .i64 ((rd_T60 t977 x16_1).f1), .int .i64 0]) ?_ 2 _ rfl; (with_reducible repeat (first | refine blk_drewN ?_ _ | refine blk_drew ?_ | refine blk_alloc ?_ _)); refine blk_put (cs := #[.int .i64 ((rd_T60 t977 x16_1).f0), .int .i64 0, .int .i64 0]) ?_ 1 _ rfl; (with_reducible repeat (first | refine blk_drewN ?_ _ | refine blk_drew ?_ | refine blk_alloc ?_ _)); refine blk_put (cs := #[.int .i64 0, .int .i64 0, .int .i64 0]) ?_ 0 _ rfl; (with_reducible repeat (first | refine blk_drewN ?_ _ | refine blk_drew ?_ | refine blk_alloc ?_ _)); exact BK981.out) hb); have n2_ := Aside0.mk (below_step (by repeat (first | (with_reducible first | exact HB.out | apply below_alloc | apply pw_below_drewN | apply below_drew1 | refine below_set ?_ GE981.out) | exact HB.out)) hb); clear HO_14; clear BK981; clear HB; have HO_14 := n0_; have BK981 := n1_; have HB := n2_; clear n0_ n1_ n2_; (try clear hb); (try clear hb2); (try clear hk); (try clear hi))))
            go_ret
            exact ⟨by first | rfl | (simp [errW_none, errW_some] <;> rfl) | (simp only [← hji12, ← hji14, ← hji16]; first | rfl | (simp [errW_none, errW_some] <;> rfl)) | (simp [*, errW_none, errW_some] <;> rfl), by repeat (first | (with_reducible first | exact HB.out | apply below_alloc | apply pw_below_drewN | apply below_drew1 | refine below_set ?_ GE981.out) | exact HB.out)⟩
           ·replace c19 := Bool.eq_false_iff.mpr c19
            subst c19
            have H1 : (impl_chi_inHull.l0 k1 l0 a1 a2 t977 (t977.length : Int) (wrap64 (x16_1 + 1))) = some r := by rw [if_neg (show ¬ (false = true) by decide)] at H; exact H
            clear H
            have H := H1
            clear H1
            have H' := Aside0.mk H
            clear H
            have p980 : 0 ≤ (x16_1 : Int) := of_decide_eq_true (by first | (with_reducible assumption) | assumption)
            have q980 : x16_1 < (t977.length : Int) := of_decide_eq_true (by first | (with_reducible assumption) | assumption)
            obtain ⟨ad980, e980, hx980_0, hx980_1, hx980_2⟩ := at_T60 (Kd.R_reads' HO_14.out).2.2 x16_1 p980 q980
            cases e980
            replace p980 := eq_true p980
            replace q980 := eq_true q980
            go_wp2_with (first | ((with_reducible refine gate_dst (N := 8) rfl ?_); refine box_event ?hg (N := 8) ?hd (cs := #[.int .i64 0, .int .i64 0, .int .i64 0]) (t := 60) ?hr ?_; (case hd => rfl); (case hg => rfl); (case hr => first | (go_simp; done) | (go_simp; rfl)); intro gb981 hg w23 hbox hb; have n0_ := Aside0.mk (Kd.R_below (Kd.R_elderB (by (with_reducible repeat (first | apply Kd.R_alloc | apply Kd.R_drewN | apply Kd.R_drew)); exact HO_14.out) gb981 (Nat.le_of_eq hg.symm)) hb); have n1_ := Aside0.mk (below_step (by repeat (first | (with_reducible first | exact HB.out | apply below_alloc | apply pw_below_drewN | apply below_drew1) | exact HB.out)) hb); have n2_ := Aside0.mk (hbox); have n3_ := Aside0.mk ((by rw [hg]; exact (below_size (by repeat (first | (with_reducible first | exact HB.out | apply below_alloc | apply pw_below_drewN | apply below_drew1) | exact HB.out))) : w.heap.size ≤ gb981)); have n4_ := Aside0.mk ((by rw [hg]; exact (below_size (by repeat (first | (with_reducible first | exact HB.out | apply below_alloc | apply pw_below_drewN | apply below_drew1) | exact HB.out))) : w.heap.size ≤ gb981)); clear HO_14; clear HB; have HO_14 := n0_; have HB := n1_; have BK981 := n2_; have GW981 := n3_; have GE981 := n4_; clear n0_ n1_ n2_ n3_ n4_; clear hb hbox hg; have hcz24_0 : w23.cell? ⟨gb981, 0, none⟩ = some (.int .i64 0) := (blk_cell BK981.out 0).trans rfl; have hcz24_1 : w23.cell? ⟨gb981, 1, none⟩ = some (.int .i64 0) := (blk_cell BK981.out 1).trans rfl; have hcz24_2 : w23.cell? ⟨gb981, 2, none⟩ = some (.int .i64 0) := (blk_cell BK981.out 2).trans rfl; have hfz24_0 := blk_frozen BK981.out 0; have hfz24_1 := blk_frozen BK981.out 1; have hfz24_2 := blk_frozen BK981.out 2) | (go_at_call 133; (refine (impl_chi_isInside.calls k1 _ c0 l0 a2 ((rd_T60 t977 x16_1).f0) ((rd_T60 t977 x16_1).f1) ((rd_T60 t977 x16_1).f2) false _ ?side1 ?side2 A18.out).mono ?_); (case side1 => exact Kd.C_below HR0.out (by repeat (first | (with_reducible first | exact HB.out | apply below_alloc | apply pw_below_drewN | apply below_drew1 | refine below_set ?_ GE981.out) | exact HB.out))); (case side2 => exact HC0.out); rintro e w25 ⟨rfl, hb⟩; have n0_ := Aside0.mk (Kd.R_below (by (with_reducible repeat (first | apply Kd.R_alloc | apply Kd.R_drewN | apply Kd.R_drew)); exact (Kd.R_mono (Kd.R_far (p := ⟨gb981, 2, none⟩) (Kd.R_far (p := ⟨gb981, 1, none⟩) (Kd.R_far (p := ⟨gb981, 0, none⟩) (Kd.R_mono HO_14.out (fun k_ hk => (⟨hk, hk.2⟩ : _ ∧ k_ ≠ gb981))) (fun _ hk => hk.2) (.int .i64 ((rd_T60 t977 x16_1).f0))) (fun _ hk => hk.2) (.int .i64 ((rd_T60 t977 x16_1).f1))) (fun _ hk => hk.2) (.int .i64 ((rd_T60 t977 x16_1).f2))) (fun _ h_ => h_.1))) hb); have n1_ := Aside0.mk (blk_below (g := gb981) (o := .cells #[.int .i64 ((rd_T60 t977 x16_1).f0), .int .i64 ((rd_T60 t977 x16_1).f1), .int .i64 ((rd_T60 t977 x16_1).f2)] 60 (0, 0)) (by (with_reducible repeat (first | refine blk_drewN ?_ _ | refine blk_drew ?_ | refine blk_alloc ?_ _)); refine blk_put (cs := #[.int .i64 ((rd_T60 t977 x16_1).f0), .int .i64 ((rd_T60 t977 x16_1).f1), .int .i64 0]) ?_ 2 _ rfl; (with_reducible repeat (first | refine blk_drewN ?_ _ | refine blk_drew ?_ | refine blk_alloc ?_ _)); refine blk_put (cs := #[.int .i64 ((rd_T60 t977 x16_1).f0), .int .i64 0, .int .i64 0]) ?_ 1 _ rfl; (with_reducible repeat (first | refine blk_drewN ?_ _ | refine blk_drew ?_ | refine blk_alloc ?_ _)); refine blk_put (cs := #[.int .i64 0, .int .i64 0, .int .i64 0]) ?_ 0 _ rfl; (with_reducible repeat (first | refine blk_drewN ?_ _ | refine blk_drew ?_ | refine blk_alloc ?_ _)); exact BK981.out) hb); have n2_ := Aside0.mk (below_step (by repeat (first | (with_reducible first | exact HB.out | apply below_alloc | apply pw_below_drewN | apply below_drew1 | refine below_set ?_ GE981.out) | exact HB.out)) hb); clear HO_14; clear BK981; clear HB; have HO_14 := n0_; have BK981 := n1_; have HB := n2_; clear n0_ n1_ n2_; (try clear hb); (try clear hb2); (try clear hk); (try clear hi)))
            repeat (go_quiet (first | ((with_reducible refine gate_dst (N := 8) rfl ?_); refine box_event ?hg (N := 8) ?hd (cs := #[.int .i64 0, .int .i64 0, .int .i64 0]) (t := 60) ?hr ?_; (case hd => rfl); (case hg => rfl); (case hr => first | (go_simp; done) | (go_simp; rfl)); intro gb981 hg w23 hbox hb; have n0_ := Aside0.mk (Kd.R_below (Kd.R_elderB (by (with_reducible repeat (first | apply Kd.R_alloc | apply Kd.R_drewN | apply Kd.R_drew)); exact HO_14.out) gb981 (Nat.le_of_eq hg.symm)) hb); have n1_ := Aside0.mk (below_step (by repeat (first | (with_reducible first | exact HB.out | apply below_alloc | apply pw_below_drewN | apply below_drew1) | exact HB.out)) hb); have n2_ := Aside0.mk (hbox); have n3_ := Aside0.mk ((by rw [hg]; exact (below_size (by repeat (first | (with_reducible first | exact HB.out | apply below_alloc | apply pw_below_drewN | apply below_drew1) | exact HB.out))) : w.heap.size ≤ gb981)); have n4_ := Aside0.mk ((by rw [hg]; exact (below_size (by repeat (first | (with_reducible first | exact HB.out | apply below_alloc | apply pw_below_drewN | apply below_drew1) | exact HB.out))) : w.heap.size ≤ gb981)); clear HO_14; clear HB; have HO_14 := n0_; have HB := n1_; have BK981 := n2_; have GW981 := n3_; have GE981 := n4_; clear n0_ n1_ n2_ n3_ n4_; clear hb hbox hg; have hcz24_0 : w23.cell? ⟨gb981, 0, none⟩ = some (.int .i64 0) := (blk_cell BK981.out 0).trans rfl; have hcz24_1 : w23.cell? ⟨gb981, 1, none⟩ = some (.int .i64 0) := (blk_cell BK981.out 1).trans rfl; have hcz24_2 : w23.cell? ⟨gb981, 2, none⟩ = some (.int .i64 0) := (blk_cell BK981.out 2).trans rfl; have hfz24_0 := blk_frozen BK981.out 0; have hfz24_1 := blk_frozen BK981.out 1; have hfz24_2 := blk_frozen BK981.out 2) | (go_at_call 133; (refine (impl_chi_isInside.calls k1 _ c0 l0 a2 ((rd_T60 t977 x16_1).f0) ((rd_T60 t977 x16_1).f1) ((rd_T60 t977 x16_1).f2) false _ ?side1 ?side2 A18.out).mono ?_); (case side1 => exact Kd.C_below HR0.out (by repeat (first | (with_reducible first | exact HB.out | apply below_alloc | apply pw_below_drewN | apply below_drew1 | refine below_set ?_ GE981.out) | exact HB.out))); (case side2 => exact HC0.out); rintro e w25 ⟨rfl, hb⟩; have n0_ := Aside0.mk (Kd.R_below (by (with_reducible repeat (first | apply Kd.R_alloc | apply Kd.R_drewN | apply Kd.R_drew)); exact (Kd.R_mono (Kd.R_far (p := ⟨gb981, 2, none⟩) (Kd.R_far (p := ⟨gb981, 1, none⟩) (Kd.R_far (p := ⟨gb981, 0, none⟩) (Kd.R_mono HO_14.out (fun k_ hk => (⟨hk, hk.2⟩ : _ ∧ k_ ≠ gb981))) (fun _ hk => hk.2) (.int .i64 ((rd_T60 t977 x16_1).f0))) (fun _ hk => hk.2) (.int .i64 ((rd_T60 t977 x16_1).f1))) (fun _ hk => hk.2) (.int .i64 ((rd_T60 t977 x16_1).f2))) (fun _ h_ => h_.1))) hb); have n1_ := Aside0.mk (blk_below (g := gb981) (o := .cells #[.int .i64 ((rd_T60 t977 x16_1).f0), .int .i64 ((rd_T60 t977 x16_1).f1), .int .i64 ((rd_T60 t977 x16_1).f2)] 60 (0, 0)) (by (with_reducible repeat (first | refine blk_drewN ?_ _ | refine blk_drew ?_ | refine blk_alloc ?_ _)); refine blk_put (cs := #[.int .i64 ((rd_T60 t977 x16_1).f0), .int .i64 ((rd_T60 t977 x16_1).f1), .int .i64 0]) ?_ 2 _ rfl; (with_reducible repeat (first | refine blk_drewN ?_ _ | refine blk_drew ?_ | refine blk_alloc ?_ _)); refine blk_put (cs := #[.int .i64 ((rd_T60 t977 x16_1).f0), .int .i64 0, .int .i64 0]) ?_ 1 _ rfl; (with_reducible repeat (first | refine blk_drewN ?_ _ | refine blk_drew ?_ | refine blk_alloc ?_ _)); refine blk_put (cs := #[.int .i64 0, .int .i64 0, .int .i64 0]) ?_ 0 _ rfl; (with_reducible repeat (first | refine blk_drewN ?_ _ | refine blk_drew ?_ | refine blk_alloc ?_ _)); exact BK981.out) hb); have n2_ := Aside0.mk (below_step (by repeat (first | (with_reducible first | exact HB.out | apply below_alloc | apply pw_below_drewN | apply below_drew1 | refine below_set ?_ GE981.out) | exact HB.out)) hb); clear HO_14; clear BK981; clear HB; have HO_14 := n0_; have BK981 := n1_; have HB := n2_; clear n0_ n1_ n2_; (try clear hb); (try clear hb2); (try clear hk); (try clear hi))); try go_wp2_with (first | ((with_reducible refine gate_dst (N := 8) rfl ?_); refine box_event ?hg (N := 8) ?hd (cs := #[.int .i64 0, .int .i64 0, .int .i64 0]) (t := 60) ?hr ?_; (case hd => rfl); (case hg => rfl); (case hr => first | (go_simp; done) | (go_simp; rfl)); intro gb981 hg w23 hbox hb; have n0_ := Aside0.mk (Kd.R_below (Kd.R_elderB (by (with_reducible repeat (first | apply Kd.R_alloc | apply Kd.R_drewN | apply Kd.R_drew)); exact HO_14.out) gb981 (Nat.le_of_eq hg.symm)) hb); have n1_ := Aside0.mk (below_step (by repeat (first | (with_reducible first | exact HB.out | apply below_alloc | apply pw_below_drewN | apply below_drew1) | exact HB.out)) hb); have n2_ := Aside0.mk (hbox); have n3_ := Aside0.mk ((by rw [hg]; exact (below_size (by repeat (first | (with_reducible first | exact HB.out | apply below_alloc | apply pw_below_drewN | apply below_drew1) | exact HB.out))) : w.heap.size ≤ gb981)); have n4_ := Aside0.mk ((by rw [hg]; exact (below_size (by repeat (first | (with_reducible first | exact HB.out | apply below_alloc | apply pw_below_drewN | apply below_drew1) | exact HB.out))) : w.heap.size ≤ gb981)); clear HO_14; clear HB; have HO_14 := n0_; have HB := n1_; have BK981 := n2_; have GW981 := n3_; have GE981 := n4_; clear n0_ n1_ n2_ n3_ n4_; clear hb hbox hg; have hcz24_0 : w23.cell? ⟨gb981, 0, none⟩ = some (.int .i64 0) := (blk_cell BK981.out 0).trans rfl; have hcz24_1 : w23.cell? ⟨gb981, 1, none⟩ = some (.int .i64 0) := (blk_cell BK981.out 1).trans rfl; have hcz24_2 : w23.cell? ⟨gb981, 2, none⟩ = some (.int .i64 0) := (blk_cell BK981.out 2).trans rfl; have hfz24_0 := blk_frozen BK981.out 0; have hfz24_1 := blk_frozen BK981.out 1; have hfz24_2 := blk_frozen BK981.out 2) | (go_at_call 133; (refine (impl_chi_isInside.calls k1 _ c0 l0 a2 ((rd_T60 t977 x16_1).f0) ((rd_T60 t977 x16_1).f1) ((rd_T60 t977 x16_1).f2) false _ ?side1 ?side2 A18.out).mono ?_); (case side1 => exact Kd.C_below HR0.out (by repeat (first | (with_reducible first | exact HB.out | apply below_alloc | apply pw_below_drewN | apply below_drew1 | refine below_set ?_ GE981.out) | exact HB.out))); (case side2 => exact HC0.out); rintro e w25 ⟨rfl, hb⟩; have n0_ := Aside0.mk (Kd.R_below (by (with_reducible repeat (first | apply Kd.R_alloc | apply Kd.R_drewN | apply Kd.R_drew)); exact (Kd.R_mono (Kd.R_far (p := ⟨gb981, 2, none⟩) (Kd.R_far (p := ⟨gb981, 1, none⟩) (Kd.R_far (p := ⟨gb981, 0, none⟩) (Kd.R_mono HO_14.out (fun k_ hk => (⟨hk, hk.2⟩ : _ ∧ k_ ≠ gb981))) (fun _ hk => hk.2) (.int .i64 ((rd_T60 t977 x16_1).f0))) (fun _ hk => hk.2) (.int .i64 ((rd_T60 t977 x16_1).f1))) (fun _ hk => hk.2) (.int .i64 ((rd_T60 t977 x16_1).f2))) (fun _ h_ => h_.1))) hb); have n1_ := Aside0.mk (blk_below (g := gb981) (o := .cells #[.int .i64 ((rd_T60 t977 x16_1).f0), .int .i64 ((rd_T60 t977 x16_1).f1), .int .i64 ((rd_T60 t977 x16_1).f2)] 60 (0, 0)) (by (with_reducible repeat (first | refine blk_drewN ?_ _ | refine blk_drew ?_ | refine blk_alloc ?_ _)); refine blk_put (cs := #[.int .i64 ((rd_T60 t977 x16_1).f0), .int .i64 ((rd_T60 t977 x16_1).f1), .int .i64 0]) ?_ 2 _ rfl; (with_reducible repeat (first | refine blk_drewN ?_ _ | refine blk_drew ?_ | refine blk_alloc ?_ _)); refine blk_put (cs := #[.int .i64 ((rd_T60 t977 x16_1).f0), .int .i64 0, .int .i64 0]) ?_ 1 _ rfl; (with_reducible repeat (first | refine blk_drewN ?_ _ | refine blk_drew ?_ | refine blk_alloc ?_ _)); refine blk_put (cs := #[.int .i64 0, .int .i64 0, .int .i64 0]) ?_ 0 _ rfl; (with_reducible repeat (first | refine blk_drewN ?_ _ | refine blk_drew ?_ | refine blk_alloc ?_ _)); exact BK981.out) hb); have n2_ := Aside0.mk (below_step (by repeat (first | (with_reducible first | exact HB.out | apply below_alloc | apply pw_below_drewN | apply below_drew1 | refine below_set ?_ GE981.out) | exact HB.out)) hb); clear HO_14; clear BK981; clear HB; have HO_14 := n0_; have BK981 := n1_; have HB := n2_; clear n0_ n1_ n2_; (try clear hb); (try clear hb2); (try clear hk); (try clear hi))))
            go_roundg k1
            case measure => have := HK1.out; omega
            case rel => exact ⟨(wrap64 (x16_1 + 1)), (by first | rfl | (simp; done) | (simp [*]; done)), H', ⟨by have := HK1.out; omega⟩, ⟨by (with_reducible repeat (first | apply Kd.R_alloc | apply Kd.R_drewN | apply Kd.R_drew)); exact Kd.R_mono HO_14.out (fun _ hk => trivial)⟩, ⟨by repeat (first | (with_reducible first | exact HB.out | apply below_alloc | apply pw_below_drewN | apply below_drew1 | refine below_set ?_ GE981.out) | exact HB.out)⟩⟩
          ·rw [if_neg c17] at H
           have c17b0 : ((Go.bits .and .i64 a1 (Go.bits .or .i64 (Go.bits .or .i64 (ji12) (ji14)) (ji16))) == (Go.bits .or .i64 (Go.bits .or .i64 (ji12) (ji14)) (ji16))) = false := beq_eq_false_iff_ne.mpr c17
           have c17b1 : ((Go.bits .and .i64 a1 (Go.bits .or .i64 (Go.bits .or .i64 (ji12) (ji14)) (ji16))) != (Go.bits .or .i64 (Go.bits .or .i64 (ji12) (ji14)) (ji16))) = true := bne_iff_ne.mpr c17
           have H' := Aside0.mk H
           clear H
           have p980 : 0 ≤ (x16_1 : Int) := of_decide_eq_true (by first | (with_reducible assumption) | assumption)
           have q980 : x16_1 < (t977.length : Int) := of_decide_eq_true (by first | (with_reducible assumption) | assumption)
           obtain ⟨ad980, e980, hx980_0, hx980_1, hx980_2⟩ := at_T60 (Kd.R_reads' HO_14.out).2.2 x16_1 p980 q980
           cases e980
           replace p980 := eq_true p980
           replace q980 := eq_true q980
           go_wp2_with (first | ((with_reducible refine gate_dst (N := 8) rfl ?_); refine box_event ?hg (N := 8) ?hd (cs := #[.int .i64 0, .int .i64 0, .int .i64 0]) (t := 60) ?hr ?_; (case hd => rfl); (case hg => rfl); (case hr => first | (go_simp; done) | (go_simp; rfl)); intro gb981 hg w26 hbox hb; have n0_ := Aside0.mk (Kd.R_below (Kd.R_elderB (by (with_reducible repeat (first | apply Kd.R_alloc | apply Kd.R_drewN | apply Kd.R_drew)); exact HO_14.out) gb981 (Nat.le_of_eq hg.symm)) hb); have n1_ := Aside0.mk (below_step (by repeat (first | (with_reducible first | exact HB.out | apply below_alloc | apply pw_below_drewN | apply below_drew1) | exact HB.out)) hb); have n2_ := Aside0.mk (hbox); have n3_ := Aside0.mk ((by rw [hg]; exact (below_size (by repeat (first | (with_reducible first | exact HB.out | apply below_alloc | apply pw_below_drewN | apply below_drew1) | exact HB.out))) : w.heap.size ≤ gb981)); have n4_ := Aside0.mk ((by rw [hg]; exact (below_size (by repeat (first | (with_reducible first | exact HB.out | apply below_alloc | apply pw_below_drewN | apply below_drew1) | exact HB.out))) : w.heap.size ≤ gb981)); clear HO_14; clear HB; have HO_14 := n0_; have HB := n1_; have BK981 := n2_; have GW981 := n3_; have GE981 := n4_; clear n0_ n1_ n2_ n3_ n4_; clear hb hbox hg; have hcz27_0 : w26.cell? ⟨gb981, 0, none⟩ = some (.int .i64 0) := (blk_cell BK981.out 0).trans rfl; have hcz27_1 : w26.cell? ⟨gb981, 1, none⟩ = some (.int .i64 0) := (blk_cell BK981.out 1).trans rfl; have hcz27_2 : w26.cell? ⟨gb981, 2, none⟩ = some (.int .i64 0) := (blk_cell BK981.out 2).trans rfl; have hfz27_0 := blk_frozen BK981.out 0; have hfz27_1 := blk_frozen BK981.out 1; have hfz27_2 := blk_frozen BK981.out 2))
           repeat (go_quiet (first | ((with_reducible refine gate_dst (N := 8) rfl ?_); refine box_event ?hg (N := 8) ?hd (cs := #[.int .i64 0, .int .i64 0, .int .i64 0]) (t := 60) ?hr ?_; (case hd => rfl); (case hg => rfl); (case hr => first | (go_simp; done) | (go_simp; rfl)); intro gb981 hg w26 hbox hb; have n0_ := Aside0.mk (Kd.R_below (Kd.R_elderB (by (with_reducible repeat (first | apply Kd.R_alloc | apply Kd.R_drewN | apply Kd.R_drew)); exact HO_14.out) gb981 (Nat.le_of_eq hg.symm)) hb); have n1_ := Aside0.mk (below_step (by repeat (first | (with_reducible first | exact HB.out | apply below_alloc | apply pw_below_drewN | apply below_drew1) | exact HB.out)) hb); have n2_ := Aside0.mk (hbox); have n3_ := Aside0.mk ((by rw [hg]; exact (below_size (by repeat (first | (with_reducible first | exact HB.out | apply below_alloc | apply pw_below_drewN | apply below_drew1) | exact HB.out))) : w.heap.size ≤ gb981)); have n4_ := Aside0.mk ((by rw [hg]; exact (below_size (by repeat (first | (with_reducible first | exact HB.out | apply below_alloc | apply pw_below_drewN | apply below_drew1) | exact HB.out))) : w.heap.size ≤ gb981)); clear HO_14; clear HB; have HO_14 := n0_; have HB := n1_; have BK981 := n2_; have GW981 := n3_; have GE981 := n4_; clear n0_ n1_ n2_ n3_ n4_; clear hb hbox hg; have hcz27_0 : w26.cell? ⟨gb981, 0, none⟩ = some (.int .i64 0) := (blk_cell BK981.out 0).trans rfl; have hcz27_1 : w26.cell? ⟨gb981, 1, none⟩ = some (.int .i64 0) := (blk_cell BK981.out 1).trans rfl; have hcz27_2 : w26.cell? ⟨gb981, 2, none⟩ = some (.int .i64 0) := (blk_cell BK981.out 2).trans rfl; have hfz27_0 := blk_frozen BK981.out 0; have hfz27_1 := blk_frozen BK981.out 1; have hfz27_2 := blk_frozen BK981.out 2)); try go_wp2_with (first | ((with_reducible refine gate_dst (N := 8) rfl ?_); refine box_event ?hg (N := 8) ?hd (cs := #[.int .i64 0, .int .i64 0, .int .i64 0]) (t := 60) ?hr ?_; (case hd => rfl); (case hg => rfl); (case hr => first | (go_simp; done) | (go_simp; rfl)); intro gb981 hg w26 hbox hb; have n0_ := Aside0.mk (Kd.R_below (Kd.R_elderB (by (with_reducible repeat (first | apply Kd.R_alloc | apply Kd.R_drewN | apply Kd.R_drew)); exact HO_14.out) gb981 (Nat.le_of_eq hg.symm)) hb); have n1_ := Aside0.mk (below_step (by repeat (first | (with_reducible first | exact HB.out | apply below_alloc | apply pw_below_drewN | apply below_drew1) | exact HB.out)) hb); have n2_ := Aside0.mk (hbox); have n3_ := Aside0.mk ((by rw [hg]; exact (below_size (by repeat (first | (with_reducible first | exact HB.out | apply below_alloc | apply pw_below_drewN | apply below_drew1) | exact HB.out))) : w.heap.size ≤ gb981)); have n4_ := Aside0.mk ((by rw [hg]; exact (below_size (by repeat (first | (with_reducible first | exact HB.out | apply below_alloc | apply pw_below_drewN | apply below_drew1) | exact HB.out))) : w.heap.size ≤ gb981)); clear HO_14; clear HB; have HO_14 := n0_; have HB := n1_; have BK981 := n2_; have GW981 := n3_; have GE981 := n4_; clear n0_ n1_ n2_ n3_ n4_; clear hb hbox hg; have hcz27_0 : w26.cell? ⟨gb981, 0, none⟩ = some (.int .i64 0) := (blk_cell BK981.out 0).trans rfl; have hcz27_1 : w26.cell? ⟨gb981, 1, none⟩ = some (.int .i64 0) := (blk_cell BK981.out 1).trans rfl; have hcz27_2 : w26.cell? ⟨gb981, 2, none⟩ = some (.int .i64 0) := (blk_cell BK981.out 2).trans rfl; have hfz27_0 := blk_frozen BK981.out 0; have hfz27_1 := blk_frozen BK981.out 1; have hfz27_2 := blk_frozen BK981.out 2)))
           go_roundg k1
           case measure => have := HK1.out; omega
           case rel => exact ⟨(wrap64 (x16_1 + 1)), (by first | rfl | (simp; done) | (simp [*]; done)), H', ⟨by have := HK1.out; omega⟩, ⟨by (with_reducible repeat (first | apply Kd.R_alloc | apply Kd.R_drewN | apply Kd.R_drew)); exact Kd.R_mono (Kd.R_far (p := ⟨gb981, 2, none⟩) (Kd.R_far (p := ⟨gb981, 1, none⟩) (Kd.R_far (p := ⟨gb981, 0, none⟩) (Kd.R_mono HO_14.out (fun k_ hk => (⟨hk, hk.2⟩ : _ ∧ k_ ≠ gb981))) (fun _ hk => hk.2) (.int .i64 ((rd_T60 t977 x16_1).f0))) (fun _ hk => hk.2) (.int .i64 ((rd_T60 t977 x16_1).f1))) (fun _ hk => hk.2) (.int .i64 ((rd_T60 t977 x16_1).f2))) (fun _ hk => trivial)⟩, ⟨by repeat (first | (with_reducible first | exact HB.out | apply below_alloc | apply pw_below_drewN | apply below_drew1 | refine below_set ?_ GE981.out) | exact HB.out)⟩⟩
         ·rw [if_neg c15] at H
          exact absurd H (by simp)
        ·rw [if_neg c13] at H
         exact absurd H (by simp)
       ·rw [if_neg c11] at H
        exact absurd H (by simp)
      ·rw [if_neg c10] at H
       exact absurd H (by simp)
     ·rw [if_neg c9] at H
      exact absurd H (by simp)
    ·rw [if_neg c8] at H
     have c8b0 : decide (x16_1 < (t977.length : Int)) = false := decide_eq_false c8
     clear c8
     obtain rfl := Option.some.inj H
     go_wp2
     repeat (go_quiet (fail); try go_wp2)
     go_ret
     exact ⟨by first | rfl | (simp [errW_none, errW_some] <;> rfl) | (simp [*, errW_none, errW_some] <;> rfl), by repeat (first | (with_reducible first | exact HB.out | apply below_alloc | apply pw_below_drewN | apply below_drew1) | exact HB.out)⟩
 ·rw [if_neg c4] at H
  exact absurd H (by simp)
def spec_l1Max.f (a0 : Int) (a1 : Int) : Option (Int) := if a0 > a1 then (some a0) else (some a1)
set_option maxHeartbeats 8000000 in
set_option maxRecDepth 100000 in
theorem spec_l1Max.calls (a0 : Int) (a1 : Int) (r : Int) (w : World) (h : spec_l1Max.f a0 a1 = some r) :
  Calls Try.prog 66 #[.int .i64 a0, .int .i64 a1] w fun e w' => e = .returned (.int .i64 r) ∧ Drawn0 w w' := by
 have H : (if a0 > a1 then (some a0) else (some a1)) = some r := h
 clear h
 by_cases c3 : a0 > a1
 ·rw [if_pos c3] at H
  have c3b0 : decide (a1 < a0) = true := decide_eq_true c3
  clear c3
  obtain rfl := Option.some.inj H
  go_enter Try.func66, Try.ntmps66
  go_wp2
  go_ret
  exact ⟨by first | rfl | (simp; done) | (simp [*]; done), by repeat (first | exact Drawn0.refl _ | apply Drawn0.step)⟩
 ·rw [if_neg c3] at H
  have c3b0 : decide (a1 < a0) = false := decide_eq_false c3
  clear c3
  obtain rfl := Option.some.inj H
  go_enter Try.func66, Try.ntmps66
  go_wp2
  go_ret
  exact ⟨by first | rfl | (simp; done) | (simp [*]; done), by repeat (first | exact Drawn0.refl _ | apply Drawn0.step)⟩
end Go.Proofs.Ytajogmlblknfdaa.P
