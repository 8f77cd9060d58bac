/- What the law FnExactAreSeparated reaches, part 2: functions as plain Lean functions with the proofs that their calls come to them, and plain lemmas over these. Put together by a program (wip/pack.py). -/
import Derived.Test.YtajogmlblknfdaaDoorKFnExactAreSeparateda
import Derived.Laws.RangeAny
import Derived.Laws.Runes
import Derived.LoopTactic
import Derived.Test.YtajogmlblknfdaaDoorWWords
import Derived.ChangeArms
import Derived.Deep.Slices
import Derived.Deep.Fields
import Derived.WideShapes
import Derived.KernelRfl
namespace Go.Proofs.YtajogmlblknfdaaDoor.P
open Go.RowKit Go.Proofs.YtajogmlblknfdaaDoorW.PrintWords Go.Proofs.YtajogmlblknfdaaDoorW.PrintLast Go.Proofs.YtajogmlblknfdaaDoorW.PrintMore
set_option linter.unusedVariables false
set_option linter.unusedSimpArgs false
def jnI (x y : Int) : Int := if x = 48 then y else x
def jnL (a b : ByteArray) : List Int := (List.range a.size).map fun j : Nat => jnI (bt a (j : Int)) (bt b (j : Int))
def impl_JoinTexts.f (k : Nat) (a0 a1 : ByteArray) : Option (ByteArray × Bool) :=
  if a0.size ≤ 9223372036854775807 then (if (a0.size : Int) = (a1.size : Int) then (impl_isCoverText.f k a0).bind fun t => if t = true then (impl_isCoverText.f k a1).bind fun t => if t = true then some (strOfNums (jnL a0 a1), true) else some (⟨#[]⟩, false) else some (⟨#[]⟩, false) else some (⟨#[]⟩, false)) else none
theorem impl_JoinTexts.mono : ∀ a0 a1 k, LeO (impl_JoinTexts.f k a0 a1) (impl_JoinTexts.f (k + 1) a0 a1) := by
  intro a0 a1 k
  unfold impl_JoinTexts.f
  repeat' first
    | (with_reducible exact impl_isCoverText.mono _ _)
    | (with_reducible exact LeO.refl _)
    | (with_reducible exact LeO.none _)
    | (with_reducible refine LeO.ite ?_ ?_)
    | (with_reducible refine LeO.bind ?_ (fun _ => ?_))
def jnR (a b : ByteArray) (i j : Nat) : Int := if j < i then jnI (bt a (j : Int)) (bt b (j : Int)) else bt a (j : Int)
set_option maxHeartbeats 4000000 in
set_option maxRecDepth 100000 in
theorem impl_JoinTexts.calls (k : Nat) (a0 a1 : ByteArray) (r1 : ByteArray) (r2 : Bool) (w : World) (h : impl_JoinTexts.f k a0 a1 = some (r1, r2)) :
    Calls Tryd.prog 8 #[.string a0, .string a1] w fun e w' => e = .returned (.tuple #[.string r1, .bool r2]) ∧ Below w.heap.size w w' := by
  unfold impl_JoinTexts.f at h
  by_cases hsz : a0.size ≤ 9223372036854775807
  case neg => rw [if_neg hsz] at h; cases h
  rw [if_pos hsz] at h
  by_cases he : (a0.size : Int) = (a1.size : Int)
  case neg =>
    rw [if_neg he] at h
    cases h
    have e0 : ((a0.size : Int) == (a1.size : Int)) = false := beq_eq_false_iff_ne.mpr he
    have e1 : ((a0.size : Int) != (a1.size : Int)) = true := bne_iff_ne.mpr he
    clear he hsz
    go_enter Tryd.func8, Tryd.ntmps8
    go_wp2
    go_ret2
    exact ⟨rfl, by repeat (first | exact Below.refl _ _ | apply pw_below_drewN | apply below_drew1)⟩
  rw [if_pos he] at h
  have e0 : ((a0.size : Int) == (a1.size : Int)) = true := beq_iff_eq.mpr he
  have e1 : ((a0.size : Int) != (a1.size : Int)) = false := bne_eq_false_iff_eq.mpr he
  obtain ⟨t1, hA, h⟩ := Option.bind_eq_some_iff.mp h
  have A1 := Aside0.mk hA
  clear hA
  cases t1 with
  | false =>
    rw [if_neg (by simp)] at h
    cases h
    clear he hsz
    go_enter Tryd.func8, Tryd.ntmps8
    go_wp2_with (go_at_call 19; (with_reducible refine (impl_isCoverText.calls k a0 false _ A1.out).mono ?_); rintro e w1 ⟨rfl, hb1⟩; have HB1 := Aside0.mk hb1; clear hb1)
    go_ret2
    exact ⟨rfl, HB1.out⟩
  | true =>
    rw [if_pos rfl] at h
    obtain ⟨t2, hA, h⟩ := Option.bind_eq_some_iff.mp h
    have A2 := Aside0.mk hA
    clear hA
    cases t2 with
    | false =>
      rw [if_neg (by simp)] at h
      cases h
      clear he hsz
      go_enter Tryd.func8, Tryd.ntmps8
      go_wp2_with (first | (go_at_call 19; (with_reducible refine (impl_isCoverText.calls k a0 true _ A1.out).mono ?_); rintro e w1 ⟨rfl, hb1⟩; have HB1 := Aside0.mk hb1; clear hb1 A1) | (go_at_call 19; (with_reducible refine (impl_isCoverText.calls k a1 false _ A2.out).mono ?_); rintro e w2 ⟨rfl, hb2⟩; have HB2 := Aside0.mk (below_step HB1.out hb2); clear hb2))
      go_ret2
      exact ⟨rfl, HB2.out⟩
    | true =>
      rw [if_pos rfl] at h
      cases h
      have hcv : ∀ W : World, (convert 9 36 (.string a0)).run Tryd.prog W = .ok (.slice (some ⟨W.heap.size, 0, none⟩) a0.size (grownCap W a0.size 0 5)) (Lib.bytesWorld W 5 a0) :=
        fun W => Lib.run_convert_string_bytes W _ _ _ a0 Tryd.underlying9 Tryd.underlying36 Tryd.underlying5
      have HS := Aside0.mk hsz
      have HE := Aside0.mk he
      clear hsz he
      go_enter Tryd.func8, Tryd.ntmps8
      go_wp2_with (first | (go_at_call 19; (with_reducible refine (impl_isCoverText.calls k a0 true _ A1.out).mono ?_); rintro e w1 ⟨rfl, hb1⟩; have HB1 := Aside0.mk hb1; clear hb1 A1) | (go_at_call 19; (with_reducible refine (impl_isCoverText.calls k a1 true _ A2.out).mono ?_); rintro e w2 ⟨rfl, hb2⟩; have HB2 := Aside0.mk (below_step HB1.out hb2); clear hb2 A2))
      have hc0 : ∀ j, j < a0.size → (Lib.bytesWorld w2 5 a0).cell? ⟨w2.heap.size, j, none⟩ = some (.int .u8 (bt a0 (j : Int))) := fun j hj => by
        rw [Lib.bytesWorld_cell w2 5 a0 j hj, opp_bt a0 j hj]
      have hf0 : ∀ j, j < a0.size → (Lib.bytesWorld w2 5 a0).frozen? ⟨w2.heap.size, j, none⟩ = false := fun j hj => opp_frozen w2 5 a0 j hj
      have HB := Aside0.mk (below_step HB2.out (OPB w2 5 a0))
      have HG := Aside0.mk (below_size HB2.out)
      have HC := Aside0.mk hc0
      have HF := Aside0.mk hf0
      clear hc0 hf0 HB1 HB2 hcv
      generalize grownCap w2 a0.size 0 5 = cap
      generalize Lib.bytesWorld w2 5 a0 = w3 at HC HF HB ⊢
      generalize w2.heap.size = g at HC HF HG ⊢
      go_loopg [28] a0.size (fun gg v10 wr => ∃ i : Nat, i ≤ a0.size ∧ a0.size - i ≤ gg ∧ v10 = .int .i64 i ∧ Aside0 (Below w.heap.size w wr) ∧ Aside0 (∀ j, j < a0.size → wr.cell? ⟨g, j, none⟩ = some (.int .u8 (jnR a0 a1 i j))) ∧ Aside0 (∀ j, j < a0.size → wr.frozen? ⟨g, j, none⟩ = false))
      case atStart =>
        refine ⟨0, Nat.zero_le _, by omega, rfl, HB, ⟨fun j hj => ?_⟩, HF⟩
        rw [HC.out j hj]
        rfl
      case round =>
        clear HC HF HB
        obtain ⟨i, hi, hg, rfl, HB, HC, HF⟩ := hrel
        by_cases hlt : i < a0.size
        · have hltz : (i : Int) < (a0.size : Int) := by omega
          have l1 := HC.out i hlt
          have f1 := HF.out i hlt
          rw [show jnR a0 a1 i i = bt a0 (i : Int) by unfold jnR; rw [if_neg (Nat.lt_irrefl _)]] at l1
          have hstep : ∀ (W : World) (x : Int), x = jnI (bt a0 (i : Int)) (bt a1 (i : Int)) → (∀ j, j < a0.size → W.cell? ⟨g, j, none⟩ = some (.int .u8 (if j = i then x else jnR a0 a1 i j))) → ∀ j, j < a0.size → W.cell? ⟨g, j, none⟩ = some (.int .u8 (jnR a0 a1 (i + 1) j)) := by
            intro W x hx hW j hj
            rw [hW j hj]
            unfold jnR
            by_cases e : j = i
            · subst e; rw [if_pos rfl, if_pos (Nat.lt_succ_self _), hx]
            · rw [if_neg e]
              by_cases e2 : j < i
              · rw [if_pos e2, if_pos (by omega)]
              · rw [if_neg e2, if_neg (by omega)]
          have HSTEP := Aside0.mk hstep
          clear hstep
          have hlt1 : i < a1.size := by have := HE.out; omega
          have q7 : ((i : Int) < (a1.size : Int)) = True := eq_true (by omega)
          have q8 : (i < a1.size) = True := eq_true hlt1
          have hx7 : ∀ h : i < a1.size, ((a1[i]'h).toNat : Int) = bt a1 (i : Int) := bt_at a1 (i : Int)
          have BW : ∀ v, Below w.heap.size w (wr.setCell ⟨g, i, none⟩ v) := fun v => HB.out.setCell HG.out _
          have HBW := Aside0.mk BW
          clear BW
          generalize hb : bt a0 (i : Int) = b at l1 HSTEP
          have HBB := Aside0.mk hb
          clear hb
          by_cases h48 : b = 48
          · subst h48
            go_wp2
            go_roundg (a0.size - (i + 1))
            case measure => omega
            case rel =>
              refine ⟨i + 1, by omega, by omega, by rw [OPW i (by have := HS.out; omega)], ⟨HBW.out _⟩, ⟨HSTEP.out _ (bt a1 (i : Int)) rfl (fun j hj => ?_)⟩, ⟨fun j hj => by rw [World.frozen?_setCell]; exact HF.out j hj⟩⟩
              by_cases e : j = i
              · subst e; rw [if_pos rfl, World.cell?_setCell_same (h := l1)]
              · rw [if_neg e, World.cell?_setCell_other (h := by intro h; injection h with _ h2 _; exact e h2.symm)]; exact HC.out j hj
          · have n48 : (b == 48) = false := beq_eq_false_iff_ne.mpr h48
            go_wp2
            go_roundg (a0.size - (i + 1))
            case measure => omega
            case rel =>
              refine ⟨i + 1, by omega, by omega, by rw [OPW i (by have := HS.out; omega)], HB, ⟨HSTEP.out _ b (by unfold jnI; rw [if_neg h48]) (fun j hj => ?_)⟩, HF⟩
              by_cases e : j = i
              · subst e; rw [if_pos rfl]; exact l1
              · rw [if_neg e]; exact HC.out j hj
        · have hltz : ¬ (i : Int) < (a0.size : Int) := by omega
          have : i = a0.size := by omega
          subst this
          have hcv2 : ∀ W : World, (∀ j, j < a0.size → W.cell? ⟨g, 0 + j, none⟩ = some (.int .u8 ((jnL a0 a1).getD j 0))) → (convert 36 9 (Value.slice (some ⟨g, 0, none⟩) a0.size cap)).run Tryd.prog W = .ok (.string (strOfNums (jnL a0 a1))) W :=
            fun W hW => run_convert_bytes_arg W 36 5 Tryd.underlying36 Tryd.underlying5 g 0 a0.size cap (jnL a0 a1) (by rw [jnL, List.length_map, List.length_range]) hW 9 Tryd.underlying9
          have hcv3 := hcv2 wr (fun j hj => by
            rw [Nat.zero_add, HC.out j hj]
            unfold jnR jnL
            rw [if_pos hj, List.getD_eq_getElem?_getD, List.getElem?_map, List.getElem?_range hj]
            rfl)
          go_wp2
          go_ret2
          exact ⟨rfl, HB.out⟩
def sepB (a b : ByteArray) (i : Nat) : Bool := !(bt a (i : Int) == bt b (i : Int)) && (!(bt a (i : Int) == 48) && !(bt b (i : Int) == 48))
def sepR (a b : ByteArray) : Nat → Int
  | 0 => 0
  | n + 1 => if sepB a b n = true then wrap64 (sepR a b n + 1) else sepR a b n
def ascB (a : ByteArray) : Bool := (List.range a.size).all fun j => decide (bt a (j : Int) < 128)
def impl_AreSeparated.f (k : Nat) (a0 a1 : ByteArray) : Option Int :=
  (impl_JoinTexts.f k a0 a1).bind fun q => if q.2 = true then (if ascB a0 = true ∧ a0.size ≤ a1.size then some (sepR a0 a1 a0.size) else none) else some (-1)
theorem impl_AreSeparated.mono : ∀ a0 a1 k, LeO (impl_AreSeparated.f k a0 a1) (impl_AreSeparated.f (k + 1) a0 a1) := by
  intro a0 a1 k
  unfold impl_AreSeparated.f
  repeat' first
    | (with_reducible exact impl_JoinTexts.mono _ _ _)
    | (with_reducible exact LeO.refl _)
    | (with_reducible exact LeO.none _)
    | (with_reducible refine LeO.ite ?_ ?_)
    | (with_reducible refine LeO.bind ?_ (fun _ => ?_))
theorem iter_drewN (w : World) (s : ByteArray) (p n : Nat) : (w.iter s p).drewN n = (w.drewN n).iter s p := rfl
theorem sep_next (P : Program) (w : World) (m pos : Nat) (s : ByteArray) (h : pos < s.size) (ha : bt s (pos : Int) < 128) : ∃ c : Int, ∀ ty, (Instr.next (.pointer (some ⟨w.heap.size, 0, none⟩)) true ty).run P ((w.drewN m).iter s pos) = .ok (.tuple #[.bool true, .int .i64 pos, .int .i32 c]) ((w.drewN m).iter s (pos + 1)) := by
  have h1 : (s[pos]'h).toNat < 128 := by
    have := bt_at s (pos : Int) (by simpa using h)
    simp only [Int.toNat_natCast] at this
    omega
  refine ⟨(Utf8.decode s pos).1, fun ty => ?_⟩
  have e := run_next_any (P := P) (w.drewN m) s pos ty h
  have e2 : (Utf8.decode s pos).2 = 1 := by rw [decode_ascii s pos h h1]
  rw [e2] at e
  exact e
set_option maxHeartbeats 8000000 in
set_option maxRecDepth 100000 in
theorem impl_AreSeparated.calls (k : Nat) (a0 a1 : ByteArray) (r : Int) (w : World) (h : impl_AreSeparated.f k a0 a1 = some r) :
    Calls Tryd.prog 12 #[.string a0, .string a1] w fun e w' => e = .returned (.int .i64 r) ∧ Below w.heap.size w w' := by
  unfold impl_AreSeparated.f at h
  obtain ⟨⟨t1, t2⟩, hJ, h⟩ := Option.bind_eq_some_iff.mp h
  have A1 := Aside0.mk hJ
  clear hJ
  cases t2 with
  | false =>
    rw [if_neg (by simp)] at h
    cases h
    go_enter Tryd.func12, Tryd.ntmps12
    go_wp2_with (go_at_call 8; (with_reducible refine (impl_JoinTexts.calls k a0 a1 t1 false _ A1.out).mono ?_); rintro e w1 ⟨rfl, hb1⟩; have HB1 := Aside0.mk hb1; clear hb1)
    go_ret
    exact ⟨rfl, HB1.out⟩
  | true =>
    rw [if_pos rfl] at h
    by_cases hc : ascB a0 = true ∧ a0.size ≤ a1.size
    case neg => rw [if_neg hc] at h; cases h
    rw [if_pos hc] at h
    cases h
    have HC := Aside0.mk hc
    clear hc
    go_enter Tryd.func12, Tryd.ntmps12
    go_wp2_with (go_at_call 8; (with_reducible refine (impl_JoinTexts.calls k a0 a1 t1 true _ A1.out).mono ?_); rintro e w1 ⟨rfl, hb1⟩; have HB1 := Aside0.mk hb1; clear hb1 A1)
    have FIN : ∀ m n p : Nat, (((w1.drewN m).iter a0 (p + 1)).drewN n) = (w1.drewN (m + n)).iter a0 (p + 1) := fun m n p => by
      rw [iter_drewN, World.drewN_drewN]
    have MEAS : ∀ m n p : Nat, p < a0.size → a0.size - (((w1.drewN m).iter a0 (p + 1)).drewN n).iterPos w1.heap.size < a0.size - ((w1.drewN m).iter a0 p).iterPos w1.heap.size := fun m n p hp => by
      have e1 : ((w1.drewN m).iter a0 p).iterPos w1.heap.size = p := World.iterPos_iter (w1.drewN m) a0 p
      have e2 : (((w1.drewN m).iter a0 (p + 1)).drewN n).iterPos w1.heap.size = p + 1 := World.iterPos_iter (w1.drewN m) a0 (p + 1)
      rw [e1, e2]
      omega
    have FINA := Aside0.mk FIN
    have MEASA := Aside0.mk MEAS
    clear FIN MEAS
    have HW := Aside0.mk HB1.out
    clear HB1
    go_loopw [7] (fun v7 w' => ∃ pos m : Nat, pos ≤ a0.size ∧ w' = (w1.drewN m).iter a0 pos ∧ v7 = .int .i64 (sepR a0 a1 pos)) (fun _ w' => a0.size - w'.iterPos w1.heap.size)
    case atStart => exact ⟨0, 0, Nat.zero_le _, rfl, rfl⟩
    case round =>
      obtain ⟨pos, m, hle, rfl, rfl⟩ := hrel
      by_cases hp : pos < a0.size
      · have hp1 : pos < a1.size := by have := HC.out.2; omega
        have hasc : bt a0 (pos : Int) < 128 := by
          have h := HC.out.1
          unfold ascB at h
          rw [List.all_eq_true] at h
          exact of_decide_eq_true (h pos (by simpa using hp))
        obtain ⟨c, hnx⟩ := sep_next Tryd.prog w1 m pos a0 hp hasc
        have p7 : (0 ≤ (pos : Int)) = True := eq_true (by omega)
        have q7 : ((pos : Int) < (a0.size : Int)) = True := eq_true (by omega)
        have q8 : (pos < a0.size) = True := eq_true hp
        have q9 : ((pos : Int) < (a1.size : Int)) = True := eq_true (by omega)
        have q10 : (pos < a1.size) = True := eq_true hp1
        have hx7 : ∀ h : pos < a0.size, ((a0[pos]'h).toNat : Int) = bt a0 (pos : Int) := bt_at a0 (pos : Int)
        have hx8 : ∀ h : pos < a1.size, ((a1[pos]'h).toNat : Int) = bt a1 (pos : Int) := bt_at a1 (pos : Int)
        have hS : sepR a0 a1 (pos + 1) = if sepB a0 a1 pos = true then wrap64 (sepR a0 a1 pos + 1) else sepR a0 a1 pos := rfl
        have HSR := Aside0.mk hS
        have HP := Aside0.mk hp
        clear hS hasc hp hp1
        by_cases c12 : bt a0 (pos : Int) = bt a1 (pos : Int)
        · have HV : Aside0 (sepB a0 a1 pos = false) := ⟨by unfold sepB; rw [c12]; simp⟩
          have c12b0 : (bt a0 (pos : Int) == bt a1 (pos : Int)) = true := beq_iff_eq.mpr c12
          have c12b1 : (bt a0 (pos : Int) != bt a1 (pos : Int)) = false := bne_eq_false_iff_eq.mpr c12
          clear c12
          go_wp2
          repeat (go_quiet (fail); try go_wp2)
          refine ⟨⟨pos + 1, m + nq, HP.out, FINA.out m nq pos, ?_⟩, MEASA.out m nq pos HP.out⟩
          rw [HSR.out, HV.out]
          rfl
        · have c12b0 : (bt a0 (pos : Int) == bt a1 (pos : Int)) = false := beq_eq_false_iff_ne.mpr c12
          have c12b1 : (bt a0 (pos : Int) != bt a1 (pos : Int)) = true := bne_iff_ne.mpr c12
          by_cases c13 : bt a0 (pos : Int) = 48
          · have HV : Aside0 (sepB a0 a1 pos = false) := ⟨by unfold sepB; rw [beq_iff_eq.mpr c13]; simp⟩
            have c13b0 : (bt a0 (pos : Int) == 48) = true := beq_iff_eq.mpr c13
            have c13b1 : (bt a0 (pos : Int) != 48) = false := bne_eq_false_iff_eq.mpr c13
            clear c12 c13
            go_wp2
            repeat (go_quiet (fail); try go_wp2)
            refine ⟨⟨pos + 1, m + nq, HP.out, FINA.out m nq pos, ?_⟩, MEASA.out m nq pos HP.out⟩
            rw [HSR.out, HV.out]
            rfl
          · have c13b0 : (bt a0 (pos : Int) == 48) = false := beq_eq_false_iff_ne.mpr c13
            have c13b1 : (bt a0 (pos : Int) != 48) = true := bne_iff_ne.mpr c13
            by_cases c14 : bt a1 (pos : Int) = 48
            · have HV : Aside0 (sepB a0 a1 pos = false) := ⟨by unfold sepB; rw [beq_iff_eq.mpr c14]; simp⟩
              have c14b0 : (bt a1 (pos : Int) == 48) = true := beq_iff_eq.mpr c14
              have c14b1 : (bt a1 (pos : Int) != 48) = false := bne_eq_false_iff_eq.mpr c14
              clear c12 c13 c14
              go_wp2
              repeat (go_quiet (fail); try go_wp2)
              refine ⟨⟨pos + 1, m + nq, HP.out, FINA.out m nq pos, ?_⟩, MEASA.out m nq pos HP.out⟩
              rw [HSR.out, HV.out]
              rfl
            · have HV : Aside0 (sepB a0 a1 pos = true) := ⟨by unfold sepB; rw [c12b0, c13b0, beq_eq_false_iff_ne.mpr c14]; rfl⟩
              have c14b0 : (bt a1 (pos : Int) == 48) = false := beq_eq_false_iff_ne.mpr c14
              have c14b1 : (bt a1 (pos : Int) != 48) = true := bne_iff_ne.mpr c14
              clear c12 c13 c14
              go_wp2
              repeat (go_quiet (fail); try go_wp2)
              refine ⟨⟨pos + 1, m + nq, HP.out, FINA.out m nq pos, ?_⟩, MEASA.out m nq pos HP.out⟩
              rw [HSR.out, HV.out]
              rfl
      · have hnx : ∀ ty, (Instr.next (.pointer (some ⟨w1.heap.size, 0, none⟩)) true ty).run Tryd.prog ((w1.drewN m).iter a0 pos) = .ok (.tuple #[.bool false]) ((w1.drewN m).iter a0 pos) := fun ty => run_next_end (P := Tryd.prog) (w1.drewN m) a0 pos ty hp
        have hpe : pos = a0.size := by omega
        subst hpe
        clear hp
        go_wp2
        go_ret
        exact ⟨rfl, below_alloc (pw_below_drewN HW.out m) _⟩
end Go.Proofs.YtajogmlblknfdaaDoor.P
namespace Go.Proofs.YtajogmlblknfdaaDoor.P
open Go.RowKit Go.Proofs.YtajogmlblknfdaaDoorW.PrintWords Go.Proofs.YtajogmlblknfdaaDoorW.PrintLast Go.Proofs.YtajogmlblknfdaaDoorW.PrintMore
attribute [local go_sem] ptrOf_slice
attribute [local go_sem] max2_int min2_int max_two min_two max_three min_three max_four min_four
set_option linter.unusedVariables false
set_option linter.unusedSimpArgs false
def laws_FnExactAreSeparated.f (k : Nat) (a0 : ByteArray) (a1 : ByteArray) : Option (Bool) := if (a0.size : Int) > 1048576 then (some true) else (if (a1.size : Int) > 1048576 then (some true) else ((spec_AreSeparated.f k a0 a1).bind fun t120 => ((impl_AreSeparated.f k a0 a1).bind fun t121 => (if t121 = t120 then (some true) else (some false)))))
set_option maxHeartbeats 8000000 in
set_option maxRecDepth 100000 in
theorem laws_FnExactAreSeparated.calls (k : Nat) (a0 : ByteArray) (a1 : ByteArray) (r : Bool) (w : World) (h : laws_FnExactAreSeparated.f k a0 a1 = some r) :
  Calls Tryd.prog 5 #[.string a0, .string a1] w fun e w' => e = .returned (.bool r) ∧ Below w.heap.size w w' := by
 have HB := Aside0.mk (Below.refl w.heap.size w)
 have H : (if (a0.size : Int) > 1048576 then (some true) else (if (a1.size : Int) > 1048576 then (some true) else ((spec_AreSeparated.f k a0 a1).bind fun t120 => ((impl_AreSeparated.f k a0 a1).bind fun t121 => (if t121 = t120 then (some true) else (some false)))))) = some r := h
 clear h
 by_cases c3 : (a0.size : Int) > 1048576
 ·rw [if_pos c3] at H
  have c3b0 : decide (1048576 < (a0.size : Int)) = true := decide_eq_true c3
  have c3b1 : decide (1048576 < a0.size) = true := decide_eq_true (by omega)
  clear c3
  obtain rfl := Option.some.inj H
  go_enter Tryd.func5, Tryd.ntmps5
  go_wp2
  go_ret
  exact ⟨by first | rfl | (simp [errW_none, errW_some] <;> rfl) | (simp [*, errW_none, errW_some] <;> rfl), by repeat (first | (with_reducible first | exact HB.out | apply below_alloc | apply pw_below_drewN | apply below_drew1) | exact HB.out)⟩
 ·rw [if_neg c3] at H
  have c3b0 : decide (1048576 < (a0.size : Int)) = false := decide_eq_false c3
  have c3b1 : decide (1048576 < a0.size) = false := decide_eq_false (by omega)
  clear c3
  by_cases c4 : (a1.size : Int) > 1048576
  ·rw [if_pos c4] at H
   have c4b0 : decide (1048576 < (a1.size : Int)) = true := decide_eq_true c4
   have c4b1 : decide (1048576 < a1.size) = true := decide_eq_true (by omega)
   clear c4
   obtain rfl := Option.some.inj H
   go_enter Tryd.func5, Tryd.ntmps5
   go_wp2
   go_ret
   exact ⟨by first | rfl | (simp [errW_none, errW_some] <;> rfl) | (simp [*, errW_none, errW_some] <;> rfl), by repeat (first | (with_reducible first | exact HB.out | apply below_alloc | apply pw_below_drewN | apply below_drew1) | exact HB.out)⟩
  ·rw [if_neg c4] at H
   have c4b0 : decide (1048576 < (a1.size : Int)) = false := decide_eq_false c4
   have c4b1 : decide (1048576 < a1.size) = false := decide_eq_false (by omega)
   clear c4
   replace H := Option.bind_eq_some_iff.mp H
   obtain ⟨t120, A50, H⟩ := H
   replace H : ((impl_AreSeparated.f k a0 a1).bind fun t121 => (if t121 = t120 then (some true) else (some false))) = some r := H
   have A5 := Aside0.mk A50
   clear A50
   replace H := Option.bind_eq_some_iff.mp H
   obtain ⟨t121, A60, H⟩ := H
   replace H : (if t121 = t120 then (some true) else (some false)) = some r := H
   have A6 := Aside0.mk A60
   clear A60
   by_cases c7 : t121 = t120
   ·rw [if_pos c7] at H
    have c7b0 : (t121 == t120) = true := beq_iff_eq.mpr c7
    have c7b1 : (t121 != t120) = false := bne_eq_false_iff_eq.mpr c7
    clear c7
    obtain rfl := Option.some.inj H
    go_enter Tryd.func5, Tryd.ntmps5
    go_wp2_with (first | ((with_reducible refine gate_callee (f := 11) rfl ?_); refine goesL_ (some 15) rfl rfl Tryd.func11 (by kernel_rfl) rfl #[.string a0, .string a1] rfl (by (try simp only [List.map_toArray, List.map_cons, List.map_nil]); first | done | rfl | (simp only [List.length_drop, List.length_take]; rfl)) ?_; (with_reducible refine (spec_AreSeparated.calls k a0 a1 t120 _ A5.out).mono ?_); rintro e w8 ⟨rfl, hb⟩; refine ⟨_, rfl, ?_⟩; have n0_ := Aside0.mk (below_step (by repeat (first | (with_reducible first | exact HB.out | apply below_alloc | apply pw_below_drewN | apply below_drew1) | exact HB.out)) hb); clear HB; have HB := n0_; clear n0_; (try clear hb); (try clear hb2); (try clear hk); (try clear hi)) | ((with_reducible refine gate_callee (f := 12) rfl ?_); refine goesL_ (some 18) rfl rfl Tryd.func12 (by kernel_rfl) rfl #[.string a0, .string a1] rfl (by (try simp only [List.map_toArray, List.map_cons, List.map_nil]); first | done | rfl | (simp only [List.length_drop, List.length_take]; rfl)) ?_; (with_reducible refine (impl_AreSeparated.calls k a0 a1 t121 _ A6.out).mono ?_); rintro e w9 ⟨rfl, hb⟩; refine ⟨_, rfl, ?_⟩; have n0_ := Aside0.mk (below_step (by repeat (first | (with_reducible first | exact HB.out | apply below_alloc | apply pw_below_drewN | apply below_drew1) | exact HB.out)) hb); clear HB; have HB := n0_; clear n0_; (try clear hb); (try clear hb2); (try clear hk); (try clear hi)))
    go_ret
    exact ⟨by first | rfl | (simp [errW_none, errW_some] <;> rfl) | (simp [*, errW_none, errW_some] <;> rfl), by repeat (first | (with_reducible first | exact HB.out | apply below_alloc | apply pw_below_drewN | apply below_drew1) | exact HB.out)⟩
   ·rw [if_neg c7] at H
    have c7b0 : (t121 == t120) = false := beq_eq_false_iff_ne.mpr c7
    have c7b1 : (t121 != t120) = true := bne_iff_ne.mpr c7
    obtain rfl := Option.some.inj H
    go_enter Tryd.func5, Tryd.ntmps5
    go_wp2_with (first | ((with_reducible refine gate_callee (f := 11) rfl ?_); refine goesL_ (some 15) rfl rfl Tryd.func11 (by kernel_rfl) rfl #[.string a0, .string a1] rfl (by (try simp only [List.map_toArray, List.map_cons, List.map_nil]); first | done | rfl | (simp only [List.length_drop, List.length_take]; rfl)) ?_; (with_reducible refine (spec_AreSeparated.calls k a0 a1 t120 _ A5.out).mono ?_); rintro e w10 ⟨rfl, hb⟩; refine ⟨_, rfl, ?_⟩; have n0_ := Aside0.mk (below_step (by repeat (first | (with_reducible first | exact HB.out | apply below_alloc | apply pw_below_drewN | apply below_drew1) | exact HB.out)) hb); clear HB; have HB := n0_; clear n0_; (try clear hb); (try clear hb2); (try clear hk); (try clear hi)) | ((with_reducible refine gate_callee (f := 12) rfl ?_); refine goesL_ (some 18) rfl rfl Tryd.func12 (by kernel_rfl) rfl #[.string a0, .string a1] rfl (by (try simp only [List.map_toArray, List.map_cons, List.map_nil]); first | done | rfl | (simp only [List.length_drop, List.length_take]; rfl)) ?_; (with_reducible refine (impl_AreSeparated.calls k a0 a1 t121 _ A6.out).mono ?_); rintro e w11 ⟨rfl, hb⟩; refine ⟨_, rfl, ?_⟩; have n0_ := Aside0.mk (below_step (by repeat (first | (with_reducible first | exact HB.out | apply below_alloc | apply pw_below_drewN | apply below_drew1) | exact HB.out)) hb); clear HB; have HB := n0_; clear n0_; (try clear hb); (try clear hb2); (try clear hk); (try clear hi)))
    go_ret
    exact ⟨by first | rfl | (simp [errW_none, errW_some] <;> rfl) | (simp [*, errW_none, errW_some] <;> rfl), by repeat (first | (with_reducible first | exact HB.out | apply below_alloc | apply pw_below_drewN | apply below_drew1) | exact HB.out)⟩
def laws_FnExactAreSeparated.Pure : Prop := ∀ (a0 : ByteArray) (a1 : ByteArray), a0.size ≤ 140737488351232 → a1.size ≤ 140737488351232 → ∃ k, laws_FnExactAreSeparated.f k a0 a1 = some true
end Go.Proofs.YtajogmlblknfdaaDoor.P
namespace Go.Proofs.YtajogmlblknfdaaDoor.Rk
open Go.RowKit Go.ChangeShapes Go.WideShapes Go.Deep Go.Proofs.YtajogmlblknfdaaDoorW.PrintWords
def I64 (n : Int) : Prop := -9223372036854775808 ≤ n ∧ n ≤ 9223372036854775807
section
variable {H : Type} {enc : TypeId × Value → H} {P : Program} {w : World} {base : Nat} {spare : Nat → Bool} {held : Bool} {α : Type}
def Elem (enc : TypeId × Value → H) (P : Program) (w : World) (base : Nat) (spare : Nat → Bool) (held : Bool) (e : TypeId) (d : Kd α) (Q : α → Prop) : Prop :=
  ∀ (fuel : Nat) (cs : List Value) (x : DataW H × List MemPlace), DataW.trod enc P w base spare held fuel e cs = some x → ∃ y, d.K w y cs ∧ Q y
end
end Go.Proofs.YtajogmlblknfdaaDoor.Rk
namespace Go.Proofs.YtajogmlblknfdaaDoor.P
open Go.RowKit Go.ChangeShapes Go.WideShapes Go.Deep Go.Proofs.YtajogmlblknfdaaDoor.Rk Go.Proofs.YtajogmlblknfdaaDoorW.PrintWords
def Q29 (x : S29) : Prop := I64 x.f0 ∧ x.f1.size ≤ 9223372036854775807
instance : Inhabited S29 := ⟨z29⟩
end Go.Proofs.YtajogmlblknfdaaDoor.P
namespace Go.Proofs.YtajogmlblknfdaaDoor.Pl
set_option linter.unusedSimpArgs false
set_option linter.unusedVariables false
open Go.RowKit Go.Proofs.YtajogmlblknfdaaDoorW.PrintWords
theorem wrap_in {n : Int} (h0 : -9223372036854775808 ≤ n) (h1 : n ≤ 9223372036854775807) : wrap64 n = n := by
  unfold wrap64
  omega
theorem wrap_nat (i : Nat) (h : i < 9223372036854775807) : wrap64 ((i : Int) + 1) = ((i + 1 : Nat) : Int) := by
  unfold wrap64
  omega
theorem Ev.const {α : Type} {x : Option α} {r : α} (h : x = some r) : Ev (fun _ => x) r := ⟨0, fun _ _ => h⟩
theorem Ev.ite_pos {α : Type} {c : Prop} [Decidable c] {g f : Nat → Option α} {r : α} (h : c) (k : Ev g r) : Ev (fun n => if c then g n else f n) r := by
  simpa only [if_pos h] using k
theorem Ev.ite_neg {α : Type} {c : Prop} [Decidable c] {g f : Nat → Option α} {r : α} (h : ¬ c) (k : Ev f r) : Ev (fun n => if c then g n else f n) r := by
  simpa only [if_neg h] using k
theorem Ev.bind0 {α β : Type} {x : Option α} {f : Nat → α → Option β} {a : α} {r : β} (h : x = some a) (k : Ev (fun n => f n a) r) : Ev (fun n => x.bind (f n)) r := by
  subst h
  exact k
theorem Ev.loop {ρ : Type} (g : Nat → Nat → Option ρ) (n : Nat) (r : ρ) (hend : Ev (g n) r) (hstep : ∀ i, i < n → Ev (g (i + 1)) r → Ev (g i) r) : ∀ i, i ≤ n → Ev (g i) r := by
  have key : ∀ d i, i + d = n → Ev (g i) r := by
    intro d
    induction d with
    | zero => intro i hi; obtain rfl : i = n := by omega
              exact hend
    | succ d ih => intro i hi; exact hstep i (by omega) (ih (i + 1) (by omega))
  intro i hi
  exact key (n - i) i (by omega)
end Go.Proofs.YtajogmlblknfdaaDoor.Pl
namespace Go.Proofs.YtajogmlblknfdaaDoor.Pure
set_option linter.unusedSimpArgs false
set_option linter.unusedVariables false
open Go.RowKit Go.Proofs.YtajogmlblknfdaaDoorW.PrintWords Go.Proofs.YtajogmlblknfdaaDoor.P Go.Proofs.YtajogmlblknfdaaDoor.Pl
theorem rangeD (n i : Nat) (h : i < n) : (List.range n).drop i = i :: (List.range n).drop (i + 1) := by
  rw [List.drop_eq_getElem_cons (by simpa using h)]
  simp
theorem bt_nat (s : ByteArray) (j : Nat) (h : j < s.size) : bt s (j : Int) = ((s.data[j]'h).toNat : Int) := by
  unfold bt
  rw [dif_pos (by simpa using h)]
  rfl
theorem bt_ext (s : ByteArray) (a b j : Nat) (h : a + j < b) (hb : b ≤ s.size) : bt (s.extract a b) (j : Int) = bt s ((a + j : Nat) : Int) := by
  have h1 : j < (s.extract a b).size := by rw [ByteArray.size_extract]; omega
  rw [bt_nat _ j h1, bt_nat s (a + j) (by omega)]
  simp only [ByteArray.data_extract, Array.getElem_extract]
def allIn (cs : List UInt8) (s : ByteArray) : Bool := (List.range s.size).all fun j => inSet cs (bt s (j : Int))
theorem allIn_iff (cs : List UInt8) (s : ByteArray) : allIn cs s = true ↔ ∀ j, j < s.size → inSet cs (bt s (j : Int)) = true := by
  simp [allIn, List.all_eq_true]
theorem trimL_some (cs : List UInt8) : ∀ n (t : ByteArray), t.size = n → n ≤ 1048576 → (∃ j, j < n ∧ ¬ inSet cs (bt t (j : Int)) = true) → ∃ r, Ev (fun k => trimL k cs t) r ∧ 0 < r.size := by
  intro n
  induction n with
  | zero => intro t _ _ h; obtain ⟨j, h, _⟩ := h; omega
  | succ n ih =>
    intro t ht hn h
    obtain ⟨j, hj, hb⟩ := h
    by_cases h0 : inSet cs (bt t 0) = true
    · have hj0 : j ≠ 0 := by
        rintro rfl
        exact hb h0
      have hsz : (t.extract 1 t.size).size = n := by rw [ByteArray.size_extract]; omega
      obtain ⟨r, hr, hp⟩ := ih (t.extract 1 t.size) hsz (by omega) ⟨j - 1, by omega, by
        rw [bt_ext t 1 t.size (j - 1) (by omega) (by omega), show 1 + (j - 1) = j by omega]
        exact hb⟩
      exact ⟨r, Ev.step (fun k => trimL.eq_2 ..) (Ev.ite_pos (by omega) (Ev.ite_pos h0 hr)), hp⟩
    · exact ⟨t, Ev.step (fun k => trimL.eq_2 ..) (Ev.ite_pos (by omega) (Ev.ite_neg h0 (Ev.now _))), by omega⟩
theorem trimR_some (cs : List UInt8) : ∀ n (s : ByteArray), s.size = n → n ≤ 1048576 → ∃ m, m ≤ n ∧ Ev (fun k => trimR k cs s) (s.extract 0 m) ∧ (∀ j, m ≤ j → j < n → inSet cs (bt s (j : Int)) = true) ∧ (m = 0 ∨ ¬ inSet cs (bt s ((m - 1 : Nat) : Int)) = true) := by
  intro n
  induction n with
  | zero =>
    intro s hs _
    have e : s.extract 0 0 = s := by
      apply ByteArray.ext
      apply Array.ext'
      have : s.data.toList = [] := List.length_eq_zero_iff.mp hs
      simp [this]
    refine ⟨0, Nat.le_refl _, ?_, fun j _ h => by omega, Or.inl rfl⟩
    rw [e]
    exact Ev.step (fun k => trimR.eq_2 ..) (Ev.ite_neg (by omega) (Ev.now _))
  | succ n ih =>
    intro s hs hn
    have hw : wrap64 ((s.size : Int) - 1) = (n : Nat) := by rw [wrap_in (by omega) (by omega)]; omega
    by_cases h0 : inSet cs (bt s ((n : Nat) : Int)) = true
    · have hsz : (s.extract 0 n).size = n := by rw [ByteArray.size_extract]; omega
      obtain ⟨m, hm, hr, h1, h2⟩ := ih (s.extract 0 n) hsz (by omega)
      have hb : ∀ j, j < n → bt (s.extract 0 n) ((j : Nat) : Int) = bt s (j : Int) := fun j hj => by rw [bt_ext s 0 n j (by omega) (by omega), Nat.zero_add]
      have he : (s.extract 0 n).extract 0 m = s.extract 0 m := by
        apply ByteArray.ext
        simp [ByteArray.data_extract, Array.extract_extract]
        congr 1
        omega
      rw [he] at hr
      refine ⟨m, by omega, ?_, ?_, ?_⟩
      · refine Ev.step (fun k => trimR.eq_2 ..) (Ev.ite_pos (by omega) ?_)
        rw [hw]
        refine Ev.ite_pos (by omega) (Ev.ite_pos (by omega) (Ev.ite_pos h0 ?_))
        rw [Int.toNat_natCast]
        exact hr
      · intro j h3 h4
        by_cases e : j = n
        · rw [e]; exact h0
        · rw [← hb j (by omega)]; exact h1 j h3 (by omega)
      · rcases h2 with h2 | h2
        · exact Or.inl h2
        · by_cases e : m = 0
          · exact Or.inl e
          · right
            rw [← hb (m - 1) (by omega)]
            exact h2
    · refine ⟨n + 1, Nat.le_refl _, ?_, fun j h3 h4 => by omega, Or.inr ?_⟩
      · have e : s.extract 0 (n + 1) = s := by
          apply ByteArray.ext
          simp [ByteArray.data_extract]
          exact Or.inr (Nat.le_of_eq hs)
        rw [e]
        refine Ev.step (fun k => trimR.eq_2 ..) (Ev.ite_pos (by omega) ?_)
        rw [hw]
        exact Ev.ite_pos (by omega) (Ev.ite_pos (by omega) (Ev.ite_neg h0 (Ev.now _)))
      · rw [Nat.add_sub_cancel]
        exact h0
theorem toList_empty (r : ByteArray) : (r.toList == ([] : List UInt8)) = decide (r.size = 0) := by
  rw [Go.Lib.toList_data]
  have h : r.size = r.data.toList.length := rfl
  cases hl : r.data.toList with
  | nil => rw [hl] at h; simp [h]
  | cons x l => rw [hl] at h; simp [h]
theorem Trim_ev (a0 a1 : ByteArray) (hc : cutOk a1 = true) (h1 : a1.size ≤ 1000) (h0 : a0.size ≤ 1048576) : ∃ r, Ev (fun k => strings_Trim.f k a0 a1) r ∧ (r.toList == ([] : List UInt8)) = allIn a1.data.toList a0 := by
  unfold strings_Trim.f
  by_cases he : a0.toList = []
  · refine ⟨a0, Ev.ite_pos ⟨hc, h1⟩ (Ev.ite_pos he (Ev.now _)), ?_⟩
    have hs : a0.size = 0 := by
      rw [Go.Lib.toList_data] at he
      have : a0.size = a0.data.toList.length := rfl
      rw [he] at this
      exact this
    rw [toList_empty, hs]
    symm
    rw [show decide ((0 : Nat) = 0) = true from rfl, allIn_iff]
    intro j hj
    omega
  · obtain ⟨m, hm, hr, h2, h3⟩ := trimR_some a1.data.toList a0.size a0 rfl h0
    have hsz : (a0.extract 0 m).size = m := by rw [ByteArray.size_extract]; omega
    by_cases hm0 : m = 0
    · subst hm0
      refine ⟨a0.extract 0 0, Ev.ite_pos ⟨hc, h1⟩ (Ev.ite_neg he (Ev.bind hr (Ev.step (fun k => trimL.eq_2 ..) (Ev.ite_neg (by omega) (Ev.now _))))), ?_⟩
      rw [toList_empty, hsz]
      symm
      rw [show decide ((0 : Nat) = 0) = true from rfl, allIn_iff]
      exact fun j hj => h2 j (Nat.zero_le _) hj
    · have h3 : ¬ inSet a1.data.toList (bt a0 ((m - 1 : Nat) : Int)) = true := by
        rcases h3 with h3 | h3
        · exact absurd h3 hm0
        · exact h3
      obtain ⟨r, hr2, hp⟩ := trimL_some a1.data.toList m (a0.extract 0 m) hsz (by omega) ⟨m - 1, by omega, by
        rw [bt_ext a0 0 m (m - 1) (by omega) (by omega), Nat.zero_add]
        exact h3⟩
      refine ⟨r, Ev.ite_pos ⟨hc, h1⟩ (Ev.ite_neg he (Ev.bind hr hr2)), ?_⟩
      rw [toList_empty, decide_eq_false (by omega)]
      symm
      cases hA : allIn a1.data.toList a0 with
      | false => rfl
      | true =>
        rw [allIn_iff] at hA
        exact absurd (hA (m - 1) (by omega)) h3
def inC (x : Int) : Bool := x == 43 || (x == 45 || x == 48)
def cutC : ByteArray := ⟨#[43, 45, 48]⟩
theorem all_inC : (List.range 256).all (fun x => inSet cutC.data.toList (x : Int) == inC (x : Int)) = true := by decide +kernel
theorem inC_eq (s : ByteArray) (i : Int) : inSet cutC.data.toList (bt s i) = inC (bt s i) := by
  obtain ⟨h0, h1⟩ := bt_range s i
  obtain ⟨n, hn⟩ := Int.eq_ofNat_of_zero_le h0
  rw [hn]
  have h := all_inC
  rw [List.all_eq_true] at h
  exact eq_of_beq (h n (by simp; omega))
def allC (s : ByteArray) : Bool := (List.range s.size).all fun j => inC (bt s (j : Int))
def cov (s : ByteArray) : Bool := allC s && decide (s.size ≤ 7)
theorem allC_eq (s : ByteArray) : allIn cutC.data.toList s = allC s := by
  unfold allIn allC
  congr 1
  funext j
  exact inC_eq s j
theorem isCover_ev (s : ByteArray) (h : s.size ≤ 1048576) : Ev (fun k => impl_isCoverText.f k s) (cov s) := by
  unfold impl_isCoverText.f cov
  by_cases h7 : (s.size : Int) ≤ 7
  · obtain ⟨r, h1, h2⟩ := Trim_ev s cutC (by decide) (by decide) h
    refine Ev.ite_pos h7 (Ev.bind h1 (Ev.const ?_))
    rw [h2, allC_eq, decide_eq_true (by omega), Bool.and_true]
  · refine Ev.ite_neg h7 (Ev.const ?_)
    rw [decide_eq_false (by omega), Bool.and_false]
theorem l20Fits_ev (s : ByteArray) (h : s.size ≤ 1048576) : Ev (fun k => spec_l20Fits.f k s) (cov s) := by
  unfold spec_l20Fits.f cov
  have key : ∀ d i, i + d = s.size → Ev (fun k => spec_l20Fits.l0 k s (i : Nat)) ((((List.range s.size).drop i).all fun j => inC (bt s (j : Int))) && decide (s.size ≤ 7)) := by
    intro d
    induction d with
    | zero =>
      intro i hi
      rw [List.drop_of_length_le (by simp; omega)]
      refine Ev.step (fun k => spec_l20Fits.l0.eq_2 ..) (Ev.ite_neg (by omega) (Ev.const ?_))
      simp
      omega
    | succ d ih =>
      intro i hi
      have ih := ih (i + 1) (by omega)
      rw [rangeD _ i (by omega), List.all_cons, Bool.and_assoc]
      generalize (((List.range s.size).drop (i + 1)).all (fun j => inC (bt s (j : Int))) && decide (s.size ≤ 7)) = X at ih ⊢
      refine Ev.step (fun k => spec_l20Fits.l0.eq_2 ..) (Ev.ite_pos (by omega) (Ev.ite_pos (by omega) ?_))
      rw [wrap_nat i (by omega)]
      unfold inC
      by_cases c1 : bt s (i : Int) = 43
      · rw [c1]
        exact Ev.ite_pos rfl (by simpa using ih)
      · refine Ev.ite_neg c1 ?_
        by_cases c2 : bt s (i : Int) = 45
        · rw [c2]
          exact Ev.ite_pos rfl (by simpa using ih)
        · refine Ev.ite_neg c2 ?_
          by_cases c3 : bt s (i : Int) = 48
          · rw [c3]
            exact Ev.ite_pos rfl (by simpa using ih)
          · refine Ev.ite_neg c3 (Ev.const ?_)
            simp [c1, c2, c3]
  exact key s.size 0 (by omega)
theorem allC_at {s : ByteArray} (h : allC s = true) (j : Nat) (hj : j < s.size) : bt s (j : Int) = 43 ∨ bt s (j : Int) = 45 ∨ bt s (j : Int) = 48 := by
  unfold allC at h
  rw [List.all_eq_true] at h
  have h := h j (by simpa using hj)
  unfold inC at h
  simpa using h
theorem cov_at {s : ByteArray} (h : cov s = true) : allC s = true ∧ s.size ≤ 7 := by
  unfold cov at h
  rw [Bool.and_eq_true, decide_eq_true_eq] at h
  exact h
theorem strOfNums_size (l : List Int) : (strOfNums l).size = l.length := by
  show (strOfNums l).data.size = l.length
  simp [strOfNums]
theorem str_snoc (L : List Int) (c : Int) : strOfNums (L ++ [c]) = strOfNums L ++ (⟨#[UInt8.ofNat c.toNat]⟩ : ByteArray) := by
  apply ByteArray.ext
  rw [ByteArray.data_append]
  simp [strOfNums]
def oppS (s : ByteArray) : ByteArray := if cov s = true then strOfNums (oppL s) else ⟨#[]⟩
theorem ext1 (s : ByteArray) (i : Nat) (h : i < s.size) : s.extract i (i + 1) = (⟨#[UInt8.ofNat (bt s (i : Int)).toNat]⟩ : ByteArray) := by
  apply ByteArray.ext
  apply Array.ext'
  have hn : i < s.data.toList.length := h
  rw [bt_nat s i h]
  simp only [ByteArray.data_extract, Array.toList_extract, List.extract_eq_take_drop, Nat.add_sub_cancel_left, List.drop_eq_getElem_cons hn, List.take_succ_cons, List.take_zero]
  simp
def joinS (a b : ByteArray) : ByteArray × Bool := if cov a = true ∧ cov b = true ∧ a.size = b.size then (strOfNums (jnL a b), true) else (⟨#[]⟩, false)
theorem l20Join_ev (a b : ByteArray) (h : a.size ≤ 1048576) (hab : a.size = b.size) : Ev (fun k => spec_l20Join.f k a b) (strOfNums (jnL a b)) := by
  unfold spec_l20Join.f
  refine Ev.loop (fun i k => spec_l20Join.l0 k a b (strOfNums ((List.range i).map fun j : Nat => jnI (bt a (j : Int)) (bt b (j : Int)))) (i : Nat)) a.size (strOfNums (jnL a b)) ?_ ?_ 0 (by omega)
  · exact Ev.step (fun k => spec_l20Join.l0.eq_2 ..) (Ev.ite_neg (by omega) (Ev.now _))
  · intro i hi ih
    rw [List.range_succ, List.map_append, List.map_singleton, str_snoc] at ih
    have hsz : (strOfNums ((List.range i).map fun j : Nat => jnI (bt a (j : Int)) (bt b (j : Int)))).size = i := by rw [strOfNums_size]; simp
    refine Ev.step (fun k => spec_l20Join.l0.eq_2 ..) (Ev.ite_pos (by omega) (Ev.ite_pos (by omega) ?_))
    rw [wrap_nat i (by omega), Int.toNat_natCast, Int.toNat_natCast, ext1 a i hi, ext1 b i (by omega)]
    have e1 : ∀ c : UInt8, (⟨#[c]⟩ : ByteArray).size = 1 := fun c => rfl
    unfold jnI at ih
    by_cases c : bt a (i : Int) = 48
    · rw [if_pos c] at ih
      exact Ev.ite_pos c (Ev.ite_pos (by omega) (Ev.ite_pos (by omega) (Ev.ite_pos (by rw [hsz, e1]; omega) ih)))
    · rw [if_neg c] at ih
      exact Ev.ite_neg c (Ev.ite_pos (by omega) (Ev.ite_pos (by omega) (Ev.ite_pos (by rw [hsz, e1]; omega) ih)))
theorem join_spec (a b : ByteArray) (ha : a.size ≤ 1048576) (hb : b.size ≤ 1048576) : Ev (fun k => spec_JoinTexts.f k a b) (joinS a b) := by
  have h1 := l20Fits_ev a ha
  have h2 := l20Fits_ev b hb
  unfold spec_JoinTexts.f joinS
  cases c1 : cov a with
  | false =>
    rw [c1] at h1
    rw [if_neg (by simp)]
    exact Ev.bind h1 (Ev.ite_neg (by simp) (Ev.now _))
  | true =>
    rw [c1] at h1
    refine Ev.bind h1 (Ev.ite_pos rfl ?_)
    cases c2 : cov b with
    | false =>
      rw [c2] at h2
      rw [if_neg (by simp)]
      exact Ev.bind h2 (Ev.ite_neg (by simp) (Ev.now _))
    | true =>
      rw [c2] at h2
      refine Ev.bind h2 (Ev.ite_pos rfl ?_)
      by_cases e : a.size = b.size
      · rw [if_pos ⟨rfl, rfl, e⟩]
        exact Ev.ite_pos (by omega) (Ev.bind (l20Join_ev a b ha e) (Ev.now _))
      · rw [if_neg (fun h => e h.2.2)]
        exact Ev.ite_neg (by omega) (Ev.now _)
theorem join_impl (a b : ByteArray) (ha : a.size ≤ 1048576) (hb : b.size ≤ 1048576) : Ev (fun k => impl_JoinTexts.f k a b) (joinS a b) := by
  have h1 := isCover_ev a ha
  have h2 := isCover_ev b hb
  unfold impl_JoinTexts.f joinS
  refine Ev.ite_pos (by omega) ?_
  by_cases e : a.size = b.size
  · refine Ev.ite_pos (by omega) ?_
    cases c1 : cov a with
    | false =>
      rw [c1] at h1
      rw [if_neg (by simp)]
      exact Ev.bind h1 (Ev.ite_neg (by simp) (Ev.now _))
    | true =>
      rw [c1] at h1
      refine Ev.bind h1 (Ev.ite_pos rfl ?_)
      cases c2 : cov b with
      | false =>
        rw [c2] at h2
        rw [if_neg (by simp)]
        exact Ev.bind h2 (Ev.ite_neg (by simp) (Ev.now _))
      | true =>
        rw [c2] at h2
        rw [if_pos ⟨rfl, rfl, e⟩]
        exact Ev.bind h2 (Ev.ite_pos rfl (Ev.now _))
  · rw [if_neg (fun h => e h.2.2)]
    exact Ev.ite_neg (by omega) (Ev.now _)
theorem sepR_small (a b : ByteArray) : ∀ n, n ≤ 1000 → 0 ≤ sepR a b n ∧ sepR a b n ≤ n := by
  intro n
  induction n with
  | zero => intro _; simp [sepR]
  | succ n ih =>
    intro h
    have ih := ih (by omega)
    rw [sepR]
    by_cases c : sepB a b n = true
    · rw [if_pos c, wrap_in (by omega) (by omega)]
      omega
    · rw [if_neg c]
      omega
def sepS (a b : ByteArray) : Int := if (joinS a b).2 = true then sepR a b a.size else -1
theorem join_ok {a b : ByteArray} (h : (joinS a b).2 = true) : cov a = true ∧ a.size = b.size := by
  unfold joinS at h
  by_cases c : cov a = true ∧ cov b = true ∧ a.size = b.size
  · exact ⟨c.1, c.2.2⟩
  · rw [if_neg c] at h
    cases h
theorem bit_eq (v : Bool) : spec_l1Bit.f v = some (if v = true then 1 else 0) := by
  unfold spec_l1Bit.f
  cases v <;> rfl
theorem sep_spec (a b : ByteArray) (ha : a.size ≤ 1048576) (hb : b.size ≤ 1048576) : Ev (fun k => spec_AreSeparated.f k a b) (sepS a b) := by
  have hJ := join_spec a b ha hb
  unfold spec_AreSeparated.f sepS
  refine Ev.bind hJ ?_
  by_cases c : (joinS a b).2 = true
  · obtain ⟨hc, he⟩ := join_ok c
    have h7 := (cov_at hc).2
    rw [if_pos c]
    refine Ev.ite_pos c ?_
    refine Ev.loop (fun i k => spec_AreSeparated.l0 k a b (sepR a b i) (i : Nat)) a.size (sepR a b a.size) ?_ ?_ 0 (by omega)
    · exact Ev.step (fun k => spec_AreSeparated.l0.eq_2 ..) (Ev.ite_neg (by omega) (Ev.now _))
    · intro i hi ih
      have hsm := sepR_small a b i (by omega)
      rw [sepR] at ih
      refine Ev.step (fun k => spec_AreSeparated.l0.eq_2 ..) (Ev.ite_pos (by omega) (Ev.ite_pos (by omega) (Ev.ite_pos (by omega) ?_)))
      rw [wrap_nat i (by omega)]
      have w0 : wrap64 (sepR a b i + 0) = sepR a b i := by rw [Int.add_zero]; exact wrap_in (by omega) (by omega)
      unfold sepB at ih
      by_cases c1 : bt a (i : Int) = bt b (i : Int)
      · rw [beq_iff_eq.mpr c1, if_neg (by simp)] at ih
        refine Ev.ite_pos c1 (Ev.bind0 (bit_eq false) ?_)
        rw [if_neg (by simp), w0]
        exact ih
      · rw [beq_eq_false_iff_ne.mpr c1] at ih
        refine Ev.ite_neg c1 ?_
        by_cases c2 : bt a (i : Int) = 48
        · rw [beq_iff_eq.mpr c2, if_neg (by simp)] at ih
          refine Ev.ite_pos c2 (Ev.bind0 (bit_eq false) ?_)
          rw [if_neg (by simp), w0]
          exact ih
        · rw [beq_eq_false_iff_ne.mpr c2] at ih
          refine Ev.ite_neg c2 (Ev.bind0 (bit_eq _) ?_)
          by_cases c3 : bt b (i : Int) = 48
          · rw [beq_iff_eq.mpr c3, if_neg (by simp)] at ih
            rw [if_neg (by simp [c3]), w0]
            exact ih
          · rw [beq_eq_false_iff_ne.mpr c3, if_pos (by simp)] at ih
            rw [if_pos (by simp [c3])]
            exact ih
  · rw [if_neg c]
    exact Ev.ite_neg c (Ev.now _)
theorem sep_impl (a b : ByteArray) (ha : a.size ≤ 1048576) (hb : b.size ≤ 1048576) : Ev (fun k => impl_AreSeparated.f k a b) (sepS a b) := by
  have hJ := join_impl a b ha hb
  unfold impl_AreSeparated.f sepS
  refine Ev.bind hJ ?_
  by_cases c : (joinS a b).2 = true
  · obtain ⟨hc, he⟩ := join_ok c
    rw [if_pos c, if_pos c]
    refine Ev.ite_pos ⟨?_, by omega⟩ (Ev.now _)
    unfold ascB
    rw [List.all_eq_true]
    intro j hj
    rcases allC_at (cov_at hc).1 j (by simpa using hj) with h | h | h <;> rw [h] <;> rfl
  · rw [if_neg c, if_neg c]
    exact Ev.now _
theorem FnExactAreSeparated (a0 a1 : ByteArray) (_ : a0.size ≤ 9223372036854775807) (_ : a1.size ≤ 9223372036854775807) : ∃ k, laws_FnExactAreSeparated.f k a0 a1 = some true := by
  refine Ev.rounds (g := fun k => laws_FnExactAreSeparated.f k a0 a1) ?_
  unfold laws_FnExactAreSeparated.f
  by_cases hs : (a0.size : Int) > 1048576
  · exact Ev.ite_pos hs (Ev.now _)
  by_cases hs1 : (a1.size : Int) > 1048576
  · exact Ev.ite_neg hs (Ev.ite_pos hs1 (Ev.now _))
  exact Ev.ite_neg hs (Ev.ite_neg hs1 (Ev.bind (sep_spec a0 a1 (by omega) (by omega)) (Ev.bind (sep_impl a0 a1 (by omega) (by omega)) (Ev.ite_pos rfl (Ev.now _)))))
end Go.Proofs.YtajogmlblknfdaaDoor.Pure
