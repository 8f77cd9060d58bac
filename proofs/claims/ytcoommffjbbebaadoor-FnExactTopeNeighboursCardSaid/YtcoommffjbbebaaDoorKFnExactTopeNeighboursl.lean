/- What the law FnExactTopeNeighbours reaches, part 12: functions as plain Lean functions with the proofs that their calls come to them, and plain lemmas over these. Put together by a program (wip/pack.py). -/
import Derived.Test.YtcoommffjbbebaaDoorKFnExactTopeNeighboursc
import Derived.Test.YtcoommffjbbebaaDoorKFnExactTopeNeighboursh
import Derived.Test.YtcoommffjbbebaaDoorKFnExactTopeNeighboursi
import Derived.Test.YtcoommffjbbebaaDoorKFnExactTopeNeighboursk
import Derived.Test.YtcoommffjbbebaaDoorKFnExactTopeNeighboursj
import Derived.Maps.OwnSet
import Derived.Maps.OwnOps
import Derived.Maps.RangeWalk
import Derived.Shelf.Strings.Search3
namespace Go.Proofs.YtcoommffjbbebaaDoor.P
open Go.RowKit Go.Proofs.YtcoommffjbbebaaDoorW.PrintWords Go.Proofs.YtcoommffjbbebaaDoorW.PrintLast Go.Proofs.YtcoommffjbbebaaDoorW.PrintMore
attribute [local go_sem] ptrOf_slice
attribute [local go_sem] min2_str max2_int min2_int max_two min_two max_three min_three max_four min_four
set_option linter.unusedVariables false
set_option linter.unusedSimpArgs false
def impl_chi_pairText.l0 : Nat → List Int → Int → Int → List Int → Int → Int → Option (ByteArray)
 | 0, _, _, _, _, _, _ => none
 | k + 1, x0, x1, x2, x7, x15, x16 => if x16 < x15 then (if 344 ≤ (x0.length : Int) then (if 0 ≤ x1 then (if x1 < 7 then (if 0 ≤ x2 then (if x2 < 7 then (if 0 ≤ x16 then (if x16 < 7 then (if 0 ≤ (wrap64 ((chiA x0 x1 x2 x16) + 1)) then (if (wrap64 ((chiA x0 x1 x2 x16) + 1)) < 3 then (if x16 < (x7.length : Int) then (impl_chi_pairText.l0 k x0 x1 x2 (x7.set (x16 : Int).toNat (bt (⟨#[45, 48, 43]⟩ : ByteArray) (wrap64 ((chiA x0 x1 x2 x16) + 1)))) x15 (wrap64 (x16 + 1))) else (none)) else (none)) else (none)) else (none)) else (none)) else (none)) else (none)) else (none)) else (none)) else (none)) else (some (strOfNums x7))
def impl_chi_pairText.f (k : Nat) (l0 : List Int) (a1 : Int) (a2 : Int) : Option (ByteArray) := if 344 ≤ (l0.length : Int) then (if 0 ≤ (chiN l0) then (if (chiN l0 : Int).toNat ≤ 281474976710656 then ((some (List.replicate (chiN l0 : Int).toNat 0 : List Int)).bind fun y276 => (impl_chi_pairText.l0 k l0 a1 a2 y276 (y276.length : Int) 0)) else (none)) else (none)) else (none)
theorem impl_chi_pairText.mono_l : ∀ k, (∀ y0 y1 y2 y3 y4 y5, LeO (impl_chi_pairText.l0 k y0 y1 y2 y3 y4 y5) (impl_chi_pairText.l0 (k + 1) y0 y1 y2 y3 y4 y5))
 | 0 => fun _ _ _ _ _ _ r h => by simp [impl_chi_pairText.l0] at h
 | k + 1 => by
  have ih0 := impl_chi_pairText.mono_l k
  ·intro y0 y1 y2 y3 y4 y5
   unfold impl_chi_pairText.l0
   repeat' first
   | (with_reducible exact ih0 _ _ _ _ _ _)
   | (with_reducible exact LeO.refl _)
   | (with_reducible exact LeO.none _)
   | (with_reducible refine LeO.ite ?_ ?_)
   | (with_reducible refine LeO.bind ?_ (fun _ => ?_))
   | exact ih0 _ _ _ _ _ _
   | exact LeO.none _
   | refine LeO.ite ?_ ?_
   | refine LeO.bind ?_ (fun _ => ?_)
theorem impl_chi_pairText.mono : ∀ a0 a1 a2 k, LeO (impl_chi_pairText.f k a0 a1 a2) (impl_chi_pairText.f (k + 1) a0 a1 a2) := by
 intro a0 a1 a2 k
 have ih0 := impl_chi_pairText.mono_l k
 unfold impl_chi_pairText.f
 repeat' first
   | (with_reducible exact ih0 _ _ _ _ _ _)
   | (with_reducible exact LeO.refl _)
   | (with_reducible exact LeO.none _)
   | (with_reducible refine LeO.ite ?_ ?_)
   | (with_reducible refine LeO.bind ?_ (fun _ => ?_))
   | exact ih0 _ _ _ _ _ _
   | exact LeO.none _
   | refine LeO.ite ?_ ?_
   | refine LeO.bind ?_ (fun _ => ?_)
set_option maxHeartbeats 8000000 in
set_option maxRecDepth 100000 in
theorem impl_chi_pairText.calls (k : Nat) (A0 : Option Addr) (c0 : Nat) (l0 : List Int) (a1 : Int) (a2 : Int) (r : ByteArray) (w : World) (hr0 : Kd.C (Kd.int .i64) w A0 l0.length l0) (hc0 : l0.length ≤ c0) (h : impl_chi_pairText.f k l0 a1 a2 = some r) :
  Calls Tryd.prog 25 #[.pointer A0, .int .i64 a1, .int .i64 a2] w fun e w' => e = .returned (.string r) ∧ Below w.heap.size w w' := by
 have HR0 := Aside0.mk hr0
 have HC0 := Aside0.mk hc0
 clear hr0 hc0
 have HB := Aside0.mk (Below.refl w.heap.size w)
 have H : (if 344 ≤ (l0.length : Int) then (if 0 ≤ (chiN l0) then (if (chiN l0 : Int).toNat ≤ 281474976710656 then ((some (List.replicate (chiN l0 : Int).toNat 0 : List Int)).bind fun y276 => (impl_chi_pairText.l0 k l0 a1 a2 y276 (y276.length : Int) 0)) else (none)) else (none)) else (none)) = some r := h
 clear h
 by_cases c4 : 344 ≤ (l0.length : Int)
 ·rw [if_pos c4] at H
  have c4b0 := eq_true c4
  have c4b1 : decide (344 ≤ (l0.length : Int)) = true := decide_eq_true c4
  clear c4
  by_cases c5 : 0 ≤ (chiN l0)
  ·rw [if_pos c5] at H
   have c5b0 := eq_true c5
   have c5b1 : decide (0 ≤ (chiN l0)) = true := decide_eq_true c5
   clear c5
   by_cases c6 : (chiN l0 : Int).toNat ≤ 281474976710656
   ·rw [if_pos c6] at H
    have c6b0 := eq_true c6
    have c6b1 : decide ((chiN l0 : Int).toNat ≤ 281474976710656) = true := decide_eq_true c6
    clear c6
    obtain ⟨y276, hy276⟩ : ∃ y_ : List Int, y_ = (List.replicate (chiN l0 : Int).toNat 0) := ⟨_, rfl⟩
    replace H : (impl_chi_pairText.l0 k l0 a1 a2 y276 (y276.length : Int) 0) = some r := by first | (rw [hy276]; with_reducible exact H) | (have H2_ := (Option.bind_some _ _).symm.trans H; rw [hy276]; with_reducible exact H2_) | (have H2_ := (Option.bind_some _ _).symm.trans H; with_reducible exact H2_) | with_reducible exact H | (rw [hy276]; exact H) | exact H
    have Ny276 := Aside0.mk hy276
    clear hy276
    have H' := Aside0.mk H
    clear H
    have q275 : 344 ≤ (l0.length : Int) := of_decide_eq_true (by first | (with_reducible assumption) | assumption)
    obtain ⟨ad275, e275, hx275_0⟩ := chi_n HR0.out q275
    cases e275
    go_enter Tryd.func25, Tryd.ntmps25
    go_wp2_with (first | ((with_reducible refine gate_dst (N := 13) rfl ?_); refine Kd.R_make (Kd.int .u8) _ 5 rfl (N := 13) rfl 67 _ _ rfl (chiN l0) rfl rfl Tryd.underlying67 (.int .u8 0) 1 info5 rfl (by decide) (by omega) 0 (ok := fun _ => True) (okp := fun _ => True) rfl (fun _ hk => hk) trivial (of_decide_eq_true (by first | (with_reducible assumption) | assumption)) (Nat.le_trans (Nat.mul_le_mul_right _ (of_decide_eq_true (by first | (with_reducible assumption) | assumption) : (chiN l0).toNat ≤ 281474976710656)) (by omega)) (Below.refl _ _) (Nat.le_refl _) ?_; intro v277 w7 ho8 hb hg_ hnew_; clear hg_ hnew_; (first | rw [← Ny276.out] at ho8 | (simp only [Int.reduceToNat] at ho8; rw [← Ny276.out] at ho8)); have n0_ := Aside0.mk (Kd.R_lower ho8 (below_size (by repeat (first | (with_reducible first | exact HB.out | apply below_alloc | apply pw_below_drewN | apply below_drew1) | exact HB.out)))); have n1_ := Aside0.mk (below_step (by repeat (first | (with_reducible first | exact HB.out | apply below_alloc | apply pw_below_drewN | apply below_drew1) | exact HB.out)) hb); clear HB; have HO278 := n0_; have HB := n1_; clear n0_ n1_; clear hb ho8; obtain ⟨Ao9, co9, eo9⟩ := Kd.R_slice HO278.out; subst eo9))
    go_loopg [16] k (fun kq v16 w' => ∃ (x7_1 : List Int) (x16_1 : Int), v16 = .int .i64 x16_1 ∧ Aside0 (impl_chi_pairText.l0 kq l0 a1 a2 x7_1 (y276.length : Int) x16_1 = some r) ∧ Aside0 (kq ≤ k) ∧ Aside0 (Kd.R (Kd.int .u8) 5 w' w.heap.size (fun _ => True) (.slice Ao9 y276.length co9) x7_1) ∧ Aside0 (Below w.heap.size w w'))
    case atStart => exact ⟨(y276), (0), (by first | rfl | (simp; done) | (simp [*]; done)), H', ⟨Nat.le_refl _⟩, ⟨by (with_reducible repeat (first | apply Kd.R_alloc | apply Kd.R_drewN | apply Kd.R_drew)); exact HO278.out⟩, ⟨by repeat (first | (with_reducible first | exact HB.out | apply below_alloc | apply pw_below_drewN | apply below_drew1) | exact HB.out)⟩⟩
    case round =>
     clear H'
     try clear c2
     try clear p2
     try clear q2
     try clear hx2
     try clear c4
     try clear c4b0
     try clear c4b1
     try clear c5
     try clear c5b0
     try clear c5b1
     try clear c6
     try clear c6b0
     try clear c6b1
     try clear hx275_0
     try clear q275
     obtain ⟨x7_1, x16_1, rfl, HA, HK1, HO_7, HB⟩ := hrel
     have hl7_1 := (Kd.R_reads' HO_7.out).1
     rw [hl7_1] at HO_7
     (try simp only [hl7_1])
     cases gk with
     | zero => exact absurd HA.out (by simp [impl_chi_pairText.l0])
     | succ k1 =>
      have H := HA.out
      clear HA
      simp only [impl_chi_pairText.l0] at H
      by_cases c10 : x16_1 < (y276.length : Int)
      ·rw [if_pos c10] at H
       have c10b0 : decide (x16_1 < (y276.length : Int)) = true := decide_eq_true c10
       (try (have c10b0_ := c10b0; simp only [hl7_1] at c10b0_))
       clear c10
       by_cases c11 : 344 ≤ (l0.length : Int)
       ·rw [if_pos c11] at H
        have c11b0 := eq_true c11
        have c11b1 : decide (344 ≤ (l0.length : Int)) = true := decide_eq_true c11
        clear c11
        by_cases c12 : 0 ≤ a1
        ·rw [if_pos c12] at H
         have c12b0 : decide (0 ≤ a1) = true := decide_eq_true c12
         clear c12
         by_cases c13 : a1 < 7
         ·rw [if_pos c13] at H
          have c13b0 : decide (a1 < 7) = true := decide_eq_true c13
          clear c13
          by_cases c14 : 0 ≤ a2
          ·rw [if_pos c14] at H
           have c14b0 : decide (0 ≤ a2) = true := decide_eq_true c14
           clear c14
           by_cases c15 : a2 < 7
           ·rw [if_pos c15] at H
            have c15b0 : decide (a2 < 7) = true := decide_eq_true c15
            clear c15
            by_cases c16 : 0 ≤ x16_1
            ·rw [if_pos c16] at H
             have c16b0 : decide (0 ≤ x16_1) = true := decide_eq_true c16
             clear c16
             by_cases c17 : x16_1 < 7
             ·rw [if_pos c17] at H
              have c17b0 : decide (x16_1 < 7) = true := decide_eq_true c17
              clear c17
              obtain ⟨ji18, hji18⟩ : ∃ j_ : Int, (wrap64 ((chiA l0 a1 a2 x16_1) + 1)) = j_ := ⟨_, rfl⟩
              replace H : (if 0 ≤ (ji18) then (if (ji18) < 3 then (if x16_1 < (x7_1.length : Int) then (impl_chi_pairText.l0 k1 l0 a1 a2 (x7_1.set (x16_1 : Int).toNat (bt (⟨#[45, 48, 43]⟩ : ByteArray) (ji18))) (y276.length : Int) (wrap64 (x16_1 + 1))) else (none)) else (none)) else (none)) = some r := by first | (rw [hji18] at H; exact H) | (simp only [hji18] at H ⊢; exact H)
              have hji18w : (IntKind.i64.wrap ((chiA l0 a1 a2 x16_1) + 1)) = ji18 := (i64_w _).trans hji18
              by_cases c19 : 0 ≤ (ji18)
              ·rw [if_pos c19] at H
               have c19b0 : decide (0 ≤ (ji18)) = true := decide_eq_true c19
               clear c19
               by_cases c20 : (ji18) < 3
               ·rw [if_pos c20] at H
                have c20b0 : decide ((ji18) < 3) = true := decide_eq_true c20
                clear c20
                by_cases c22 : x16_1 < (x7_1.length : Int)
                ·rw [if_pos c22] at H
                 have c22b0 : decide (x16_1 < (x7_1.length : Int)) = true := decide_eq_true c22
                 (try (have c22b0_ := c22b0; simp only [hl7_1] at c22b0_))
                 clear c22
                 obtain ⟨y280, hy280⟩ : ∃ y_ : List Int, y_ = (x7_1.set (x16_1 : Int).toNat (bt (⟨#[45, 48, 43]⟩ : ByteArray) (ji18))) := ⟨_, rfl⟩
                 replace H : (impl_chi_pairText.l0 k1 l0 a1 a2 y280 (y276.length : Int) (wrap64 (x16_1 + 1))) = some r := by first | (rw [hy280]; with_reducible exact H) | (have H2_ := (Option.bind_some _ _).symm.trans H; rw [hy280]; with_reducible exact H2_) | (have H2_ := (Option.bind_some _ _).symm.trans H; with_reducible exact H2_) | with_reducible exact H | (rw [hy280]; exact H) | exact H
                 have Ny280 := Aside0.mk hy280
                 clear hy280
                 have H' := Aside0.mk H
                 clear H
                 have q279 : 344 ≤ (l0.length : Int) := of_decide_eq_true (by first | (with_reducible assumption) | assumption)
                 have p279_0a : 0 ≤ (a1 : Int) := of_decide_eq_true (by first | (with_reducible assumption) | assumption)
                 have p279_0b : (a1 : Int) < 7 := of_decide_eq_true (by first | (with_reducible assumption) | assumption)
                 have p279_1a : 0 ≤ (a2 : Int) := of_decide_eq_true (by first | (with_reducible assumption) | assumption)
                 have p279_1b : (a2 : Int) < 7 := of_decide_eq_true (by first | (with_reducible assumption) | assumption)
                 have p279_2a : 0 ≤ (x16_1 : Int) := of_decide_eq_true (by first | (with_reducible assumption) | assumption)
                 have p279_2b : (x16_1 : Int) < 7 := of_decide_eq_true (by first | (with_reducible assumption) | assumption)
                 obtain ⟨ad279, e279, hx279_0⟩ := chi_at HR0.out q279 p279_0a p279_0b p279_1a p279_1b p279_2a p279_2b
                 obtain rfl : ad275 = ad279 := (by injection e279)
                 replace hx279_0 := (HB.out.cell (World.block_lt_of_cell? w _ hx279_0)).trans hx279_0
                 replace p279_0a := eq_true p279_0a
                 replace p279_0b := eq_true p279_0b
                 replace p279_1a := eq_true p279_1a
                 replace p279_1b := eq_true p279_1b
                 replace p279_2a := eq_true p279_2a
                 replace p279_2b := eq_true p279_2b
                 have p21 : 0 ≤ ((ji18) : Int) := of_decide_eq_true (by first | (with_reducible assumption) | assumption)
                 have q21 : (ji18) < (3 : Int) := of_decide_eq_true (by first | (with_reducible assumption) | assumption)
                 have hx21 := bt_at (⟨#[45, 48, 43]⟩ : ByteArray) (ji18)
                 replace p21 := eq_true p21
                 replace q21 := eq_true q21
                 have p23 : 0 ≤ (x16_1 : Int) := of_decide_eq_true (by first | (with_reducible assumption) | assumption)
                 have q23 : (x16_1 : Int) < ((x7_1.length : Int) : Int) := of_decide_eq_true (by first | (with_reducible assumption) | assumption)
                 obtain ⟨go23, co23, eo23, gb23, gl23, cl23, HG23⟩ := Kd.R_form HO_7.out (by omega)
                 (first | cases eo23 | (injection eo23 with ea_ en_ ec_; (first | subst ea_ | (injection ea_ with ea_; subst ea_)); subst ec_; clear en_))
                 have GB23 := Aside0.mk gb23
                 have GG23 := Aside0.mk HG23
                 clear gb23 gl23 HG23
                 obtain ⟨hx23_0, hf23_0⟩ := Kd.R_celln 0 HO_7.out (x16_1 : Int) p23 q23
                 replace p23 := eq_true p23
                 replace q23 := eq_true q23
                 have HP24 := Kd.R_putg HO_7.out (x16_1 : Int) (bt (⟨#[45, 48, 43]⟩ : ByteArray) (ji18))
                 go_wp2_with (first | ((with_reducible refine gate_store (t := 5) (p := 33) rfl ?_); refine store_event (t := 5) (p := 33) (v := ?vo_w25) (w1 := (wr.setCell ⟨go23, (x16_1 : Int).toNat, none⟩ (.int .u8 (bt (⟨#[45, 48, 43]⟩ : ByteArray) (ji18))))) ?hg ?ho ?hn ?hr ?_; (case ho => rfl); (case hg => rfl); (case hn => rfl); (case hr => first | (go_simp; done) | (go_simp; rfl)); intro w25 hw; have hg : wr.grownBy w25 (some go23) := (by rw [hw]; exact HP24.2); have hp_ : Kd.R (Kd.int .u8) 5 w25 w.heap.size (fun _ => True) (.slice (some ⟨go23, 0, none⟩) x7_1.length co9) y280 := (by rw [hw, Ny280.out]; exact HP24.1); clear HP24; have n0_ := Aside0.mk (hp_); have n1_ := Aside0.mk ((by rw [hw]; exact below_set (HB.out) GB23.out : Below w.heap.size w w25)); clear HO_7; clear HB; have HO_7 := n0_; have HB := n1_; clear n0_ n1_; clear hg hw hp_))
                 (try simp only [← hl7_1])
                 go_roundg k1
                 case measure => have := HK1.out; omega
                 case rel => exact ⟨(y280), (wrap64 (x16_1 + 1)), (by first | rfl | (simp; done) | (simp [*]; done)), H', ⟨by have := HK1.out; omega⟩, ⟨by (try simp only [hl7_1]); (with_reducible repeat (first | apply Kd.R_alloc | apply Kd.R_drewN | apply Kd.R_drew)); exact HO_7.out⟩, ⟨by repeat (first | (with_reducible first | exact HB.out | apply below_alloc | apply pw_below_drewN | apply below_drew1) | exact HB.out)⟩⟩
                ·rw [if_neg c22] at H
                 exact absurd H (by simp)
               ·rw [if_neg c20] at H
                exact absurd H (by simp)
              ·rw [if_neg c19] at H
               exact absurd H (by simp)
             ·rw [if_neg c17] at H
              exact absurd H (by simp)
            ·rw [if_neg c16] at H
             exact absurd H (by simp)
           ·rw [if_neg c15] at H
            exact absurd H (by simp)
          ·rw [if_neg c14] at H
           exact absurd H (by simp)
         ·rw [if_neg c13] at H
          exact absurd H (by simp)
        ·rw [if_neg c12] at H
         exact absurd H (by simp)
       ·rw [if_neg c11] at H
        exact absurd H (by simp)
      ·rw [if_neg c10] at H
       have c10b0 : decide (x16_1 < (y276.length : Int)) = false := decide_eq_false c10
       (try (have c10b0_ := c10b0; simp only [hl7_1] at c10b0_))
       clear c10
       obtain rfl := Option.some.inj H
       have hcv26 := own_string (P := Tryd.prog) Tryd.underlying67 Tryd.underlying5 Tryd.underlying9 (Kd.own_of_R HO_7.out)
       go_wp2
       go_ret
       exact ⟨by first | rfl | (simp [errW_none, errW_some] <;> rfl) | (simp [*, errW_none, errW_some] <;> rfl), by repeat (first | (with_reducible first | exact HB.out | apply below_alloc | apply pw_below_drewN | apply below_drew1) | exact HB.out)⟩
   ·rw [if_neg c6] at H
    exact absurd H (by simp)
  ·rw [if_neg c5] at H
   exact absurd H (by simp)
 ·rw [if_neg c4] at H
  exact absurd H (by simp)
end Go.Proofs.YtcoommffjbbebaaDoor.P
namespace Go.Proofs.YtcoommffjbbebaaDoor.P
open Go.RowKit Go.Proofs.YtcoommffjbbebaaDoorW.PrintWords Go.Proofs.YtcoommffjbbebaaDoorW.PrintLast Go.Proofs.YtcoommffjbbebaaDoorW.PrintMore
attribute [local go_sem] ptrOf_slice
set_option linter.unusedVariables false
set_option linter.unusedSimpArgs false
open Go.Shelf in
def cont144_ren : Go.Shelf.Ren := ⟨fun | 144 => 27 | 143 => 43 | 219 => 54 | 217 => 75 | 225 => 76 | 224 => 77 | 267 => 78 | 266 => 89 | 314 => 90 | n => n, fun | 9 => 9 | 4 => 4 | 3 => 3 | 5 => 5 | 46 => 71 | 146 => 113 | 51 => 87 | n => n, fun | 1 => 0 | n => n⟩
theorem cont144 : Go.Proofs.Lays.n144 Tryd.prog cont144_ren :=
  { mixed := by kernel_rfl,
    f143 := Tryd.func43.trans (congrArg some (by kernel_rfl)),
    f144 := Tryd.func27.trans (congrArg some (by kernel_rfl)),
    f217 := Tryd.func75.trans (congrArg some (by kernel_rfl)),
    f219 := Tryd.func54.trans (congrArg some (by kernel_rfl)),
    f224 := Tryd.func77.trans (congrArg some (by kernel_rfl)),
    f225 := Tryd.func76.trans (congrArg some (by kernel_rfl)),
    f266 := Tryd.func89.trans (congrArg some (by kernel_rfl)),
    f267 := Tryd.func78.trans (congrArg some (by kernel_rfl)),
    f314 := Tryd.func90.trans (congrArg some (by kernel_rfl)),
    t3 := Tryd.underlying3,
    a3 := Tryd.isAgg3,
    z3 := Tryd.sizeOf3,
    v3 := Tryd.zeroValue3,
    t4 := Tryd.underlying4,
    a4 := Tryd.isAgg4,
    z4 := Tryd.sizeOf4,
    v4 := Tryd.zeroValue4,
    t5 := Tryd.underlying5,
    a5 := Tryd.isAgg5,
    z5 := Tryd.sizeOf5,
    v5 := Tryd.zeroValue5,
    t9 := Tryd.underlying9,
    a9 := Tryd.isAgg9,
    z9 := Tryd.sizeOf9,
    v9 := Tryd.zeroValue9,
    t46 := Tryd.underlying71,
    a46 := Tryd.isAgg71,
    z46 := Tryd.sizeOf71,
    v46 := Tryd.zeroValue71,
    t51 := Tryd.underlying87,
    a51 := Tryd.isAgg87,
    z51 := Tryd.sizeOf87,
    v51 := Tryd.zeroValue87,
    t146 := Tryd.underlying113,
    a146 := Tryd.isAgg113,
    z146 := Tryd.sizeOf113,
    v146 := Tryd.zeroValue113,
    g1 := by kernel_rfl }
def hasZ (t : ByteArray) : Bool := decide (0 ≤ Lib.indexByte t.data.toList 48)
theorem contains0 (t : ByteArray) (b : Bool) (w : World) (h : hasZ t = b) : Calls Tryd.prog 27 #[.string t, .string ⟨#[48]⟩] w fun e w' => e = .returned (.bool b) ∧ w' = w := by
  subst h
  exact Any.strings_Contains_one cont144 t 48 w
abbrev klS (t : ByteArray) : Lit := .string t.data.toList
theorem klS_inj {a b : ByteArray} (h : klS a = klS b) : a = b := by
  injection h with h
  exact ByteArray.ext (Array.ext' h)
theorem lawS : Maps.Keyed Tryd.prog 9 := Maps.string_keyed Tryd.underlying9
theorem keyOf_S (t : ByteArray) (h : t.size ≤ maxLen) : keyOf Tryd.prog 9 (.string t) = some (klS t) := WideMaps.keyOf_string_mk Tryd.underlying9 h
theorem invS {key : Value} {kl : Lit} (h : keyOf Tryd.prog 9 key = some kl) : ∃ t, key = .string t ∧ kl = klS t := by
  cases key <;> simp [keyOf, Tryd.underlying9, mapKey] at h
  first | exact ⟨_, rfl, h.2.symm⟩ | exact ⟨_, rfl, h.symm⟩
structure BV where
  b : Bool
def mkB (x : BV) : Value := .bool x.b
theorem valB {v : Value} {y : DataW Unit × List MemPlace} (h : plainElem Tryd.prog 4 v = some y) : ∃ b, v = mkB b := by
  cases v <;> simp [plainElem, Tryd.underlying4] at h
  exact ⟨⟨_⟩, rfl⟩
structure SetIs (D : DataW Unit) (es : List ByteArray) : Prop where
  nd : es.Nodup
  in_ : ∀ e ∈ es, Maps.has D (klS e) = true
  has : ∀ kl, Maps.has D kl = true → ∃ e ∈ es, kl = klS e
def memB (t : ByteArray) (es : List ByteArray) : Bool := es.any fun e => decide (e = t)
theorem memB_iff {t : ByteArray} {es : List ByteArray} : memB t es = true ↔ t ∈ es := by
  unfold memB
  rw [List.any_eq_true]
  exact ⟨fun ⟨e, he, h⟩ => (of_decide_eq_true h) ▸ he, fun h => ⟨t, h, decide_eq_true rfl⟩⟩
def putU (es : List ByteArray) (t : ByteArray) : List ByteArray := if memB t es = true then es else es ++ [t]
theorem putU_mem (es : List ByteArray) (t z : ByteArray) : z ∈ putU es t ↔ z ∈ es ∨ z = t := by
  unfold putU
  split
  · next h => exact ⟨.inl, fun h1 => h1.elim id (fun e => e ▸ memB_iff.1 h)⟩
  · rw [List.mem_append, List.mem_singleton]
theorem SetIs.nil : SetIs (.map []) [] := ⟨List.nodup_nil, (fun _ h => by cases h), (fun kl h => by simp [Maps.has] at h)⟩
theorem SetIs.put {D : DataW Unit} {es : List ByteArray} (h : SetIs D es) (hD : Maps.IsMap D) (t : ByteArray) (z : DataW Unit) : SetIs (D.put (klS t) z) (putU es t) := by
  refine ⟨?_, fun e he => ?_, fun kl hk => ?_⟩
  · unfold putU
    split
    · exact h.nd
    · next hn =>
      refine List.nodup_append.2 ⟨h.nd, by simp, fun a ha b hb e => ?_⟩
      rw [List.mem_singleton] at hb
      subst hb
      subst e
      exact hn (memB_iff.2 ha)
  · by_cases e1 : klS e = klS t
    · rw [e1]
      exact Maps.has_true_of_atKey (fun zd => Maps.atKey_put_same hD (by trivial) z zd)
    · rw [Maps.has_put_other e1]
      rcases (putU_mem es t e).1 he with he | rfl
      · exact h.in_ e he
      · exact absurd rfl e1
  · by_cases e : kl = klS t
    · exact ⟨t, (putU_mem es t t).2 (.inr rfl), e⟩
    · rw [Maps.has_put_other e] at hk
      obtain ⟨x, hx, e2⟩ := h.has kl hk
      exact ⟨x, (putU_mem es t x).2 (.inl hx), e2⟩
theorem isMapS {w : World} {b n : Nat} {D : DataW Unit} {R : Value → Option (DataW Unit × List MemPlace)} (h : w.ownsMap Tryd.prog 9 R b n D) : Maps.IsMap D := by
  obtain ⟨es, clock, _, _, _, rfl⟩ := h
  exact ⟨_, rfl⟩
theorem mapS_step {w w1 : World} {b n : Nat} {D : DataW Unit} {R : Value → Option (DataW Unit × List MemPlace)} (h : w.ownsMap Tryd.prog 9 R b n D) (hm : w1.heap[b]? = w.heap[b]?) : w1.ownsMap Tryd.prog 9 R b n D := by
  obtain ⟨es, clock, hb, F, hs, hD⟩ := h
  exact ⟨es, clock, hm.trans hb, F, hs, hD⟩
theorem grown_belowS {w w1 : World} (h : Below w.heap.size w w1) : w.grownBy w1 none := ⟨h.os, h.tape, h.output, h.size, fun k hk _ => h.block k hk⟩
theorem below_grownS {w w1 : World} (h : w.grownBy w1 none) : Below w.heap.size w w1 := ⟨h.os, h.tape, h.output, h.size, fun k hk => h.block k hk (by simp)⟩
theorem len_subS : ∀ (a b : List ByteArray), a.Nodup → (∀ x ∈ a, x ∈ b) → a.length ≤ b.length
  | [], _, _, _ => Nat.zero_le _
  | x :: t, b, hn, hs => by
    obtain ⟨hx, ht⟩ := List.nodup_cons.1 hn
    obtain ⟨s1, s2, rfl⟩ := List.append_of_mem (hs x List.mem_cons_self)
    have h := len_subS t (s1 ++ s2) ht (fun y hy => by
      have h1 := hs y (List.mem_cons_of_mem _ hy)
      rw [List.mem_append, List.mem_cons] at h1
      rw [List.mem_append]
      rcases h1 with h1 | h1 | h1
      · exact .inl h1
      · exact absurd (h1 ▸ hy) hx
      · exact .inr h1)
    rw [List.length_append] at h
    rw [List.length_cons, List.length_append, List.length_cons]
    omega
def GotS (es : List ByteArray) (left : Lit → Bool) (qs : List ByteArray) : Prop := qs.Nodup ∧ (∀ e ∈ qs, e ∈ es) ∧ ∀ e ∈ es, e ∈ qs ↔ left (klS e) = false
theorem GotS.start {D : DataW Unit} {es : List ByteArray} (h : SetIs D es) : GotS es (Maps.has D) [] := ⟨List.nodup_nil, (fun e he => by cases he), fun e he => by simp [h.in_ e he]⟩
theorem GotS.step {es : List ByteArray} {left : Lit → Bool} {qs : List ByteArray} (h : GotS es left qs) {e : ByteArray} (he : e ∈ es) (hl : left (klS e) = true) : GotS es (fun z => left z && !z.sameKey (klS e)) (qs ++ [e]) := by
  obtain ⟨h1, h2, h3⟩ := h
  have hne : e ∉ qs := fun hm => by have := (h3 e he).1 hm; rw [hl] at this; cases this
  refine ⟨List.nodup_append.2 ⟨h1, by simp, fun a ha b hb ee => ?_⟩, fun a ha => ?_, fun a ha => ?_⟩
  · rw [List.mem_singleton] at hb
    subst hb
    subst ee
    exact hne ha
  · rcases List.mem_append.1 ha with ha | ha
    · exact h2 a ha
    · rw [List.mem_singleton.1 ha]; exact he
  · rw [List.mem_append, List.mem_singleton, h3 a ha]
    by_cases hk : a = e
    · subst hk
      simp [klS, Lit.sameKey]
    · have hs : (klS a).sameKey (klS e) = false := Maps.sameKey_ne (fun e1 => hk (klS_inj e1))
      simp [hk, hs]
theorem GotS.perm {es : List ByteArray} {left : Lit → Bool} {qs : List ByteArray} (h : GotS es left qs) (hn : es.Nodup) (hl : ∀ kl, left kl = false) : qs.Perm es :=
  (List.perm_ext_iff_of_nodup h.1 hn).2 fun e => ⟨fun he => h.2.1 e he, fun he => (h.2.2 e he).2 (hl _)⟩
def uniqS : List ByteArray → List ByteArray
  | [] => []
  | x :: r => if memB x r = true then uniqS r else x :: uniqS r
theorem uniqS_mem : ∀ (l : List ByteArray) (z : ByteArray), z ∈ uniqS l ↔ z ∈ l
  | [], z => Iff.rfl
  | x :: r, z => by
    unfold uniqS
    split
    · next h =>
      rw [uniqS_mem r z, List.mem_cons]
      exact ⟨.inr, fun h1 => h1.elim (fun e => e ▸ memB_iff.1 h) id⟩
    · rw [List.mem_cons, List.mem_cons, uniqS_mem r z]
theorem uniqS_nodup : ∀ l : List ByteArray, (uniqS l).Nodup
  | [] => List.nodup_nil
  | x :: r => by
    unfold uniqS
    split
    · exact uniqS_nodup r
    · next h => exact List.nodup_cons.2 ⟨fun h1 => h (memB_iff.2 ((uniqS_mem r x).1 h1)), uniqS_nodup r⟩
theorem sortS_perm {l l' : List ByteArray} (h : l.Perm l') : sortS l = sortS l' := by
  unfold sortS
  have tr : ∀ a b c : List UInt8, decide (a ≤ b) = true → decide (b ≤ c) = true → decide (a ≤ c) = true := fun a b c h1 h2 => decide_eq_true (List.le_trans (of_decide_eq_true h1) (of_decide_eq_true h2))
  have tot : ∀ a b : List UInt8, (decide (a ≤ b) || decide (b ≤ a)) = true := fun a b => by
    rcases List.le_total a b with h | h
    · rw [decide_eq_true h]; rfl
    · rw [decide_eq_true h, Bool.or_true]
  have hp := h.map toS
  rw [List.Perm.eq_of_pairwise (le := fun a b => decide (a ≤ b) = true) (fun a b _ _ h1 h2 => List.le_antisymm (of_decide_eq_true h1) (of_decide_eq_true h2)) (List.pairwise_mergeSort tr tot (l.map toS)) (List.pairwise_mergeSort tr tot (l'.map toS)) (((List.mergeSort_perm _ _).trans hp).trans (List.mergeSort_perm _ _).symm)]
abbrev GEdge := S46
def pairsF (k : Nat) (tb : List Int) : List GEdge → Option (List ByteArray)
  | [] => some []
  | e :: r => (impl_chi_pairText.f k tb e.f0 e.f1).bind fun a => (impl_chi_pairText.f k tb e.f1 e.f0).bind fun b => (pairsF k tb r).bind fun l => some (a :: b :: l)
theorem pairsF_mono (k : Nat) (tb : List Int) : ∀ l, LeO (pairsF k tb l) (pairsF (k + 1) tb l)
  | [] => LeO.refl _
  | e :: r => LeO.bind (impl_chi_pairText.mono _ _ _ _) (fun _ => LeO.bind (impl_chi_pairText.mono _ _ _ _) (fun _ => LeO.bind (pairsF_mono k tb r) (fun _ => LeO.refl _)))
def joinRow (k : Nat) (a : ByteArray) : List ByteArray → Option (List ByteArray)
  | [] => some []
  | b :: r => (impl_JoinTexts.f k a b).bind fun t => if t.1.size ≤ 1000 then (joinRow k a r).bind fun l => some (t.1 :: l) else none
theorem joinRow_mono (k : Nat) (a : ByteArray) : ∀ l, LeO (joinRow k a l) (joinRow (k + 1) a l)
  | [] => LeO.refl _
  | e :: r => LeO.bind (impl_JoinTexts.mono _ _ _) (fun _ => LeO.ite (LeO.bind (joinRow_mono k a r) (fun _ => LeO.refl _)) (LeO.refl _))
def joinAll (k : Nat) (bs : List ByteArray) : List ByteArray → Option (List ByteArray)
  | [] => some []
  | a :: r => (joinRow k a bs).bind fun x => (joinAll k bs r).bind fun l => some (x ++ l)
theorem joinAll_mono (k : Nat) (bs : List ByteArray) : ∀ l, LeO (joinAll k bs l) (joinAll (k + 1) bs l)
  | [] => LeO.refl _
  | e :: r => LeO.bind (joinRow_mono _ _ _) (fun _ => LeO.bind (joinAll_mono k bs r) (fun _ => LeO.refl _))
def jt (k : Nat) (a b : ByteArray) : ByteArray := ((impl_JoinTexts.f k a b).map Prod.fst).getD ByteArray.empty
def Jok (k : Nat) (a b : ByteArray) : Prop := (∃ ok, impl_JoinTexts.f k a b = some (jt k a b, ok)) ∧ (jt k a b).size ≤ 1000
theorem joinRow_spec (k : Nat) (a : ByteArray) : ∀ (bs l : List ByteArray), joinRow k a bs = some l → l = bs.map (jt k a) ∧ ∀ t ∈ bs, Jok k a t
  | [], l, h => by
    obtain rfl := Option.some.inj (show some ([] : List ByteArray) = some l from h)
    exact ⟨rfl, fun e he => by cases he⟩
  | b :: r, l, h => by
    obtain ⟨⟨t, ok⟩, ht, h⟩ := Option.bind_eq_some_iff.mp h
    have e : jt k a b = t := by unfold jt; rw [ht]; rfl
    by_cases hs : t.size ≤ 1000
    case neg => rw [if_neg hs] at h; cases h
    rw [if_pos hs] at h
    obtain ⟨l', hl, h⟩ := Option.bind_eq_some_iff.mp h
    obtain rfl := Option.some.inj h
    obtain ⟨h1, h2⟩ := joinRow_spec k a r l' hl
    refine ⟨by rw [List.map_cons, e, h1], fun x hx => ?_⟩
    rcases List.mem_cons.1 hx with rfl | hx
    · exact ⟨⟨ok, by rw [e]; exact ht⟩, by rw [e]; exact hs⟩
    · exact h2 x hx
theorem joinAll_spec (k : Nat) (bs : List ByteArray) : ∀ (cs l : List ByteArray), joinAll k bs cs = some l → (∀ x, x ∈ l ↔ ∃ a ∈ cs, ∃ t ∈ bs, jt k a t = x) ∧ ∀ a ∈ cs, ∀ t ∈ bs, Jok k a t
  | [], l, h => by
    obtain rfl := Option.some.inj (show some ([] : List ByteArray) = some l from h)
    exact ⟨fun x => ⟨fun h => (by cases h), fun ⟨_, h, _⟩ => (by cases h)⟩, fun e he => (by cases he)⟩
  | a :: r, l, h => by
    obtain ⟨x, hx, h⟩ := Option.bind_eq_some_iff.mp h
    obtain ⟨l', hl, h⟩ := Option.bind_eq_some_iff.mp h
    obtain rfl := Option.some.inj h
    obtain ⟨h1, h2⟩ := joinRow_spec k a bs x hx
    obtain ⟨h3, h4⟩ := joinAll_spec k bs r l' hl
    refine ⟨fun z => ?_, fun a' ha => ?_⟩
    · rw [List.mem_append, h3 z, h1, List.mem_map]
      constructor
      · rintro (⟨t, ht, e⟩ | ⟨a', ha, t, ht, e⟩)
        · exact ⟨a, List.mem_cons_self, t, ht, e⟩
        · exact ⟨a', List.mem_cons_of_mem _ ha, t, ht, e⟩
      · rintro ⟨a', ha, t, ht, e⟩
        rcases List.mem_cons.1 ha with rfl | ha
        · exact .inl ⟨t, ht, e⟩
        · exact .inr ⟨a', ha, t, ht, e⟩
    · rcases List.mem_cons.1 ha with rfl | ha
      · exact h2
      · exact h4 a' ha
def impl_TopesOf.f (k : Nat) (a0_0 : Int) (a0_1 : ByteArray) : Option (List ByteArray) := (impl_IsMatroid.f k a0_0 a0_1).bind fun b => if b = true then ((impl_tableOf.f k a0_0 a0_1).bind fun tb => (impl_edgesOf.f k a0_0).bind fun es => if es.length ≤ 50 then (pairsF k tb es).bind fun ps => (joinAll k ps ps).bind fun ks => (joinAll k (uniqS ks) ps).bind fun us => if us.length ≤ 1000000 then some (sortS ((uniqS us).filter fun t => !hasZ t)) else none else none) else some []
theorem impl_TopesOf.mono : ∀ a0 a1 k, LeO (impl_TopesOf.f k a0 a1) (impl_TopesOf.f (k + 1) a0 a1) := fun a0 a1 k => LeO.bind (impl_IsMatroid.mono _ _ _) (fun _ => LeO.ite (LeO.bind (impl_tableOf.mono _ _ _) (fun _ => LeO.bind (impl_edgesOf.mono _ _) (fun _ => LeO.ite (LeO.bind (pairsF_mono _ _ _) (fun _ => LeO.bind (joinAll_mono _ _ _) (fun _ => LeO.bind (joinAll_mono _ _ _) (fun _ => LeO.refl _)))) (LeO.refl _)))) (LeO.refl _))
theorem pairsF_len (k : Nat) (tb : List Int) : ∀ (es : List GEdge) (ps : List ByteArray), pairsF k tb es = some ps → ps.length = 2 * es.length
  | [], l, h => by
    obtain rfl := Option.some.inj (show some ([] : List ByteArray) = some l from h)
    rfl
  | e :: r, l, h => by
    obtain ⟨a, ha, h⟩ := Option.bind_eq_some_iff.mp h
    obtain ⟨b, hb, h⟩ := Option.bind_eq_some_iff.mp h
    obtain ⟨l', hl, h⟩ := Option.bind_eq_some_iff.mp h
    obtain rfl := Option.some.inj h
    have := pairsF_len k tb r l' hl
    simp only [List.length_cons]
    omega
def topes8.T8 : Bool × List (List Nat × List Nat) := (true, [([], []), ([], []), ([], []), ([2], [2]), ([], []), ([4], [4]), ([1, 3, 5], [1, 3, 5]), ([], []), ([], []), ([8], [8]), ([], []), ([10], [10]), ([7, 9, 11, 6], [7, 9, 11]), ([6, 12], [6, 12]), ([0, 13, 12], [0, 13]), ([14, 14, 0, 1, 2, 3, 4, 5, 6, 7, 8, 9, 10, 11, 12, 13, 14], [0, 14])])
def topes8.B8 : List Nat := [0, 0, 0, 4, 0, 16, 62, 0, 0, 256, 0, 1024, 4094, 8190, 16383, 32767]
theorem topes8.tab8 : rtab .any (opsOf Tryd.f8 8) = topes8.T8 := by kernel_rfl
theorem topes8.bits8 : waitsOk topes8.T8.2 topes8.B8 = true := by kernel_rfl
set_option maxHeartbeats 8000000 in
set_option maxRecDepth 100000 in
theorem impl_TopesOf.calls (k : Nat) (a0_0 : Int) (a0_1 : ByteArray) (r : List ByteArray) (w : World) (h : impl_TopesOf.f k a0_0 a0_1 = some r) :
    Calls Tryd.prog 8 #[.agg #[.int .i64 a0_0, .string a0_1]] w fun e w' => ∃ v0_ : Value, e = .returned (v0_) ∧ Kd.R Kd.string 9 w' w.heap.size (fun _ => True) v0_ r ∧ Below w.heap.size w w' := by
  have hu27 := Tryd.underlying27
  obtain ⟨b, A1_, H⟩ := Option.bind_eq_some_iff.mp h
  clear h
  have A1 := Aside0.mk A1_
  clear A1_
  cases b with
  | false =>
    obtain rfl := Option.some.inj (show some ([] : List ByteArray) = some r from H)
    clear H
    go_enter Tryd.func8, Tryd.ntmps8
    go_wp2_with (first
      | ((with_reducible refine gate_dst (N := 1) rfl ?_); refine box_event ?hg (N := 1) ?hd (cs := #[.int .i64 a0_0, .string a0_1]) (t := 27) ?hr ?_; (case hd => rfl); (case hg => rfl); (case hr => first | (go_simp; done) | (go_simp; rfl)); intro gb hg w3 hbox hb; have HB := Aside0.mk hb; have BK := Aside0.mk hbox; clear hb hbox hg; have hcz0 : w3.cell? ⟨gb, 0, none⟩ = some (.int .i64 a0_0) := (blk_cell BK.out 0).trans rfl; have hcz1 : w3.cell? ⟨gb, 1, none⟩ = some (.string a0_1) := (blk_cell BK.out 1).trans rfl; have hfz0 := blk_frozen BK.out 0; have hfz1 := blk_frozen BK.out 1)
      | (go_at_call 22; (with_reducible refine (impl_IsMatroid.calls k a0_0 a0_1 false _ A1.out).mono ?_); rintro e w4 ⟨rfl, hb⟩; have HB4 := Aside0.mk (below_step HB.out hb); clear hb))
    go_ret
    exact ⟨_, rfl, Kd.R_nil _ _ _ _ _, HB4.out⟩
  | true =>
    replace H : ((impl_tableOf.f k a0_0 a0_1).bind fun tb => (impl_edgesOf.f k a0_0).bind fun es => if es.length ≤ 50 then (pairsF k tb es).bind fun ps => (joinAll k ps ps).bind fun ks => (joinAll k (uniqS ks) ps).bind fun us => if us.length ≤ 1000000 then some (sortS ((uniqS us).filter fun t => !hasZ t)) else none else none) = some r := H
    obtain ⟨tb, A2_, H0⟩ := Option.bind_eq_some_iff.mp H
    clear H
    obtain ⟨es, A3_, H⟩ := Option.bind_eq_some_iff.mp H0
    clear H0
    by_cases hes : es.length ≤ 50
    case neg => rw [if_neg hes] at H; cases H
    rw [if_pos hes] at H
    obtain ⟨ps, A4_, H0⟩ := Option.bind_eq_some_iff.mp H
    clear H
    obtain ⟨ks, A5_, H⟩ := Option.bind_eq_some_iff.mp H0
    clear H0
    obtain ⟨us, A6_, H0⟩ := Option.bind_eq_some_iff.mp H
    clear H
    have H := H0
    clear H0
    by_cases hus : us.length ≤ 1000000
    case neg => rw [if_neg hus] at H; cases H
    rw [if_pos hus] at H
    have HR := Aside0.mk (Option.some.inj H)
    have A2 := Aside0.mk A2_
    have A3 := Aside0.mk A3_
    have A4 := Aside0.mk A4_
    have HPL := Aside0.mk (show ps.length ≤ 100 by have := pairsF_len k tb es ps A4_; omega)
    have HJ1 := Aside0.mk (joinAll_spec k ps ps ks A5_)
    have HJ2 := Aside0.mk (joinAll_spec k (uniqS ks) ps us A6_)
    have HUS := Aside0.mk hus
    have HES := Aside0.mk hes
    clear A2_ A3_ A4_ A5_ A6_ H hus hes
    have hmm := @run_makeMap Tryd.prog
    go_enter Tryd.func8, Tryd.ntmps8
    go_wp2_with (first
      | ((with_reducible refine gate_dst (N := 1) rfl ?_); refine box_event ?hg (N := 1) ?hd (cs := #[.int .i64 a0_0, .string a0_1]) (t := 27) ?hr ?_; (case hd => rfl); (case hg => rfl); (case hr => first | (go_simp; done) | (go_simp; rfl)); intro gb hg w3 hbox hb; have HB := Aside0.mk hb; have BK := Aside0.mk hbox; clear hb hbox hg; have hcz0 : w3.cell? ⟨gb, 0, none⟩ = some (.int .i64 a0_0) := (blk_cell BK.out 0).trans rfl; have hcz1 : w3.cell? ⟨gb, 1, none⟩ = some (.string a0_1) := (blk_cell BK.out 1).trans rfl; have hfz0 := blk_frozen BK.out 0; have hfz1 := blk_frozen BK.out 1)
      | (go_at_call 22; (with_reducible refine (impl_IsMatroid.calls k a0_0 a0_1 true _ A1.out).mono ?_); rintro e w4 ⟨rfl, hb⟩; have n1_ := Aside0.mk (blk_below BK.out hb); have n2_ := Aside0.mk (below_step HB.out hb); clear hb BK HB hcz0 hcz1 hfz0 hfz1; have BK := n1_; have HB := n2_; clear n1_ n2_; have hcz0 : w4.cell? ⟨gb, 0, none⟩ = some (.int .i64 a0_0) := (blk_cell BK.out 0).trans rfl; have hcz1 : w4.cell? ⟨gb, 1, none⟩ = some (.string a0_1) := (blk_cell BK.out 1).trans rfl; have hfz0 := blk_frozen BK.out 0; have hfz1 := blk_frozen BK.out 1)
      | (go_at_call 23; (with_reducible refine (impl_tableOf.calls k a0_0 a0_1 tb _ A2.out).mono ?_); rintro e w5 ⟨v5, rfl, ho, hb⟩; obtain ⟨AT, cT, rfl⟩ := Kd.R_slice ho; have HTB := Aside0.mk (Kd.R_reads' ho).2.2; have HCT := Aside0.mk (Kd.R_reads' ho).2.1; have n1_ := Aside0.mk (blk_below BK.out hb); have n2_ := Aside0.mk (below_step HB.out hb); clear ho hb BK HB hcz0 hcz1 hfz0 hfz1; have BK := n1_; have HB := n2_; clear n1_ n2_; have hcz0 : w5.cell? ⟨gb, 0, none⟩ = some (.int .i64 a0_0) := (blk_cell BK.out 0).trans rfl; have hcz1 : w5.cell? ⟨gb, 1, none⟩ = some (.string a0_1) := (blk_cell BK.out 1).trans rfl; have hfz0 := blk_frozen BK.out 0; have hfz1 := blk_frozen BK.out 1)
      | (go_at_call 24; (with_reducible refine (impl_edgesOf.calls k a0_0 es _ A3.out).mono ?_); rintro e w6 ⟨v6, rfl, ho, hb⟩; obtain ⟨AE, cE, rfl⟩ := Kd.R_slice ho; have HEC := Aside0.mk (Kd.R_reads' ho).2.2; have HCE := Aside0.mk (Kd.R_reads' ho).2.1; have n1_ := Aside0.mk (Kd.C_below HTB.out hb); have n2_ := Aside0.mk (below_step HB.out hb); clear ho hb BK HB HTB hcz0 hcz1 hfz0 hfz1; have HTB := n1_; have HB := n2_; clear n1_ n2_))
    clear A1 A2 A3
    go_loopg [4, 31] (es.length + 1) (fun kq v4 v31 w' => ∃ (i : Nat) (x31 : Int) (ps0 : List ByteArray), v31 = .int .i64 x31 ∧ Aside0 (x31 = (i : Int) ∧ i ≤ es.length ∧ kq + i = es.length + 1) ∧ Aside0 (∃ rest, pairsF k tb (es.drop i) = some rest ∧ ps = ps0 ++ rest) ∧ Aside0 (ps0.length = 2 * i) ∧ Aside0 (Kd.R Kd.string 9 w' w6.heap.size (fun _ => True) v4 ps0) ∧ Aside0 (Below w6.heap.size w6 w'))
    case atStart => exact ⟨0, 0, [], rfl, ⟨rfl, Nat.zero_le _, rfl⟩, ⟨ps, by rw [List.drop_zero]; exact A4.out, rfl⟩, ⟨rfl⟩, ⟨Kd.R_nil _ _ _ _ _⟩, ⟨Below.refl _ _⟩⟩
    case round =>
      clear A4
      obtain ⟨i, x31, ps0, rfl, HI, HP, HL, HO, HB6⟩ := hrel
      obtain ⟨hi0, hi1, hi2⟩ := HI.out
      by_cases ci : i < es.length
      · have hx0 : 0 ≤ x31 := by omega
        have hx1 : x31 < (es.length : Int) := by omega
        obtain ⟨ad, e0, z0, z1⟩ := at_T46 HEC.out x31 hx0 hx1
        subst e0
        replace z0 := (HB6.out.cell (World.block_lt_of_cell? w6 _ z0)).trans z0
        replace z1 := (HB6.out.cell (World.block_lt_of_cell? w6 _ z1)).trans z1
        obtain ⟨rest, hp, hps⟩ := HP.out
        rw [List.drop_eq_getElem_cons ci] at hp
        obtain ⟨e, he⟩ : ∃ e, e = rd_T46 es x31 := ⟨_, rfl⟩
        have hei : es[i] = e := by rw [he, hi0]; unfold rd_T46; rw [Int.toNat_natCast, List.getD_eq_getElem?_getD, List.getElem?_eq_getElem ci]; rfl
        rw [← he] at z0 z1
        rw [hei, pairsF] at hp
        obtain ⟨pa, hpa, hp⟩ := Option.bind_eq_some_iff.mp hp
        obtain ⟨pb, hpb, hp⟩ := Option.bind_eq_some_iff.mp hp
        obtain ⟨rest', hr', hp⟩ := Option.bind_eq_some_iff.mp hp
        have HPA := Aside0.mk hpa
        have HPB := Aside0.mk hpb
        have HRS := Aside0.mk hr'
        have HPS := Aside0.mk (show ps = (ps0 ++ [pa, pb]) ++ rest' from by rw [hps, ← Option.some.inj hp]; simp)
        have X0 := eq_true hx0
        have X1 := eq_true hx1
        have X0b : decide (0 ≤ x31) = true := decide_eq_true hx0
        have X1b : decide (x31 < (es.length : Int)) = true := decide_eq_true hx1
        have HI1 := Aside0.mk (show x31 = (i : Int) ∧ i + 1 ≤ es.length ∧ gk + i = es.length + 1 from ⟨hi0, ci, hi2⟩)
        have hwr : Aside0 (wrap64 (x31 + 1) = ((i + 1 : Nat) : Int)) := ⟨by rw [hi0]; have := HES.out; unfold wrap64; omega⟩
        clear hpa hpb hr' hp hps hei he hx0 hx1 ci hi0 hi1 hi2 HI HP
        go_upto_region 8 with (first | ((with_reducible refine gate_dst (N := 6) rfl ?_); refine box_event ?hg (N := 6) ?hd (cs := #[.int .i64 0, .int .i64 0]) (t := 46) ?hr ?_; (case hd => rfl); (case hg => rfl); (case hr => first | (go_simp; done) | (go_simp; rfl)); intro g6 hg6 w7 hbox6 hb6; have BK1 := Aside0.mk hbox6; have GE1 := Aside0.mk (show w6.heap.size ≤ g6 from by rw [hg6]; exact HB6.out.size); have HB1 := Aside0.mk (below_step HB6.out hb6); have HO1 := Aside0.mk (Kd.R_below (Kd.R_elderB HO.out g6 (Nat.le_of_eq hg6.symm)) hb6); clear hbox6 hb6 hg6; have y0 : w7.cell? ⟨g6, 0, none⟩ = some (.int .i64 0) := (blk_cell BK1.out 0).trans rfl; have y1 : w7.cell? ⟨g6, 1, none⟩ = some (.int .i64 0) := (blk_cell BK1.out 1).trans rfl; have f0 := blk_frozen BK1.out 0; have f1 := blk_frozen BK1.out 1))
        have hbk : ((w7.setCell ⟨g6, 0, none⟩ (.int .i64 e.f0)).setCell ⟨g6, 1, none⟩ (.int .i64 e.f1)).heap[g6]? = some (.cells #[.int .i64 e.f0, .int .i64 e.f1] 46 (0, 0)) := blk_put (cs := #[.int .i64 e.f0, .int .i64 0]) (blk_put BK1.out 0 _ rfl) 1 _ rfl
        have hbb : Below w6.heap.size w6 ((w7.setCell ⟨g6, 0, none⟩ (.int .i64 e.f0)).setCell ⟨g6, 1, none⟩ (.int .i64 e.f1)) := below_set (below_set HB1.out GE1.out) GE1.out
        have hoo : Kd.R Kd.string 9 ((w7.setCell ⟨g6, 0, none⟩ (.int .i64 e.f0)).setCell ⟨g6, 1, none⟩ (.int .i64 e.f1)) w6.heap.size (fun k_ => True ∧ k_ ≠ g6) u4 ps0 := Kd.R_far (p := ⟨g6, 1, none⟩) (Kd.R_far (p := ⟨g6, 0, none⟩) HO1.out (fun _ hk => hk.2) (.int .i64 e.f0)) (fun _ hk => hk.2) (.int .i64 e.f1)
        generalize ((w7.setCell ⟨g6, 0, none⟩ (.int .i64 e.f0)).setCell ⟨g6, 1, none⟩ (.int .i64 e.f1)) = W8 at hbk hbb hoo ⊢
        have BK2 := Aside0.mk (show W8.drew.heap[g6]? = some (.cells #[.int .i64 e.f0, .int .i64 e.f1] 46 (0, 0)) from hbk)
        have HB2 := Aside0.mk (below_drew1 hbb)
        have HO2 := Aside0.mk (Kd.R_drew (Kd.R_mono hoo (fun _ _ => (trivial : (fun _ => True) _))))
        clear hbk hbb hoo y0 y1 f0 f1 HB1 BK1 HB6 HO HO1 z0 z1
        have hcz0 : W8.drew.cell? ⟨g6, 0, none⟩ = some (.int .i64 e.f0) := (blk_cell BK2.out 0).trans rfl
        have hcz1 : W8.drew.cell? ⟨g6, 1, none⟩ = some (.int .i64 e.f1) := (blk_cell BK2.out 1).trans rfl
        refine start_ (n := 16) (S := fun w' => w'.cell? ⟨g6, 0, none⟩ = some (.int .i64 e.f0) ∧ w'.cell? ⟨g6, 1, none⟩ = some (.int .i64 e.f1)) (ds := [14, 15]) #[false, false, false, false, false, false, false, false, false, false, false, false, false, false, false, false] (by kernel_rfl) rfl rfl ⟨hcz0, hcz1⟩ (fun hHeld => ?_); refine with_tabW topes8.tab8 topes8.bits8 (fun HT_ HW_ => ?_)
        generalize W8.drew = w10 at HO2 HB2 BK2 hHeld ⊢
        refine pure_ (i := 0) (N := some 35) (v := ?_) (a' := ?_) #[true, false, false, false, false, false, false, false, false, false, false, false, false, false, false, false] rfl rfl (any_of HT_.out (by kernel_rfl)) (fun _ _ _ h => h) (Or.inl ⟨by rfl, ?_⟩) ?_ ?_
        rotate_left
        · intro w'
          go_simp
          with_reducible rfl
        rotate_left
        · simp only [Act.put, List.setIfInBounds_toArray, List.set_cons_zero, List.set_cons_succ, i64_w, i32_w]
          rfl
        refine pure_ (i := 1) (N := some 36) (v := ?_) (a' := ?_) #[true, true, false, false, false, false, false, false, false, false, false, false, false, false, false, false] rfl rfl (any_of HT_.out (by kernel_rfl)) (fun _ _ _ h => h) (Or.inl ⟨by rfl, ?_⟩) ?_ ?_
        rotate_left
        · intro w'
          go_simp
          with_reducible rfl
        rotate_left
        · simp only [Act.put, List.setIfInBounds_toArray, List.set_cons_zero, List.set_cons_succ, i64_w, i32_w]
          rfl
        refine pure_ (i := 2) (N := some 37) (v := ?_) (a' := ?_) #[true, true, true, false, false, false, false, false, false, false, false, false, false, false, false, false] rfl rfl (any_of HT_.out (by kernel_rfl)) (fun _ _ _ h => h) (Or.inl ⟨by rfl, ?_⟩) ?_ ?_
        rotate_left
        · intro w'
          go_simp
          with_reducible rfl
        rotate_left
        · simp only [Act.put, List.setIfInBounds_toArray, List.set_cons_zero, List.set_cons_succ, i64_w, i32_w]
          rfl
        refine take_ (i := 3) (N := some 38) (v := ?_) (a' := ?_) #[true, true, true, true, false, false, false, false, false, false, false, false, false, false, false, false] rfl rfl (take_ofW HT_.out HW_.out (by kernel_rfl)) (fun _ _ _ h => h) (Or.inl ⟨by rfl, ?_⟩) hHeld ?_ ?_
        rotate_left
        · rintro w' ⟨s0, s1⟩
          go_simp
          with_reducible rfl
        rotate_left
        · simp only [Act.put, List.setIfInBounds_toArray, List.set_cons_zero, List.set_cons_succ, i64_w, i32_w]
          rfl
        refine pure_ (i := 4) (N := some 39) (v := ?_) (a' := ?_) #[true, true, true, true, true, false, false, false, false, false, false, false, false, false, false, false] rfl rfl (any_of HT_.out (by kernel_rfl)) (fun _ _ _ h => h) (Or.inl ⟨by rfl, ?_⟩) ?_ ?_
        rotate_left
        · intro w'
          go_simp
          with_reducible rfl
        rotate_left
        · simp only [Act.put, List.setIfInBounds_toArray, List.set_cons_zero, List.set_cons_succ, i64_w, i32_w]
          rfl
        refine take_ (i := 5) (N := some 40) (v := ?_) (a' := ?_) #[true, true, true, true, true, true, false, false, false, false, false, false, false, false, false, false] rfl rfl (take_ofW HT_.out HW_.out (by kernel_rfl)) (fun _ _ _ h => h) (Or.inl ⟨by rfl, ?_⟩) hHeld ?_ ?_
        rotate_left
        · rintro w' ⟨s0, s1⟩
          go_simp
          with_reducible rfl
        rotate_left
        · simp only [Act.put, List.setIfInBounds_toArray, List.set_cons_zero, List.set_cons_succ, i64_w, i32_w]
          rfl
        refine pure_ (i := 7) (N := some 42) (v := ?_) (a' := ?_) #[true, true, true, true, true, true, false, true, false, false, false, false, false, false, false, false] rfl rfl (any_of HT_.out (by kernel_rfl)) (fun _ _ _ h => h) (Or.inl ⟨by rfl, ?_⟩) ?_ ?_
        rotate_left
        · intro w'
          go_simp
          with_reducible rfl
        rotate_left
        · simp only [Act.put, List.setIfInBounds_toArray, List.set_cons_zero, List.set_cons_succ, i64_w, i32_w]
          rfl
        refine pure_ (i := 8) (N := some 43) (v := ?_) (a' := ?_) #[true, true, true, true, true, true, false, true, true, false, false, false, false, false, false, false] rfl rfl (any_of HT_.out (by kernel_rfl)) (fun _ _ _ h => h) (Or.inl ⟨by rfl, ?_⟩) ?_ ?_
        rotate_left
        · intro w'
          go_simp
          with_reducible rfl
        rotate_left
        · simp only [Act.put, List.setIfInBounds_toArray, List.set_cons_zero, List.set_cons_succ, i64_w, i32_w]
          rfl
        refine take_ (i := 9) (N := some 44) (v := ?_) (a' := ?_) #[true, true, true, true, true, true, false, true, true, true, false, false, false, false, false, false] rfl rfl (take_ofW HT_.out HW_.out (by kernel_rfl)) (fun _ _ _ h => h) (Or.inl ⟨by rfl, ?_⟩) hHeld ?_ ?_
        rotate_left
        · rintro w' ⟨s0, s1⟩
          go_simp
          with_reducible rfl
        rotate_left
        · simp only [Act.put, List.setIfInBounds_toArray, List.set_cons_zero, List.set_cons_succ, i64_w, i32_w]
          rfl
        refine pure_ (i := 10) (N := some 45) (v := ?_) (a' := ?_) #[true, true, true, true, true, true, false, true, true, true, true, false, false, false, false, false] rfl rfl (any_of HT_.out (by kernel_rfl)) (fun _ _ _ h => h) (Or.inl ⟨by rfl, ?_⟩) ?_ ?_
        rotate_left
        · intro w'
          go_simp
          with_reducible rfl
        rotate_left
        · simp only [Act.put, List.setIfInBounds_toArray, List.set_cons_zero, List.set_cons_succ, i64_w, i32_w]
          rfl
        refine take_ (i := 11) (N := some 46) (v := ?_) (a' := ?_) #[true, true, true, true, true, true, false, true, true, true, true, true, false, false, false, false] rfl rfl (take_ofW HT_.out HW_.out (by kernel_rfl)) (fun _ _ _ h => h) (Or.inl ⟨by rfl, ?_⟩) hHeld ?_ ?_
        rotate_left
        · rintro w' ⟨s0, s1⟩
          go_simp
          with_reducible rfl
        rotate_left
        · simp only [Act.put, List.setIfInBounds_toArray, List.set_cons_zero, List.set_cons_succ, i64_w, i32_w]
          rfl
        refine one_ (i := 6) (N := some 41) #[true, true, true, true, true, true, true, true, true, true, true, true, false, false, false, false] rfl rfl (one_of HT_.out (by kernel_rfl)) (by decide) (fun K hK => ?_)
        refine goes_ Tryd.func25 (by kernel_rfl) rfl #[.pointer AT, .int .i64 e.f0, .int .i64 e.f1] (by rfl) rfl rfl (by (try simp only [List.map_toArray, List.map_cons, List.map_nil]); first | done | rfl) ?_
        refine (impl_chi_pairText.calls k AT cT tb e.f0 e.f1 pa _ (Kd.C_below HTB.out HB2.out) HCT.out HPA.out).mono ?_
        rintro e_ w11 ⟨rfl, hb_⟩
        refine ⟨_, rfl, ?_⟩
        have BL := Aside0.mk hb_
        clear hb_
        refine hK.out _ _ ⟨(BL.out.cell (World.block_lt_of_cell? _ _ hHeld.1)).trans hHeld.1, (BL.out.cell (World.block_lt_of_cell? _ _ hHeld.2)).trans hHeld.2⟩ (fun hHeld => ?_)
        clear hK K
        refine norm_ (a' := ?_) ?_ ?_
        rotate_left
        · show Act.put _ (some 41) _ = _
          simp only [Act.put, List.setIfInBounds_toArray, List.set_cons_zero, List.set_cons_succ, i64_w, i32_w]
          rfl
        replace HO2 := Aside0.mk (Kd.R_below HO2.out BL.out)
        replace HB2 := Aside0.mk (below_step HB2.out BL.out)
        clear BL
        refine one_ (i := 12) (N := some 47) #[true, true, true, true, true, true, true, true, true, true, true, true, true, false, false, false] rfl rfl (one_of HT_.out (by kernel_rfl)) (by decide) (fun K hK => ?_)
        refine goes_ Tryd.func25 (by kernel_rfl) rfl #[.pointer AT, .int .i64 e.f1, .int .i64 e.f0] (by rfl) rfl rfl (by (try simp only [List.map_toArray, List.map_cons, List.map_nil]); first | done | rfl) ?_
        refine (impl_chi_pairText.calls k AT cT tb e.f1 e.f0 pb _ (Kd.C_below HTB.out HB2.out) HCT.out HPB.out).mono ?_
        rintro e_ w12 ⟨rfl, hb_⟩
        refine ⟨_, rfl, ?_⟩
        have BL := Aside0.mk hb_
        clear hb_
        refine hK.out _ _ ⟨(BL.out.cell (World.block_lt_of_cell? _ _ hHeld.1)).trans hHeld.1, (BL.out.cell (World.block_lt_of_cell? _ _ hHeld.2)).trans hHeld.2⟩ (fun hHeld => ?_)
        clear hK K
        refine norm_ (a' := ?_) ?_ ?_
        rotate_left
        · show Act.put _ (some 47) _ = _
          simp only [Act.put, List.setIfInBounds_toArray, List.set_cons_zero, List.set_cons_succ, i64_w, i32_w]
          rfl
        replace HO2 := Aside0.mk (Kd.R_below HO2.out BL.out)
        replace HB2 := Aside0.mk (below_step HB2.out BL.out)
        clear BL
        refine one_ (i := 13) (N := some 48) #[true, true, true, true, true, true, true, true, true, true, true, true, true, true, false, false] rfl rfl (one_of HT_.out (by kernel_rfl)) (by decide) (fun K hK => ?_)
        refine Kd.R_lit_step Kd.string (w0 := w6) w6.heap.size 9 (by rfl) (N := 48) rfl (xs := [pa, pb]) (inner := [.string pa, .string pb]) (ok := fun _ => True) (okp := fun _ => True) (by first | (go_simp; done) | (go_simp; rfl)) (Kd.reps_scalar [pa, pb]) (fun _ hk => hk) trivial HB2.out HB2.out.size (by simp) ?_
        intro v13 w13 hR13 hB13 hg13 hat13
        have BL := Aside0.mk (show Below w12.heap.size w12 w13 from below_grownS hg13)
        have HL13 := Aside0.mk hR13
        have HNEW := Aside0.mk hat13
        clear hR13 hB13 hg13 hat13
        refine hK.out _ _ ⟨(BL.out.cell (World.block_lt_of_cell? _ _ hHeld.1)).trans hHeld.1, (BL.out.cell (World.block_lt_of_cell? _ _ hHeld.2)).trans hHeld.2⟩ (fun hHeld => ?_)
        clear hK K
        refine norm_ (a' := ?_) ?_ ?_
        rotate_left
        · show Act.put _ (some 48) _ = _
          simp only [Act.put, List.setIfInBounds_toArray, List.set_cons_zero, List.set_cons_succ, i64_w, i32_w]
          rfl
        replace HO2 := Aside0.mk (Kd.R_below HO2.out BL.out)
        replace HB2 := Aside0.mk (below_step HB2.out BL.out)
        clear BL
        obtain ⟨A13, c13, rfl⟩ := Kd.R_slice HL13.out
        refine last_ (i := 14) (N := some 49) #[true, true, true, true, true, true, true, true, true, true, true, true, true, true, true, false] rfl rfl (one_of HT_.out (by kernel_rfl)) (by decide) (fun K hK => ?_)
        refine Kd.R_append_rows_step Kd.string (w0 := w6) w6.heap.size (by rfl) (.tmp 35) (.tmp 48) 25 9 (.string ⟨#[]⟩) 16 rfl Tryd.underlying25 info9 rfl (by decide) (by omega) u4 ps0 [pa, pb] A13 2 c13 (fun _ => True) (fun _ => False) rfl rfl HO2.out (Kd.R_reads' HL13.out).2.2 (fun x cs hx => hx) (fun _ h => h.elim) (fun _ _ => trivial) HB2.out HB2.out.size (by have := HL.out; have := HI1.out; have := HES.out; omega) ?_
        intro v14 w14 hR14 hB14 hg14 hat14
        have HO3 := Aside0.mk hR14
        have HB3 := Aside0.mk hB14
        clear hR14 hB14 hg14 hat14 HO2 HB2 HL13
        refine hK.out _ _ ?_
        clear hK K
        refine norm_ (a' := ?_) ?_ ?_
        rotate_left
        · show Act.put _ (some 49) _ = _
          simp only [Act.put, List.setIfInBounds_toArray, List.set_cons_zero, List.set_cons_succ, i64_w, i32_w]
          rfl
        refine pure_ (i := 15) (N := some 4) (v := ?_) (a' := ?_) #[true, true, true, true, true, true, true, true, true, true, true, true, true, true, true, true] rfl rfl (any_of HT_.out (by kernel_rfl)) (fun _ _ _ h => h) (Or.inl ⟨by rfl, ?_⟩) ?_ ?_
        rotate_left
        · intro w'
          go_simp
          with_reducible rfl
        rotate_left
        · simp only [Act.put, List.setIfInBounds_toArray, List.set_cons_zero, List.set_cons_succ, i64_w, i32_w]
          rfl
        refine done_ (done_of HT_.out (by kernel_rfl)) ?_
        try go_wp2
        go_roundg (gk - 1)
        case measure => have := HI1.out; omega
        case rel => exact ⟨i + 1, wrap64 (x31 + 1), ps0 ++ [pa, pb], by first | rfl | (simp; done), ⟨hwr.out, HI1.out.2.1, by have := HI1.out; omega⟩, ⟨rest', HRS.out, HPS.out⟩, ⟨by have := HL.out; simp; omega⟩, HO3, HB3⟩
      · have ei : i = es.length := by omega
        have hx1 : ¬ x31 < (es.length : Int) := by omega
        have X1b : decide (x31 < (es.length : Int)) = false := decide_eq_false hx1
        have X1 := eq_false hx1
        obtain ⟨rest, hp, hps⟩ := HP.out
        rw [ei, List.drop_length] at hp
        obtain rfl := Option.some.inj (show some ([] : List ByteArray) = some rest from hp)
        rw [List.append_nil] at hps
        subst hps
        rename World => wp
        obtain ⟨AP, cP, rfl⟩ := Kd.R_slice HO.out
        have HPC := Aside0.mk (Kd.R_reads' HO.out).2.2
        have HPR := Aside0.mk (Kd.R_reads' HO.out).2.1
        have HBB := Aside0.mk (below_step HB.out HB6.out)
        clear ei hx1 hi0 hi1 hi2 hp HI HP HL HO HB6 HB HEC HCE HTB HCT HES
        go_wp2
        obtain ⟨B, hB⟩ : ∃ B, B = wp.heap.size := ⟨_, rfl⟩
        rw [← hB]
        have HM := Aside0.mk (show (wp.alloc (.map #[] 0)).ownsMap Tryd.prog 9 (plainElem Tryd.prog 4) B 0 (.map [] : DataW Unit) from by rw [hB]; exact World.ownsMap_made wp _ _ _)
        have HBm := Aside0.mk (below_alloc (Below.refl wp.heap.size wp) (.map #[] 0))
        have HGB := Aside0.mk (show wp.heap.size ≤ B by omega)
        clear hB
        go_loopg [54] (ps.length + 1) (fun kq v54 w' => ∃ (i n : Nat) (x54 : Int) (D : DataW Unit) (es1 : List ByteArray), v54 = .int .i64 x54 ∧ Aside0 (x54 = (i : Int) ∧ i ≤ ps.length ∧ kq + i = ps.length + 1 ∧ n ≤ 100 * i) ∧ Aside0 (w'.ownsMap Tryd.prog 9 (plainElem Tryd.prog 4) B n D) ∧ Aside0 (SetIs D es1) ∧ Aside0 (∀ x ∈ es1, x ∈ ks) ∧ Aside0 (∀ a ∈ ps.take i, ∀ t ∈ ps, jt k a t ∈ es1) ∧ Aside0 (Below wp.heap.size wp w'))
        case atStart => exact ⟨0, 0, 0, .map [], [], rfl, ⟨rfl, Nat.zero_le _, rfl, Nat.le_refl _⟩, HM, ⟨SetIs.nil⟩, ⟨fun _ h => (by cases h)⟩, ⟨fun _ h => (by simp at h)⟩, HBm⟩
        case round =>
          clear HM HBm
          obtain ⟨i, n, x54, D, es1, rfl, HI, HM, HD, HS, HC, HB⟩ := hrel
          obtain ⟨gk_out, hgko⟩ : ∃ g, g = gk := ⟨_, rfl⟩
          obtain ⟨hi0, hi1, hi2, hi3⟩ := HI.out
          by_cases ci : i < ps.length
          · have hx0 : 0 ≤ x54 := by omega
            have hx1 : x54 < (ps.length : Int) := by omega
            obtain ⟨ad, e0, z0⟩ := Kd.at_string HPC.out x54 hx0 hx1
            subst e0
            replace z0 := (HB.out.cell (World.block_lt_of_cell? wp _ z0)).trans z0
            obtain ⟨a, ha⟩ : ∃ a, a = rdOf ByteArray.empty ps x54 := ⟨_, rfl⟩
            have hai : ps[i] = a := by rw [ha, hi0]; unfold rdOf; rw [Int.toNat_natCast, List.getD_eq_getElem?_getD, List.getElem?_eq_getElem ci]; rfl
            rw [← ha] at z0
            have HAM := Aside0.mk (show a ∈ ps from hai ▸ List.getElem_mem ci)
            have HTK := Aside0.mk (show ps.take (i + 1) = ps.take i ++ [a] from by rw [List.take_succ_eq_append_getElem ci, hai])
            have X0 := eq_true hx0
            have X1 := eq_true hx1
            have X0b : decide (0 ≤ x54) = true := decide_eq_true hx0
            have X1b : decide (x54 < (ps.length : Int)) = true := decide_eq_true hx1
            have HI1 := Aside0.mk (show x54 = (i : Int) ∧ i + 1 ≤ ps.length ∧ gk + i = ps.length + 1 ∧ n ≤ 100 * i from ⟨hi0, ci, by omega, hi3⟩)
            have hwr : Aside0 (wrap64 (x54 + 1) = ((i + 1 : Nat) : Int)) := ⟨by rw [hi0]; have := HPL.out; unfold wrap64; omega⟩
            clear hai ha hx0 hx1 ci hi0 hi1 hi2 hi3 HI
            go_wp2
            go_loopg [60] (ps.length + 1) (fun kq v60 w' => ∃ (j m : Nat) (x60 : Int) (D2 : DataW Unit) (es2 : List ByteArray), v60 = .int .i64 x60 ∧ Aside0 (x60 = (j : Int) ∧ j ≤ ps.length ∧ kq + j = ps.length + 1 ∧ m ≤ 100 * i + j) ∧ Aside0 (w'.ownsMap Tryd.prog 9 (plainElem Tryd.prog 4) B m D2) ∧ Aside0 (SetIs D2 es2) ∧ Aside0 (∀ x ∈ es2, x ∈ ks) ∧ Aside0 (∀ a ∈ ps.take i, ∀ t ∈ ps, jt k a t ∈ es2) ∧ Aside0 (∀ t ∈ ps.take j, jt k a t ∈ es2) ∧ Aside0 (Below wp.heap.size wp w'))
            case atStart => exact ⟨0, n, 0, D, es1, rfl, ⟨rfl, Nat.zero_le _, rfl, by have := HI1.out; omega⟩, HM, HD, HS, HC, ⟨fun _ h => (by simp at h)⟩, HB⟩
            case round =>
              clear HM HD HS HC HB z0
              obtain ⟨j, m, x60, D2, es2, rfl, HJ, HM, HD, HS, HC, HCR, HB⟩ := hrel
              obtain ⟨hj0, hj1, hj2, hj3⟩ := HJ.out
              by_cases cj : j < ps.length
              · have hx0 : 0 ≤ x60 := by omega
                have hx1 : x60 < (ps.length : Int) := by omega
                obtain ⟨ad2, e2, z0⟩ := Kd.at_string HPC.out x60 hx0 hx1
                obtain rfl : ad = ad2 := by injection e2
                clear e2
                replace z0 := (HB.out.cell (World.block_lt_of_cell? wp _ z0)).trans z0
                obtain ⟨c, hc⟩ : ∃ c, c = rdOf ByteArray.empty ps x60 := ⟨_, rfl⟩
                have hcj : ps[j] = c := by rw [hc, hj0]; unfold rdOf; rw [Int.toNat_natCast, List.getD_eq_getElem?_getD, List.getElem?_eq_getElem cj]; rfl
                rw [← hc] at z0
                have HCM := Aside0.mk (show c ∈ ps from hcj ▸ List.getElem_mem cj)
                have HTJ := Aside0.mk (show ps.take (j + 1) = ps.take j ++ [c] from by rw [List.take_succ_eq_append_getElem cj, hcj])
                obtain ⟨⟨okj, hjt⟩, hjz⟩ := HJ1.out.2 a HAM.out c HCM.out
                have HJT := Aside0.mk hjt
                have HJZ := Aside0.mk hjz
                have Y0 := eq_true hx0
                have Y1 := eq_true hx1
                have Y0b : decide (0 ≤ x60) = true := decide_eq_true hx0
                have Y1b : decide (x60 < (ps.length : Int)) = true := decide_eq_true hx1
                have HI2 := Aside0.mk (show x60 = (j : Int) ∧ j + 1 ≤ ps.length ∧ gk + j = ps.length + 1 ∧ m ≤ 100 * i + j from ⟨hj0, cj, hj2, hj3⟩)
                have hwj : Aside0 (wrap64 (x60 + 1) = ((j + 1 : Nat) : Int)) := ⟨by rw [hj0]; have := HPL.out; unfold wrap64; omega⟩
                clear hjt hjz hcj hc hx0 hx1 cj hj0 hj1 hj2 hj3 HJ
                go_wp2_with (first
                  | (go_at_call 26; (with_reducible refine (impl_JoinTexts.calls k a c (jt k a c) okj _ HJT.out).mono ?_); rintro e_ w2 ⟨rfl, hb_⟩; have HM2 := Aside0.mk (mapS_step HM.out (hb_.block B HM.out.lt)); have HB2 := Aside0.mk (below_step HB.out hb_); clear hb_ HM HB)
                  | (at_mapUpdate; refine wpList_mapUpdate_own _ rfl _ _ _ 48 rfl 9 4 lawS Tryd.underlying48 (plainElem (H := Unit) Tryd.prog 4) B m D2 rfl HM2.out (by have := HI2.out; have := HI1.out; have := HPL.out; unfold maxLen; omega) _ _ _ rfl rfl (keyOf_S (jt k a c) (by have := HJZ.out; unfold maxLen; omega)) _ [] (plainElem_bool Tryd.underlying4 true) ?_; intro w3_ hown hgr; have HM3 := Aside0.mk hown; have HB3 := Aside0.mk (HB2.out.grown hgr HB2.out.size (fun k_ e_ => by injection e_ with e_; rw [← e_]; exact HGB.out)); have HIM := Aside0.mk (isMapS HM2.out); clear hown hgr HM2 HB2))
                go_roundg (gk - 1)
                case measure => have := HI2.out; omega
                case rel => exact ⟨j + 1, m + 1, wrap64 (x60 + 1), _, putU es2 (jt k a c), by first | rfl | (simp; done), ⟨hwj.out, HI2.out.2.1, by have := HI2.out; omega, by have := HI2.out; omega⟩, HM3, ⟨HD.out.put HIM.out _ _⟩, ⟨fun x hx => ((putU_mem _ _ _).1 hx).elim (HS.out x) (fun e => (HJ1.out.1 x).2 ⟨a, HAM.out, c, HCM.out, e.symm⟩)⟩, ⟨fun a' ha t ht => (putU_mem _ _ _).2 (.inl (HC.out a' ha t ht))⟩, ⟨fun t ht => by rw [HTJ.out, List.mem_append, List.mem_singleton] at ht; exact (putU_mem _ _ _).2 (ht.elim (fun h => .inl (HCR.out t h)) (fun e => .inr (by rw [e])))⟩, HB3⟩
              · have ej : j = ps.length := by omega
                have hx1 : ¬ x60 < (ps.length : Int) := by omega
                have Y1b : decide (x60 < (ps.length : Int)) = false := decide_eq_false hx1
                have Y1 := eq_false hx1
                have HCR2 := Aside0.mk (show ∀ t ∈ ps, jt k a t ∈ es2 from fun t ht => HCR.out t (by rw [ej, List.take_length]; exact ht))
                clear ej hx1 hj0 hj1 hj2 HCR
                go_wp2
                go_roundg (gk_out - 1)
                case measure => have := HI1.out; omega
                case rel => exact ⟨i + 1, m, wrap64 (x54 + 1), D2, es2, by first | rfl | (simp; done), ⟨hwr.out, HI1.out.2.1, by have := HI1.out; omega, by have := HI1.out; have := HJ.out; have := HPL.out; omega⟩, HM, HD, HS, ⟨fun a' ha t ht => by rw [HTK.out, List.mem_append, List.mem_singleton] at ha; exact ha.elim (fun h => HC.out a' h t ht) (fun e => by rw [e]; exact HCR2.out t ht)⟩, HB⟩
          · have ei : i = ps.length := by omega
            have hx1 : ¬ x54 < (ps.length : Int) := by omega
            have X1b : decide (x54 < (ps.length : Int)) = false := decide_eq_false hx1
            have X1 := eq_false hx1
            have HK1 := Aside0.mk (show ∀ x, x ∈ es1 ↔ x ∈ uniqS ks from fun x => by
              rw [uniqS_mem]
              refine ⟨HS.out x, fun hx => ?_⟩
              obtain ⟨a, ha, t, ht, e⟩ := (HJ1.out.1 x).1 hx
              rw [← e]
              exact HC.out a (by rw [ei, List.take_length]; exact ha) t ht)
            have HN := Aside0.mk (show n ≤ 10000 by have := HPL.out; omega)
            clear ei hx1 hi0 hi1 hi2 hi3 HI HS HC HJ1 hgko
            go_wp2
            rename World => wq
            obtain ⟨F, hF⟩ : ∃ F, F = wq.heap.size := ⟨_, rfl⟩
            rw [← hF]
            have HF := Aside0.mk (show (wq.alloc (.map #[] 0)).ownsMap Tryd.prog 9 (plainElem Tryd.prog 4) F 0 (.map [] : DataW Unit) from by rw [hF]; exact World.ownsMap_made wq _ _ _)
            have HB1 := Aside0.mk (below_alloc HB.out (.map #[] 0))
            have HM1 := Aside0.mk (World.ownsMap.alloc HM.out (.map #[] 0))
            have HGF := Aside0.mk (show wp.heap.size ≤ F ∧ B ≠ F from ⟨by rw [hF]; exact HB.out.size, by rw [hF]; exact Nat.ne_of_lt HM.out.lt⟩)
            have HSD := Aside0.mk (show Maps.size D ≤ 10000 from Nat.le_trans (World.ownsMap.size_le HM.out) HN.out)
            clear hF HM HB
            go_loopg [77] (ps.length + 1) (fun kq v77 w' => ∃ (i m : Nat) (x77 : Int) (D2 : DataW Unit) (es2 : List ByteArray), v77 = .int .i64 x77 ∧ Aside0 (x77 = (i : Int) ∧ i ≤ ps.length ∧ kq + i = ps.length + 1 ∧ m ≤ 10000 * i) ∧ Aside0 (w'.ownsMap Tryd.prog 9 (plainElem Tryd.prog 4) B n D) ∧ Aside0 (w'.ownsMap Tryd.prog 9 (plainElem Tryd.prog 4) F m D2) ∧ Aside0 (SetIs D2 es2) ∧ Aside0 (∀ x ∈ es2, x ∈ us) ∧ Aside0 (∀ a ∈ ps.take i, ∀ t ∈ es1, jt k a t ∈ es2) ∧ Aside0 (Below wp.heap.size wp w'))
            case atStart => exact ⟨0, 0, 0, .map [], [], rfl, ⟨rfl, Nat.zero_le _, rfl, Nat.le_refl _⟩, HM1, HF, ⟨SetIs.nil⟩, ⟨fun _ h => (by cases h)⟩, ⟨fun _ h => (by simp at h)⟩, HB1⟩
            case round =>
              clear HM1 HF HB1
              obtain ⟨i, m, x77, D2, es2, rfl, HI, HM, HF, HD2, HS, HC, HB⟩ := hrel
              obtain ⟨gk_out, hgko⟩ : ∃ g, g = gk := ⟨_, rfl⟩
              obtain ⟨hi0, hi1, hi2, hi3⟩ := HI.out
              by_cases ci : i < ps.length
              · have hx0 : 0 ≤ x77 := by omega
                have hx1 : x77 < (ps.length : Int) := by omega
                obtain ⟨ad, e0, z0⟩ := Kd.at_string HPC.out x77 hx0 hx1
                subst e0
                replace z0 := (HB.out.cell (World.block_lt_of_cell? wp _ z0)).trans z0
                obtain ⟨a, ha⟩ : ∃ a, a = rdOf ByteArray.empty ps x77 := ⟨_, rfl⟩
                have hai : ps[i] = a := by rw [ha, hi0]; unfold rdOf; rw [Int.toNat_natCast, List.getD_eq_getElem?_getD, List.getElem?_eq_getElem ci]; rfl
                rw [← ha] at z0
                have HAM := Aside0.mk (show a ∈ ps from hai ▸ List.getElem_mem ci)
                have HTK := Aside0.mk (show ps.take (i + 1) = ps.take i ++ [a] from by rw [List.take_succ_eq_append_getElem ci, hai])
                have X0 := eq_true hx0
                have X1 := eq_true hx1
                have X0b : decide (0 ≤ x77) = true := decide_eq_true hx0
                have X1b : decide (x77 < (ps.length : Int)) = true := decide_eq_true hx1
                have HI1 := Aside0.mk (show x77 = (i : Int) ∧ i + 1 ≤ ps.length ∧ gk + i = ps.length + 1 ∧ m ≤ 10000 * i from ⟨hi0, ci, by omega, hi3⟩)
                have hwr : Aside0 (wrap64 (x77 + 1) = ((i + 1 : Nat) : Int)) := ⟨by rw [hi0]; have := HPL.out; unfold wrap64; omega⟩
                clear hai ha hx0 hx1 ci hi0 hi1 hi2 hi3 HI
                rename World => wv
                go_wp2_with (at_range
                             refine wpList_range_own _ rfl _ 48 rfl 9 4 lawS Tryd.underlying48 (plainElem Tryd.prog 4) B n D rfl HM.out ?_
                             intro w5_ hrg hg5 hs5
                             obtain ⟨q, hq⟩ : ∃ q, q = wv.heap.size := ⟨_, rfl⟩
                             rw [← hq] at hrg ⊢
                             have HRG := Aside0.mk hrg
                             have HBv := Aside0.mk (HB.out.grown hg5 HB.out.size (fun j hj => by cases hj))
                             have HFv := Aside0.mk (World.ownsMap.kept HF.out hg5 (by simp))
                             have HQ := Aside0.mk (show wp.heap.size ≤ q ∧ F ≠ q from ⟨by rw [hq]; exact HB.out.size, by rw [hq]; exact Nat.ne_of_lt HF.out.lt⟩)
                             clear hrg hg5 hs5 hq HM HB HF z0)
                go_frame
                go_loopg [18] (Maps.size D + 1) (fun kq v18 w' => ∃ (left : Lit → Bool) (cnt m2 : Nat) (qs : List ByteArray) (D3 : DataW Unit) (es3 : List ByteArray), Aside0 (kq = cnt + 1 ∧ m2 + cnt ≤ 10000 * i + 10000) ∧ Aside0 (w'.ranges Tryd.prog 9 (plainElem Tryd.prog 4) B q n D left cnt) ∧ Aside0 (GotS es1 left qs) ∧ Aside0 (w'.ownsMap Tryd.prog 9 (plainElem Tryd.prog 4) F m2 D3) ∧ Aside0 (SetIs D3 es3) ∧ Aside0 (∀ x ∈ es3, x ∈ us) ∧ Aside0 (∀ a ∈ ps.take i, ∀ t ∈ es1, jt k a t ∈ es3) ∧ Aside0 (∀ t ∈ qs, jt k a t ∈ es3) ∧ Aside0 (Below wp.heap.size wp w'))
                case atStart => exact ⟨_, _, m, [], D2, es2, ⟨rfl, by have := HI1.out; have := HSD.out; omega⟩, HRG, ⟨GotS.start HD.out⟩, HFv, HD2, HS, HC, ⟨fun _ h => (by cases h)⟩, HBv⟩
                case round =>
                  clear HRG HBv HFv HD2 HS HC
                  obtain ⟨left, cnt, m2, qs, D3, es3, HK, HRG, HG, HF, HD3, HS, HC, HCR, HB⟩ := hrel
                  rename World => wv2
                  go_wp2_with (first
                    | (at_next
                       refine wpList_next_ranges _ rfl _ rfl 9 lawS (plainElem Tryd.prog 4) Value.string mkB (fun key kl hk => by obtain ⟨t, rfl, _⟩ := invS hk; exact ⟨t, rfl⟩) (fun v y hv => valB hv) B q n D left cnt rfl HRG.out ?_ ?_))
                  · intro hc0 hl0
                    have HP := Aside0.mk (HG.out.perm HD.out.nd hl0)
                    have HM1 := Aside0.mk HRG.out.owns
                    clear hc0 hl0
                    go_wp2
                    go_roundg (gk_out - 1)
                    case measure => have := HI1.out; omega
                    case rel => exact ⟨i + 1, m2, wrap64 (x77 + 1), D3, es3, by first | rfl | (simp; done), ⟨hwr.out, HI1.out.2.1, by have := HI1.out; omega, by have := HK.out; omega⟩, HM1, HF, HD3, HS, ⟨fun a' ha t ht => by rw [HTK.out, List.mem_append, List.mem_singleton] at ha; exact ha.elim (fun h => HC.out a' h t ht) (fun e => by rw [e]; exact HCR.out t (HP.out.mem_iff.2 ht))⟩, HB⟩
                  · intro t c kl yd yp w1 cnt1 hkey hlk hv hat hrg1 hlt hg1 hs1 hen
                    obtain ⟨t', et, rfl⟩ := invS hkey
                    obtain rfl : t = t' := by injection et
                    obtain ⟨e, he, hke⟩ := HD.out.has _ (Maps.has_true_of_atKey hat)
                    obtain rfl := klS_inj hke
                    have HTM := Aside0.mk he
                    obtain ⟨⟨okj, hjt⟩, hjz⟩ := HJ2.out.2 a HAM.out t ((HK1.out t).1 he)
                    have HJT := Aside0.mk hjt
                    have HJZ := Aside0.mk hjz
                    have HG1 := Aside0.mk (HG.out.step he hlk)
                    have HRG1 := Aside0.mk hrg1
                    have HI2 := Aside0.mk (show cnt1 + 1 < gk ∧ m2 + cnt1 + 1 ≤ 10000 * i + 10000 by have := HK.out; omega)
                    have HF1 := Aside0.mk (World.ownsMap.kept HF.out hg1 (fun e_ => by injection e_ with e_; exact HQ.out.2 e_))
                    have HB1 := Aside0.mk (HB.out.grown hg1 HB.out.size (fun j hj => by injection hj with hj; rw [← hj]; exact HQ.out.1))
                    clear hjt hjz hkey hlk hv hat hrg1 hlt hg1 et he hke HG HRG HK HF HB
                    go_wp2_with (first
                      | (go_at_call 26; (with_reducible refine (impl_JoinTexts.calls k a t (jt k a t) okj _ HJT.out).mono ?_); rintro e_ w2 ⟨rfl, hb_⟩; have HF2 := Aside0.mk (mapS_step HF1.out (hb_.block F HF1.out.lt)); have HRG2 := Aside0.mk (World.ranges.kept HRG1.out (grown_belowS hb_) (by simp) (by simp)); have HB2 := Aside0.mk (below_step HB1.out hb_); clear hb_ HF1 HB1 HRG1)
                      | (at_mapUpdate; refine wpList_mapUpdate_own _ rfl _ _ _ 48 rfl 9 4 lawS Tryd.underlying48 (plainElem (H := Unit) Tryd.prog 4) F m2 D3 rfl HF2.out (by have := HI2.out; have := HI1.out; have := HPL.out; unfold maxLen; omega) _ _ _ rfl rfl (keyOf_S (jt k a t) (by have := HJZ.out; unfold maxLen; omega)) _ [] (plainElem_bool Tryd.underlying4 true) ?_; intro w3_ hown hgr; have HF3 := Aside0.mk hown; have HRG3 := Aside0.mk (World.ranges.kept HRG2.out hgr (fun e_ => by injection e_ with e_; exact HGF.out.2 e_) (fun e_ => by injection e_ with e_; exact HQ.out.2 e_.symm)); have HB3 := Aside0.mk (HB2.out.grown hgr HB2.out.size (fun k_ e_ => by injection e_ with e_; rw [← e_]; exact HGF.out.1)); have HIM := Aside0.mk (isMapS HF2.out); clear hown hgr HF2 HB2 HRG2))
                    go_roundg (cnt1 + 1)
                    case measure => exact HI2.out.1
                    case rel => exact ⟨_, cnt1, m2 + 1, qs ++ [t], _, putU es3 (jt k a t), ⟨rfl, by have := HI2.out; omega⟩, HRG3, HG1, HF3, ⟨HD3.out.put HIM.out _ _⟩, ⟨fun x hx => ((putU_mem _ _ _).1 hx).elim (HS.out x) (fun e => (HJ2.out.1 x).2 ⟨a, HAM.out, t, (HK1.out t).1 HTM.out, e.symm⟩)⟩, ⟨fun a' ha s hs => (putU_mem _ _ _).2 (.inl (HC.out a' ha s hs))⟩, ⟨fun s hs => by rw [List.mem_append, List.mem_singleton] at hs; exact (putU_mem _ _ _).2 (hs.elim (fun h => .inl (HCR.out s h)) (fun e => .inr (by rw [e])))⟩, HB3⟩
              · have ei : i = ps.length := by omega
                have hx1 : ¬ x77 < (ps.length : Int) := by omega
                have X1b : decide (x77 < (ps.length : Int)) = false := decide_eq_false hx1
                have X1 := eq_false hx1
                have HU1 := Aside0.mk (show ∀ x, x ∈ es2 ↔ x ∈ uniqS us from fun x => by
                  rw [uniqS_mem]
                  refine ⟨HS.out x, fun hx => ?_⟩
                  obtain ⟨a, ha, t, ht, e⟩ := (HJ2.out.1 x).1 hx
                  rw [← e]
                  exact HC.out a (by rw [ei, List.take_length]; exact ha) t ((HK1.out t).2 ht))
                clear ei hx1 hi0 hi1 hi2 HI HS HC HJ2 HK1 HD HM hgko HSD HN
                rename World => wv
                go_wp2_with (at_range
                             refine wpList_range_own _ rfl _ 48 rfl 9 4 lawS Tryd.underlying48 (plainElem Tryd.prog 4) F m D2 rfl HF.out ?_
                             intro w5_ hrg hg5 hs5
                             obtain ⟨q, hq⟩ : ∃ q, q = wv.heap.size := ⟨_, rfl⟩
                             rw [← hq] at hrg ⊢
                             have HRG := Aside0.mk hrg
                             have HBv := Aside0.mk (HB.out.grown hg5 HB.out.size (fun j hj => by cases hj))
                             have HQ := Aside0.mk (show wp.heap.size ≤ q from by rw [hq]; exact HB.out.size)
                             clear hrg hg5 hs5 hq HB HF)
                go_frame
                have HLN := Aside0.mk (show es2.length ≤ 1000000 from Nat.le_trans (len_subS es2 us HD2.out.nd (fun x hx => (uniqS_mem us x).1 ((HU1.out x).1 hx))) HUS.out)
                go_loopg [20] (Maps.size D2 + 1) (fun kq v20 w' => ∃ (left : Lit → Bool) (cnt : Nat) (qs : List ByteArray), Aside0 (kq = cnt + 1) ∧ Aside0 (w'.ranges Tryd.prog 9 (plainElem Tryd.prog 4) F q m D2 left cnt) ∧ Aside0 (GotS es2 left qs) ∧ Aside0 (Kd.R Kd.string 9 w' wp.heap.size (fun k_ => k_ ≠ F ∧ k_ ≠ q) v20 (qs.filter fun t => !hasZ t)) ∧ Aside0 (Below wp.heap.size wp w'))
                case atStart => exact ⟨_, _, [], ⟨rfl⟩, HRG, ⟨GotS.start HD2.out⟩, ⟨Kd.R_nil _ _ _ _ _⟩, HBv⟩
                case round =>
                  clear HRG HBv
                  obtain ⟨left, cnt, qs, HK, HRG, HG, HO, HB⟩ := hrel
                  have hlen : Aside0 (qs.length ≤ 1000000) := ⟨Nat.le_trans (len_subS _ _ HG.out.1 HG.out.2.1) HLN.out⟩
                  go_wp2_with (first
                    | (at_next
                       refine wpList_next_ranges _ rfl _ rfl 9 lawS (plainElem Tryd.prog 4) Value.string mkB (fun key kl hk => by obtain ⟨t, rfl, _⟩ := invS hk; exact ⟨t, rfl⟩) (fun v y hv => valB hv) F q m D2 left cnt rfl HRG.out ?_ ?_))
                  · intro hc0 hl0
                    have hp := HG.out.perm HD2.out.nd hl0
                    have hp2 : qs.Perm (uniqS us) := hp.trans ((List.perm_ext_iff_of_nodup HD2.out.nd (uniqS_nodup us)).2 HU1.out)
                    have hsq : slices_Sort_Sstring_string.f (qs.filter fun t => !hasZ t) = some r := by
                      unfold slices_Sort_Sstring_string.f
                      rw [if_pos (by have := hlen.out; have := List.length_filter_le (fun t => !hasZ t) qs; omega), sortS_perm (hp2.filter _), HR.out]
                    have HSQ := Aside0.mk hsq
                    clear hsq hp hp2 hc0 hl0
                    go_wp2_with (first
                      | (go_at_call 28
                         refine (slices_Sort_Sstring_string.calls (fun k_ => k_ ≠ F ∧ k_ ≠ q) _ (qs.filter fun t => !hasZ t) r wp _ HB.out HO.out HSQ.out).mono ?_
                         rintro e w8 ⟨rfl, hR8, hB8, _⟩
                         have HR8 := Aside0.mk hR8
                         have HB8 := Aside0.mk hB8
                         clear hR8 hB8))
                    go_ret
                    exact ⟨_, rfl, Kd.R_lower (Kd.R_mono HR8.out (fun _ _ => trivial)) HBB.out.size, below_step HBB.out HB8.out⟩
                  · intro t c kl yd yp w1 cnt1 hkey hlk hv hat hrg1 hlt hg1 hs1 hen
                    obtain ⟨t', et, rfl⟩ := invS hkey
                    obtain rfl : t = t' := by injection et
                    obtain ⟨e, he, hke⟩ := HD2.out.has _ (Maps.has_true_of_atKey hat)
                    obtain rfl := klS_inj hke
                    have HG1 := Aside0.mk (HG.out.step he hlk)
                    have HRG1 := Aside0.mk hrg1
                    have HK1 := Aside0.mk (show cnt1 + 1 < gk by have := HK.out; omega)
                    have HO1 := Aside0.mk (Kd.R_grown HO.out hg1 (fun k_ hk e => by injection e with e; exact hk.2 e))
                    have HB1 := Aside0.mk (HB.out.grown hg1 HB.out.size (fun j hj => by injection hj with hj; rw [← hj]; exact HQ.out))
                    clear hkey hlk hv hat hrg1 hlt hg1 hs1 et he hke HG HRG HK HO HB
                    cases hz : hasZ t with
                    | true =>
                      have HZ := Aside0.mk hz
                      clear hz
                      go_wp2_with (first
                        | (go_at_call 27; refine (contains0 t true _ HZ.out).mono ?_; rintro e9 w6_ ⟨rfl, rfl⟩))
                      go_roundg (cnt1 + 1)
                      case measure => exact HK1.out
                      case rel => exact ⟨_, cnt1, qs ++ [t], ⟨rfl⟩, HRG1, HG1, ⟨by rw [List.filter_append, show ([t].filter fun t => !hasZ t) = [] from by simp [HZ.out], List.append_nil]; exact HO1.out⟩, HB1⟩
                    | false =>
                      have HZ := Aside0.mk hz
                      clear hz
                      go_wp2_with (first
                        | (go_at_call 27; refine (contains0 t false _ HZ.out).mono ?_; rintro e9 w6_ ⟨rfl, rfl⟩)
                        | ((with_reducible refine gate_builtin (b := .append) (xs := #[.tmp 105, .tmp 107]) rfl ?_); at_builtin
                           refine Kd.R_append Kd.string (w0 := wp) wp.heap.size rfl (.tmp 105) (.tmp 107) 25 9 (.string ⟨#[]⟩) 16 rfl Tryd.underlying25 info9 rfl (by decide) (by omega) u20 (qs.filter fun t => !hasZ t) t [.string t] (fun k_ => k_ ≠ F ∧ k_ ≠ q) (fun _ => False) rfl rfl rfl (fun _ h => h.elim) (fun k_ hk => ⟨by have := HRG1.out.owns.lt; omega, by have := HRG1.out.lt; omega⟩) HO1.out HB1.out HB1.out.size (by have := hlen.out; have := List.length_filter_le (fun t => !hasZ t) qs; omega) ?_
                           intro v7 w7 hR7 hB7 hg7 hat7
                           have HRG3 := Aside0.mk (World.ranges.kept HRG1.out hg7 (fun e => (HO1.out.1 F e.symm).1 rfl) (fun e => (HO1.out.1 q e.symm).2 rfl))
                           have HO3 := Aside0.mk (show Kd.R Kd.string 9 w7 wp.heap.size (fun k_ => k_ ≠ F ∧ k_ ≠ q) v7 ((qs ++ [t]).filter fun t => !hasZ t) from by rw [List.filter_append, show ([t].filter fun t => !hasZ t) = [t] from by simp [HZ.out]]; exact hR7)
                           have HB3 := Aside0.mk hB7
                           clear hR7 hB7 hg7 hat7 HRG1 HO1 HB1))
                      go_roundg (cnt1 + 1)
                      case measure => exact HK1.out
                      case rel => exact ⟨_, cnt1, qs ++ [t], ⟨rfl⟩, HRG3, HG1, HO3, HB3⟩
end Go.Proofs.YtcoommffjbbebaaDoor.P
namespace Go.Proofs.YtcoommffjbbebaaDoor.P
open Go.RowKit Go.Proofs.YtcoommffjbbebaaDoorW.PrintWords Go.Proofs.YtcoommffjbbebaaDoorW.PrintLast Go.Proofs.YtcoommffjbbebaaDoorW.PrintMore
attribute [local go_sem] ptrOf_slice
attribute [local go_sem] min2_str max2_int min2_int max_two min_two max_three min_three max_four min_four
set_option linter.unusedVariables false
set_option linter.unusedSimpArgs false
def slices_Index_Sstring_string.l0 : Nat → List ByteArray → ByteArray → Int → Int → Option (Int)
 | 0, _, _, _, _ => none
 | k + 1, x0, x1, x7, x8 => if x8 < x7 then (if 0 ≤ x8 then (if x8 < (x0.length : Int) then (if x1.toList = (rdOf ByteArray.empty x0 x8).toList then (some x8) else (slices_Index_Sstring_string.l0 k x0 x1 x7 (wrap64 (x8 + 1)))) else (none)) else (none)) else (some (-1))
def slices_Index_Sstring_string.f (k : Nat) (l0 : List ByteArray) (a1 : ByteArray) : Option (Int) := slices_Index_Sstring_string.l0 k l0 a1 (l0.length : Int) 0
theorem slices_Index_Sstring_string.mono_l : ∀ k, (∀ y0 y1 y2 y3, LeO (slices_Index_Sstring_string.l0 k y0 y1 y2 y3) (slices_Index_Sstring_string.l0 (k + 1) y0 y1 y2 y3))
 | 0 => fun _ _ _ _ r h => by simp [slices_Index_Sstring_string.l0] at h
 | k + 1 => by
  have ih0 := slices_Index_Sstring_string.mono_l k
  ·intro y0 y1 y2 y3
   unfold slices_Index_Sstring_string.l0
   repeat' first
   | (with_reducible exact ih0 _ _ _ _)
   | (with_reducible exact LeO.refl _)
   | (with_reducible exact LeO.none _)
   | (with_reducible refine LeO.ite ?_ ?_)
   | (with_reducible refine LeO.bind ?_ (fun _ => ?_))
   | exact ih0 _ _ _ _
   | exact LeO.none _
   | refine LeO.ite ?_ ?_
   | refine LeO.bind ?_ (fun _ => ?_)
theorem slices_Index_Sstring_string.mono : ∀ a0 a1 k, LeO (slices_Index_Sstring_string.f k a0 a1) (slices_Index_Sstring_string.f (k + 1) a0 a1) := by
 intro a0 a1 k
 have ih0 := slices_Index_Sstring_string.mono_l k
 unfold slices_Index_Sstring_string.f
 repeat' first
   | (with_reducible exact ih0 _ _ _ _)
   | (with_reducible exact LeO.refl _)
   | (with_reducible exact LeO.none _)
   | (with_reducible refine LeO.ite ?_ ?_)
   | (with_reducible refine LeO.bind ?_ (fun _ => ?_))
   | exact ih0 _ _ _ _
   | exact LeO.none _
   | refine LeO.ite ?_ ?_
   | refine LeO.bind ?_ (fun _ => ?_)
set_option maxHeartbeats 8000000 in
set_option maxRecDepth 100000 in
theorem slices_Index_Sstring_string.calls (k : Nat) (A0 : Option Addr) (c0 : Nat) (l0 : List ByteArray) (a1 : ByteArray) (r : Int) (w : World) (hr0 : Kd.C Kd.string w A0 l0.length l0) (hc0 : l0.length ≤ c0) (h : slices_Index_Sstring_string.f k l0 a1 = some r) :
  Calls Tryd.prog 47 #[.slice A0 l0.length c0, .string a1] w fun e w' => e = .returned (.int .i64 r) ∧ Drawn0 w w' := by
 have HR0 := Aside0.mk hr0
 have HC0 := Aside0.mk hc0
 clear hr0 hc0
 have H : (slices_Index_Sstring_string.l0 k l0 a1 (l0.length : Int) 0) = some r := h
 clear h
 have H' := Aside0.mk H
 clear H
 go_enter Tryd.func47, Tryd.ntmps47
 go_wp2
 go_loopg [8] k (fun kq v8 w' => ∃ (x8_1 : Int), v8 = .int .i64 x8_1 ∧ Aside0 (slices_Index_Sstring_string.l0 kq l0 a1 (l0.length : Int) x8_1 = some r) ∧ Aside0 (kq ≤ k) ∧ Drawn0 w w')
 case atStart => exact ⟨(0), (by first | rfl | (simp; done) | (simp [*]; done)), H', ⟨Nat.le_refl _⟩, by repeat (first | exact Drawn0.refl _ | apply Drawn0.step)⟩
 case round =>
  clear H'
  try clear p2
  obtain ⟨x8_1, rfl, HA, HK1, ⟨m1, rfl⟩⟩ := hrel
  cases gk with
  | zero => exact absurd HA.out (by simp [slices_Index_Sstring_string.l0])
  | succ k1 =>
   have H := HA.out
   clear HA
   simp only [slices_Index_Sstring_string.l0] at H
   by_cases c3 : x8_1 < (l0.length : Int)
   ·rw [if_pos c3] at H
    have c3b0 : decide (x8_1 < (l0.length : Int)) = true := decide_eq_true c3
    clear c3
    by_cases c4 : 0 ≤ x8_1
    ·rw [if_pos c4] at H
     have c4b0 : decide (0 ≤ x8_1) = true := decide_eq_true c4
     clear c4
     by_cases c5 : x8_1 < (l0.length : Int)
     ·rw [if_pos c5] at H
      have c5b0 : decide (x8_1 < (l0.length : Int)) = true := decide_eq_true c5
      clear c5
      by_cases c6 : a1.toList = (rdOf ByteArray.empty l0 x8_1).toList
      ·rw [if_pos c6] at H
       have c6b0 : (a1.toList == (rdOf ByteArray.empty l0 x8_1).toList) = true := beq_iff_eq.mpr c6
       have c6b1 : (a1.toList != (rdOf ByteArray.empty l0 x8_1).toList) = false := bne_eq_false_iff_eq.mpr c6
       clear c6
       obtain rfl := Option.some.inj H
       have p454 : 0 ≤ (x8_1 : Int) := of_decide_eq_true (by first | (with_reducible assumption) | assumption)
       have q454 : x8_1 < (l0.length : Int) := of_decide_eq_true (by first | (with_reducible assumption) | assumption)
       obtain ⟨ad454, e454, hx454_0⟩ := Kd.at_string HR0.out x8_1 p454 q454
       cases e454
       replace p454 := eq_true p454
       replace q454 := eq_true q454
       go_wp2
       go_ret
       exact ⟨by first | rfl | (simp; done) | (simp [*]; done), by repeat (first | exact Drawn0.refl _ | apply Drawn0.step)⟩
      ·rw [if_neg c6] at H
       have c6b0 : (a1.toList == (rdOf ByteArray.empty l0 x8_1).toList) = false := beq_eq_false_iff_ne.mpr c6
       have c6b1 : (a1.toList != (rdOf ByteArray.empty l0 x8_1).toList) = true := bne_iff_ne.mpr c6
       have H' := Aside0.mk H
       clear H
       have p454 : 0 ≤ (x8_1 : Int) := of_decide_eq_true (by first | (with_reducible assumption) | assumption)
       have q454 : x8_1 < (l0.length : Int) := of_decide_eq_true (by first | (with_reducible assumption) | assumption)
       obtain ⟨ad454, e454, hx454_0⟩ := Kd.at_string HR0.out x8_1 p454 q454
       cases e454
       replace p454 := eq_true p454
       replace q454 := eq_true q454
       go_wp2
       go_roundg k1
       case measure => have := HK1.out; omega
       case rel => exact ⟨(wrap64 (x8_1 + 1)), (by first | rfl | (simp; done) | (simp [*]; done)), H', ⟨by have := HK1.out; omega⟩, by repeat (first | exact Drawn0.refl _ | apply Drawn0.step)⟩
     ·rw [if_neg c5] at H
      exact absurd H (by simp)
    ·rw [if_neg c4] at H
     exact absurd H (by simp)
   ·rw [if_neg c3] at H
    have c3b0 : decide (x8_1 < (l0.length : Int)) = false := decide_eq_false c3
    clear c3
    obtain rfl := Option.some.inj H
    go_wp2
    go_ret
    exact ⟨by first | rfl | (simp; done) | (simp [*]; done), by repeat (first | exact Drawn0.refl _ | apply Drawn0.step)⟩
def slices_Contains_Sstring_string.f (k : Nat) (l0 : List ByteArray) (a1 : ByteArray) : Option (Bool) := (slices_Index_Sstring_string.f k l0 a1).bind fun t455 => (some (decide (t455 ≥ 0)))
theorem slices_Contains_Sstring_string.mono : ∀ a0 a1 k, LeO (slices_Contains_Sstring_string.f k a0 a1) (slices_Contains_Sstring_string.f (k + 1) a0 a1) := by
 intro a0 a1 k
 unfold slices_Contains_Sstring_string.f
 repeat' first
   | (with_reducible exact slices_Index_Sstring_string.mono _ _ _)
   | (with_reducible exact LeO.refl _)
   | (with_reducible exact LeO.none _)
   | (with_reducible refine LeO.ite ?_ ?_)
   | (with_reducible refine LeO.bind ?_ (fun _ => ?_))
   | exact slices_Index_Sstring_string.mono _ _ _
   | exact LeO.none _
   | refine LeO.ite ?_ ?_
   | refine LeO.bind ?_ (fun _ => ?_)
set_option maxHeartbeats 8000000 in
set_option maxRecDepth 100000 in
theorem slices_Contains_Sstring_string.calls (k : Nat) (A0 : Option Addr) (c0 : Nat) (l0 : List ByteArray) (a1 : ByteArray) (r : Bool) (w : World) (hr0 : Kd.C Kd.string w A0 l0.length l0) (hc0 : l0.length ≤ c0) (h : slices_Contains_Sstring_string.f k l0 a1 = some r) :
  Calls Tryd.prog 32 #[.slice A0 l0.length c0, .string a1] w fun e w' => e = .returned (.bool r) ∧ Drawn0 w w' := by
 have HR0 := Aside0.mk hr0
 have HC0 := Aside0.mk hc0
 clear hr0 hc0
 have H : ((slices_Index_Sstring_string.f k l0 a1).bind fun t455 => (some (decide (t455 ≥ 0)))) = some r := h
 clear h
 replace H := Option.bind_eq_some_iff.mp H
 obtain ⟨t455, A30, H⟩ := H
 replace H : (some (decide (t455 ≥ 0))) = some r := H
 have A3 := Aside0.mk A30
 clear A30
 obtain rfl := Option.some.inj H
 go_enter Tryd.func32, Tryd.ntmps32
 go_wp2_with (first | ((with_reducible refine gate_callee (f := 47) rfl ?_); refine goesL_ (some 7) rfl rfl Tryd.func47 (by kernel_rfl) rfl #[.slice A0 l0.length c0, .string a1] rfl (by (try simp only [List.map_toArray, List.map_cons, List.map_nil]); first | done | rfl | (simp only [List.length_drop, List.length_take]; rfl)) ?_; (with_reducible refine (slices_Index_Sstring_string.calls k _ _ l0 a1 t455 _ ?side1 ?side2 A3.out).mono ?_); (case side1 => repeat (first | exact HR0.out | (with_reducible refine Kd.C_alloc ?_ _) | (with_reducible refine Kd.C_drewN ?_ _) | (with_reducible refine Kd.C_drew ?_))); (case side2 => exact HC0.out); rintro e w' ⟨rfl, ⟨nd, rfl⟩⟩; refine ⟨_, rfl, ?_⟩))
 go_ret
 exact ⟨by first | rfl | (simp; done) | (simp [*]; done), by repeat (first | exact Drawn0.refl _ | apply Drawn0.step)⟩
end Go.Proofs.YtcoommffjbbebaaDoor.P
