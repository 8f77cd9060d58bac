/- What the law FnExactCountWays reaches, part 3: functions as plain Lean functions with the proofs that their calls come to them, and plain lemmas over these. Put together by a program (wip/pack.py). -/
import Derived.Test.YtoajlmlobaccdaaKFnExactCountWaysa
import Derived.Test.YtoajlmlobaccdaaKFnExactCountWaysb
namespace Go.Proofs.Ytoajlmlobaccdaa.P
open Go.RowKit Go.Proofs.YtoajlmlobaccdaaW.PrintWords Go.Proofs.YtoajlmlobaccdaaW.PrintLast Go.Proofs.YtoajlmlobaccdaaW.PrintMore
attribute [local go_sem] ptrOf_slice
set_option linter.unusedVariables false
set_option linter.unusedSimpArgs false
def Cel.z : Cel := z101
def celAt (l : List Cel) (i : Int) : Cel := rd_T101 l i
def bit1 (a : Int) : Int := wrap64 (2 ^ min a.toNat 64)
def ceA (s : CeS) (q : Int) : CeS := { s with now := s.now.set q.toNat { celAt s.now q with f3 := s.cnt } }
def ceB (s : CeS) (q : Int) : CeS := { s with out := s.out.set q.toNat (s.out.getD q.toNat [] ++ [celAt s.now q]) }
def ceC (s : CeS) (a b q : Int) : CeS := { s with now := s.now.set q.toNat ⟨2, Go.bits .or .i64 (bit1 a) (bit1 b), s.cnt, 0, Go.bits .or .i64 (Go.bits .andNot .i64 (celAt s.now q).f4 (bit1 a)) (bit1 b)⟩ }
def ceD1 (s : CeS) (i : Int) : CeS := { s with now := s.now.set i.toNat { celAt s.now i with f0 := wrap64 ((celAt s.now i).f0 + 1) } }
def ceD2 (s : CeS) (i f : Int) : CeS := { s with now := s.now.set i.toNat { celAt s.now i with f1 := f } }
def ceD (s : CeS) (a i : Int) : CeS := ceD2 (ceD1 s i) i (Go.bits .or .i64 (celAt s.now i).f1 (bit1 a))
def ceStep (s : CeS) (a b p : Int) : CeS :=
  let t := ceD (ceD (ceC (ceB (ceA s (p + 1)) (p + 1)) a b (p + 1)) b p) a (p + 2)
  { t with cnt := wrap64 (t.cnt + 1) }
def ceOk (s : CeS) (a b p : Int) : Prop := 0 ≤ a ∧ 0 ≤ b ∧ p + 2 < (s.now.length : Int) ∧ p + 1 < (s.out.length : Int) ∧ (s.out.getD (p + 1).toNat []).length < 3518437208883
theorem infoCel : (Try.prog.info? 101).map (fun i => (i.zero, i.size, i.bytes)) = some (some (.agg #[.int .i64 0, .int .i64 0, .int .i64 0, .int .i64 0, .int .i64 0]), 5, 40) := by kernel_rfl
instance (s : CeS) (a b p : Int) : Decidable (ceOk s a b p) := by unfold ceOk; infer_instance
def ce1.T0 : Bool × List (List Nat × List Nat) := (true, [([], []), ([], []), ([0, 1], [0, 1]), ([2], [2]), ([], []), ([], []), ([5], [5]), ([4, 6], [4, 6]), ([7], [7]), ([3, 0, 1, 2, 3], [3]), ([8, 9, 0, 1, 2, 3, 4, 5, 6, 7, 8, 9], [8])])
def ce1.B0 : List Nat := [0, 0, 3, 7, 0, 0, 32, 112, 240, 15, 1023]
theorem ce1.tab0 : rtab .any (opsOf Try.f165 0) = ce1.T0 := by kernel_rfl
theorem ce1.bits0 : waitsOk ce1.T0.2 ce1.B0 = true := by kernel_rfl
def ce1.T2 : Bool × List (List Nat × List Nat) := (true, [([], []), ([], []), ([1], [1]), ([], []), ([], []), ([4], [4]), ([3, 5], [3, 5]), ([6], [6]), ([], []), ([], []), ([9], [9]), ([8, 10], [8, 10]), ([11], [11]), ([12], [12]), ([7, 13], [7, 13]), ([0, 2, 0, 1, 2, 3, 4, 5, 6, 7, 8, 9, 10, 11, 12, 13, 14], [0, 2]), ([15, 14, 14, 0, 1, 2, 3, 4, 5, 6, 7, 8, 9, 10, 11, 12, 13, 14], [14, 15])])
def ce1.B2 : List Nat := [0, 0, 2, 0, 0, 16, 56, 120, 0, 0, 512, 1792, 3840, 7936, 16376, 32767, 65535]
theorem ce1.tab2 : rtab .any (opsOf Try.f165 2) = ce1.T2 := by kernel_rfl
theorem ce1.bits2 : waitsOk ce1.T2.2 ce1.B2 = true := by kernel_rfl
def ce1.T3 : Bool × List (List Nat × List Nat) := (true, [([], []), ([], []), ([1], [1]), ([], []), ([3], [3]), ([], []), ([5], [5]), ([4, 6], [4, 6]), ([], []), ([], []), ([], []), ([10], [10]), ([9, 11], [9, 11]), ([12], [12]), ([13], [13]), ([], []), ([15], [15]), ([14, 16], [14, 16]), ([], []), ([18], [18]), ([17, 19], [17, 19]), ([7, 8, 20], [7, 8, 20]), ([0, 2, 0, 1, 2, 3, 4, 5, 6, 7, 8, 9, 10, 11, 12, 13, 14, 15, 16, 17, 18, 19, 20, 21], [0, 2]), ([22, 21, 0, 1, 2, 3, 4, 5, 6, 7, 8, 9, 10, 11, 12, 13, 14, 15, 16, 17, 18, 19, 20, 21], [21, 22])])
def ce1.B3 : List Nat := [0, 0, 2, 0, 8, 0, 32, 120, 0, 0, 0, 1024, 3584, 7680, 15872, 0, 32768, 130560, 0, 262144, 1048064, 2097144, 4194303, 8388607]
theorem ce1.tab3 : rtab .any (opsOf Try.f165 3) = ce1.T3 := by kernel_rfl
theorem ce1.bits3 : waitsOk ce1.T3.2 ce1.B3 = true := by kernel_rfl
def ce1.T4 : Bool × List (List Nat × List Nat) := (true, [([], []), ([], []), ([], []), ([], []), ([], []), ([], []), ([4, 5], [4, 5]), ([6], [6]), ([7], [7]), ([8], [8]), ([], []), ([], []), ([10, 11], [10, 11]), ([12], [12]), ([13], [13]), ([], []), ([15], [15]), ([14, 16], [14, 16]), ([0, 1, 0, 1, 4, 5, 6, 7, 8, 9, 14], [0, 1]), ([18, 0, 1, 4, 5, 6, 7, 8, 9, 14], [18]), ([19, 9, 0, 1, 4, 5, 6, 7, 8, 9, 14], [9, 19]), ([2, 3, 0, 1, 2, 3, 4, 5, 6, 7, 8, 9, 10, 11, 12, 13, 14, 15, 16, 17, 18, 19, 20], [2, 3]), ([21, 0, 1, 2, 3, 4, 5, 6, 7, 8, 9, 10, 11, 12, 13, 14, 15, 16, 17, 18, 19, 20], [21]), ([22, 17, 20, 0, 1, 2, 3, 4, 5, 6, 7, 8, 9, 10, 11, 12, 13, 14, 15, 16, 17, 18, 19, 20], [17, 22])])
def ce1.B4 : List Nat := [0, 0, 0, 0, 0, 0, 48, 112, 240, 496, 0, 0, 3072, 7168, 15360, 0, 32768, 130048, 32755, 294899, 819187, 2097151, 4194303, 8388607]
theorem ce1.tab4 : rtab .any (opsOf Try.f165 4) = ce1.T4 := by kernel_rfl
theorem ce1.bits4 : waitsOk ce1.T4.2 ce1.B4 = true := by kernel_rfl
def ce1.T5 : Bool × List (List Nat × List Nat) := (true, [([], []), ([], []), ([1], [1]), ([], []), ([], []), ([4], [4]), ([], []), ([], []), ([7], [7]), ([6, 8], [6, 8]), ([9], [9]), ([10], [10]), ([11], [11]), ([], []), ([], []), ([14], [14]), ([13, 15], [13, 15]), ([16], [16]), ([17], [17]), ([], []), ([19], [19]), ([18, 20], [18, 20]), ([0, 2, 0, 1, 2, 6, 7, 8, 9, 10, 11, 12, 18], [0, 2]), ([22, 0, 1, 2, 6, 7, 8, 9, 10, 11, 12, 18], [22]), ([23, 12, 0, 1, 2, 6, 7, 8, 9, 10, 11, 12, 18], [12, 23]), ([3, 5, 0, 1, 2, 3, 4, 5, 6, 7, 8, 9, 10, 11, 12, 13, 14, 15, 16, 17, 18, 19, 20, 21, 22, 23, 24], [3, 5]), ([25, 0, 1, 2, 3, 4, 5, 6, 7, 8, 9, 10, 11, 12, 13, 14, 15, 16, 17, 18, 19, 20, 21, 22, 23, 24], [25]), ([26, 21, 24, 0, 1, 2, 3, 4, 5, 6, 7, 8, 9, 10, 11, 12, 13, 14, 15, 16, 17, 18, 19, 20, 21, 22, 23, 24], [21, 26])])
def ce1.B5 : List Nat := [0, 0, 2, 0, 0, 16, 0, 0, 128, 448, 960, 1984, 4032, 0, 0, 16384, 57344, 122880, 253952, 0, 524288, 2088960, 524231, 4718535, 13107143, 33554431, 67108863, 134217727]
theorem ce1.tab5 : rtab .any (opsOf Try.f165 5) = ce1.T5 := by kernel_rfl
theorem ce1.bits5 : waitsOk ce1.T5.2 ce1.B5 = true := by kernel_rfl
set_option maxHeartbeats 8000000 in
set_option maxRecDepth 100000 in
theorem ce1_calls (uw : Option Nat) (bn bo bk : Nat) (s : CeS) (A0 : Option Addr) (c0 : Nat) (l0 : List Int) (p q : Int) (w0 w : World) (hB : Below w0.heap.size w0 w) (hr0 : Kd.C (Kd.int .i64) w A0 l0.length l0) (hc0 : l0.length ≤ c0) (hI : CeI w0.heap.size bn bo bk uw s w) (hu : ∀ k, uw = some k → k < w.heap.size ∧ ∃ c, w.heap[k]? = some (.cells c 3 (0, 0))) (hp0 : 0 ≤ p) (hp1 : p < l0.length) (hq : wrap64 (p + 1) = q) (hq0 : 0 ≤ q) (hq1 : q < l0.length) (hl : ceOk s (rd l0 p) (rd l0 q) p) :
    Calls Try.prog 165 #[.slice A0 l0.length c0, .int .i64 p, .pointer (some ⟨bk, 0, none⟩), .pointer (some ⟨bn, 0, none⟩), .pointer (some ⟨bo, 0, none⟩)] w fun e w' => e = .returned (.tuple #[]) ∧ CeI w0.heap.size bn bo bk uw (ceStep s (rd l0 p) (rd l0 q) p) w' ∧ Below w0.heap.size w0 w' ∧ ∀ k, uw = some k → w'.heap[k]? = w.heap[k]? := by
  obtain ⟨gN, cN, gO, cO, J0⟩ := hI; obtain ⟨ha0, hb0, hm2, ho1, hlr⟩ := hl; obtain ⟨ad, e0, hx0⟩ := Kd.at_int hr0 p hp0 hp1; subst e0; obtain ⟨ad', e1, hx1⟩ := Kd.at_int hr0 q hq0 hq1; obtain rfl : ad = ad' := by injection e1
  clear e1; have J0 := am_ J0; have HB := am_ hB; have HU := am_ hu; have KU : Aside0 (∀ k, uw = some k → k < w.heap.size → w.heap[k]? = w.heap[k]?) := ⟨fun _ _ _ => rfl⟩; have hqw : (IntKind.i64.wrap (p + 1)) = q := (i64_w _).trans hq; generalize ha : rd l0 p = a at *
  generalize hb : rd l0 q = b at *
  have P0_ := eq_true hp0; have P1_ := eq_true hp1; have Q0_ := eq_true hq0; have Q1_ := eq_true hq1; have P0b_ : decide (0 ≤ p) = true := decide_eq_true hp0; have P1b_ : decide (p < (l0.length : Int)) = true := decide_eq_true hp1; have Q0b_ : decide (0 ≤ q) = true := decide_eq_true hq0; have Q1b_ : decide (q < (l0.length : Int)) = true := decide_eq_true hq1; clear hB hu hp0 hp1 hq hq0 hq1; go_enter Try.func165, Try.ntmps165
  try go_wp2
  replace J0 := am_ J0.out.drew; replace HB := bd_ HB; have KU : Aside0 (∀ k, uw = some k → k < w.heap.size → w.drew.heap[k]? = w.heap[k]?) := ⟨fun _ _ _ => rfl⟩; refine start_ (n := 11) (S := fun w' => w'.cell? (ad.add p.toNat) = some (.int .i64 a) ∧ w'.cell? (ad.add q.toNat) = some (.int .i64 b)) (ds := []) #[false, false, false, false, false, false, false, false, false, false, false] (by kernel_rfl) rfl rfl ⟨hx0, hx1⟩ (fun hHeld => ?_); refine with_tabW ce1.tab0 ce1.bits0 (fun HT_ HW_ => ?_); generalize hw10 : w.drew = w10 at J0 HB KU hHeld ⊢
  refine pD_ 0 (some 9) HT_ (h := ?_); refine pD_ 1 (some 10) HT_ (h := ?_); refine pD_ 2 (some 11) HT_ (h := ?_); refine tD2_ 3 (some 12) HT_ HW_ hHeld (h := ?_); refine pD_ 4 (some 13) HT_ (h := ?_); refine pD_ 5 (some 14) HT_ (h := ?_); refine pD_ 6 (some 15) HT_ (h := ?_); refine pD_ 7 (some 16) HT_ (h := ?_); refine tD2_ 8 (some 17) HT_ HW_ hHeld (h := ?_); refine pD_ 9 (some 7) HT_ (h := ?_); refine pD_ 10 (some 8) HT_ (h := ?_); refine done_ (done_of HT_.out (by kernel_rfl)) ?_; have hmx : s.now.length ≤ maxLen := CeJ.max J0.out; have hqp : q = p + 1 := by have h1 := hqw; rw [i64_w] at h1; rw [← h1]; exact wrap64_small (by have := of_eq_true P0_; omega) (by unfold maxLen at hmx; omega)
  have hqn : q < (s.now.length : Int) := by omega
  have hqo : q < (s.out.length : Int) := by omega
  have hq0 : 0 ≤ q := of_eq_true Q0_; have N1_ := eq_true hqn; have O1_ := eq_true hqo; have N1b_ : decide (q < (s.now.length : Int)) = true := decide_eq_true hqn; have O1b_ : decide (q < (s.out.length : Int)) = true := decide_eq_true hqo; rw [show p + 1 = q by omega] at hlr; obtain ⟨nc, nf⟩ := J0.out.cells q hq0 hqn; have x3 := nc 3 _ rfl; have y3 := nf 3; have HQ := am_ (show q = p + 1 ∧ p + 2 < (s.now.length : Int) ∧ (s.out.getD q.toNat []).length < 3518437208883 from ⟨hqp, hm2, hlr⟩); have HP := Kd.R_seg J0.out.N q hq0 hqn (seg := [.int .i64 s.cnt]) (j := 3) (c := [.int .i64 (celAt s.now q).f0, .int .i64 (celAt s.now q).f1, .int .i64 (celAt s.now q).f2, .int .i64 (celAt s.now q).f3, .int .i64 (celAt s.now q).f4]) rfl nc (by show 3 + 1 ≤ 5; omega) (x' := { celAt s.now q with f3 := s.cnt }) (okp := fun _ => False) (k101_mkM _ _ _ { celAt s.now q with f3 := s.cnt }) (fun _ h => h.elim); have HP := am_ HP; clear nc nf hmx hqp ho1 hm2 hlr; have cn0 : w10.cell? ⟨bn, 0, none⟩ = some (.slice (some ⟨gN, 0, none⟩) s.now.length cN) := (blk_cell J0.out.hn 0).trans rfl; have co0 : w10.cell? ⟨bo, 0, none⟩ = some (.slice (some ⟨gO, 0, none⟩) s.out.length cO) := (blk_cell J0.out.ho 0).trans rfl; have ck0 : w10.cell? ⟨bk, 0, none⟩ = some (.int .i64 s.cnt) := (blk_cell (J0.out.hk bk rfl) 0).trans rfl; have fk0 := blk_frozen (J0.out.hk bk rfl) 0; try go_wp2
  obtain ⟨w11, hw11⟩ : ∃ w11, w11 = w10.setCell ⟨gN, q.toNat * 5 + 3, none⟩ (.int .i64 s.cnt) := ⟨_, rfl⟩; rw [← hw11]; obtain ⟨J1, K1⟩ := J0.out.put (w1 := w11) (by rw [hw11]; exact HP.out.1) (by rw [hw11]; exact HP.out.2); have B1 : Below w0.heap.size w0 w11 := by rw [hw11]; exact below_set HB.out J0.out.gN_ne.2.2.2.2.1
  have KU1 : Aside0 (∀ k, uw = some k → k < w.heap.size → w11.heap[k]? = w.heap[k]?) := ⟨fun k e h => (K1 k e (by rw [← hw10]; exact h)).trans (KU.out k e h)⟩; obtain ⟨s1, hs1⟩ : ∃ s1, s1 = ceA s q := ⟨_, rfl⟩; replace J1 : CeJ w0.heap.size bn bo (some bk) uw gN cN gO cO s1 w11 := by rw [hs1]; exact J1
  have L1 : s1.now.length = s.now.length := by rw [hs1]; exact List.length_set
  have E1 : s1.out = s.out := by rw [hs1]; rfl
  have HS1 := am_ hs1; have L1_ := am_ L1; have E1_ := am_ E1; have HWW := am_ (show w10.heap.size = w.heap.size from by rw [← hw10]; rfl); have HW1 := am_ (show w11.heap.size = w.heap.size from by rw [hw11, ← HWW.out]; exact (setCells_same gN [.int .i64 s.cnt] (q.toNat * 5 + 3) w10).2.2.2); clear J0 HB KU K1 cn0 co0 ck0 fk0 x3 y3 HP hw11 hw10 hs1 N1_ O1_ N1b_ O1b_ hHeld; rw [← L1] at hqn; rw [← E1] at hqo; obtain ⟨nc, nf⟩ := J1.cells q hq0 hqn; have N1_ := eq_true hqn; have O1_ := eq_true hqo; have N1b_ : decide (q < (s1.now.length : Int)) = true := decide_eq_true hqn; have O1b_ : decide (q < (s1.out.length : Int)) = true := decide_eq_true hqo; obtain ⟨oki, cv, hcl, hM, hcc, hoki, hH⟩ := Kd.S_lend J1.O ([] : List Cel) q hq0 hqo; obtain ⟨v, rfl, hR⟩ := hM; obtain ⟨A1, c1, rfl⟩ := Kd.R_slice hR; have hx := hcc 0 _ rfl; rw [Nat.add_zero, show kRow.sz = 1 from rfl, Nat.mul_one] at hx; obtain ⟨row, hrow⟩ : ∃ row, row = s1.out.getD q.toNat [] := ⟨_, rfl⟩; rw [← hrow] at hR hx hH; have HROW := am_ hrow; have z0 := nc 0 _ rfl; have z1 := nc 1 _ rfl; have z2 := nc 2 _ rfl; have z3 := nc 3 _ rfl; have z4 := nc 4 _ rfl; rw [Nat.add_zero] at z0; have cn1 : w11.cell? ⟨bn, 0, none⟩ = some (.slice (some ⟨gN, 0, none⟩) s1.now.length cN) := (blk_cell J1.hn 0).trans rfl; have co1 : w11.cell? ⟨bo, 0, none⟩ = some (.slice (some ⟨gO, 0, none⟩) s1.out.length cO) := (blk_cell J1.ho 0).trans rfl; have HR := am_ (Kd.R_drew hR); have HH := am_ (Kd.H_drew hH); have HOK := am_ hoki; have J1 := am_ J1.drew; have B1 := am_ (below_drew1 B1); have HLR := am_ (show row.length < 3518437208883 from by rw [hrow, E1]; exact HQ.out.2.2); have HW2 := am_ (show w11.drew.heap.size = w.heap.size from HW1.out); replace KU1 : Aside0 (∀ k, uw = some k → k < w.heap.size → w11.drew.heap[k]? = w.heap[k]?) := ⟨KU1.out⟩; clear hcc hcl hR hH hoki nc nf hrow HW1 L1 E1; refine start_ (n := 17) (S := fun w' => w'.cell? ⟨bo, 0, none⟩ = some (.slice (some ⟨gO, 0, none⟩) s1.out.length cO) ∧ w'.cell? ⟨bn, 0, none⟩ = some (.slice (some ⟨gN, 0, none⟩) s1.now.length cN) ∧ w'.cell? ⟨gO, q.toNat, none⟩ = some (.slice A1 row.length c1) ∧ w'.cell? ⟨gN, q.toNat * 5, none⟩ = some (.int .i64 (celAt s1.now q).f0) ∧ w'.cell? ⟨gN, q.toNat * 5 + 1, none⟩ = some (.int .i64 (celAt s1.now q).f1) ∧ w'.cell? ⟨gN, q.toNat * 5 + 2, none⟩ = some (.int .i64 (celAt s1.now q).f2) ∧ w'.cell? ⟨gN, q.toNat * 5 + 3, none⟩ = some (.int .i64 (celAt s1.now q).f3) ∧ w'.cell? ⟨gN, q.toNat * 5 + 4, none⟩ = some (.int .i64 (celAt s1.now q).f4)) (ds := [16]) #[false, false, false, false, false, false, false, false, false, false, false, false, false, false, false, false, false] (by kernel_rfl) rfl rfl ⟨co1, cn1, hx, z0, z1, z2, z3, z4⟩ (fun hHeld => ?_); refine with_tabW ce1.tab2 ce1.bits2 (fun HT_ HW_ => ?_)
  clear co1 cn1 hx z0 z1 z2 z3 z4; generalize w11.drew = w12 at J1 B1 KU1 HR HH HW2 hHeld ⊢
  refine pD_ 1 (some 25) HT_ (h := ?_); refine pD_ 2 (some 26) HT_ (h := ?_); refine pD_ 4 (some 28) HT_ (h := ?_); refine pD_ 5 (some 29) HT_ (h := ?_); refine pD_ 9 (some 33) HT_ (h := ?_); refine pD_ 10 (some 34) HT_ (h := ?_); refine tD8_ 0 (some 24) HT_ HW_ hHeld (h := ?_); refine tD8_ 3 (some 27) HT_ HW_ hHeld (h := ?_); refine tD8_ 8 (some 32) HT_ HW_ hHeld (h := ?_); refine pD_ 6 (some 30) HT_ (h := ?_); refine pD_ 11 (some 35) HT_ (h := ?_); refine tD8_ 7 (some 31) HT_ HW_ hHeld (h := ?_); refine tD8_ 12 (some 36) HT_ HW_ hHeld (h := ?_); have hHeld0 := am_ hHeld; refine oN_ 13 (some 37) HT_ (fun K hK => ?_); refine value_ (w1 := ?_) (v := ?_) (by rfl) rfl ?_ ?_; rotate_left 2
  · go_simp
    constructor
    · rfl
    · rfl
  refine hK.out _ _ ⟨((below_alloc (Below.refl w12.heap.size w12) _).cell (World.block_lt_of_cell? _ _ hHeld.1)).trans hHeld.1, ((below_alloc (Below.refl w12.heap.size w12) _).cell (World.block_lt_of_cell? _ _ hHeld.2.1)).trans hHeld.2.1, ((below_alloc (Below.refl w12.heap.size w12) _).cell (World.block_lt_of_cell? _ _ hHeld.2.2.1)).trans hHeld.2.2.1, ((below_alloc (Below.refl w12.heap.size w12) _).cell (World.block_lt_of_cell? _ _ hHeld.2.2.2.1)).trans hHeld.2.2.2.1, ((below_alloc (Below.refl w12.heap.size w12) _).cell (World.block_lt_of_cell? _ _ hHeld.2.2.2.2.1)).trans hHeld.2.2.2.2.1, ((below_alloc (Below.refl w12.heap.size w12) _).cell (World.block_lt_of_cell? _ _ hHeld.2.2.2.2.2.1)).trans hHeld.2.2.2.2.2.1, ((below_alloc (Below.refl w12.heap.size w12) _).cell (World.block_lt_of_cell? _ _ hHeld.2.2.2.2.2.2.1)).trans hHeld.2.2.2.2.2.2.1, ((below_alloc (Below.refl w12.heap.size w12) _).cell (World.block_lt_of_cell? _ _ hHeld.2.2.2.2.2.2.2)).trans hHeld.2.2.2.2.2.2.2⟩ (fun hHeld => ?_); clear hK K; refine nm_ 37 (h := ?_); have hwz : ∀ k, w12.heap.size ≤ k → k ≠ gN ∧ k ≠ bn ∧ some k ≠ uw := fun k hk => ⟨by have h1 := J1.out.gN_ne.2.2.2.2.2; omega, by have h1 := blk_lt J1.out.hn; omega, fun e => by have h1 := (HU.out k e.symm).1; have h2 := HW2.out; omega⟩
  have HWZ := am_ hwz; clear hwz; refine oN_ 14 (some 38) HT_ (fun K hK => ?_); refine Kd.R_append_step kCel (w0 := w0) (W := w12) w0.heap.size (by rfl) (.tmp 31) (.tmp 37) 99 101 (.agg #[.int .i64 0, .int .i64 0, .int .i64 0, .int .i64 0, .int .i64 0]) 40 rfl Try.underlying99 infoCel rfl (by decide) (by omega) (.slice A1 row.length c1) row (celAt s1.now q) [.int .i64 (celAt s1.now q).f0, .int .i64 (celAt s1.now q).f1, .int .i64 (celAt s1.now q).f2, .int .i64 (celAt s1.now q).f3, .int .i64 (celAt s1.now q).f4] (fun k => oki k ∨ ((k ≠ gN ∧ k ≠ bn ∧ some k ≠ uw) ∧ w12.heap.size ≤ k)) (fun _ => False) rfl rfl (k101_mkM _ _ _ (celAt s1.now q)) (fun _ h => h.elim) (fun k hk => .inr ⟨HWZ.out k hk, hk⟩) (Kd.R_mono HR.out (fun k h => .inl h)) B1.out B1.out.size (by have h1 := HLR.out; omega) ?_; intro v1 w1 hR1 hB1 hg1 hat1; obtain ⟨A2, c2, rfl⟩ := Kd.R_slice hR1; have HRN := am_ (show ∀ k, (Value.slice A1 row.length c1).ownBlock = some k → (k ≠ gN ∧ k ≠ bn ∧ some k ≠ uw) ∧ k ≠ gO from fun k e => HOK.out k (HR.out.1 k e)); have R1 := am_ hR1; have BB := am_ hB1; have G1 := am_ hg1; have hf : ∀ k, k ≠ gO → True := fun _ _ => trivial
  have nO : some bo ≠ (Value.slice A1 row.length c1).ownBlock := Kd.R_ne HR.out J1.out.ho (by decide); have nN : some bn ≠ (Value.slice A1 row.length c1).ownBlock := Kd.R_ne HR.out J1.out.hn (by decide); have nG : some gO ≠ (Value.slice A1 row.length c1).ownBlock := fun e => (HRN.out gO e.symm).2 rfl
  have nC : some gN ≠ (Value.slice A1 row.length c1).ownBlock := fun e => (HRN.out gN e.symm).1.1 rfl
  have HX := hHeld0.out; clear hR1 hB1 hg1 hat1 hf; refine hK.out _ _ ⟨cell_grown G1.out HX.1 nO, cell_grown G1.out HX.2.1 nN, cell_grown G1.out HX.2.2.1 nG, cell_grown G1.out HX.2.2.2.1 nC, cell_grown G1.out HX.2.2.2.2.1 nC, cell_grown G1.out HX.2.2.2.2.2.1 nC, cell_grown G1.out HX.2.2.2.2.2.2.1 nC, cell_grown G1.out HX.2.2.2.2.2.2.2 nC⟩ (fun hHeld => ?_); clear hK K; refine nm_ 38 (h := ?_); clear nO nN nG nC HX hHeld0; refine pD_ 15 (some 39) HT_ (h := ?_); refine last_ (i := 16) (N := none) #[true, true, true, true, true, true, true, true, true, true, true, true, true, true, true, true, true] rfl rfl (one_of HT_.out (by kernel_rfl)) (by decide) (fun K hK => ?_); refine H_store_step kRow (w0 := w0) (W := w1) w0.heap.size (by rfl) (by rfl) 99 (.tmp 39) (.tmp 38) (by rfl) 99 q 0 s1.out (row ++ [celAt s1.now q]) (.slice A2 (row ++ [celAt s1.now q]).length c2) [.slice A2 (row ++ [celAt s1.now q]).length c2] [.slice A1 row.length c1] (fun k => k ≠ gN ∧ k ≠ bn ∧ some k ≠ uw) (fun k => oki k ∨ ((k ≠ gN ∧ k ≠ bn ∧ some k ≠ uw) ∧ w12.heap.size ≤ k)) (fun k => oki k ∨ ((k ≠ gN ∧ k ≠ bn ∧ some k ≠ uw) ∧ w12.heap.size ≤ k)) (by rfl) (by show q.toNat = q.toNat * 1 + 0; omega) (by rfl) rfl (by kernel_rfl) (by intro x hx; rw [List.mem_singleton] at hx; subst hx; rfl) (Kd.H_grown (Kd.H_widen HH.out) G1.out (fun k e => .inl (HR.out.1 k e))) hq0 hqo (by show 0 + 1 ≤ 1; omega) ⟨_, rfl, R1.out⟩ (fun _ h => h) BB.out ?_; intro w13 hS2 hB2 hg2; have J2 := CeJ.done J1.out (i := q) (row := row ++ [celAt s1.now q]) (oki := oki) (by rw [← HROW.out]; exact HR.out) (fun k hk => ⟨(HOK.out k hk).1.1, (HOK.out k hk).1.2.2⟩) G1.out hS2 hg2; have HB2 := am_ hB2; have HG2 := am_ hg2; clear hS2 hB2 hg2; refine hK.out _ _ ?_; clear hK K; refine done_ (done_of HT_.out (by kernel_rfl)) ?_; obtain ⟨J2, K2⟩ := J2; obtain ⟨s2, hs2⟩ : ∃ s2, s2 = ceB s1 q := ⟨_, rfl⟩; replace J2 : CeJ w0.heap.size bn bo (some bk) uw gN cN gO cO s2 w13 := by rw [hs2]; unfold ceB; rw [← HROW.out]; exact J2
  have N2 : s2.now = s1.now := by rw [hs2]; rfl
  rw [← N2] at hqn; have KU2 : Aside0 (∀ k, uw = some k → k < w.heap.size → w13.heap[k]? = w.heap[k]?) := ⟨fun k e h => (K2 k e (by rw [HW2.out]; exact h)).trans (KU1.out k e h)⟩; have HS2 := am_ hs2; have N2_ := am_ N2; have HZ2 := am_ (show w.heap.size ≤ w13.heap.size from by have h1 := HW2.out; have h2 := G1.out.size; have h3 := HG2.out.size; omega); clear J1 B1 KU1 K2 hs2 N2 HR HH HOK HLR HW2 HROW HWZ HRN R1 BB G1 HG2 N1_ N1b_ O1_ O1b_ hqo hHeld HWW; try go_wp2
  obtain ⟨nc, nf⟩ := J2.cells q hq0 hqn; have z4 := nc 4 _ rfl; have cn2 : w13.cell? ⟨bn, 0, none⟩ = some (.slice (some ⟨gN, 0, none⟩) s2.now.length cN) := (blk_cell J2.hn 0).trans rfl; have ck2 : w13.cell? ⟨bk, 0, none⟩ = some (.int .i64 s2.cnt) := (blk_cell (J2.hk bk rfl) 0).trans rfl; have N1_ := eq_true hqn; have N1b_ : decide (q < (s2.now.length : Int)) = true := decide_eq_true hqn; have A1_ := eq_true ha0; have A1b_ : decide (0 ≤ a) = true := decide_eq_true ha0; have A2_ := eq_true hb0; have A2b_ : decide (0 ≤ b) = true := decide_eq_true hb0; have NC := am_ nc; have J2 := am_ J2.drew; have B2 := am_ (below_drew1 HB2.out); replace NC : Aside0 (∀ (j : Nat) u, ([.int .i64 (celAt s2.now q).f0, .int .i64 (celAt s2.now q).f1, .int .i64 (celAt s2.now q).f2, .int .i64 (celAt s2.now q).f3, .int .i64 (celAt s2.now q).f4] : List Value)[j]? = some u → w13.drew.cell? ⟨gN, q.toNat * 5 + j, none⟩ = some u) := ⟨NC.out⟩; replace KU2 : Aside0 (∀ k, uw = some k → k < w.heap.size → w13.drew.heap[k]? = w.heap[k]?) := ⟨KU2.out⟩; replace HZ2 : Aside0 (w.heap.size ≤ w13.drew.heap.size) := ⟨HZ2.out⟩; clear nc nf HB2; refine start_ (n := 24) (S := fun w' => w'.cell? ⟨bn, 0, none⟩ = some (.slice (some ⟨gN, 0, none⟩) s2.now.length cN) ∧ w'.cell? ⟨bk, 0, none⟩ = some (.int .i64 s2.cnt) ∧ w'.cell? ⟨gN, q.toNat * 5 + 4, none⟩ = some (.int .i64 (celAt s2.now q).f4)) (ds := [23]) #[false, false, false, false, false, false, false, false, false, false, false, false, false, false, false, false, false, false, false, false, false, false, false, false] (by kernel_rfl) rfl rfl ⟨cn2, ck2, z4⟩ (fun hHeld => ?_); refine with_tabW ce1.tab3 ce1.bits3 (fun HT_ HW_ => ?_); clear cn2 ck2 z4; generalize w13.drew = w14 at J2 B2 KU2 NC HZ2 hHeld ⊢
  refine pD_ 1 (some 41) HT_ (h := ?_); refine pD_ 2 (some 42) HT_ (h := ?_); refine pD_ 3 (some 43) HT_ (h := ?_); refine pD_ 4 (some 44) HT_ (h := ?_); refine pD_ 5 (some 45) HT_ (h := ?_); refine pD_ 6 (some 46) HT_ (h := ?_); refine pD_ 7 (some 47) HT_ (h := ?_); refine pD_ 10 (some 50) HT_ (h := ?_); refine pD_ 11 (some 51) HT_ (h := ?_); refine pD_ 15 (some 55) HT_ (h := ?_); refine pD_ 16 (some 56) HT_ (h := ?_); refine pD_ 18 (some 58) HT_ (h := ?_); refine pD_ 19 (some 59) HT_ (h := ?_); refine tD3_ 0 (some 40) HT_ HW_ hHeld (h := ?_); refine tD3_ 8 (some 48) HT_ HW_ hHeld (h := ?_); refine tD3_ 9 (some 49) HT_ HW_ hHeld (h := ?_); refine pD_ 12 (some 52) HT_ (h := ?_); refine pD_ 13 (some 53) HT_ (h := ?_); refine tD3_ 14 (some 54) HT_ HW_ hHeld (h := ?_); refine pD_ 17 (some 57) HT_ (h := ?_); refine pD_ 20 (some 60) HT_ (h := ?_); refine pD_ 21 (some 61) HT_ (h := ?_); refine pD_ 22 (some 62) HT_ (h := ?_); refine last_ (i := 23) (N := none) #[true, true, true, true, true, true, true, true, true, true, true, true, true, true, true, true, true, true, true, true, true, true, true, true] rfl rfl (one_of HT_.out (by kernel_rfl)) (by decide) (fun K hK => ?_); refine R_store_step kCel (w0 := w0) (W := w14) w0.heap.size (by rfl) (by rfl) 101 (.tmp 62) (.tmp 61) (by rfl) 101 q 0 s2.now ⟨2, Go.bits .or .i64 (bit1 a) (bit1 b), s2.cnt, 0, Go.bits .or .i64 (Go.bits .andNot .i64 (celAt s2.now q).f4 (bit1 a)) (bit1 b)⟩ (.agg #[.int .i64 2, .int .i64 (Go.bits .or .i64 (bit1 a) (bit1 b)), .int .i64 s2.cnt, .int .i64 0, .int .i64 (Go.bits .or .i64 (Go.bits .andNot .i64 (celAt s2.now q).f4 (bit1 a)) (bit1 b))]) [.int .i64 2, .int .i64 (Go.bits .or .i64 (bit1 a) (bit1 b)), .int .i64 s2.cnt, .int .i64 0, .int .i64 (Go.bits .or .i64 (Go.bits .andNot .i64 (celAt s2.now q).f4 (bit1 a)) (bit1 b))] [.int .i64 (celAt s2.now q).f0, .int .i64 (celAt s2.now q).f1, .int .i64 (celAt s2.now q).f2, .int .i64 (celAt s2.now q).f3, .int .i64 (celAt s2.now q).f4] (fun k => some k ≠ uw) (fun _ => False) (by rfl) (by show q.toNat * 5 = q.toNat * 5 + 0; omega) (by rfl) rfl (by kernel_rfl) ?one J2.out.N hq0 hqn rfl NC.out (by show 0 + 5 ≤ 5; omega) (k101_mkM _ _ _ (⟨2, Go.bits .or .i64 (bit1 a) (bit1 b), s2.cnt, 0, Go.bits .or .i64 (Go.bits .andNot .i64 (celAt s2.now q).f4 (bit1 a)) (bit1 b)⟩ : Cel)) (fun _ h => h.elim) B2.out ?_
  case one => intro x hx; simp only [List.mem_cons, List.not_mem_nil, or_false] at hx; rcases hx with rfl | rfl | rfl | rfl | rfl <;> rfl
  intro w15 hR3 hB3 hg3; have J3 := CeJ.put J2.out hR3 hg3; have B3 := am_ hB3; have G3 := am_ hg3; clear hR3 hB3 hg3; refine hK.out _ _ ?_; clear hK K; refine done_ (done_of HT_.out (by kernel_rfl)) ?_; obtain ⟨J3, K3⟩ := J3; obtain ⟨s3, hs3⟩ : ∃ s3, s3 = ceC s2 a b q := ⟨_, rfl⟩; replace J3 : CeJ w0.heap.size bn bo (some bk) uw gN cN gO cO s3 w15 := by rw [hs3]; exact J3
  have KU3 : Aside0 (∀ k, uw = some k → k < w.heap.size → w15.heap[k]? = w.heap[k]?) := ⟨fun k e h => (K3 k e (Nat.lt_of_lt_of_le h HZ2.out)).trans (KU2.out k e h)⟩; have HZ3 := am_ (Nat.le_trans HZ2.out G3.out.size); have HS3 := am_ hs3; have hm3 : p + 2 < (s3.now.length : Int) := by rw [hs3]; show p + 2 < ((s2.now.set _ _).length : Int); rw [List.length_set, N2_.out, L1_.out]; exact HQ.out.2.1
  have HM3 := am_ hm3; clear J2 B2 KU2 K3 hs3 HZ2 NC G3 N1_ N1b_ hqn hHeld; try go_wp2
  have h0_ : 0 ≤ p := of_eq_true P0_; have h1_ : p < (s3.now.length : Int) := by have h1 := HM3.out; omega
  clear hm3; obtain ⟨nc, nf⟩ := J3.cells (p) h0_ h1_; have z0 := nc 0 _ rfl; have z1 := nc 1 _ rfl; rw [Nat.add_zero] at z0; have cnz : w15.cell? ⟨bn, 0, none⟩ = some (.slice (some ⟨gN, 0, none⟩) s3.now.length cN) := (blk_cell J3.hn 0).trans rfl; have N1_ := eq_true h1_; have N1b_ : decide (p < (s3.now.length : Int)) = true := decide_eq_true h1_; have N0_ := eq_true h0_; have N0b_ : decide (0 ≤ p) = true := decide_eq_true h0_; have NC := am_ (show ∀ (j : Nat) u, ([.int .i64 (celAt s3.now (p)).f0, .int .i64 (celAt s3.now (p)).f1, .int .i64 (celAt s3.now (p)).f2, .int .i64 (celAt s3.now (p)).f3, .int .i64 (celAt s3.now (p)).f4] : List Value)[j]? = some u → w15.drew.cell? ⟨gN, (p).toNat * 5 + j, none⟩ = some u from nc); have J3 := am_ J3.drew; replace B3 := bd_ B3; replace KU3 : Aside0 (∀ k, uw = some k → k < w.heap.size → w15.drew.heap[k]? = w.heap[k]?) := ⟨KU3.out⟩; replace HZ3 : Aside0 (w.heap.size ≤ w15.drew.heap.size) := ⟨HZ3.out⟩; clear nc nf; refine start2_ (n := 24) (S0 := fun w' => w'.cell? ⟨bn, 0, none⟩ = some (.slice (some ⟨gN, 0, none⟩) s3.now.length cN)) (S := fun w' => w'.cell? ⟨gN, (p).toNat * 5, none⟩ = some (.int .i64 (celAt s3.now (p)).f0) ∧ w'.cell? ⟨gN, (p).toNat * 5 + 1, none⟩ = some (.int .i64 (celAt s3.now (p)).f1)) (ds := [20, 23]) #[false, false, false, false, false, false, false, false, false, false, false, false, false, false, false, false, false, false, false, false, false, false, false, false] (by kernel_rfl) rfl rfl cnz ⟨z0, z1⟩ (fun hS0 hHeld => ?_); refine with_tab2 ce1.tab4 ce1.bits4 (fun HT_ HW_ => ?_); clear cnz z0 z1; generalize w15.drew = wA at J3 B3 KU3 NC HZ3 hS0 hHeld ⊢
  refine pure2_ (i := 1) (N := some 64) (v := ?_) (a' := ?_) #[false, true, false, false, false, false, false, false, false, false, false, false, false, false, false, false, false, false, false, false, false, false, false, false] rfl rfl (take_ofW HT_.out HW_.out (by kernel_rfl)) (fun _ _ _ h => h) (Or.inl ⟨by rfl, ?_⟩) ?_ ?_; rotate_left
  · intro w'; go_simp
    with_reducible rfl
  rotate_left
  · simp only [Act.put, sA_, sZ_, sS_, i64_w, i32_w]
    rfl
  refine pure2_ (i := 3) (N := some 66) (v := ?_) (a' := ?_) #[false, true, false, true, false, false, false, false, false, false, false, false, false, false, false, false, false, false, false, false, false, false, false, false] rfl rfl (take_ofW HT_.out HW_.out (by kernel_rfl)) (fun _ _ _ h => h) (Or.inl ⟨by rfl, ?_⟩) ?_ ?_; rotate_left
  · intro w'; go_simp
    with_reducible rfl
  rotate_left
  · simp only [Act.put, sA_, sZ_, sS_, i64_w, i32_w]
    rfl
  refine pure2_ (i := 5) (N := some 68) (v := ?_) (a' := ?_) #[false, true, false, true, false, true, false, false, false, false, false, false, false, false, false, false, false, false, false, false, false, false, false, false] rfl rfl (take_ofW HT_.out HW_.out (by kernel_rfl)) (fun _ _ _ h => h) (Or.inl ⟨by rfl, ?_⟩) ?_ ?_; rotate_left
  · intro w'; go_simp
    with_reducible rfl
  rotate_left
  · simp only [Act.put, sA_, sZ_, sS_, i64_w, i32_w]
    rfl
  refine pure2_ (i := 11) (N := some 74) (v := ?_) (a' := ?_) #[false, true, false, true, false, true, false, false, false, false, false, true, false, false, false, false, false, false, false, false, false, false, false, false] rfl rfl (take_ofW HT_.out HW_.out (by kernel_rfl)) (fun _ _ _ h => h) (Or.inl ⟨by rfl, ?_⟩) ?_ ?_; rotate_left
  · intro w'; go_simp
    with_reducible rfl
  rotate_left
  · simp only [Act.put, sA_, sZ_, sS_, i64_w, i32_w]
    rfl
  refine pure2_ (i := 15) (N := some 78) (v := ?_) (a' := ?_) #[false, true, false, true, false, true, false, false, false, false, false, true, false, false, false, true, false, false, false, false, false, false, false, false] rfl rfl (take_ofW HT_.out HW_.out (by kernel_rfl)) (fun _ _ _ h => h) (Or.inl ⟨by rfl, ?_⟩) ?_ ?_; rotate_left
  · intro w'; go_simp
    with_reducible rfl
  rotate_left
  · simp only [Act.put, sA_, sZ_, sS_, i64_w, i32_w]
    rfl
  refine pure2_ (i := 16) (N := some 79) (v := ?_) (a' := ?_) #[false, true, false, true, false, true, false, false, false, false, false, true, false, false, false, true, true, false, false, false, false, false, false, false] rfl rfl (take_ofW HT_.out HW_.out (by kernel_rfl)) (fun _ _ _ h => h) (Or.inl ⟨by rfl, ?_⟩) ?_ ?_; rotate_left
  · intro w'; go_simp
    with_reducible rfl
  rotate_left
  · simp only [Act.put, sA_, sZ_, sS_, i64_w, i32_w]
    rfl
  refine takeA_ (i := 0) (N := some 63) (v := ?_) (a' := ?_) #[true, true, false, true, false, true, false, false, false, false, false, true, false, false, false, true, true, false, false, false, false, false, false, false] rfl rfl (take_ofW HT_.out HW_.out (by kernel_rfl)) (fun _ _ _ h => h) (Or.inl ⟨by rfl, ?_⟩) hS0 ?_ ?_; rotate_left
  · intro w' s0; go_simp
    with_reducible rfl
  rotate_left
  · simp only [Act.put, sA_, sZ_, sS_, i64_w, i32_w]
    rfl
  refine takeA_ (i := 2) (N := some 65) (v := ?_) (a' := ?_) #[true, true, true, true, false, true, false, false, false, false, false, true, false, false, false, true, true, false, false, false, false, false, false, false] rfl rfl (take_ofW HT_.out HW_.out (by kernel_rfl)) (fun _ _ _ h => h) (Or.inl ⟨by rfl, ?_⟩) hS0 ?_ ?_; rotate_left
  · intro w' s0; go_simp
    with_reducible rfl
  rotate_left
  · simp only [Act.put, sA_, sZ_, sS_, i64_w, i32_w]
    rfl
  refine takeA_ (i := 4) (N := some 67) (v := ?_) (a' := ?_) #[true, true, true, true, true, true, false, false, false, false, false, true, false, false, false, true, true, false, false, false, false, false, false, false] rfl rfl (take_ofW HT_.out HW_.out (by kernel_rfl)) (fun _ _ _ h => h) (Or.inl ⟨by rfl, ?_⟩) hS0 ?_ ?_; rotate_left
  · intro w' s0; go_simp
    with_reducible rfl
  rotate_left
  · simp only [Act.put, sA_, sZ_, sS_, i64_w, i32_w]
    rfl
  refine takeA_ (i := 10) (N := some 73) (v := ?_) (a' := ?_) #[true, true, true, true, true, true, false, false, false, false, true, true, false, false, false, true, true, false, false, false, false, false, false, false] rfl rfl (take_ofW HT_.out HW_.out (by kernel_rfl)) (fun _ _ _ h => h) (Or.inl ⟨by rfl, ?_⟩) hS0 ?_ ?_; rotate_left
  · intro w' s0; go_simp
    with_reducible rfl
  rotate_left
  · simp only [Act.put, sA_, sZ_, sS_, i64_w, i32_w]
    rfl
  refine pure2_ (i := 6) (N := some 69) (v := ?_) (a' := ?_) #[true, true, true, true, true, true, true, false, false, false, true, true, false, false, false, true, true, false, false, false, false, false, false, false] rfl rfl (take_ofW HT_.out HW_.out (by kernel_rfl)) (fun _ _ _ h => h) (Or.inl ⟨by rfl, ?_⟩) ?_ ?_; rotate_left
  · intro w'; go_simp
    with_reducible rfl
  rotate_left
  · simp only [Act.put, sA_, sZ_, sS_, i64_w, i32_w]
    rfl
  refine pure2_ (i := 7) (N := some 70) (v := ?_) (a' := ?_) #[true, true, true, true, true, true, true, true, false, false, true, true, false, false, false, true, true, false, false, false, false, false, false, false] rfl rfl (take_ofW HT_.out HW_.out (by kernel_rfl)) (fun _ _ _ h => h) (Or.inl ⟨by rfl, ?_⟩) ?_ ?_; rotate_left
  · intro w'; go_simp
    with_reducible rfl
  rotate_left
  · simp only [Act.put, sA_, sZ_, sS_, i64_w, i32_w]
    rfl
  refine pure2_ (i := 12) (N := some 75) (v := ?_) (a' := ?_) #[true, true, true, true, true, true, true, true, false, false, true, true, true, false, false, true, true, false, false, false, false, false, false, false] rfl rfl (take_ofW HT_.out HW_.out (by kernel_rfl)) (fun _ _ _ h => h) (Or.inl ⟨by rfl, ?_⟩) ?_ ?_; rotate_left
  · intro w'; go_simp
    with_reducible rfl
  rotate_left
  · simp only [Act.put, sA_, sZ_, sS_, i64_w, i32_w]
    rfl
  refine pure2_ (i := 13) (N := some 76) (v := ?_) (a' := ?_) #[true, true, true, true, true, true, true, true, false, false, true, true, true, true, false, true, true, false, false, false, false, false, false, false] rfl rfl (take_ofW HT_.out HW_.out (by kernel_rfl)) (fun _ _ _ h => h) (Or.inl ⟨by rfl, ?_⟩) ?_ ?_; rotate_left
  · intro w'; go_simp
    with_reducible rfl
  rotate_left
  · simp only [Act.put, sA_, sZ_, sS_, i64_w, i32_w]
    rfl
  refine takeE_ (i := 8) (N := some 71) (v := ?_) (a' := ?_) #[true, true, true, true, true, true, true, true, true, false, true, true, true, true, false, true, true, false, false, false, false, false, false, false] rfl rfl (take_ofW HT_.out HW_.out (by kernel_rfl)) (fun _ _ _ h => h) (Or.inl ⟨by rfl, ?_⟩) hHeld ?_ ?_; rotate_left
  · rintro w' ⟨s0, s1⟩; go_simp
    with_reducible rfl
  rotate_left
  · simp only [Act.put, sA_, sZ_, sS_, i64_w, i32_w]
    rfl
  refine takeE_ (i := 14) (N := some 77) (v := ?_) (a' := ?_) #[true, true, true, true, true, true, true, true, true, false, true, true, true, true, true, true, true, false, false, false, false, false, false, false] rfl rfl (take_ofW HT_.out HW_.out (by kernel_rfl)) (fun _ _ _ h => h) (Or.inl ⟨by rfl, ?_⟩) hHeld ?_ ?_; rotate_left
  · rintro w' ⟨s0, s1⟩; go_simp
    with_reducible rfl
  rotate_left
  · simp only [Act.put, sA_, sZ_, sS_, i64_w, i32_w]
    rfl
  refine pure2_ (i := 9) (N := some 72) (v := ?_) (a' := ?_) #[true, true, true, true, true, true, true, true, true, true, true, true, true, true, true, true, true, false, false, false, false, false, false, false] rfl rfl (take_ofW HT_.out HW_.out (by kernel_rfl)) (fun _ _ _ h => h) (Or.inl ⟨by rfl, ?_⟩) ?_ ?_; rotate_left
  · intro w'; go_simp
    with_reducible rfl
  rotate_left
  · simp only [Act.put, sA_, sZ_, sS_, i64_w, i32_w]
    rfl
  refine pure2_ (i := 17) (N := some 80) (v := ?_) (a' := ?_) #[true, true, true, true, true, true, true, true, true, true, true, true, true, true, true, true, true, true, false, false, false, false, false, false] rfl rfl (take_ofW HT_.out HW_.out (by kernel_rfl)) (fun _ _ _ h => h) (Or.inl ⟨by rfl, ?_⟩) ?_ ?_; rotate_left
  · intro w'; go_simp
    with_reducible rfl
  rotate_left
  · simp only [Act.put, sA_, sZ_, sS_, i64_w, i32_w]
    rfl
  refine pure2_ (i := 18) (N := some 81) (v := ?_) (a' := ?_) #[true, true, true, true, true, true, true, true, true, true, true, true, true, true, true, true, true, true, true, false, false, false, false, false] rfl rfl (take_ofW HT_.out HW_.out (by kernel_rfl)) (fun _ _ _ h => h) (Or.inl ⟨by rfl, ?_⟩) ?_ ?_; rotate_left
  · intro w'; go_simp
    with_reducible rfl
  rotate_left
  · simp only [Act.put, sA_, sZ_, sS_, i64_w, i32_w]
    rfl
  refine pure2_ (i := 19) (N := some 82) (v := ?_) (a' := ?_) #[true, true, true, true, true, true, true, true, true, true, true, true, true, true, true, true, true, true, true, true, false, false, false, false] rfl rfl (take_ofW HT_.out HW_.out (by kernel_rfl)) (fun _ _ _ h => h) (Or.inl ⟨by rfl, ?_⟩) ?_ ?_; rotate_left
  · intro w'; go_simp
    with_reducible rfl
  rotate_left
  · simp only [Act.put, sA_, sZ_, sS_, i64_w, i32_w]
    rfl
  refine last2_ (i := 20) (N := none) #[true, true, true, true, true, true, true, true, true, true, true, true, true, true, true, true, true, true, true, true, true, false, false, false] rfl rfl (one_of HT_.out (by kernel_rfl)) (by decide) (fun K hK => ?_); refine R_store_step kCel (w0 := w0) (W := wA) w0.heap.size (by rfl) (by rfl) 3 (.tmp 82) (.tmp 72) (by rfl) 101 (p) 0 s3.now { (celAt s3.now (p)) with f0 := wrap64 ((celAt s3.now (p)).f0 + 1) } (.int .i64 (wrap64 ((celAt s3.now (p)).f0 + 1))) [.int .i64 (wrap64 ((celAt s3.now (p)).f0 + 1))] [.int .i64 (celAt s3.now (p)).f0, .int .i64 (celAt s3.now (p)).f1, .int .i64 (celAt s3.now (p)).f2, .int .i64 (celAt s3.now (p)).f3, .int .i64 (celAt s3.now (p)).f4] (fun k => some k ≠ uw) (fun _ => False) (by rfl) (by show (p).toNat * 5 = (p).toNat * 5 + 0; omega) (by rfl) rfl (by kernel_rfl) (by intro x hx; rw [List.mem_singleton] at hx; subst hx; rfl) J3.out.N h0_ h1_ rfl NC.out (by show 0 + 1 ≤ 5; omega) (k101_mkM _ _ _ ({ (celAt s3.now (p)) with f0 := wrap64 ((celAt s3.now (p)).f0 + 1) } : Cel)) (fun _ h => h.elim) B3.out ?_; intro wB hR hB hg; have JJ := CeJ.put J3.out hR hg; obtain ⟨JB, KB⟩ := JJ; obtain ⟨t, ht⟩ : ∃ t, t = ceD1 s3 (p) := ⟨_, rfl⟩; replace JB : CeJ w0.heap.size bn bo (some bk) uw gN cN gO cO t wB := by rw [ht]; exact JB
  have KUB : Aside0 (∀ k, uw = some k → k < w.heap.size → wB.heap[k]? = w.heap[k]?) := ⟨fun k e h => (KB k e (Nat.lt_of_lt_of_le h HZ3.out)).trans (KU3.out k e h)⟩; have HZB := am_ (Nat.le_trans HZ3.out hg.size); have BB := am_ hB; have TN : t.now.length = s3.now.length := by rw [ht]; exact List.length_set
  have hS0_ := cell_grown hg hS0 (fun e => J3.out.gN_ne.1 (by injection e)); have TNA := am_ TN; have HT := am_ ht; have JB := am_ JB; clear hR hB hg KB TN ht; refine hK.out _ _ hS0_ ?_; clear hK K hS0; have hS0 := hS0_; clear hS0_; refine pure2_ (i := 21) (N := some 83) (v := ?_) (a' := ?_) #[true, true, true, true, true, true, true, true, true, true, true, true, true, true, true, true, true, true, true, true, true, true, false, false] rfl rfl (take_ofW HT_.out HW_.out (by kernel_rfl)) (fun _ _ _ h => h) (Or.inl ⟨by rfl, ?_⟩) ?_ ?_; rotate_left
  · intro w'; go_simp
    with_reducible rfl
  rotate_left
  · simp only [Act.put, sA_, sZ_, sS_, i64_w, i32_w]
    rfl
  refine pure2_ (i := 22) (N := some 84) (v := ?_) (a' := ?_) #[true, true, true, true, true, true, true, true, true, true, true, true, true, true, true, true, true, true, true, true, true, true, true, false] rfl rfl (take_ofW HT_.out HW_.out (by kernel_rfl)) (fun _ _ _ h => h) (Or.inl ⟨by rfl, ?_⟩) ?_ ?_; rotate_left
  · intro w'; go_simp
    with_reducible rfl
  rotate_left
  · simp only [Act.put, sA_, sZ_, sS_, i64_w, i32_w]
    rfl
  refine last2_ (i := 23) (N := none) #[true, true, true, true, true, true, true, true, true, true, true, true, true, true, true, true, true, true, true, true, true, true, true, true] rfl rfl (one_of HT_.out (by kernel_rfl)) (by decide) (fun K hK => ?_); have h1t : p < (t.now.length : Int) := by rw [TNA.out]; exact h1_
  obtain ⟨nc, nf⟩ := JB.out.cells (p) h0_ h1t; refine R_store_step kCel (w0 := w0) (W := wB) w0.heap.size (by rfl) (by rfl) 3 (.tmp 84) (.tmp 80) (by rfl) 101 (p) 1 t.now { (celAt t.now (p)) with f1 := (Go.bits .or .i64 (celAt s3.now (p)).f1 (bit1 b)) } (.int .i64 (Go.bits .or .i64 (celAt s3.now (p)).f1 (bit1 b))) [.int .i64 (Go.bits .or .i64 (celAt s3.now (p)).f1 (bit1 b))] [.int .i64 (celAt t.now (p)).f0, .int .i64 (celAt t.now (p)).f1, .int .i64 (celAt t.now (p)).f2, .int .i64 (celAt t.now (p)).f3, .int .i64 (celAt t.now (p)).f4] (fun k => some k ≠ uw) (fun _ => False) (by rfl) (by show (p).toNat * 5 + 1 = (p).toNat * 5 + 1; omega) (by rfl) rfl (by kernel_rfl) (by intro x hx; rw [List.mem_singleton] at hx; subst hx; rfl) JB.out.N h0_ h1t rfl nc (by show 1 + 1 ≤ 5; omega) (k101_mkM _ _ _ ({ (celAt t.now (p)) with f1 := (Go.bits .or .i64 (celAt s3.now (p)).f1 (bit1 b)) } : Cel)) (fun _ h => h.elim) BB.out ?_; intro w16 hR hB hg; obtain ⟨JC, KC⟩ := CeJ.put JB.out hR hg; obtain ⟨s4, hs4⟩ : ∃ s_, s_ = ceD2 t (p) (Go.bits .or .i64 (celAt s3.now (p)).f1 (bit1 b)) := ⟨_, rfl⟩; have J4 : CeJ w0.heap.size bn bo (some bk) uw gN cN gO cO s4 w16 := by rw [hs4]; exact JC
  have KU4 : Aside0 (∀ k, uw = some k → k < w.heap.size → w16.heap[k]? = w.heap[k]?) := ⟨fun k e h => (KC k e (Nat.lt_of_lt_of_le h HZB.out)).trans (KUB.out k e h)⟩; have HZ4 := am_ (Nat.le_trans HZB.out hg.size); have B4 := am_ hB; have HS4 : Aside0 (s4 = ceD s3 (b) (p)) := ⟨by rw [hs4, HT.out]; rfl⟩; have LL4 : Aside0 (s4.now.length = s3.now.length) := ⟨by rw [hs4]; exact List.length_set.trans TNA.out⟩; have hS0_ := cell_grown hg hS0 (fun e => JB.out.gN_ne.1 (by injection e)); clear hR hB hg KC JC nc nf h1t hs4; refine hK.out _ _ hS0_ ?_; clear hK K hS0_; refine done2_ (done_of HT_.out (by kernel_rfl)) ?_; clear J3 B3 KU3 HZ3 NC KUB HZB BB TNA HT JB N0_ N0b_ N1_ N1b_ hS0 hHeld h0_ h1_; try go_wp2
  have h0_ : 0 ≤ p + 2 := by have h1 := of_eq_true P0_; omega
  have h1_ : p + 2 < (s4.now.length : Int) := by rw [LL4.out]; exact HM3.out
  have hq2 : IntKind.i64.wrap (p + 2) = p + 2 := by
    rw [i64_w]; have h1 := CeJ.max J4; unfold maxLen at h1
    exact wrap64_small (by omega) (by omega)
  obtain ⟨nc, nf⟩ := J4.cells (p + 2) h0_ h1_; have z0 := nc 0 _ rfl; have z1 := nc 1 _ rfl; rw [Nat.add_zero] at z0; have cnz : w16.cell? ⟨bn, 0, none⟩ = some (.slice (some ⟨gN, 0, none⟩) s4.now.length cN) := (blk_cell J4.hn 0).trans rfl; have N1_ := eq_true h1_; have N1b_ : decide (p + 2 < (s4.now.length : Int)) = true := decide_eq_true h1_; have N0_ := eq_true h0_; have N0b_ : decide (0 ≤ p + 2) = true := decide_eq_true h0_; have NC := am_ (show ∀ (j : Nat) u, ([.int .i64 (celAt s4.now (p + 2)).f0, .int .i64 (celAt s4.now (p + 2)).f1, .int .i64 (celAt s4.now (p + 2)).f2, .int .i64 (celAt s4.now (p + 2)).f3, .int .i64 (celAt s4.now (p + 2)).f4] : List Value)[j]? = some u → w16.drew.cell? ⟨gN, (p + 2).toNat * 5 + j, none⟩ = some u from nc); have J4 := am_ J4.drew; replace B4 := bd_ B4; replace KU4 : Aside0 (∀ k, uw = some k → k < w.heap.size → w16.drew.heap[k]? = w.heap[k]?) := ⟨KU4.out⟩; replace HZ4 : Aside0 (w.heap.size ≤ w16.drew.heap.size) := ⟨HZ4.out⟩; clear nc nf; refine start2_ (n := 28) (S0 := fun w' => w'.cell? ⟨bn, 0, none⟩ = some (.slice (some ⟨gN, 0, none⟩) s4.now.length cN)) (S := fun w' => w'.cell? ⟨gN, (p + 2).toNat * 5, none⟩ = some (.int .i64 (celAt s4.now (p + 2)).f0) ∧ w'.cell? ⟨gN, (p + 2).toNat * 5 + 1, none⟩ = some (.int .i64 (celAt s4.now (p + 2)).f1)) (ds := [24, 27]) #[false, false, false, false, false, false, false, false, false, false, false, false, false, false, false, false, false, false, false, false, false, false, false, false, false, false, false, false] (by kernel_rfl) rfl rfl cnz ⟨z0, z1⟩ (fun hS0 hHeld => ?_); refine with_tab2 ce1.tab5 ce1.bits5 (fun HT_ HW_ => ?_); clear cnz z0 z1; generalize w16.drew = wA at J4 B4 KU4 NC HZ4 hS0 hHeld ⊢
  refine pure2_ (i := 1) (N := some 86) (v := ?_) (a' := ?_) #[false, true, false, false, false, false, false, false, false, false, false, false, false, false, false, false, false, false, false, false, false, false, false, false, false, false, false, false] rfl rfl (take_ofW HT_.out HW_.out (by kernel_rfl)) (fun _ _ _ h => h) (Or.inl ⟨by rfl, ?_⟩) ?_ ?_; rotate_left
  · intro w'; go_simp
    with_reducible rfl
  rotate_left
  · simp only [Act.put, sA_, sZ_, sS_, i64_w, i32_w]
    rfl
  refine pure2_ (i := 2) (N := some 87) (v := ?_) (a' := ?_) #[false, true, true, false, false, false, false, false, false, false, false, false, false, false, false, false, false, false, false, false, false, false, false, false, false, false, false, false] rfl rfl (take_ofW HT_.out HW_.out (by kernel_rfl)) (fun _ _ _ h => h) (Or.inl ⟨by rfl, ?_⟩) ?_ ?_; rotate_left
  · intro w'; go_simp
    with_reducible rfl
  rotate_left
  · simp only [Act.put, sA_, sZ_, sS_, i64_w, i32_w]
    rfl
  refine pure2_ (i := 4) (N := some 89) (v := ?_) (a' := ?_) #[false, true, true, false, true, false, false, false, false, false, false, false, false, false, false, false, false, false, false, false, false, false, false, false, false, false, false, false] rfl rfl (take_ofW HT_.out HW_.out (by kernel_rfl)) (fun _ _ _ h => h) (Or.inl ⟨by rfl, ?_⟩) ?_ ?_; rotate_left
  · intro w'; go_simp
    with_reducible rfl
  rotate_left
  · simp only [Act.put, sA_, sZ_, sS_, i64_w, i32_w]
    rfl
  refine pure2_ (i := 5) (N := some 90) (v := ?_) (a' := ?_) #[false, true, true, false, true, true, false, false, false, false, false, false, false, false, false, false, false, false, false, false, false, false, false, false, false, false, false, false] rfl rfl (take_ofW HT_.out HW_.out (by kernel_rfl)) (fun _ _ _ h => h) (Or.inl ⟨by rfl, ?_⟩) ?_ ?_; rotate_left
  · intro w'; go_simp
    with_reducible rfl
  rotate_left
  · simp only [Act.put, sA_, sZ_, sS_, i64_w, i32_w]
    rfl
  refine pure2_ (i := 7) (N := some 92) (v := ?_) (a' := ?_) #[false, true, true, false, true, true, false, true, false, false, false, false, false, false, false, false, false, false, false, false, false, false, false, false, false, false, false, false] rfl rfl (take_ofW HT_.out HW_.out (by kernel_rfl)) (fun _ _ _ h => h) (Or.inl ⟨by rfl, ?_⟩) ?_ ?_; rotate_left
  · intro w'; go_simp
    with_reducible rfl
  rotate_left
  · simp only [Act.put, sA_, sZ_, sS_, i64_w, i32_w]
    rfl
  refine pure2_ (i := 8) (N := some 93) (v := ?_) (a' := ?_) #[false, true, true, false, true, true, false, true, true, false, false, false, false, false, false, false, false, false, false, false, false, false, false, false, false, false, false, false] rfl rfl (take_ofW HT_.out HW_.out (by kernel_rfl)) (fun _ _ _ h => h) (Or.inl ⟨by rfl, ?_⟩) ?_ ?_; rotate_left
  · intro w'; go_simp
    with_reducible rfl
  rotate_left
  · simp only [Act.put, sA_, sZ_, sS_, i64_w, i32_w]
    rfl
  refine pure2_ (i := 14) (N := some 99) (v := ?_) (a' := ?_) #[false, true, true, false, true, true, false, true, true, false, false, false, false, false, true, false, false, false, false, false, false, false, false, false, false, false, false, false] rfl rfl (take_ofW HT_.out HW_.out (by kernel_rfl)) (fun _ _ _ h => h) (Or.inl ⟨by rfl, ?_⟩) ?_ ?_; rotate_left
  · intro w'; go_simp
    with_reducible rfl
  rotate_left
  · simp only [Act.put, sA_, sZ_, sS_, i64_w, i32_w]
    rfl
  refine pure2_ (i := 15) (N := some 100) (v := ?_) (a' := ?_) #[false, true, true, false, true, true, false, true, true, false, false, false, false, false, true, true, false, false, false, false, false, false, false, false, false, false, false, false] rfl rfl (take_ofW HT_.out HW_.out (by kernel_rfl)) (fun _ _ _ h => h) (Or.inl ⟨by rfl, ?_⟩) ?_ ?_; rotate_left
  · intro w'; go_simp
    with_reducible rfl
  rotate_left
  · simp only [Act.put, sA_, sZ_, sS_, i64_w, i32_w]
    rfl
  refine pure2_ (i := 19) (N := some 104) (v := ?_) (a' := ?_) #[false, true, true, false, true, true, false, true, true, false, false, false, false, false, true, true, false, false, false, true, false, false, false, false, false, false, false, false] rfl rfl (take_ofW HT_.out HW_.out (by kernel_rfl)) (fun _ _ _ h => h) (Or.inl ⟨by rfl, ?_⟩) ?_ ?_; rotate_left
  · intro w'; go_simp
    with_reducible rfl
  rotate_left
  · simp only [Act.put, sA_, sZ_, sS_, i64_w, i32_w]
    rfl
  refine pure2_ (i := 20) (N := some 105) (v := ?_) (a' := ?_) #[false, true, true, false, true, true, false, true, true, false, false, false, false, false, true, true, false, false, false, true, true, false, false, false, false, false, false, false] rfl rfl (take_ofW HT_.out HW_.out (by kernel_rfl)) (fun _ _ _ h => h) (Or.inl ⟨by rfl, ?_⟩) ?_ ?_; rotate_left
  · intro w'; go_simp
    with_reducible rfl
  rotate_left
  · simp only [Act.put, sA_, sZ_, sS_, i64_w, i32_w]
    rfl
  refine takeA_ (i := 0) (N := some 85) (v := ?_) (a' := ?_) #[true, true, true, false, true, true, false, true, true, false, false, false, false, false, true, true, false, false, false, true, true, false, false, false, false, false, false, false] rfl rfl (take_ofW HT_.out HW_.out (by kernel_rfl)) (fun _ _ _ h => h) (Or.inl ⟨by rfl, ?_⟩) hS0 ?_ ?_; rotate_left
  · intro w' s0; go_simp
    with_reducible rfl
  rotate_left
  · simp only [Act.put, sA_, sZ_, sS_, i64_w, i32_w]
    rfl
  refine takeA_ (i := 3) (N := some 88) (v := ?_) (a' := ?_) #[true, true, true, true, true, true, false, true, true, false, false, false, false, false, true, true, false, false, false, true, true, false, false, false, false, false, false, false] rfl rfl (take_ofW HT_.out HW_.out (by kernel_rfl)) (fun _ _ _ h => h) (Or.inl ⟨by rfl, ?_⟩) hS0 ?_ ?_; rotate_left
  · intro w' s0; go_simp
    with_reducible rfl
  rotate_left
  · simp only [Act.put, sA_, sZ_, sS_, i64_w, i32_w]
    rfl
  refine takeA_ (i := 6) (N := some 91) (v := ?_) (a' := ?_) #[true, true, true, true, true, true, true, true, true, false, false, false, false, false, true, true, false, false, false, true, true, false, false, false, false, false, false, false] rfl rfl (take_ofW HT_.out HW_.out (by kernel_rfl)) (fun _ _ _ h => h) (Or.inl ⟨by rfl, ?_⟩) hS0 ?_ ?_; rotate_left
  · intro w' s0; go_simp
    with_reducible rfl
  rotate_left
  · simp only [Act.put, sA_, sZ_, sS_, i64_w, i32_w]
    rfl
  refine takeA_ (i := 13) (N := some 98) (v := ?_) (a' := ?_) #[true, true, true, true, true, true, true, true, true, false, false, false, false, true, true, true, false, false, false, true, true, false, false, false, false, false, false, false] rfl rfl (take_ofW HT_.out HW_.out (by kernel_rfl)) (fun _ _ _ h => h) (Or.inl ⟨by rfl, ?_⟩) hS0 ?_ ?_; rotate_left
  · intro w' s0; go_simp
    with_reducible rfl
  rotate_left
  · simp only [Act.put, sA_, sZ_, sS_, i64_w, i32_w]
    rfl
  refine pure2_ (i := 9) (N := some 94) (v := ?_) (a' := ?_) #[true, true, true, true, true, true, true, true, true, true, false, false, false, true, true, true, false, false, false, true, true, false, false, false, false, false, false, false] rfl rfl (take_ofW HT_.out HW_.out (by kernel_rfl)) (fun _ _ _ h => h) (Or.inl ⟨by rfl, ?_⟩) ?_ ?_; rotate_left
  · intro w'; go_simp
    with_reducible rfl
  rotate_left
  · simp only [Act.put, sA_, sZ_, sS_, i64_w, i32_w]
    rfl
  refine pure2_ (i := 10) (N := some 95) (v := ?_) (a' := ?_) #[true, true, true, true, true, true, true, true, true, true, true, false, false, true, true, true, false, false, false, true, true, false, false, false, false, false, false, false] rfl rfl (take_ofW HT_.out HW_.out (by kernel_rfl)) (fun _ _ _ h => h) (Or.inl ⟨by rfl, ?_⟩) ?_ ?_; rotate_left
  · intro w'; go_simp
    with_reducible rfl
  rotate_left
  · simp only [Act.put, sA_, sZ_, sS_, i64_w, i32_w]
    rfl
  refine pure2_ (i := 16) (N := some 101) (v := ?_) (a' := ?_) #[true, true, true, true, true, true, true, true, true, true, true, false, false, true, true, true, true, false, false, true, true, false, false, false, false, false, false, false] rfl rfl (take_ofW HT_.out HW_.out (by kernel_rfl)) (fun _ _ _ h => h) (Or.inl ⟨by rfl, ?_⟩) ?_ ?_; rotate_left
  · intro w'; go_simp
    with_reducible rfl
  rotate_left
  · simp only [Act.put, sA_, sZ_, sS_, i64_w, i32_w]
    rfl
  refine pure2_ (i := 17) (N := some 102) (v := ?_) (a' := ?_) #[true, true, true, true, true, true, true, true, true, true, true, false, false, true, true, true, true, true, false, true, true, false, false, false, false, false, false, false] rfl rfl (take_ofW HT_.out HW_.out (by kernel_rfl)) (fun _ _ _ h => h) (Or.inl ⟨by rfl, ?_⟩) ?_ ?_; rotate_left
  · intro w'; go_simp
    with_reducible rfl
  rotate_left
  · simp only [Act.put, sA_, sZ_, sS_, i64_w, i32_w]
    rfl
  refine takeE_ (i := 11) (N := some 96) (v := ?_) (a' := ?_) #[true, true, true, true, true, true, true, true, true, true, true, true, false, true, true, true, true, true, false, true, true, false, false, false, false, false, false, false] rfl rfl (take_ofW HT_.out HW_.out (by kernel_rfl)) (fun _ _ _ h => h) (Or.inl ⟨by rfl, ?_⟩) hHeld ?_ ?_; rotate_left
  · rintro w' ⟨s0, s1⟩; go_simp
    with_reducible rfl
  rotate_left
  · simp only [Act.put, sA_, sZ_, sS_, i64_w, i32_w]
    rfl
  refine takeE_ (i := 18) (N := some 103) (v := ?_) (a' := ?_) #[true, true, true, true, true, true, true, true, true, true, true, true, false, true, true, true, true, true, true, true, true, false, false, false, false, false, false, false] rfl rfl (take_ofW HT_.out HW_.out (by kernel_rfl)) (fun _ _ _ h => h) (Or.inl ⟨by rfl, ?_⟩) hHeld ?_ ?_; rotate_left
  · rintro w' ⟨s0, s1⟩; go_simp
    with_reducible rfl
  rotate_left
  · simp only [Act.put, sA_, sZ_, sS_, i64_w, i32_w]
    rfl
  refine pure2_ (i := 12) (N := some 97) (v := ?_) (a' := ?_) #[true, true, true, true, true, true, true, true, true, true, true, true, true, true, true, true, true, true, true, true, true, false, false, false, false, false, false, false] rfl rfl (take_ofW HT_.out HW_.out (by kernel_rfl)) (fun _ _ _ h => h) (Or.inl ⟨by rfl, ?_⟩) ?_ ?_; rotate_left
  · intro w'; go_simp
    with_reducible rfl
  rotate_left
  · simp only [Act.put, sA_, sZ_, sS_, i64_w, i32_w]
    rfl
  refine pure2_ (i := 21) (N := some 106) (v := ?_) (a' := ?_) #[true, true, true, true, true, true, true, true, true, true, true, true, true, true, true, true, true, true, true, true, true, true, false, false, false, false, false, false] rfl rfl (take_ofW HT_.out HW_.out (by kernel_rfl)) (fun _ _ _ h => h) (Or.inl ⟨by rfl, ?_⟩) ?_ ?_; rotate_left
  · intro w'; go_simp
    with_reducible rfl
  rotate_left
  · simp only [Act.put, sA_, sZ_, sS_, i64_w, i32_w]
    rfl
  refine pure2_ (i := 22) (N := some 107) (v := ?_) (a' := ?_) #[true, true, true, true, true, true, true, true, true, true, true, true, true, true, true, true, true, true, true, true, true, true, true, false, false, false, false, false] rfl rfl (take_ofW HT_.out HW_.out (by kernel_rfl)) (fun _ _ _ h => h) (Or.inl ⟨by rfl, ?_⟩) ?_ ?_; rotate_left
  · intro w'; go_simp
    with_reducible rfl
  rotate_left
  · simp only [Act.put, sA_, sZ_, sS_, i64_w, i32_w]
    rfl
  refine pure2_ (i := 23) (N := some 108) (v := ?_) (a' := ?_) #[true, true, true, true, true, true, true, true, true, true, true, true, true, true, true, true, true, true, true, true, true, true, true, true, false, false, false, false] rfl rfl (take_ofW HT_.out HW_.out (by kernel_rfl)) (fun _ _ _ h => h) (Or.inl ⟨by rfl, ?_⟩) ?_ ?_; rotate_left
  · intro w'; go_simp
    with_reducible rfl
  rotate_left
  · simp only [Act.put, sA_, sZ_, sS_, i64_w, i32_w]
    rfl
  refine last2_ (i := 24) (N := none) #[true, true, true, true, true, true, true, true, true, true, true, true, true, true, true, true, true, true, true, true, true, true, true, true, true, false, false, false] rfl rfl (one_of HT_.out (by kernel_rfl)) (by decide) (fun K hK => ?_); refine R_store_step kCel (w0 := w0) (W := wA) w0.heap.size (by rfl) (by rfl) 3 (.tmp 108) (.tmp 97) (by rfl) 101 (p + 2) 0 s4.now { (celAt s4.now (p + 2)) with f0 := wrap64 ((celAt s4.now (p + 2)).f0 + 1) } (.int .i64 (wrap64 ((celAt s4.now (p + 2)).f0 + 1))) [.int .i64 (wrap64 ((celAt s4.now (p + 2)).f0 + 1))] [.int .i64 (celAt s4.now (p + 2)).f0, .int .i64 (celAt s4.now (p + 2)).f1, .int .i64 (celAt s4.now (p + 2)).f2, .int .i64 (celAt s4.now (p + 2)).f3, .int .i64 (celAt s4.now (p + 2)).f4] (fun k => some k ≠ uw) (fun _ => False) (by rfl) (by show (p + 2).toNat * 5 = (p + 2).toNat * 5 + 0; omega) (by rfl) rfl (by kernel_rfl) (by intro x hx; rw [List.mem_singleton] at hx; subst hx; rfl) J4.out.N h0_ h1_ rfl NC.out (by show 0 + 1 ≤ 5; omega) (k101_mkM _ _ _ ({ (celAt s4.now (p + 2)) with f0 := wrap64 ((celAt s4.now (p + 2)).f0 + 1) } : Cel)) (fun _ h => h.elim) B4.out ?_; intro wB hR hB hg; have JJ := CeJ.put J4.out hR hg; obtain ⟨JB, KB⟩ := JJ; obtain ⟨t, ht⟩ : ∃ t, t = ceD1 s4 (p + 2) := ⟨_, rfl⟩; replace JB : CeJ w0.heap.size bn bo (some bk) uw gN cN gO cO t wB := by rw [ht]; exact JB
  have KUB : Aside0 (∀ k, uw = some k → k < w.heap.size → wB.heap[k]? = w.heap[k]?) := ⟨fun k e h => (KB k e (Nat.lt_of_lt_of_le h HZ4.out)).trans (KU4.out k e h)⟩; have HZB := am_ (Nat.le_trans HZ4.out hg.size); have BB := am_ hB; have TN : t.now.length = s4.now.length := by rw [ht]; exact List.length_set
  have hS0_ := cell_grown hg hS0 (fun e => J4.out.gN_ne.1 (by injection e)); have TNA := am_ TN; have HT := am_ ht; have JB := am_ JB; clear hR hB hg KB TN ht; refine hK.out _ _ hS0_ ?_; clear hK K hS0; have hS0 := hS0_; clear hS0_; refine pure2_ (i := 25) (N := some 109) (v := ?_) (a' := ?_) #[true, true, true, true, true, true, true, true, true, true, true, true, true, true, true, true, true, true, true, true, true, true, true, true, true, true, false, false] rfl rfl (take_ofW HT_.out HW_.out (by kernel_rfl)) (fun _ _ _ h => h) (Or.inl ⟨by rfl, ?_⟩) ?_ ?_; rotate_left
  · intro w'; go_simp
    with_reducible rfl
  rotate_left
  · simp only [Act.put, sA_, sZ_, sS_, i64_w, i32_w]
    rfl
  refine pure2_ (i := 26) (N := some 110) (v := ?_) (a' := ?_) #[true, true, true, true, true, true, true, true, true, true, true, true, true, true, true, true, true, true, true, true, true, true, true, true, true, true, true, false] rfl rfl (take_ofW HT_.out HW_.out (by kernel_rfl)) (fun _ _ _ h => h) (Or.inl ⟨by rfl, ?_⟩) ?_ ?_; rotate_left
  · intro w'; go_simp
    with_reducible rfl
  rotate_left
  · simp only [Act.put, sA_, sZ_, sS_, i64_w, i32_w]
    rfl
  refine last2_ (i := 27) (N := none) #[true, true, true, true, true, true, true, true, true, true, true, true, true, true, true, true, true, true, true, true, true, true, true, true, true, true, true, true] rfl rfl (one_of HT_.out (by kernel_rfl)) (by decide) (fun K hK => ?_); have h1t : p + 2 < (t.now.length : Int) := by rw [TNA.out]; exact h1_
  obtain ⟨nc, nf⟩ := JB.out.cells (p + 2) h0_ h1t; refine R_store_step kCel (w0 := w0) (W := wB) w0.heap.size (by rfl) (by rfl) 3 (.tmp 110) (.tmp 106) (by rfl) 101 (p + 2) 1 t.now { (celAt t.now (p + 2)) with f1 := (Go.bits .or .i64 (celAt s4.now (p + 2)).f1 (bit1 a)) } (.int .i64 (Go.bits .or .i64 (celAt s4.now (p + 2)).f1 (bit1 a))) [.int .i64 (Go.bits .or .i64 (celAt s4.now (p + 2)).f1 (bit1 a))] [.int .i64 (celAt t.now (p + 2)).f0, .int .i64 (celAt t.now (p + 2)).f1, .int .i64 (celAt t.now (p + 2)).f2, .int .i64 (celAt t.now (p + 2)).f3, .int .i64 (celAt t.now (p + 2)).f4] (fun k => some k ≠ uw) (fun _ => False) (by rfl) (by show (p + 2).toNat * 5 + 1 = (p + 2).toNat * 5 + 1; omega) (by rfl) rfl (by kernel_rfl) (by intro x hx; rw [List.mem_singleton] at hx; subst hx; rfl) JB.out.N h0_ h1t rfl nc (by show 1 + 1 ≤ 5; omega) (k101_mkM _ _ _ ({ (celAt t.now (p + 2)) with f1 := (Go.bits .or .i64 (celAt s4.now (p + 2)).f1 (bit1 a)) } : Cel)) (fun _ h => h.elim) BB.out ?_; intro w17 hR hB hg; obtain ⟨JC, KC⟩ := CeJ.put JB.out hR hg; obtain ⟨s5, hs5⟩ : ∃ s_, s_ = ceD2 t (p + 2) (Go.bits .or .i64 (celAt s4.now (p + 2)).f1 (bit1 a)) := ⟨_, rfl⟩; have J5 : CeJ w0.heap.size bn bo (some bk) uw gN cN gO cO s5 w17 := by rw [hs5]; exact JC
  have KU5 : Aside0 (∀ k, uw = some k → k < w.heap.size → w17.heap[k]? = w.heap[k]?) := ⟨fun k e h => (KC k e (Nat.lt_of_lt_of_le h HZB.out)).trans (KUB.out k e h)⟩; have HZ5 := am_ (Nat.le_trans HZB.out hg.size); have B5 := am_ hB; have HS5 : Aside0 (s5 = ceD s4 (a) (p + 2)) := ⟨by rw [hs5, HT.out]; rfl⟩; have LL5 : Aside0 (s5.now.length = s4.now.length) := ⟨by rw [hs5]; exact List.length_set.trans TNA.out⟩; have hS0_ := cell_grown hg hS0 (fun e => JB.out.gN_ne.1 (by injection e)); clear hR hB hg KC JC nc nf h1t hs5; refine hK.out _ _ hS0_ ?_; clear hK K hS0_; refine done2_ (done_of HT_.out (by kernel_rfl)) ?_; clear J4 B4 KU4 HZ4 NC KUB HZB BB TNA HT JB N0_ N0b_ N1_ N1b_ hS0 hHeld h0_ h1_; have ck5 : w17.cell? ⟨bk, 0, none⟩ = some (.int .i64 s5.cnt) := (blk_cell (J5.hk bk rfl) 0).trans rfl; have fk5 := blk_frozen (J5.hk bk rfl) 0; try go_wp2
  first | go_end0 | ((try simp only [Exit.inBlock, Exit.then]); refine bodyPost_ret (results_none rfl _ _ _) rfl ?_)
  obtain ⟨J6, K6⟩ := CeJ.count J5 (wrap64 (s5.cnt + 1)); refine ⟨by first | rfl | (simp; done), ⟨gN, cN, gO, cO, ?_⟩, below_set B5.out (J5.bk_ bk rfl), fun k e => (K6 k e).trans (KU5.out k e (HU.out k e).1)⟩; have e5 : ceStep s a b p = { s5 with cnt := wrap64 (s5.cnt + 1) } := by
    unfold ceStep
    rw [← HQ.out.1, ← HS1.out, ← HS2.out, ← HS3.out, ← HS4.out, ← HS5.out]
  rw [e5]; exact J6
end Go.Proofs.Ytoajlmlobaccdaa.P
namespace Go.Proofs.Ytoajlmlobaccdaa.P
open Go.RowKit Go.Proofs.YtoajlmlobaccdaaW.PrintWords Go.Proofs.YtoajlmlobaccdaaW.PrintLast Go.Proofs.YtoajlmlobaccdaaW.PrintMore
attribute [local go_sem] ptrOf_slice
attribute [local go_sem] min2_str max2_int min2_int max_two min_two max_three min_three max_four min_four
set_option linter.unusedVariables false
set_option linter.unusedSimpArgs false
def impl_run_ce.l0 : Nat → Int → List Int → CeS → List Int → Int → Int → Option (Bool × CeS)
  | 0, _, _, _, _, _, _ => none
  | k + 1, x0, x7, xs, x12, x13, x14 => if x14 < x13 then (if 0 ≤ x14 then (if x14 < (x12.length : Int) then (if (rd x12 x14) < 0 then (some (false, xs)) else (if (rd x12 x14) > (wrap64 (x0 - 2)) then (some (false, xs)) else (if 0 ≤ (rd x12 x14) then (if (rd x12 x14) < (x7.length : Int) then (if 0 ≤ (wrap64 ((rd x12 x14) + 1)) then (if (wrap64 ((rd x12 x14) + 1)) < (x7.length : Int) then (if (rd x7 (rd x12 x14)) > (rd x7 (wrap64 ((rd x12 x14) + 1))) then (some (false, xs)) else (if ceOk xs (rd x7 (rd x12 x14)) (rd x7 (wrap64 ((rd x12 x14) + 1))) (rd x12 x14) then (impl_run_ce.l0 k x0 ((x7.set ((rd x12 x14) : Int).toNat (rd x7 (wrap64 ((rd x12 x14) + 1)))).set ((wrap64 ((rd x12 x14) + 1)) : Int).toNat (rd x7 (rd x12 x14))) (ceStep xs (rd x7 (rd x12 x14)) (rd x7 (wrap64 ((rd x12 x14) + 1))) (rd x12 x14)) x12 x13 (wrap64 (x14 + 1))) else none)) else (none)) else (none)) else (none)) else (none)))) else (none)) else (none)) else (some (true, xs))
def impl_run_ce.f (k : Nat) (a0 : Int) (l1 : List Int) (xs : CeS) : Option (Bool × CeS) := (impl_upTo.f k a0).bind fun t0 => (impl_run_ce.l0 k a0 t0 xs l1 (l1.length : Int) 0)
theorem impl_run_ce.mono_l : ∀ k y0 y1 y2 y3 y4 y5, LeO (impl_run_ce.l0 k y0 y1 y2 y3 y4 y5) (impl_run_ce.l0 (k + 1) y0 y1 y2 y3 y4 y5)
  | 0 => fun _ _ _ _ _ _ r h => by simp [impl_run_ce.l0] at h
  | k + 1 => by
    have ih0 := impl_run_ce.mono_l k; intro y0 y1 y2 y3 y4 y5; unfold impl_run_ce.l0
    repeat' first | (with_reducible first | apply ih0 | exact LeO.refl _ | exact LeO.none _ | refine LeO.ite ?_ ?_ | refine LeO.bind ?_ (fun _ => ?_))
theorem impl_run_ce.mono : ∀ a0 a1 a2 k, LeO (impl_run_ce.f k a0 a1 a2) (impl_run_ce.f (k + 1) a0 a1 a2) := fun a0 a1 a2 k => LeO.bind (impl_upTo.mono _ _) (fun _ => impl_run_ce.mono_l _ _ _ _ _ _ _)
def impl_run_ce.T5 : Bool × List (List Nat × List Nat) := (true, [([], []), ([0], [0]), ([1], [1]), ([2], [2]), ([2], [2]), ([4, 2], [2, 4]), ([3, 5, 2], [2, 3, 5]), ([2, 6], [2, 6]), ([7, 2], [7]), ([8], [8]), ([8], [8]), ([9, 10, 8], [8, 9, 10]), ([11, 8], [8, 11]), ([8], [8]), ([8], [8]), ([14, 8], [8, 14]), ([13, 15, 8], [8, 13, 15]), ([16, 8], [8, 16]), ([12, 17, 8], [8, 12, 17]), ([8, 18], [8, 18])])
def impl_run_ce.B5 : List Nat := [0, 1, 3, 7, 7, 23, 63, 127, 255, 511, 511, 2047, 4095, 511, 511, 16895, 57855, 123391, 262143, 524287]
theorem impl_run_ce.tab5 : rtab .any (opsOf Try.f113 5) = impl_run_ce.T5 := by kernel_rfl
theorem impl_run_ce.bits5 : waitsOk impl_run_ce.T5.2 impl_run_ce.B5 = true := by kernel_rfl
def impl_run_ce.T8 : Bool × List (List Nat × List Nat) := (true, [([], []), ([], []), ([], []), ([], []), ([3], [3]), ([], []), ([], []), ([6], [6]), ([5, 7], [5, 7]), ([8], [8]), ([], []), ([], []), ([10, 11], [10, 11]), ([12], [12]), ([0, 1, 0, 1, 5, 6, 7, 8, 9, 13], [0, 1]), ([14, 9, 0, 1, 5, 6, 7, 8, 9, 13], [9, 14]), ([2, 4, 0, 1, 2, 3, 4, 5, 6, 7, 8, 9, 10, 11, 12, 13, 14, 15], [2, 4]), ([16, 13, 15, 0, 1, 2, 3, 4, 5, 6, 7, 8, 9, 10, 11, 12, 13, 14, 15], [13, 16])])
def impl_run_ce.B8 : List Nat := [0, 0, 0, 0, 8, 0, 0, 64, 224, 480, 0, 0, 3072, 7168, 16355, 32739, 65535, 131071]
theorem impl_run_ce.tab8 : rtab .any (opsOf Try.f113 8) = impl_run_ce.T8 := by kernel_rfl
theorem impl_run_ce.bits8 : waitsOk impl_run_ce.T8.2 impl_run_ce.B8 = true := by kernel_rfl
set_option maxHeartbeats 8000000 in
set_option maxRecDepth 100000 in
theorem impl_run_ce.calls (k : Nat) (a0 : Int) (A1 : Option Addr) (c1 : Nat) (l1 : List Int) (xs0 : CeS) (bn bo bk : Nat) (r : Bool) (xr : CeS) (w0 w : World) (hB : Below w0.heap.size w0 w) (hr1 : Kd.C (Kd.int .i64) w0 A1 l1.length l1) (hc1 : l1.length ≤ c1) (hI : ∀ (uw : Option Nat) (w' : World), Below w.heap.size w w' → (∀ k, uw = some k → w.heap.size ≤ k) → CeI w0.heap.size bn bo bk uw xs0 w') (h : impl_run_ce.f k a0 l1 xs0 = some (r, xr)) :
    Calls Try.prog 113 #[.int .i64 a0, .slice A1 l1.length c1, .func (.func 165) #[] #[.pointer (some ⟨bk, 0, none⟩), .pointer (some ⟨bn, 0, none⟩), .pointer (some ⟨bo, 0, none⟩)]] w fun e w' => e = .returned (.bool r) ∧ (∃ uw, CeI w0.heap.size bn bo bk uw xr w') ∧ Below w0.heap.size w0 w' := by
  have HR1 := am_ hr1; have HC1 := am_ hc1; clear hr1 hc1; have HB := am_ hB; have H : ((impl_upTo.f k a0).bind fun t777 => (impl_run_ce.l0 k a0 t777 xs0 l1 (l1.length : Int) 0)) = some (r, xr) := h; clear h; obtain ⟨t777, A4, H⟩ := bnd_ H; have H' := am_ H; clear H; go_enter Try.func113, Try.ntmps113
  go_wp2_with (first | ((with_reducible refine gc_ 168 rfl ?_); refine gR_ (some 11) Try.func168 #[.int .i64 a0] (impl_upTo.calls k a0 t777 _ A4.out) ?_; intro w5 v778 ho0 hb; have n0_ := am_ (Kd.R_lower ho0 (below_size (bx0 HB.out))); have n1_ := am_ (below_step (bx0 HB.out) hb); have HI := am_ (hI v778.ownBlock _ hb (fun k e => Kd.R_base ho0 k e)); clear HB; have HO779 := n0_; have HB := n1_; clear n0_ n1_; try clear hb; (try clear ho0)))
  go_loopg [14] k (fun kq v14 w' => ∃ (x7_1 : List Int) (xs_1 : CeS) (x14_1 : Int), v14 = .int .i64 x14_1 ∧ Aside0 (impl_run_ce.l0 kq a0 x7_1 xs_1 l1 (l1.length : Int) x14_1 = some (r, xr)) ∧ Aside0 (kq ≤ k) ∧ Aside0 (Kd.R (Kd.int .i64) 3 w' w0.heap.size (fun _ => True) v778 x7_1) ∧ Aside0 (Below w0.heap.size w0 w') ∧ Aside0 (CeI w0.heap.size bn bo bk (v778 : Value).ownBlock xs_1 w'))
  case atStart => exact ⟨(t777), xs0, (0), vt_, H', ⟨Nat.le_refl _⟩, rX_ HO779, bX0_ HB, HI⟩
  case round =>
    clear H'; obtain ⟨x7_1, xs_1, x14_1, rfl, HA, HK1, HO_7, HB, HI⟩ := hrel; cases gk with
    | zero => exact absurd HA.out (by simp [impl_run_ce.l0])
    | succ k1 =>
      have H := HA.out; clear HA; simp only [impl_run_ce.l0] at H
      by_cases c6 : x14_1 < (l1.length : Int)
      · rw [if_pos c6] at H; have c6b0 := decide_eq_true c6; clear c6; by_cases c7 : 0 ≤ x14_1
        · rw [if_pos c7] at H; have c7b0 := decide_eq_true c7; clear c7; by_cases c8 : x14_1 < (l1.length : Int)
          · rw [if_pos c8] at H; have c8b0 := decide_eq_true c8; clear c8; by_cases c9 : (rd l1 x14_1) < 0
            · rw [if_pos c9] at H; have c9b0 := decide_eq_true c9; clear c9; obtain ⟨rfl, rfl⟩ := Prod.mk.inj (Option.some.inj H); have p780 : 0 ≤ (x14_1 : Int) := oda_; have q780 : x14_1 < (l1.length : Int) := oda_; obtain ⟨ad780, e780, hx780_0⟩ := Kd.at_int HR1.out x14_1 p780 q780; cases e780; replace hx780_0 := (HB.out.cell (World.block_lt_of_cell? w0 _ hx780_0)).trans hx780_0; replace p780 := eq_true p780; replace q780 := eq_true q780; try go_wp2
              replace HO_7 := am_ (Kd.R_drew HO_7.out); replace HB := bd_ HB; replace HI := am_ (CeI_drew HI.out); refine start_ (n := 20) (S := fun w' => True) (ds := []) #[false, false, false, false, false, false, false, false, false, false, false, false, false, false, false, false, false, false, false, false] (by kernel_rfl) rfl rfl trivial (fun hHeld => ?_); refine with_tabW impl_run_ce.tab5 impl_run_ce.bits5 (fun HT_ HW_ => ?_); generalize wr.drew = w10 at HO_7 HB HI hHeld ⊢
              refine pD_ 0 (some 18) HT_ (h := ?_); refine pD_ 1 (some 19) HT_ (h := ?_); refine pD_ 2 (some 20) HT_ (h := ?_); refine pure_ (i := 3) (N := some 21) (v := undef) (a' := ?_) #[true, true, true, true, false, false, false, false, false, false, false, false, false, false, false, false, false, false, false, false] rfl rfl (any_of HT_.out (by kernel_rfl)) (fun _ _ _ h => h) (Or.inr ⟨by rfl, rfl⟩) ?_ ?_; rotate_left
              · simp only [Act.put, sA_, sZ_, sS_, i64_w, i32_w]
                rfl
              refine pure_ (i := 4) (N := some 22) (v := undef) (a' := ?_) #[true, true, true, true, true, false, false, false, false, false, false, false, false, false, false, false, false, false, false, false] rfl rfl (any_of HT_.out (by kernel_rfl)) (fun _ _ _ h => h) (Or.inr ⟨by rfl, rfl⟩) ?_ ?_; rotate_left
              · simp only [Act.put, sA_, sZ_, sS_, i64_w, i32_w]
                rfl
              refine pure_ (i := 5) (N := some 23) (v := undef) (a' := ?_) #[true, true, true, true, true, true, false, false, false, false, false, false, false, false, false, false, false, false, false, false] rfl rfl (any_of HT_.out (by kernel_rfl)) (fun _ _ _ h => h) (Or.inr ⟨by rfl, rfl⟩) ?_ ?_; rotate_left
              · simp only [Act.put, sA_, sZ_, sS_, i64_w, i32_w]
                rfl
              refine pure_ (i := 6) (N := some 24) (v := undef) (a' := ?_) #[true, true, true, true, true, true, true, false, false, false, false, false, false, false, false, false, false, false, false, false] rfl rfl (any_of HT_.out (by kernel_rfl)) (fun _ _ _ h => h) (Or.inr ⟨by rfl, rfl⟩) ?_ ?_; rotate_left
              · simp only [Act.put, sA_, sZ_, sS_, i64_w, i32_w]
                rfl
              refine pD_ 7 (some 25) HT_ (h := ?_); refine pD_ 8 (some 26) HT_ (h := ?_); refine pure_ (i := 9) (N := some 27) (v := undef) (a' := ?_) #[true, true, true, true, true, true, true, true, true, true, false, false, false, false, false, false, false, false, false, false] rfl rfl (any_of HT_.out (by kernel_rfl)) (fun _ _ _ h => h) (Or.inr ⟨by rfl, rfl⟩) ?_ ?_; rotate_left
              · simp only [Act.put, sA_, sZ_, sS_, i64_w, i32_w]
                rfl
              refine pure_ (i := 10) (N := some 28) (v := undef) (a' := ?_) #[true, true, true, true, true, true, true, true, true, true, true, false, false, false, false, false, false, false, false, false] rfl rfl (any_of HT_.out (by kernel_rfl)) (fun _ _ _ h => h) (Or.inr ⟨by rfl, rfl⟩) ?_ ?_; rotate_left
              · simp only [Act.put, sA_, sZ_, sS_, i64_w, i32_w]
                rfl
              refine pure_ (i := 11) (N := some 29) (v := undef) (a' := ?_) #[true, true, true, true, true, true, true, true, true, true, true, true, false, false, false, false, false, false, false, false] rfl rfl (any_of HT_.out (by kernel_rfl)) (fun _ _ _ h => h) (Or.inr ⟨by rfl, rfl⟩) ?_ ?_; rotate_left
              · simp only [Act.put, sA_, sZ_, sS_, i64_w, i32_w]
                rfl
              refine pure_ (i := 12) (N := some 30) (v := undef) (a' := ?_) #[true, true, true, true, true, true, true, true, true, true, true, true, true, false, false, false, false, false, false, false] rfl rfl (any_of HT_.out (by kernel_rfl)) (fun _ _ _ h => h) (Or.inr ⟨by rfl, rfl⟩) ?_ ?_; rotate_left
              · simp only [Act.put, sA_, sZ_, sS_, i64_w, i32_w]
                rfl
              refine pure_ (i := 13) (N := some 31) (v := undef) (a' := ?_) #[true, true, true, true, true, true, true, true, true, true, true, true, true, true, false, false, false, false, false, false] rfl rfl (any_of HT_.out (by kernel_rfl)) (fun _ _ _ h => h) (Or.inr ⟨by rfl, rfl⟩) ?_ ?_; rotate_left
              · simp only [Act.put, sA_, sZ_, sS_, i64_w, i32_w]
                rfl
              refine pure_ (i := 14) (N := some 32) (v := undef) (a' := ?_) #[true, true, true, true, true, true, true, true, true, true, true, true, true, true, true, false, false, false, false, false] rfl rfl (any_of HT_.out (by kernel_rfl)) (fun _ _ _ h => h) (Or.inr ⟨by rfl, rfl⟩) ?_ ?_; rotate_left
              · simp only [Act.put, sA_, sZ_, sS_, i64_w, i32_w]
                rfl
              refine pure_ (i := 15) (N := some 33) (v := undef) (a' := ?_) #[true, true, true, true, true, true, true, true, true, true, true, true, true, true, true, true, false, false, false, false] rfl rfl (any_of HT_.out (by kernel_rfl)) (fun _ _ _ h => h) (Or.inr ⟨by rfl, rfl⟩) ?_ ?_; rotate_left
              · simp only [Act.put, sA_, sZ_, sS_, i64_w, i32_w]
                rfl
              refine pure_ (i := 16) (N := some 34) (v := undef) (a' := ?_) #[true, true, true, true, true, true, true, true, true, true, true, true, true, true, true, true, true, false, false, false] rfl rfl (any_of HT_.out (by kernel_rfl)) (fun _ _ _ h => h) (Or.inr ⟨by rfl, rfl⟩) ?_ ?_; rotate_left
              · simp only [Act.put, sA_, sZ_, sS_, i64_w, i32_w]
                rfl
              refine pure_ (i := 17) (N := some 35) (v := undef) (a' := ?_) #[true, true, true, true, true, true, true, true, true, true, true, true, true, true, true, true, true, true, false, false] rfl rfl (any_of HT_.out (by kernel_rfl)) (fun _ _ _ h => h) (Or.inr ⟨by rfl, rfl⟩) ?_ ?_; rotate_left
              · simp only [Act.put, sA_, sZ_, sS_, i64_w, i32_w]
                rfl
              refine pure_ (i := 18) (N := some 36) (v := undef) (a' := ?_) #[true, true, true, true, true, true, true, true, true, true, true, true, true, true, true, true, true, true, true, false] rfl rfl (any_of HT_.out (by kernel_rfl)) (fun _ _ _ h => h) (Or.inr ⟨by rfl, rfl⟩) ?_ ?_; rotate_left
              · simp only [Act.put, sA_, sZ_, sS_, i64_w, i32_w]
                rfl
              refine pD_ 19 (some 37) HT_ (h := ?_); refine done_ (done_of HT_.out (by kernel_rfl)) ?_; try go_wp2
              go_ret; exact ⟨er_, ⟨_, HI.out⟩, bx0 HB.out⟩
            · rw [if_neg c9] at H; have c9b0 := decide_eq_false c9; clear c9; by_cases c11 : (rd l1 x14_1) > (wrap64 (a0 - 2))
              · rw [if_pos c11] at H; have c11b0 := decide_eq_true c11; clear c11; obtain ⟨rfl, rfl⟩ := Prod.mk.inj (Option.some.inj H); have p780 : 0 ≤ (x14_1 : Int) := oda_; have q780 : x14_1 < (l1.length : Int) := oda_; obtain ⟨ad780, e780, hx780_0⟩ := Kd.at_int HR1.out x14_1 p780 q780; cases e780; replace hx780_0 := (HB.out.cell (World.block_lt_of_cell? w0 _ hx780_0)).trans hx780_0; replace p780 := eq_true p780; replace q780 := eq_true q780; try go_wp2
                replace HO_7 := am_ (Kd.R_drew HO_7.out); replace HB := bd_ HB; replace HI := am_ (CeI_drew HI.out); refine start_ (n := 20) (S := fun w' => True) (ds := []) #[false, false, false, false, false, false, false, false, false, false, false, false, false, false, false, false, false, false, false, false] (by kernel_rfl) rfl rfl trivial (fun hHeld => ?_); refine with_tabW impl_run_ce.tab5 impl_run_ce.bits5 (fun HT_ HW_ => ?_); generalize wr.drew = w12 at HO_7 HB HI hHeld ⊢
                refine pD_ 0 (some 18) HT_ (h := ?_); refine pD_ 1 (some 19) HT_ (h := ?_); refine pD_ 2 (some 20) HT_ (h := ?_); refine pD_ 3 (some 21) HT_ (h := ?_); refine pD_ 4 (some 22) HT_ (h := ?_); refine pD_ 5 (some 23) HT_ (h := ?_); refine pD_ 6 (some 24) HT_ (h := ?_); refine pD_ 7 (some 25) HT_ (h := ?_); refine pD_ 8 (some 26) HT_ (h := ?_); refine pure_ (i := 9) (N := some 27) (v := undef) (a' := ?_) #[true, true, true, true, true, true, true, true, true, true, false, false, false, false, false, false, false, false, false, false] rfl rfl (any_of HT_.out (by kernel_rfl)) (fun _ _ _ h => h) (Or.inr ⟨by rfl, rfl⟩) ?_ ?_; rotate_left
                · simp only [Act.put, sA_, sZ_, sS_, i64_w, i32_w]
                  rfl
                refine pure_ (i := 10) (N := some 28) (v := undef) (a' := ?_) #[true, true, true, true, true, true, true, true, true, true, true, false, false, false, false, false, false, false, false, false] rfl rfl (any_of HT_.out (by kernel_rfl)) (fun _ _ _ h => h) (Or.inr ⟨by rfl, rfl⟩) ?_ ?_; rotate_left
                · simp only [Act.put, sA_, sZ_, sS_, i64_w, i32_w]
                  rfl
                refine pure_ (i := 11) (N := some 29) (v := undef) (a' := ?_) #[true, true, true, true, true, true, true, true, true, true, true, true, false, false, false, false, false, false, false, false] rfl rfl (any_of HT_.out (by kernel_rfl)) (fun _ _ _ h => h) (Or.inr ⟨by rfl, rfl⟩) ?_ ?_; rotate_left
                · simp only [Act.put, sA_, sZ_, sS_, i64_w, i32_w]
                  rfl
                refine pure_ (i := 12) (N := some 30) (v := undef) (a' := ?_) #[true, true, true, true, true, true, true, true, true, true, true, true, true, false, false, false, false, false, false, false] rfl rfl (any_of HT_.out (by kernel_rfl)) (fun _ _ _ h => h) (Or.inr ⟨by rfl, rfl⟩) ?_ ?_; rotate_left
                · simp only [Act.put, sA_, sZ_, sS_, i64_w, i32_w]
                  rfl
                refine pure_ (i := 13) (N := some 31) (v := undef) (a' := ?_) #[true, true, true, true, true, true, true, true, true, true, true, true, true, true, false, false, false, false, false, false] rfl rfl (any_of HT_.out (by kernel_rfl)) (fun _ _ _ h => h) (Or.inr ⟨by rfl, rfl⟩) ?_ ?_; rotate_left
                · simp only [Act.put, sA_, sZ_, sS_, i64_w, i32_w]
                  rfl
                refine pure_ (i := 14) (N := some 32) (v := undef) (a' := ?_) #[true, true, true, true, true, true, true, true, true, true, true, true, true, true, true, false, false, false, false, false] rfl rfl (any_of HT_.out (by kernel_rfl)) (fun _ _ _ h => h) (Or.inr ⟨by rfl, rfl⟩) ?_ ?_; rotate_left
                · simp only [Act.put, sA_, sZ_, sS_, i64_w, i32_w]
                  rfl
                refine pure_ (i := 15) (N := some 33) (v := undef) (a' := ?_) #[true, true, true, true, true, true, true, true, true, true, true, true, true, true, true, true, false, false, false, false] rfl rfl (any_of HT_.out (by kernel_rfl)) (fun _ _ _ h => h) (Or.inr ⟨by rfl, rfl⟩) ?_ ?_; rotate_left
                · simp only [Act.put, sA_, sZ_, sS_, i64_w, i32_w]
                  rfl
                refine pure_ (i := 16) (N := some 34) (v := undef) (a' := ?_) #[true, true, true, true, true, true, true, true, true, true, true, true, true, true, true, true, true, false, false, false] rfl rfl (any_of HT_.out (by kernel_rfl)) (fun _ _ _ h => h) (Or.inr ⟨by rfl, rfl⟩) ?_ ?_; rotate_left
                · simp only [Act.put, sA_, sZ_, sS_, i64_w, i32_w]
                  rfl
                refine pure_ (i := 17) (N := some 35) (v := undef) (a' := ?_) #[true, true, true, true, true, true, true, true, true, true, true, true, true, true, true, true, true, true, false, false] rfl rfl (any_of HT_.out (by kernel_rfl)) (fun _ _ _ h => h) (Or.inr ⟨by rfl, rfl⟩) ?_ ?_; rotate_left
                · simp only [Act.put, sA_, sZ_, sS_, i64_w, i32_w]
                  rfl
                refine pure_ (i := 18) (N := some 36) (v := undef) (a' := ?_) #[true, true, true, true, true, true, true, true, true, true, true, true, true, true, true, true, true, true, true, false] rfl rfl (any_of HT_.out (by kernel_rfl)) (fun _ _ _ h => h) (Or.inr ⟨by rfl, rfl⟩) ?_ ?_; rotate_left
                · simp only [Act.put, sA_, sZ_, sS_, i64_w, i32_w]
                  rfl
                refine pD_ 19 (some 37) HT_ (h := ?_); refine done_ (done_of HT_.out (by kernel_rfl)) ?_; try go_wp2
                go_ret; exact ⟨er_, ⟨_, HI.out⟩, bx0 HB.out⟩
              · rw [if_neg c11] at H; have c11b0 := decide_eq_false c11; clear c11; by_cases c13 : 0 ≤ (rd l1 x14_1)
                · rw [if_pos c13] at H; have c13b0 := decide_eq_true c13; clear c13; by_cases c14 : (rd l1 x14_1) < (x7_1.length : Int)
                  · rw [if_pos c14] at H; have c14b0 := decide_eq_true c14; clear c14; obtain ⟨ji15, hji15⟩ : ∃ j_ : Int, (wrap64 ((rd l1 x14_1) + 1)) = j_ := ⟨_, rfl⟩; first | rw [hji15] at H | simp only [hji15] at H
                    have hji15w : (IntKind.i64.wrap ((rd l1 x14_1) + 1)) = ji15 := (i64_w _).trans hji15; by_cases c16 : 0 ≤ (ji15)
                    · rw [if_pos c16] at H; have c16b0 := decide_eq_true c16; clear c16; by_cases c17 : (ji15) < (x7_1.length : Int)
                      · rw [if_pos c17] at H; have c17b0 := decide_eq_true c17; clear c17; by_cases c18 : (rd x7_1 (rd l1 x14_1)) > (rd x7_1 (ji15))
                        · rw [if_pos c18] at H; have c18b0 := decide_eq_true c18; clear c18; obtain ⟨rfl, rfl⟩ := Prod.mk.inj (Option.some.inj H); have p780 : 0 ≤ (x14_1 : Int) := oda_; have q780 : x14_1 < (l1.length : Int) := oda_; obtain ⟨ad780, e780, hx780_0⟩ := Kd.at_int HR1.out x14_1 p780 q780; cases e780; replace hx780_0 := (HB.out.cell (World.block_lt_of_cell? w0 _ hx780_0)).trans hx780_0; replace p780 := eq_true p780; replace q780 := eq_true q780; try go_wp2
                          replace HO_7 := am_ (Kd.R_drew HO_7.out); replace HB := bd_ HB; replace HI := am_ (CeI_drew HI.out); obtain ⟨Ao20, co20, eo20⟩ := Kd.R_slice HO_7.out; (first | subst eo20 | (injection eo20 with f1_ f2_ f3_; have f4_ := f1_.symm; have f5_ := f3_.symm; clear f1_ f2_ f3_; subst f4_; subst f5_))
                          have p781 : 0 ≤ ((rd l1 x14_1) : Int) := oda_; have q781 : (rd l1 x14_1) < (x7_1.length : Int) := oda_; obtain ⟨ad781, e781, hx781_0⟩ := Kd.at_int (Kd.R_reads' HO_7.out).2.2 (rd l1 x14_1) p781 q781; cases e781; replace p781 := eq_true p781; replace q781 := eq_true q781; have p782 : 0 ≤ ((ji15) : Int) := oda_; have q782 : (ji15) < (x7_1.length : Int) := oda_; obtain ⟨ad782, e782, hx782_0⟩ := Kd.at_int (Kd.R_reads' HO_7.out).2.2 (ji15) p782 q782; obtain rfl : ad781 = ad782 := (by injection e782); replace p782 := eq_true p782; replace q782 := eq_true q782; refine start_ (n := 20) (S := fun w' => w'.cell? (ad781.add ((rd l1 x14_1)).toNat) = some (.int .i64 (rd x7_1 (rd l1 x14_1))) ∧ w'.cell? (ad781.add ((ji15)).toNat) = some (.int .i64 (rd x7_1 (ji15)))) (ds := []) #[false, false, false, false, false, false, false, false, false, false, false, false, false, false, false, false, false, false, false, false] (by kernel_rfl) rfl rfl ⟨hx781_0, hx782_0⟩ (fun hHeld => ?_); refine with_tabW impl_run_ce.tab5 impl_run_ce.bits5 (fun HT_ HW_ => ?_); generalize wr.drew = w19 at HO_7 HB HI hx781_0 hx782_0 hHeld ⊢
                          refine pD_ 0 (some 18) HT_ (h := ?_); refine pD_ 1 (some 19) HT_ (h := ?_); refine pD_ 2 (some 20) HT_ (h := ?_); refine pD_ 3 (some 21) HT_ (h := ?_); refine pD_ 4 (some 22) HT_ (h := ?_); refine pD_ 5 (some 23) HT_ (h := ?_); refine pD_ 6 (some 24) HT_ (h := ?_); refine pD_ 7 (some 25) HT_ (h := ?_); refine pD_ 8 (some 26) HT_ (h := ?_); refine pD_ 9 (some 27) HT_ (h := ?_); refine pD_ 10 (some 28) HT_ (h := ?_); refine pD_ 11 (some 29) HT_ (h := ?_); refine pD_ 13 (some 31) HT_ (h := ?_); refine pD_ 14 (some 32) HT_ (h := ?_); refine pD_ 15 (some 33) HT_ (h := ?_); refine pD_ 16 (some 34) HT_ (h := ?_); refine tD2_ 12 (some 30) HT_ HW_ hHeld (h := ?_); refine tD2_ 17 (some 35) HT_ HW_ hHeld (h := ?_); refine pD_ 18 (some 36) HT_ (h := ?_); refine pD_ 19 (some 37) HT_ (h := ?_); refine done_ (done_of HT_.out (by kernel_rfl)) ?_; try go_wp2
                          go_ret; exact ⟨by first | rfl | (simp [errW_none, errW_some] <;> rfl) | (simp only [← hji15]; first | rfl | (simp [errW_none, errW_some] <;> rfl)) | (simp [*, errW_none, errW_some] <;> rfl), ⟨_, HI.out⟩, bx0 HB.out⟩
                        · rw [if_neg c18] at H; have c18b0 := decide_eq_false c18; clear c18; by_cases cL : ceOk xs_1 (rd x7_1 (rd l1 x14_1)) (rd x7_1 (ji15)) (rd l1 x14_1)
                          case neg =>
                            rw [if_neg cL] at H; exact absurd H (by simp)
                          rw [if_pos cL] at H; have LM := am_ cL; clear cL; replace H : (impl_run_ce.l0 k1 a0 ((x7_1.set ((rd l1 x14_1) : Int).toNat (rd x7_1 (ji15))).set ((ji15) : Int).toNat (rd x7_1 (rd l1 x14_1))) (ceStep xs_1 (rd x7_1 (rd l1 x14_1)) (rd x7_1 (ji15)) (rd l1 x14_1)) l1 (l1.length : Int) (wrap64 (x14_1 + 1))) = some (r, xr) := H; obtain ⟨y785, hy785⟩ : ∃ y_ : List Int, y_ = (x7_1.set ((rd l1 x14_1) : Int).toNat (rd x7_1 (ji15))) := ⟨_, rfl⟩; replace H : (impl_run_ce.l0 k1 a0 (y785.set ((ji15) : Int).toNat (rd x7_1 (rd l1 x14_1))) (ceStep xs_1 (rd x7_1 (rd l1 x14_1)) (rd x7_1 (ji15)) (rd l1 x14_1)) l1 (l1.length : Int) (wrap64 (x14_1 + 1))) = some (r, xr) := yH_ hy785 H; have Ny785 := am_ hy785; clear hy785; obtain ⟨y786, hy786⟩ : ∃ y_ : List Int, y_ = (y785.set ((ji15) : Int).toNat (rd x7_1 (rd l1 x14_1))) := ⟨_, rfl⟩; replace H : (impl_run_ce.l0 k1 a0 y786 (ceStep xs_1 (rd x7_1 (rd l1 x14_1)) (rd x7_1 (ji15)) (rd l1 x14_1)) l1 (l1.length : Int) (wrap64 (x14_1 + 1))) = some (r, xr) := yH_ hy786 H; have Ny786 := am_ hy786; clear hy786; have H' := am_ H; clear H; have p780 : 0 ≤ (x14_1 : Int) := oda_; have q780 : x14_1 < (l1.length : Int) := oda_; obtain ⟨ad780, e780, hx780_0⟩ := Kd.at_int HR1.out x14_1 p780 q780; cases e780; replace hx780_0 := (HB.out.cell (World.block_lt_of_cell? w0 _ hx780_0)).trans hx780_0; replace p780 := eq_true p780; replace q780 := eq_true q780; try go_wp2
                          replace HO_7 := am_ (Kd.R_drew HO_7.out); replace HB := bd_ HB; replace HI := am_ (CeI_drew HI.out); obtain ⟨Ao25, co25, eo25⟩ := Kd.R_slice HO_7.out; (first | subst eo25 | (injection eo25 with f1_ f2_ f3_; have f4_ := f1_.symm; have f5_ := f3_.symm; clear f1_ f2_ f3_; subst f4_; subst f5_))
                          have p781 : 0 ≤ ((rd l1 x14_1) : Int) := oda_; have q781 : (rd l1 x14_1) < (x7_1.length : Int) := oda_; obtain ⟨ad781, e781, hx781_0⟩ := Kd.at_int (Kd.R_reads' HO_7.out).2.2 (rd l1 x14_1) p781 q781; cases e781; replace p781 := eq_true p781; replace q781 := eq_true q781; have p782 : 0 ≤ ((ji15) : Int) := oda_; have q782 : (ji15) < (x7_1.length : Int) := oda_; obtain ⟨ad782, e782, hx782_0⟩ := Kd.at_int (Kd.R_reads' HO_7.out).2.2 (ji15) p782 q782; obtain rfl : ad781 = ad782 := (by injection e782); replace p782 := eq_true p782; replace q782 := eq_true q782; refine start_ (n := 20) (S := fun w' => w'.cell? (ad781.add ((rd l1 x14_1)).toNat) = some (.int .i64 (rd x7_1 (rd l1 x14_1))) ∧ w'.cell? (ad781.add ((ji15)).toNat) = some (.int .i64 (rd x7_1 (ji15)))) (ds := []) #[false, false, false, false, false, false, false, false, false, false, false, false, false, false, false, false, false, false, false, false] (by kernel_rfl) rfl rfl ⟨hx781_0, hx782_0⟩ (fun hHeld => ?_); refine with_tabW impl_run_ce.tab5 impl_run_ce.bits5 (fun HT_ HW_ => ?_); generalize wr.drew = w24 at HO_7 HB HI hx781_0 hx782_0 hHeld ⊢
                          refine pD_ 0 (some 18) HT_ (h := ?_); refine pD_ 1 (some 19) HT_ (h := ?_); refine pD_ 2 (some 20) HT_ (h := ?_); refine pD_ 3 (some 21) HT_ (h := ?_); refine pD_ 4 (some 22) HT_ (h := ?_); refine pD_ 5 (some 23) HT_ (h := ?_); refine pD_ 6 (some 24) HT_ (h := ?_); refine pD_ 7 (some 25) HT_ (h := ?_); refine pD_ 8 (some 26) HT_ (h := ?_); refine pD_ 9 (some 27) HT_ (h := ?_); refine pD_ 10 (some 28) HT_ (h := ?_); refine pD_ 11 (some 29) HT_ (h := ?_); refine pD_ 13 (some 31) HT_ (h := ?_); refine pD_ 14 (some 32) HT_ (h := ?_); refine pD_ 15 (some 33) HT_ (h := ?_); refine pD_ 16 (some 34) HT_ (h := ?_); refine tD2_ 12 (some 30) HT_ HW_ hHeld (h := ?_); refine tD2_ 17 (some 35) HT_ HW_ hHeld (h := ?_); refine pD_ 18 (some 36) HT_ (h := ?_); refine pD_ 19 (some 37) HT_ (h := ?_); refine done_ (done_of HT_.out (by kernel_rfl)) ?_; go_wp2_with (first | (go_at_call 165; (with_reducible refine (ce1_calls (.slice (some ad781) x7_1.length co25 : Value).ownBlock bn bo bk xs_1 _ _ x7_1 (rd l1 x14_1) ji15 w0 _ HB.out (Kd.R_reads' HO_7.out).2.2 (Kd.R_reads' HO_7.out).2.1 HI.out (fun k e => ⟨Kd.R_lt HO_7.out k e, Kd.R_typed HO_7.out k e⟩) (of_eq_true p781) (of_eq_true q781) hji15 (of_eq_true p782) (of_eq_true q782) LM.out).mono ?_); rintro e w25 ⟨rfl, hI1, hB1, hW1⟩; have n0_ := am_ (Kd.R_mono (Kd.R_step (Kd.R_tight rfl HO_7.out) (fun k hk _ => hW1 k hk.symm)) (fun _ _ => trivial : ∀ k, _ → True)); have n1_ := am_ hB1; have n2_ := am_ hI1; clear HO_7 HB HI hI1 hB1 hW1; have HO_7 := n0_; have HB := n1_; have HI := n2_; clear n0_ n1_ n2_))
                          replace HO_7 := am_ (Kd.R_drew HO_7.out); replace HB := bd_ HB; replace HI := am_ (CeI_drew HI.out); have p783 : 0 ≤ ((ji15) : Int) := oda_; have q783 : (ji15) < (x7_1.length : Int) := oda_; obtain ⟨ad783, e783, hx783_0⟩ := Kd.at_int (Kd.R_reads' HO_7.out).2.2 (ji15) p783 q783; obtain rfl : ad781 = ad783 := (by injection e783); replace p783 := eq_true p783; replace q783 := eq_true q783; have p784 : 0 ≤ ((rd l1 x14_1) : Int) := oda_; have q784 : (rd l1 x14_1) < (x7_1.length : Int) := oda_; obtain ⟨ad784, e784, hx784_0⟩ := Kd.at_int (Kd.R_reads' HO_7.out).2.2 (rd l1 x14_1) p784 q784; obtain rfl : ad781 = ad784 := (by injection e784); replace p784 := eq_true p784; replace q784 := eq_true q784; have p22 : 0 ≤ ((rd l1 x14_1) : Int) := oda_; have q22 : ((rd l1 x14_1) : Int) < ((x7_1.length : Int) : Int) := oda_; obtain ⟨go22, co22, eo22, gb22, gl22, cl22, HG22⟩ := Kd.R_form HO_7.out (by omega); (first | cases eo22 | (injection eo22 with ea_ en_ ec_; (first | subst ea_ | (injection ea_ with ea_; subst ea_)); subst ec_; clear en_))
                          have GB22 := am_ gb22; have GG22 := am_ HG22; clear gb22 gl22 HG22; (first | simp only [add_plain] at hx781_0 | skip)
                          (first | simp only [add_plain] at hx782_0 | skip)
                          (first | simp only [add_plain] at hx783_0 | skip)
                          (first | simp only [add_plain] at hx784_0 | skip)
                          obtain ⟨hx22_0, hf22_0⟩ := Kd.R_celln 0 HO_7.out ((rd l1 x14_1) : Int) p22 q22; replace p22 := eq_true p22; replace q22 := eq_true q22; have HP27 := Kd.R_putn HO_7.out ((rd l1 x14_1) : Int) (rd x7_1 (ji15)); rw [← Ny785.out] at HP27; have HQ27 := am_ HP27; clear HP27; have p23 : 0 ≤ ((ji15) : Int) := oda_; have q23 : ((ji15) : Int) < ((x7_1.length : Int) : Int) := oda_; obtain ⟨hx23_0, hf23_0⟩ := Kd.R_celln 0 HQ27.out ((ji15) : Int) p23 q23; replace p23 := eq_true p23; replace q23 := eq_true q23; have HP28 := Kd.R_putn HQ27.out ((ji15) : Int) (rd x7_1 (rd l1 x14_1)); rw [← Ny786.out] at HP28; have HQ28 := am_ HP28; clear HP28; refine start_ (n := 18) (S := fun w' => w'.cell? ⟨go22, ((ji15)).toNat, none⟩ = some (.int .i64 (rd x7_1 (ji15))) ∧ w'.cell? ⟨go22, ((rd l1 x14_1)).toNat, none⟩ = some (.int .i64 (rd x7_1 (rd l1 x14_1)))) (ds := [15, 17]) #[false, false, false, false, false, false, false, false, false, false, false, false, false, false, false, false, false, false] (by kernel_rfl) rfl rfl ⟨hx783_0, hx784_0⟩ (fun hHeld => ?_); refine with_tabW impl_run_ce.tab8 impl_run_ce.bits8 (fun HT_ HW_ => ?_); generalize w25.drew = w26 at HO_7 HB HI GG22 HQ27 HQ28 hf22_0 hf23_0 hx22_0 hx23_0 hx781_0 hx782_0 hx783_0 hx784_0 hHeld ⊢
                          refine pD_ 0 (some 42) HT_ (h := ?_); refine pD_ 1 (some 43) HT_ (h := ?_); refine pD_ 2 (some 44) HT_ (h := ?_); refine pD_ 3 (some 45) HT_ (h := ?_); refine pD_ 4 (some 46) HT_ (h := ?_); refine pD_ 5 (some 47) HT_ (h := ?_); refine pD_ 6 (some 48) HT_ (h := ?_); refine pD_ 7 (some 49) HT_ (h := ?_); refine pD_ 8 (some 50) HT_ (h := ?_); refine pD_ 10 (some 52) HT_ (h := ?_); refine pD_ 11 (some 53) HT_ (h := ?_); refine pD_ 12 (some 54) HT_ (h := ?_); refine tD2_ 9 (some 51) HT_ HW_ hHeld (h := ?_); refine tD2_ 13 (some 55) HT_ HW_ hHeld (h := ?_); refine pD_ 14 (some 56) HT_ (h := ?_); refine last_ (i := 15) (N := none) #[true, true, true, true, true, true, true, true, true, true, true, true, true, true, true, true, false, false] rfl rfl (one_of HT_.out (by kernel_rfl)) (by decide) (fun K hK => ?_); refine skip_ (w1 := ?_) (by rfl) rfl ?_ ?_; rotate_left
                          · go_simp
                            rfl
                          refine hK.out _ _ ?_; clear hK K; refine pD_ 16 (some 57) HT_ (h := ?_); refine last_ (i := 17) (N := none) #[true, true, true, true, true, true, true, true, true, true, true, true, true, true, true, true, true, true] rfl rfl (one_of HT_.out (by kernel_rfl)) (by decide) (fun K hK => ?_); refine skip_ (w1 := ?_) (by rfl) rfl ?_ ?_; rotate_left
                          · go_simp
                            rfl
                          refine hK.out _ _ ?_; clear hK K; refine done_ (done_of HT_.out (by kernel_rfl)) ?_; try go_wp2
                          go_roundg k1
                          case measure => have := HK1.out; omega
                          case rel => exact ⟨(y786), _, (wrap64 (x14_1 + 1)), vt_, H', hl_ HK1, rX_ HQ28, bX2_ HB GB22 GB22, ⟨by repeat (first | exact HI.out | refine CeI_set ?_ rfl)⟩⟩
                      · rw [if_neg c17] at H; exact absurd H (by simp)
                    · rw [if_neg c16] at H; exact absurd H (by simp)
                  · rw [if_neg c14] at H; exact absurd H (by simp)
                · rw [if_neg c13] at H; exact absurd H (by simp)
          · rw [if_neg c8] at H; exact absurd H (by simp)
        · rw [if_neg c7] at H; exact absurd H (by simp)
      · rw [if_neg c6] at H; have c6b0 := decide_eq_false c6; clear c6; obtain ⟨rfl, rfl⟩ := Prod.mk.inj (Option.some.inj H); go_wp2; go_ret; exact ⟨er_, ⟨_, HI.out⟩, bx0 HB.out⟩
def impl_fullSet.f (a0 : Int) : Option (Int) := if 0 ≤ a0 then (some (wrap64 ((shl .i64 1 a0) - 1))) else (none)
set_option maxHeartbeats 8000000 in
set_option maxRecDepth 100000 in
theorem impl_fullSet.calls (a0 : Int) (r : Int) (w : World) (h : impl_fullSet.f a0 = some r) :
  Calls Try.prog 164 #[.int .i64 a0] w fun e w' => e = .returned (.int .i64 r) ∧ Drawn0 w w' := by
 have H : (if 0 ≤ a0 then (some (wrap64 ((shl .i64 1 a0) - 1))) else (none)) = some r := h; clear h; by_cases c2 : 0 ≤ a0
 ·rw [if_pos c2] at H; have c2b0 := eq_true c2; have c2b1 := decide_eq_true c2; clear c2; obtain ⟨ji3, hji3⟩ : ∃ j_ : Int, (shl .i64 1 a0) = j_ := ⟨_, rfl⟩; first | rw [hji3] at H | simp only [hji3] at H
  have hji3_ : (IntKind.i64.wrap (1 * 2 ^ min a0.toNat 64)) = ji3 := hji3; have hji3z : a0 ≤ 64 → (IntKind.i64.wrap (1 * 2 ^ a0.toNat)) = ji3 := shl_small hji3; have hji3u : (IntKind.i64.wrap (2 ^ min a0.toNat 64)) = ji3 := by have h_ := hji3_; rw [Int.one_mul] at h_; exact h_
  have hji3v : a0 ≤ 64 → (IntKind.i64.wrap (2 ^ a0.toNat)) = ji3 := fun hle_ => by have h_ := hji3z hle_; rw [Int.one_mul] at h_; exact h_
  have hji3y : (wrap64 (1 * 2 ^ min a0.toNat 64)) = ji3 := (i64_w _).symm.trans hji3_; have hji3x : a0 ≤ 64 → (wrap64 (1 * 2 ^ a0.toNat)) = ji3 := fun h_ => (i64_w _).symm.trans (hji3z h_)
  obtain rfl := Option.some.inj H; go_enter Try.func164, Try.ntmps164
  go_wp2; go_ret; exact ⟨by first | rfl | (simp; done) | (simp only [← hji3] <;> (first | rfl | simp)) | (simp [*]; done), dr_⟩
 ·rw [if_neg c2] at H; exact absurd H (by simp)
end Go.Proofs.Ytoajlmlobaccdaa.P
