/- Functions of the program and what each answers: the kit's print, shortened (wip/press2.py). -/
import Derived.Test.YtgjljbaadglpnaaGreatDoorPFnPaidPutx0
import Derived.Test.YtgjljbaadglpnaaGreatDoorPFnPaidPutx4
import Derived.Test.YtgjljbaadglpnaaGreatDoorPFnPaidPutx6
namespace Go.Proofs.YtgjljbaadglpnaaGreatDoor.PFnPaidPut
open Go.Proofs.YtgjljbaadglpnaaGreatDoor.Sq Go.RowKit Go.Proofs.YtgjljbaadglpnaaGreatDoorW.PrintWords Go.Proofs.YtgjljbaadglpnaaGreatDoorW.PrintLast Go.Proofs.YtgjljbaadglpnaaGreatDoorW.PrintMore
attribute [local go_sem] max2_int min2_int max_two min_two max_three min_three max_four min_four   -- for this text's walks alone
set_option linter.unusedVariables false
set_option linter.unusedSimpArgs false
set_option maxHeartbeats 64000000
set_option maxRecDepth 100000
mutual
def spec_l1Words.l0 : Nat → List Int → List Int → Int → Option (List Int)
 | 0, _, _, _ => none
 | k + 1, x0, x3, x4 => if x4 < 16 then (if 0 ≤ (wrap64 (4 * x4)) then (if (wrap64 (4 * x4)) < (x0.length : Int) then (if 0 ≤ (wrap64 ((wrap64 (4 * x4)) + 1)) then (if (wrap64 ((wrap64 (4 * x4)) + 1)) < (x0.length : Int) then (if 0 ≤ (wrap64 ((wrap64 (4 * x4)) + 2)) then (if (wrap64 ((wrap64 (4 * x4)) + 2)) < (x0.length : Int) then (if 0 ≤ (wrap64 ((wrap64 (4 * x4)) + 3)) then (if (wrap64 ((wrap64 (4 * x4)) + 3)) < (x0.length : Int) then (if 0 ≤ x4 then (if x4 < (x3.length : Int) then (spec_l1Words.l0 k x0 (x3.set (x4 : Int).toNat (Go.bits .or .i64 (Go.bits .or .i64 (Go.bits .or .i64 (wrap64 ((rd x0 (wrap64 (4 * x4))) * 16777216)) (wrap64 ((rd x0 (wrap64 ((wrap64 (4 * x4)) + 1))) * 65536))) (wrap64 ((rd x0 (wrap64 ((wrap64 (4 * x4)) + 2))) * 256))) (rd x0 (wrap64 ((wrap64 (4 * x4)) + 3))))) (wrap64 (x4 + 1))) else (none)) else (none)) else (none)) else (none)) else (none)) else (none)) else (none)) else (none)) else (none)) else (none)) else (spec_l1Words.l1 k x3 16)
def spec_l1Words.l1 : Nat → List Int → Int → Option (List Int)
 | 0, _, _ => none
 | k + 1, x3, x5 => if x5 < 64 then (if 0 ≤ (wrap64 (x5 - 15)) then (if (wrap64 (x5 - 15)) < (x3.length : Int) then (if 0 ≤ (wrap64 (x5 - 2)) then (if (wrap64 (x5 - 2)) < (x3.length : Int) then ((spec_l1Turn.f (rd x3 (wrap64 (x5 - 15))) 7).bind fun t164 => ((spec_l1Turn.f (rd x3 (wrap64 (x5 - 15))) 18).bind fun t165 => ((spec_l1Turn.f (rd x3 (wrap64 (x5 - 2))) 17).bind fun t166 => ((spec_l1Turn.f (rd x3 (wrap64 (x5 - 2))) 19).bind fun t167 => (if 0 ≤ (wrap64 (x5 - 16)) then (if (wrap64 (x5 - 16)) < (x3.length : Int) then (if 0 ≤ (wrap64 (x5 - 7)) then (if (wrap64 (x5 - 7)) < (x3.length : Int) then (if 0 ≤ x5 then (if x5 < (x3.length : Int) then (spec_l1Words.l1 k (x3.set (x5 : Int).toNat (Go.bits .and .i64 (wrap64 ((wrap64 ((wrap64 ((rd x3 (wrap64 (x5 - 16))) + (Go.bits .xor .i64 (Go.bits .xor .i64 t164 t165) ((rd x3 (wrap64 (x5 - 15))) / 8)))) + (rd x3 (wrap64 (x5 - 7))))) + (Go.bits .xor .i64 (Go.bits .xor .i64 t166 t167) ((rd x3 (wrap64 (x5 - 2))) / 1024)))) 4294967295)) (wrap64 (x5 + 1))) else (none)) else (none)) else (none)) else (none)) else (none)) else (none)))))) else (none)) else (none)) else (none)) else (none)) else (some x3)
end
def spec_l1Words.f (k : Nat) (l0 : List Int) : Option (List Int) := if 64 ≤ 35184372088832 then (spec_l1Words.l0 k l0 (List.replicate 64 0) 0) else (none)
theorem spec_l1Words.mono_l : ∀ k, (∀ y0 y1 y2, LeO (spec_l1Words.l0 k y0 y1 y2) (spec_l1Words.l0 (k + 1) y0 y1 y2)) ∧ (∀ y0 y1, LeO (spec_l1Words.l1 k y0 y1) (spec_l1Words.l1 (k + 1) y0 y1))
 | 0 => ⟨fun _ _ _ r h => by simp [spec_l1Words.l0] at h, fun _ _ r h => by simp [spec_l1Words.l1] at h⟩
 | k + 1 => by
  obtain ⟨ih0, ih1⟩ := spec_l1Words.mono_l k
  refine ⟨?_, ?_⟩
  ·intro y0 y1 y2
   unfold spec_l1Words.l0
   exact mo2 ih0 ih1
  ·intro y0 y1
   unfold spec_l1Words.l1
   exact mo2 ih0 ih1
theorem spec_l1Words.mono : ∀ a0 k, LeO (spec_l1Words.f k a0) (spec_l1Words.f (k + 1) a0) := by
 intro a0 k
 obtain ⟨ih0, ih1⟩ := spec_l1Words.mono_l k
 unfold spec_l1Words.f
 exact mo2 ih0 ih1
def spec_l1Words.T5 : Bool × List (List Nat × List Nat) := (true, [([], []), ([], []), ([], []), ([], []), ([3], [3]), ([2, 4], [2, 4]), ([5], [5]), ([6], [6]), ([], []), ([], []), ([9], [9]), ([10], [10]), ([8, 11], [8, 11]), ([12], [12]), ([13], [13]), ([7, 14], [7, 14]), ([], []), ([], []), ([17], [17]), ([18], [18]), ([16, 19], [16, 19]), ([20], [20]), ([21], [21]), ([15, 22], [15, 22]), ([], []), ([], []), ([25], [25]), ([26], [26]), ([24, 27], [24, 27]), ([28], [28]), ([23, 29], [23, 29]), ([0, 1, 0, 1, 2, 3, 4, 5, 6, 7, 8, 9, 10, 11, 12, 13, 14, 15, 16, 17, 18, 19, 20, 21, 22, 23, 24, 25, 26, 27, 28, 29, 30], [0, 1]), ([31, 30, 0, 1, 2, 3, 4, 5, 6, 7, 8, 9, 10, 11, 12, 13, 14, 15, 16, 17, 18, 19, 20, 21, 22, 23, 24, 25, 26, 27, 28, 29, 30], [30, 31])])
def spec_l1Words.B5 : List Nat := [0, 0, 0, 0, 8, 28, 60, 124, 0, 0, 512, 1536, 3840, 7936, 16128, 32764, 0, 0, 131072, 393216, 983040, 2031616, 4128768, 8388604, 0, 0, 33554432, 100663296, 251658240, 520093696, 1073741820, 2147483647, 4294967295]
theorem spec_l1Words.tab5 : rtab .any (opsOf Tryz.f98 5) = spec_l1Words.T5 := by kernel_rfl
theorem spec_l1Words.bits5 : waitsOk spec_l1Words.T5.2 spec_l1Words.B5 = true := by kernel_rfl
def spec_l1Words.T13 : Bool × List (List Nat × List Nat) := (true, [([], []), ([], []), ([], []), ([], []), ([3], [3]), ([2, 4], [2, 4]), ([5], [5]), ([], []), ([6, 7], [6, 7]), ([], []), ([], []), ([10], [10]), ([9, 11], [9, 11]), ([12], [12]), ([8, 13], [8, 13]), ([], []), ([14, 15], [14, 15]), ([16], [16]), ([0, 1, 0, 1, 2, 3, 4, 5, 6, 7, 8, 9, 10, 11, 12, 13, 14, 15, 16, 17], [0, 1]), ([18, 17, 0, 1, 2, 3, 4, 5, 6, 7, 8, 9, 10, 11, 12, 13, 14, 15, 16, 17], [17, 18])])
def spec_l1Words.B13 : List Nat := [0, 0, 0, 0, 8, 28, 60, 0, 252, 0, 0, 1024, 3584, 7680, 16380, 0, 65532, 131068, 262143, 524287]
theorem spec_l1Words.tab13 : rtab .any (opsOf Tryz.f98 13) = spec_l1Words.T13 := by kernel_rfl
theorem spec_l1Words.bits13 : waitsOk spec_l1Words.T13.2 spec_l1Words.B13 = true := by kernel_rfl
theorem spec_l1Words.calls (k : Nat) (A0 : Option Addr) (c0 : Nat) (l0 : List Int) (r : List Int) (w : World) (hr0 : Kd.C (Kd.int .i64) w A0 l0.length l0) (hc0 : l0.length ≤ c0) (h : spec_l1Words.f k l0 = some r) :
  Calls Tryz.prog 98 #[.slice A0 l0.length c0] w fun e w' => ∃ v0_ : Value, e = .returned (v0_) ∧ Kd.R (Kd.int .i64) 3 w' w.heap.size (fun _ => True) v0_ r ∧ Below w.heap.size w w' := by
 have HR0 := Aside0.mk hr0
 have HC0 := Aside0.mk hc0
 clear hr0 hc0
 have HB := Aside0.mk (Below.refl w.heap.size w)
 have H : (if 64 ≤ 35184372088832 then (spec_l1Words.l0 k l0 (List.replicate 64 0) 0) else (none)) = some r := h
 clear h
 replace H := ip H
 obtain ⟨c2, H⟩ := H
 have c2b0 := eq_true c2
 have c2b1 := decide_eq_true c2
 clear c2
 obtain ⟨y154, Ny154⟩ := yA (List.replicate 64 0 : List Int)
 rw [← Ny154.out] at H
 have H' := Aside0.mk H
 clear H
 go_enter Tryz.func98, Tryz.ntmps98
 go_wp2_with ((with_reducible refine gate_dst (N := 10) rfl ?_); refine Kd.R_make (Kd.int .i64) _ 3 rfl (N := 10) rfl 45 _ _ rfl 64 rfl rfl Tryz.underlying45 (.int .i64 0) 8 info3 rfl (by decide) (by omega) 0 (ok := fun _ => True) (okp := fun _ => True) rfl (fun _ hk => hk) trivial (by omega) (by omega) (Below.refl _ _) (Nat.le_refl _) ?_; intro v155 w3 ho4 hb hg_ hnew_; clear hg_ hnew_; (first | rw [← Ny154.out] at ho4 | (simp only [Int.reduceToNat] at ho4; rw [← Ny154.out] at ho4)); have HO156 := am (Kd.R_lower ho4 (below_size (bl HB))); replace HB := kH HB hb; clear hb ho4)
 go_loopg [4] k (fun kq v4 w' => ∃ (x3_1 : List Int) (x4_1 : Int), v4 = .int .i64 x4_1 ∧ Aside0 (spec_l1Words.l0 kq l0 x3_1 x4_1 = some r) ∧ Aside0 (kq ≤ k) ∧ Aside0 (Kd.R (Kd.int .i64) 3 w' w.heap.size (fun _ => True) v155 x3_1) ∧ Aside0 (Below w.heap.size w w'))
 case atStart => exact ⟨(y154), (0), xR, H', ⟨Nat.le_refl _⟩, ⟨ra HO156⟩, ⟨bl HB⟩⟩
 case round =>
  clear H'
  try clear c2
  try clear c2b0
  try clear c2b1
  try clear p2
  obtain ⟨x3_1, x4_1, rfl, HA, HK1, HO_3, HB⟩ := hrel
  cases gk with
  | zero => exact absurd HA.out (by simp [spec_l1Words.l0])
  | succ k1 =>
   have H := HA.out
   clear HA
   simp only [spec_l1Words.l0] at H
   by_cases c5 : x4_1 < 16
   ·rw [if_pos c5] at H
    have c5b0 := decide_eq_true c5
    clear c5
    obtain ⟨ji6, hji6⟩ := je (wrap64 (4 * x4_1))
    first | rw [hji6] at H | simp only [hji6] at H
    have hji6w : (IntKind.i64.wrap (4 * x4_1)) = ji6 := (i64_w _).trans hji6
    replace H := ipd H
    obtain ⟨c7b0, H⟩ := H
    replace H := ipd H
    obtain ⟨c8b0, H⟩ := H
    obtain ⟨ji9, hji9⟩ := je (wrap64 ((ji6) + 1))
    first | rw [hji9] at H | simp only [hji9] at H
    have hji9w : (IntKind.i64.wrap ((ji6) + 1)) = ji9 := (i64_w _).trans hji9
    replace H := ipd H
    obtain ⟨c10b0, H⟩ := H
    replace H := ipd H
    obtain ⟨c11b0, H⟩ := H
    obtain ⟨ji12, hji12⟩ := je (wrap64 ((ji6) + 2))
    first | rw [hji12] at H | simp only [hji12] at H
    have hji12w : (IntKind.i64.wrap ((ji6) + 2)) = ji12 := (i64_w _).trans hji12
    replace H := ipd H
    obtain ⟨c13b0, H⟩ := H
    replace H := ipd H
    obtain ⟨c14b0, H⟩ := H
    obtain ⟨ji15, hji15⟩ := je (wrap64 ((ji6) + 3))
    first | rw [hji15] at H | simp only [hji15] at H
    have hji15w : (IntKind.i64.wrap ((ji6) + 3)) = ji15 := (i64_w _).trans hji15
    replace H := ipd H
    obtain ⟨c16b0, H⟩ := H
    replace H := ipd H
    obtain ⟨c17b0, H⟩ := H
    replace H := ipd H
    obtain ⟨c18b0, H⟩ := H
    replace H := ipd H
    obtain ⟨c19b0, H⟩ := H
    obtain ⟨y161, Ny161⟩ := yA (x3_1.set (x4_1 : Int).toNat (Go.bits .or .i64 (Go.bits .or .i64 (Go.bits .or .i64 (wrap64 ((rd l0 (ji6)) * 16777216)) (wrap64 ((rd l0 (ji9)) * 65536))) (wrap64 ((rd l0 (ji12)) * 256))) (rd l0 (ji15))) : List Int)
    first | rw [← Ny161.out] at H | (replace H := bh H; rw [← Ny161.out] at H)
    have H' := Aside0.mk H
    clear H
    try go_wp2
    replace HO_3 := am (Kd.R_drew HO_3.out)
    replace HB := am (below_drew1 HB.out)
    have p157 : 0 ≤ ((ji6) : Int) := of_decide_eq_true xA
    have q157 : (ji6) < (l0.length : Int) := of_decide_eq_true xA
    obtain ⟨ad157, e157, hx157_0⟩ := Kd.at_int HR0.out (ji6) p157 q157
    have hw157_0 := hx157_0
    cases e157
    replace hx157_0 := hc HB hx157_0
    replace p157 := eq_true p157
    replace q157 := eq_true q157
    have p158 : 0 ≤ ((ji9) : Int) := of_decide_eq_true xA
    have q158 : (ji9) < (l0.length : Int) := of_decide_eq_true xA
    obtain ⟨ad158, e158, hx158_0⟩ := Kd.at_int HR0.out (ji9) p158 q158
    have hw158_0 := hx158_0
    obtain rfl : ad157 = ad158 := (by injection e158)
    replace hx158_0 := hc HB hx158_0
    replace p158 := eq_true p158
    replace q158 := eq_true q158
    have p159 : 0 ≤ ((ji12) : Int) := of_decide_eq_true xA
    have q159 : (ji12) < (l0.length : Int) := of_decide_eq_true xA
    obtain ⟨ad159, e159, hx159_0⟩ := Kd.at_int HR0.out (ji12) p159 q159
    have hw159_0 := hx159_0
    obtain rfl : ad157 = ad159 := (by injection e159)
    replace hx159_0 := hc HB hx159_0
    replace p159 := eq_true p159
    replace q159 := eq_true q159
    have p160 : 0 ≤ ((ji15) : Int) := of_decide_eq_true xA
    have q160 : (ji15) < (l0.length : Int) := of_decide_eq_true xA
    obtain ⟨ad160, e160, hx160_0⟩ := Kd.at_int HR0.out (ji15) p160 q160
    have hw160_0 := hx160_0
    obtain rfl : ad157 = ad160 := (by injection e160)
    replace hx160_0 := hc HB hx160_0
    replace p160 := eq_true p160
    replace q160 := eq_true q160
    have p20 : 0 ≤ (x4_1 : Int) := of_decide_eq_true xA
    have q20 : (x4_1 : Int) < ((x3_1.length : Int) : Int) := of_decide_eq_true xA
    obtain ⟨go20, co20, eo20, gb20, gl20, cl20, HG20⟩ := Kd.R_form HO_3.out (by omega)
    (first | cases eo20 | (injection eo20 with ea_ en_ ec_; (first | subst ea_ | (injection ea_ with ea_; subst ea_)); subst ec_; clear en_))
    have GB20 := Aside0.mk gb20
    have GG20 := Aside0.mk HG20
    clear gb20 gl20 HG20
    obtain ⟨hx20_0, hf20_0⟩ := Kd.R_celln 0 HO_3.out (x4_1 : Int) p20 q20
    replace p20 := eq_true p20
    replace q20 := eq_true q20
    have HP22 := Kd.R_putn HO_3.out (x4_1 : Int) (Go.bits .or .i64 (Go.bits .or .i64 (Go.bits .or .i64 (wrap64 ((rd l0 (ji6)) * 16777216)) (wrap64 ((rd l0 (ji9)) * 65536))) (wrap64 ((rd l0 (ji12)) * 256))) (rd l0 (ji15)))
    rw [← Ny161.out] at HP22
    have HQ22 := Aside0.mk HP22
    clear HP22
    refine start_ (n := 33) (S := fun w' => w'.cell? (ad157.add ((ji6)).toNat) = some (.int .i64 (rd l0 (ji6))) ∧ w'.cell? (ad157.add ((ji9)).toNat) = some (.int .i64 (rd l0 (ji9))) ∧ w'.cell? (ad157.add ((ji12)).toNat) = some (.int .i64 (rd l0 (ji12))) ∧ w'.cell? (ad157.add ((ji15)).toNat) = some (.int .i64 (rd l0 (ji15)))) (ds := [32]) (bm 33 0) (by kernel_rfl) rfl rfl ⟨(hd HB hw157_0), (hd HB hw158_0), (hd HB hw159_0), (hd HB hw160_0)⟩ (fun hHeld => ?_); refine with_tabW spec_l1Words.tab5 spec_l1Words.bits5 (fun HT_ HW_ => ?_)
    generalize wr.drew = w21 at HO_3 HB GG20 HQ22 hf20_0 hx157_0 hx158_0 hx159_0 hx160_0 hx20_0 hHeld ⊢
    refine pA 0 15 (bm 33 1) HT_ ?_
    refine pA 1 16 (bm 33 3) HT_ ?_
    refine pA 2 17 (bm 33 7) HT_ ?_
    refine pA 3 18 (bm 33 15) HT_ ?_
    refine pA 4 19 (bm 33 31) HT_ ?_
    refine pA 5 20 (bm 33 63) HT_ ?_
    refine pA 8 23 (bm 33 319) HT_ ?_
    refine pA 9 24 (bm 33 831) HT_ ?_
    refine pA 10 25 (bm 33 1855) HT_ ?_
    refine pA 11 26 (bm 33 3903) HT_ ?_
    refine pA 12 27 (bm 33 7999) HT_ ?_
    refine pA 16 31 (bm 33 73535) HT_ ?_
    refine pA 17 32 (bm 33 204607) HT_ ?_
    refine pA 18 33 (bm 33 466751) HT_ ?_
    refine pA 19 34 (bm 33 991039) HT_ ?_
    refine pA 20 35 (bm 33 2039615) HT_ ?_
    refine pA 24 39 (bm 33 18816831) HT_ ?_
    refine pA 25 40 (bm 33 52371263) HT_ ?_
    refine pA 26 41 (bm 33 119480127) HT_ ?_
    refine pA 27 42 (bm 33 253697855) HT_ ?_
    refine pA 28 43 (bm 33 522133311) HT_ ?_
    refine tA 6 21 (bm 33 522133375) HT_ HW_ hHeld ?_
    refine pA 7 22 (bm 33 522133503) HT_ ?_
    refine tA 13 28 (bm 33 522141695) HT_ HW_ hHeld ?_
    refine pA 14 29 (bm 33 522158079) HT_ ?_
    refine pA 15 30 (bm 33 522190847) HT_ ?_
    refine tA 21 36 (bm 33 524287999) HT_ HW_ hHeld ?_
    refine pA 22 37 (bm 33 528482303) HT_ ?_
    refine pA 23 38 (bm 33 536870911) HT_ ?_
    refine tA 29 44 (bm 33 1073741823) HT_ HW_ hHeld ?_
    refine pA 30 45 (bm 33 2147483647) HT_ ?_
    refine pA 31 46 (bm 33 4294967295) HT_ ?_
    refine last_ (i := 32) (N := none) (bm 33 8589934591) rfl rfl (one_of HT_.out (by kernel_rfl)) (by decide) (fun K hK => ?_)
    refine skip_ (w1 := ?_) (by rfl) rfl ?_ ?_
    rotate_left
    ·go_simp
     rfl
    refine hK.out _ _ ?_
    clear hK K
    refine done_ (done_of HT_.out (by kernel_rfl)) ?_
    try go_wp2
    go_roundg k1
    case measure => have := HK1.out; omega
    case rel => exact ⟨(y161), (wrap64 (x4_1 + 1)), xR, H', ⟨xL HK1⟩, ⟨by (with_reducible repeat (first | apply Kd.R_alloc | apply Kd.R_drewN | apply Kd.R_drew)); exact HQ22.out⟩, ⟨xB HB⟩⟩
   rw [if_neg c5] at H
   have c5b0 := decide_eq_false c5
   clear c5
   have H' := Aside0.mk H
   clear H
   go_wp2
   go_loopg [5] k1 (fun kq v5 w' => ∃ (x3_2 : List Int) (x5_2 : Int), v5 = .int .i64 x5_2 ∧ Aside0 (spec_l1Words.l1 kq x3_2 x5_2 = some r) ∧ Aside0 (kq ≤ k1) ∧ Aside0 (Kd.R (Kd.int .i64) 3 w' w.heap.size (fun _ => True) v155 x3_2) ∧ Aside0 (Below w.heap.size w w'))
   case atStart => exact ⟨(x3_1), (16), xR, H', ⟨Nat.le_refl _⟩, ⟨ra HO_3⟩, ⟨bl HB⟩⟩
   case round =>
    clear H'
    try clear c1
    try clear p1
    try clear q1
    try clear hx1
    try clear c2
    try clear c2b0
    try clear c2b1
    try clear p2
    try clear q2
    try clear hx2
    try clear hf2
    try clear c5
    try clear c5b0
    try clear p6
    try clear c7
    try clear c7b0
    try clear c8
    try clear c8b0
    try clear c9
    try clear c10
    try clear c10b0
    try clear c11
    try clear c11b0
    try clear c13
    try clear c13b0
    try clear c14
    try clear c14b0
    try clear p15
    try clear q15
    try clear hx15
    try clear c16
    try clear c16b0
    try clear p16
    try clear q16
    try clear hx16
    try clear c17
    try clear c17b0
    try clear c18
    try clear c18b0
    try clear c19
    try clear c19b0
    try clear p20
    try clear q20
    try clear hx20
    try clear hf20
    try clear hx157_0
    try clear hx158_0
    try clear hx159_0
    try clear hx160_0
    try clear hx20_0
    try clear p157
    try clear p158
    try clear p159
    try clear p160
    try clear p2
    try clear p20
    try clear q157
    try clear q158
    try clear q159
    try clear q160
    try clear q20
    obtain ⟨x3_2, x5_2, rfl, HA, HK2, HO_3, HB⟩ := hrel
    cases gk with
    | zero => exact absurd HA.out (by simp [spec_l1Words.l1])
    | succ k2 =>
     have H := HA.out
     clear HA
     simp only [spec_l1Words.l1] at H
     by_cases c23 : x5_2 < 64
     rotate_left
     ·rw [if_neg c23] at H
      have c23b0 := decide_eq_false c23
      clear c23
      obtain rfl := Option.some.inj H
      go_wp2
      go_ret
      exact ⟨_, xE, ra HO_3, bl HB⟩
     rw [if_pos c23] at H
     have c23b0 := decide_eq_true c23
     clear c23
     obtain ⟨ji24, hji24⟩ := je (wrap64 (x5_2 - 15))
     first | rw [hji24] at H | simp only [hji24] at H
     have hji24w : (IntKind.i64.wrap (x5_2 - 15)) = ji24 := (i64_w _).trans hji24
     replace H := ipd H
     obtain ⟨c25b0, H⟩ := H
     replace H := ipd H
     obtain ⟨c26b0, H⟩ := H
     obtain ⟨ji27, hji27⟩ := je (wrap64 (x5_2 - 2))
     first | rw [hji27] at H | simp only [hji27] at H
     have hji27w : (IntKind.i64.wrap (x5_2 - 2)) = ji27 := (i64_w _).trans hji27
     replace H := ipd H
     obtain ⟨c28b0, H⟩ := H
     replace H := ipd H
     obtain ⟨c29b0, H⟩ := H
     replace H := oa H
     obtain ⟨t164, A30, H⟩ := H
     replace H := oa H
     obtain ⟨t165, A31, H⟩ := H
     replace H := oa H
     obtain ⟨t166, A32, H⟩ := H
     replace H := oa H
     obtain ⟨t167, A33, H⟩ := H
     obtain ⟨ji34, hji34⟩ := je (wrap64 (x5_2 - 16))
     first | rw [hji34] at H | simp only [hji34] at H
     (try rw [hji34] at A30)
     (try rw [hji34] at A31)
     (try rw [hji34] at A32)
     (try rw [hji34] at A33)
     have hji34w : (IntKind.i64.wrap (x5_2 - 16)) = ji34 := (i64_w _).trans hji34
     replace H := ipd H
     obtain ⟨c35b0, H⟩ := H
     replace H := ipd H
     obtain ⟨c36b0, H⟩ := H
     obtain ⟨ji37, hji37⟩ := je (wrap64 (x5_2 - 7))
     first | rw [hji37] at H | simp only [hji37] at H
     (try rw [hji37] at A30)
     (try rw [hji37] at A31)
     (try rw [hji37] at A32)
     (try rw [hji37] at A33)
     have hji37w : (IntKind.i64.wrap (x5_2 - 7)) = ji37 := (i64_w _).trans hji37
     replace H := ipd H
     obtain ⟨c38b0, H⟩ := H
     replace H := ipd H
     obtain ⟨c39b0, H⟩ := H
     replace H := ipd H
     obtain ⟨c40b0, H⟩ := H
     replace H := ipd H
     obtain ⟨c41b0, H⟩ := H
     obtain ⟨y170, Ny170⟩ := yA (x3_2.set (x5_2 : Int).toNat (Go.bits .and .i64 (wrap64 ((wrap64 ((wrap64 ((rd x3_2 (ji34)) + (Go.bits .xor .i64 (Go.bits .xor .i64 t164 t165) ((rd x3_2 (ji24)) / 8)))) + (rd x3_2 (ji37)))) + (Go.bits .xor .i64 (Go.bits .xor .i64 t166 t167) ((rd x3_2 (ji27)) / 1024)))) 4294967295) : List Int)
     first | rw [← Ny170.out] at H | (replace H := bh H; rw [← Ny170.out] at H)
     have H' := Aside0.mk H
     clear H
     obtain ⟨Ao43, co43, eo43⟩ := Kd.R_slice HO_3.out
     subst eo43
     have p162 : 0 ≤ ((ji24) : Int) := of_decide_eq_true xA
     have q162 : (ji24) < (x3_2.length : Int) := of_decide_eq_true xA
     obtain ⟨ad162, e162, hx162_0⟩ := Kd.at_int (Kd.R_reads' HO_3.out).2.2 (ji24) p162 q162
     cases e162
     replace p162 := eq_true p162
     replace q162 := eq_true q162
     have p163 : 0 ≤ ((ji27) : Int) := of_decide_eq_true xA
     have q163 : (ji27) < (x3_2.length : Int) := of_decide_eq_true xA
     obtain ⟨ad163, e163, hx163_0⟩ := Kd.at_int (Kd.R_reads' HO_3.out).2.2 (ji27) p163 q163
     obtain rfl : ad162 = ad163 := (by injection e163)
     replace p163 := eq_true p163
     replace q163 := eq_true q163
     try go_wp2_with (first | ((with_reducible refine gate_callee (f := 111) rfl ?_); refine goesL_ (some 62) rfl rfl Tryz.func111 (by kernel_rfl) rfl #[.int .i64 (rd x3_2 (ji24)), .int .i64 7] rfl (by (try simp only [List.map_toArray, List.map_cons, List.map_nil]); first | done | (simp only [hji24]; rfl) | rfl | (simp only [List.length_drop, List.length_take]; rfl)) ?_; (with_reducible refine (spec_l1Turn.calls (rd x3_2 (ji24)) 7 t164 _ A30.out).mono ?_); rintro e w' ⟨rfl, ⟨nd, rfl⟩⟩; refine ⟨_, rfl, ?_⟩; (try (rw [drewN_self wr]; generalize hq_ : World.drewN wr _ = wr; have n0_ := dR hq_ HO_3; have n1_ := dB hq_ HB; clear HO_3 HB hq_; have HO_3 := n0_; have HB := n1_; clear n0_ n1_))) | ((with_reducible refine gate_callee (f := 111) rfl ?_); refine goesL_ (some 64) rfl rfl Tryz.func111 (by kernel_rfl) rfl #[.int .i64 (rd x3_2 (ji24)), .int .i64 18] rfl (by (try simp only [List.map_toArray, List.map_cons, List.map_nil]); first | done | (simp only [hji24]; rfl) | rfl | (simp only [List.length_drop, List.length_take]; rfl)) ?_; (with_reducible refine (spec_l1Turn.calls (rd x3_2 (ji24)) 18 t165 _ A31.out).mono ?_); rintro e w' ⟨rfl, ⟨nd, rfl⟩⟩; refine ⟨_, rfl, ?_⟩; (try (rw [drewN_self wr]; generalize hq_ : World.drewN wr _ = wr; have n0_ := dR hq_ HO_3; have n1_ := dB hq_ HB; clear HO_3 HB hq_; have HO_3 := n0_; have HB := n1_; clear n0_ n1_))) | ((with_reducible refine gate_callee (f := 111) rfl ?_); refine goesL_ (some 70) rfl rfl Tryz.func111 (by kernel_rfl) rfl #[.int .i64 (rd x3_2 (ji27)), .int .i64 17] rfl (by (try simp only [List.map_toArray, List.map_cons, List.map_nil]); first | done | (simp only [hji27]; rfl) | rfl | (simp only [List.length_drop, List.length_take]; rfl)) ?_; (with_reducible refine (spec_l1Turn.calls (rd x3_2 (ji27)) 17 t166 _ A32.out).mono ?_); rintro e w' ⟨rfl, ⟨nd, rfl⟩⟩; refine ⟨_, rfl, ?_⟩; (try (rw [drewN_self wr]; generalize hq_ : World.drewN wr _ = wr; have n0_ := dR hq_ HO_3; have n1_ := dB hq_ HB; clear HO_3 HB hq_; have HO_3 := n0_; have HB := n1_; clear n0_ n1_))) | ((with_reducible refine gate_callee (f := 111) rfl ?_); refine goesL_ (some 72) rfl rfl Tryz.func111 (by kernel_rfl) rfl #[.int .i64 (rd x3_2 (ji27)), .int .i64 19] rfl (by (try simp only [List.map_toArray, List.map_cons, List.map_nil]); first | done | (simp only [hji27]; rfl) | rfl | (simp only [List.length_drop, List.length_take]; rfl)) ?_; (with_reducible refine (spec_l1Turn.calls (rd x3_2 (ji27)) 19 t167 _ A33.out).mono ?_); rintro e w' ⟨rfl, ⟨nd, rfl⟩⟩; refine ⟨_, rfl, ?_⟩; (try (rw [drewN_self wr]; generalize hq_ : World.drewN wr _ = wr; have n0_ := dR hq_ HO_3; have n1_ := dB hq_ HB; clear HO_3 HB hq_; have HO_3 := n0_; have HB := n1_; clear n0_ n1_))))
     replace HO_3 := am (Kd.R_drew HO_3.out)
     replace HB := am (below_drew1 HB.out)
     have p168 : 0 ≤ ((ji34) : Int) := of_decide_eq_true xA
     have q168 : (ji34) < (x3_2.length : Int) := of_decide_eq_true xA
     obtain ⟨ad168, e168, hx168_0⟩ := Kd.at_int (Kd.R_reads' HO_3.out).2.2 (ji34) p168 q168
     obtain rfl : ad162 = ad168 := (by injection e168)
     replace p168 := eq_true p168
     replace q168 := eq_true q168
     have p169 : 0 ≤ ((ji37) : Int) := of_decide_eq_true xA
     have q169 : (ji37) < (x3_2.length : Int) := of_decide_eq_true xA
     obtain ⟨ad169, e169, hx169_0⟩ := Kd.at_int (Kd.R_reads' HO_3.out).2.2 (ji37) p169 q169
     obtain rfl : ad162 = ad169 := (by injection e169)
     replace p169 := eq_true p169
     replace q169 := eq_true q169
     have p42 : 0 ≤ (x5_2 : Int) := of_decide_eq_true xA
     have q42 : (x5_2 : Int) < ((x3_2.length : Int) : Int) := of_decide_eq_true xA
     obtain ⟨go42, co42, eo42, gb42, gl42, cl42, HG42⟩ := Kd.R_form HO_3.out (by omega)
     (first | cases eo42 | (injection eo42 with ea_ en_ ec_; (first | subst ea_ | (injection ea_ with ea_; subst ea_)); subst ec_; clear en_))
     have GB42 := Aside0.mk gb42
     have GG42 := Aside0.mk HG42
     clear gb42 gl42 HG42
     (first | simp only [add_plain] at hx162_0 | skip)
     (first | simp only [add_plain] at hx163_0 | skip)
     (first | simp only [add_plain] at hx168_0 | skip)
     (first | simp only [add_plain] at hx169_0 | skip)
     obtain ⟨hx42_0, hf42_0⟩ := Kd.R_celln 0 HO_3.out (x5_2 : Int) p42 q42
     replace p42 := eq_true p42
     replace q42 := eq_true q42
     have HP45 := Kd.R_putn HO_3.out (x5_2 : Int) (Go.bits .and .i64 (wrap64 ((wrap64 ((wrap64 ((rd x3_2 (ji34)) + (Go.bits .xor .i64 (Go.bits .xor .i64 t164 t165) ((rd x3_2 (ji24)) / 8)))) + (rd x3_2 (ji37)))) + (Go.bits .xor .i64 (Go.bits .xor .i64 t166 t167) ((rd x3_2 (ji27)) / 1024)))) 4294967295)
     rw [← Ny170.out] at HP45
     have HQ45 := Aside0.mk HP45
     clear HP45
     refine start_ (n := 20) (S := fun w' => w'.cell? ⟨go42, ((ji34)).toNat, none⟩ = some (.int .i64 (rd x3_2 (ji34))) ∧ w'.cell? ⟨go42, ((ji37)).toNat, none⟩ = some (.int .i64 (rd x3_2 (ji37)))) (ds := [19]) (bm 20 0) (by kernel_rfl) rfl rfl ⟨hx168_0, hx169_0⟩ (fun hHeld => ?_); refine with_tabW spec_l1Words.tab13 spec_l1Words.bits13 (fun HT_ HW_ => ?_)
     generalize wr.drew = w44 at HO_3 HB GG42 HQ45 hf42_0 hx162_0 hx163_0 hx168_0 hx169_0 hx42_0 hHeld ⊢
     refine pA 0 77 (bm 20 1) HT_ ?_
     refine pA 1 78 (bm 20 3) HT_ ?_
     refine pA 2 79 (bm 20 7) HT_ ?_
     refine pA 3 80 (bm 20 15) HT_ ?_
     refine pA 4 81 (bm 20 31) HT_ ?_
     refine pA 5 82 (bm 20 63) HT_ ?_
     refine pA 7 84 (bm 20 191) HT_ ?_
     refine pA 9 86 (bm 20 703) HT_ ?_
     refine pA 10 87 (bm 20 1727) HT_ ?_
     refine pA 11 88 (bm 20 3775) HT_ ?_
     refine pA 12 89 (bm 20 7871) HT_ ?_
     refine pA 15 92 (bm 20 40639) HT_ ?_
     refine tA 6 83 (bm 20 40703) HT_ HW_ hHeld ?_
     refine pA 8 85 (bm 20 40959) HT_ ?_
     refine tA 13 90 (bm 20 49151) HT_ HW_ hHeld ?_
     refine pA 14 91 (bm 20 65535) HT_ ?_
     refine pA 16 93 (bm 20 131071) HT_ ?_
     refine pA 17 94 (bm 20 262143) HT_ ?_
     refine pA 18 95 (bm 20 524287) HT_ ?_
     refine last_ (i := 19) (N := none) (bm 20 1048575) rfl rfl (one_of HT_.out (by kernel_rfl)) (by decide) (fun K hK => ?_)
     refine skip_ (w1 := ?_) (by rfl) rfl ?_ ?_
     rotate_left
     ·go_simp
      rfl
     refine hK.out _ _ ?_
     clear hK K
     refine done_ (done_of HT_.out (by kernel_rfl)) ?_
     try go_wp2
     go_roundg k2
     case measure => have := HK1.out; have := HK2.out; omega
     case rel => exact ⟨(y170), (wrap64 (x5_2 + 1)), xR, H', ⟨by have := HK1.out; have := HK2.out; omega⟩, ⟨by (with_reducible repeat (first | apply Kd.R_alloc | apply Kd.R_drewN | apply Kd.R_drew)); exact HQ45.out⟩, ⟨xB HB⟩⟩
def spec_l1Sha.l0 : Nat → List Int → List Int → List Int → Int → Option (List Int)
 | 0, _, _, _, _ => none
 | k + 1, x3, x4, x5, x6 => if x6 < (x5.length : Int) then (if 0 ≤ x6 then (if x6 ≤ (wrap64 (x6 + 64)) then (if (wrap64 (x6 + 64)) ≤ (x5.length : Int) then ((spec_l1Words.f k ((x5.take ((wrap64 (x6 + 64)) : Int).toNat).drop (x6 : Int).toNat)).bind fun t184 => ((spec_l1Mix.f k x3 t184 x4).bind fun t187 => (spec_l1Sha.l0 k t187 x4 x5 (wrap64 (x6 + 64))))) else (none)) else (none)) else (none)) else (some x3)
def spec_l1Sha.f (k : Nat) (a0 : ByteArray) : Option (List Int) := (spec_l1Consts.f).bind fun bt171 => ((spec_l1Pad.f k a0).bind fun t177 => (spec_l1Sha.l0 k bt171.1 bt171.2 t177 0))
theorem spec_l1Sha.mono_l : ∀ k, (∀ y0 y1 y2 y3, LeO (spec_l1Sha.l0 k y0 y1 y2 y3) (spec_l1Sha.l0 (k + 1) y0 y1 y2 y3))
 | 0 => fun _ _ _ _ r h => by simp [spec_l1Sha.l0] at h
 | k + 1 => by
  have ih0 := spec_l1Sha.mono_l k
  ·intro y0 y1 y2 y3
   unfold spec_l1Sha.l0
   exact mo4 ih0 spec_l1Mix.mono spec_l1Pad.mono spec_l1Words.mono
theorem spec_l1Sha.mono : ∀ a0 k, LeO (spec_l1Sha.f k a0) (spec_l1Sha.f (k + 1) a0) := by
 intro a0 k
 have ih0 := spec_l1Sha.mono_l k
 unfold spec_l1Sha.f
 exact mo4 ih0 spec_l1Mix.mono spec_l1Pad.mono spec_l1Words.mono
theorem spec_l1Sha.calls (k : Nat) (a0 : ByteArray) (r : List Int) (w : World) (h : spec_l1Sha.f k a0 = some r) :
  Calls Tryz.prog 76 #[.string a0] w fun e w' => ∃ v0_ : Value, e = .returned (v0_) ∧ Kd.R (Kd.int .i64) 3 w' w.heap.size (fun _ => True) v0_ r ∧ Below w.heap.size w w' := by
 have HB := Aside0.mk (Below.refl w.heap.size w)
 have H : ((spec_l1Consts.f).bind fun bt171 => ((spec_l1Pad.f k a0).bind fun t177 => (spec_l1Sha.l0 k bt171.1 bt171.2 t177 0))) = some r := h
 clear h
 replace H := Option.bind_eq_some_iff.mp H
 obtain ⟨⟨t171, t172⟩, A20, H⟩ := H
 have A2 := Aside0.mk A20
 clear A20
 replace H := oa H
 obtain ⟨t177, A3, H⟩ := H
 have H' := Aside0.mk H
 clear H
 go_enter Tryz.func76, Tryz.ntmps76
 go_wp2_with ((with_reducible refine gg ?_); first | (refine gL 8 Tryz.func95 #[] ?_; (with_reducible refine (spec_l1Consts.calls  t171 t172 _ A2.out).mono ?_); rintro e w4 ⟨v173, v175, rfl, ho0, ho1, hb⟩; refine ⟨_, rfl, ?_⟩; have HO174 := am (Kd.R_lower ho0 (below_size (bl HB))); have HO176 := am (Kd.R_lower ho1 (below_size (bl HB))); replace HB := kH HB hb; (try clear hb); (try clear ho0); (try clear ho1)) | (refine gL 12 Tryz.func96 #[.string a0] ?_; (with_reducible refine (spec_l1Pad.calls k a0 t177 _ A3.out).mono ?_); rintro e w5 ⟨v178, rfl, ho0, hb⟩; refine ⟨_, rfl, ?_⟩; have HO179 := am (Kd.R_lower (Kd.R_new' (Kd.R_new' ho0 (Kd.R_lt (ra HO174))) (Kd.R_lt (ra HO176))) (below_size (bl HB))); replace HO174 := am (Kd.R_elder' (ra HO174) (Kd.R_base ho0) hb); replace HO176 := am (Kd.R_elder' (ra HO176) (Kd.R_base ho0) hb); replace HB := kH HB hb; (try clear hb); (try clear ho0)))
 go_loopg [3, 6] k (fun kq v3 v6 w' => ∃ (x3_1 : List Int) (x6_1 : Int), v6 = .int .i64 x6_1 ∧ Aside0 (spec_l1Sha.l0 kq x3_1 t172 t177 x6_1 = some r) ∧ Aside0 (kq ≤ k) ∧ Aside0 (Kd.R (Kd.int .i64) 3 w' w.heap.size (fun k_ => some k_ ≠ (v175 : Value).ownBlock ∧ some k_ ≠ (v178 : Value).ownBlock) v3 x3_1) ∧ Aside0 (Kd.R (Kd.int .i64) 3 w' w.heap.size (fun k_ => some k_ ≠ (v3 : Value).ownBlock ∧ some k_ ≠ (v178 : Value).ownBlock) v175 t172) ∧ Aside0 (Kd.R (Kd.int .i64) 3 w' w.heap.size (fun k_ => some k_ ≠ (v3 : Value).ownBlock ∧ some k_ ≠ (v175 : Value).ownBlock) v178 t177) ∧ Aside0 (Below w.heap.size w w'))
 case atStart => exact ⟨(t171), (0), xR, H', ⟨Nat.le_refl _⟩, ⟨ra HO174⟩, ⟨ra HO176⟩, ⟨rM HO179 (fun _ hk => ⟨hk.1.2, hk.2⟩)⟩, ⟨bl HB⟩⟩
 case round =>
  clear H'
  try clear p2
  obtain ⟨x3_1, x6_1, rfl, HA, HK1, HO_3, HO_4, HO_5, HB⟩ := hrel
  cases gk with
  | zero => exact absurd HA.out (by simp [spec_l1Sha.l0])
  | succ k1 =>
   have H := HA.out
   clear HA
   simp only [spec_l1Sha.l0] at H
   by_cases c6 : x6_1 < (t177.length : Int)
   rotate_left
   ·rw [if_neg c6] at H
    have c6b0 := decide_eq_false c6
    clear c6
    obtain rfl := Option.some.inj H
    obtain ⟨Ao19, co19, eo19⟩ := Kd.R_slice HO_5.out
    subst eo19
    go_wp2
    go_ret
    exact ⟨_, xE, rM HO_3 (fun _ hk => trivial), bl HB⟩
   rw [if_pos c6] at H
   have c6b0 := decide_eq_true c6
   clear c6
   replace H := ip H
   obtain ⟨c7, H⟩ := H
   have c7b0 := eq_true c7
   have c7b1 := decide_eq_true c7
   clear c7
   replace H := ip H
   obtain ⟨c8, H⟩ := H
   have c8b0 := eq_true c8
   have c8b1 := decide_eq_true c8
   replace H := ip H
   obtain ⟨c9, H⟩ := H
   have c9b0 := eq_true c9
   have c9b1 := decide_eq_true c9
   obtain ⟨y180, Ny180⟩ := yA ((t177.take ((wrap64 (x6_1 + 64)) : Int).toNat).drop (x6_1 : Int).toNat : List Int)
   rw [← Ny180.out] at H
   replace H := oa H
   obtain ⟨t184, A10, H⟩ := H
   replace H := oa H
   obtain ⟨t187, A11, H⟩ := H
   have H' := Aside0.mk H
   clear H
   obtain ⟨Ao12, co12, eo12⟩ := Kd.R_slice HO_5.out
   subst eo12
   have q13 : ((wrap64 (x6_1 + 64)) : Int) ≤ ((t177.length : Int) : Int) := of_decide_eq_true xA
   obtain ⟨i013, hi013, _, hsz13, _⟩ := info_parts info3
   have hroom13 : t177.length ≤ co12 := (Kd.R_reads' HO_5.out).2.1
   have hC13 : Kd.C (Kd.int .i64) _ Ao12 t177.length t177 := (Kd.R_reads' HO_5.out).2.2
   have ql13 : (x6_1 : Int) ≤ ((wrap64 (x6_1 + 64)) : Int) := of_decide_eq_true xA
   have q013 : (0 : Int) ≤ (x6_1 : Int) := of_decide_eq_true xA
   have hcut13 := cut_mid (P := Tryz.prog) 45 3 .i64 .i64 Tryz.underlying45 hi013 1 hsz13 Ao12 t177.length co12 x6_1 (wrap64 (x6_1 + 64)) q013 ql13 q13 hroom13
   have hr13 := Kd.C_mid (lo := (x6_1 : Int).toNat) (hi := ((wrap64 (x6_1 + 64)) : Int).toNat) (c := co12) hC13 (by omega) (by omega) hroom13
   obtain ⟨A13, hA13⟩ : ∃ A1, A1 = (if co12 = (x6_1 : Int).toNat then Ao12 else (Ao12 : Option Addr).map (·.add ((x6_1 : Int).toNat * 1))) := ⟨_, rfl⟩
   obtain ⟨c13, hc13⟩ : ∃ c1, c1 = co12 - (x6_1 : Int).toNat := ⟨_, rfl⟩
   have hy13 : y180.length = ((wrap64 (x6_1 + 64)) : Int).toNat - (x6_1 : Int).toNat := (by rw [Ny180.out, List.length_drop, List.length_take] <;> omega)
   rw [show ((t177).take ((wrap64 (x6_1 + 64)) : Int).toNat).drop (x6_1 : Int).toNat = y180 from Ny180.out.symm] at hr13
   replace hr13 : Kd.C (Kd.int .i64) _ A13 y180.length y180 := (by rw [hA13]; exact hr13)
   rw [← hy13, ← hA13, ← hc13] at hcut13
   have HR183 := Aside0.mk hr13
   have HC183 := Aside0.mk (show y180.length ≤ c13 from by rw [hy13, hc13]; exact Nat.sub_le_sub_right (Nat.le_trans (by omega) hroom13) _)
   clear hr13 hC13 hroom13 hi013 hsz13 hc13
   have KY13 := Aside0.mk hy13
   have KA13 := Aside0.mk hA13
   clear hy13 hA13
   have KL13 := Aside0.mk (show ((wrap64 (x6_1 + 64)) : Int).toNat ≤ t177.length from by omega)
   have KM13 := Aside0.mk (show (x6_1 : Int).toNat ≤ ((wrap64 (x6_1 + 64)) : Int).toNat from by omega)
   replace q13 := eq_true q13
   go_wp2_with ((with_reducible refine gg ?_); first | (refine gL 25 Tryz.func98 #[.slice A13 y180.length c13] ?_; (with_reducible refine (spec_l1Words.calls k1 _ _ y180 t184 _ ?side1 ?side2 A10.out).mono ?_); (case side1 => repeat (first | exact (by repeat (first | (with_reducible exact HR183.out) | (with_reducible refine Kd.C_alloc ?_ _) | (with_reducible refine Kd.C_drewN ?_ _) | (with_reducible refine Kd.C_drew ?_) | exact HR183.out)) | (with_reducible refine Kd.C_alloc ?_ _) | (with_reducible refine Kd.C_drewN ?_ _) | (with_reducible refine Kd.C_drew ?_))); (case side2 => exact HC183.out); rintro e w14 ⟨v185, rfl, ho0, hb⟩; refine ⟨_, rfl, ?_⟩; have HO186 := am (Kd.R_lower (Kd.R_new' (Kd.R_new' (Kd.R_new' ho0 (Kd.R_lt (ra HO_3))) (Kd.R_lt (ra HO_4))) (Kd.R_lt (ra HO_5))) (below_size (bl HB))); replace HO_3 := am (Kd.R_elder' (ra HO_3) (Kd.R_base ho0) hb); replace HO_4 := am (Kd.R_elder' (ra HO_4) (Kd.R_base ho0) hb); replace HO_5 := am (Kd.R_elder' (ra HO_5) (Kd.R_base ho0) hb); replace HR183 := am (Kd.C_below (by repeat (first | (with_reducible exact HR183.out) | (with_reducible refine Kd.C_alloc ?_ _) | (with_reducible refine Kd.C_drewN ?_ _) | (with_reducible refine Kd.C_drew ?_) | exact HR183.out)) hb); replace HB := kH HB hb; (try clear hb); (try clear ho0); obtain ⟨Ao15, co15, eo15⟩ := Kd.R_slice HO_3.out; subst eo15; obtain ⟨Ao16, co16, eo16⟩ := Kd.R_slice HO186.out; subst eo16; obtain ⟨Ao17, co17, eo17⟩ := Kd.R_slice HO_4.out; subst eo17) | (refine gL 27 Tryz.func97 #[.slice Ao15 x3_1.length co15, .slice Ao16 t184.length co16, .slice Ao17 t172.length co17] ?_; (with_reducible refine (spec_l1Mix.calls k1 _ _ x3_1 _ _ t184 _ _ t172 t187 _ ?side1 ?side2 ?side3 ?side4 ?side5 ?side6 A11.out).mono ?_); (case side1 => exact cr (Kd.R_reads' HO_3.out).2.2); (case side2 => exact sl HO_3); (case side3 => exact cr (Kd.R_reads' HO186.out).2.2); (case side4 => exact sl HO186); (case side5 => exact cr (Kd.R_reads' HO_4.out).2.2); (case side6 => exact sl HO_4); rintro e w18 ⟨v188, rfl, ho0, hb⟩; refine ⟨_, rfl, ?_⟩; have HO189 := am (Kd.R_lower (Kd.R_new' (Kd.R_new' (Kd.R_new' (Kd.R_new' ho0 (Kd.R_lt (ra HO_3))) (Kd.R_lt (ra HO_4))) (Kd.R_lt (ra HO_5))) (Kd.R_lt (ra HO186))) (below_size (bl HB))); replace HO_3 := am (Kd.R_elder' (ra HO_3) (Kd.R_base ho0) hb); replace HO_4 := am (Kd.R_elder' (ra HO_4) (Kd.R_base ho0) hb); replace HO_5 := am (Kd.R_elder' (ra HO_5) (Kd.R_base ho0) hb); replace HO186 := am (Kd.R_elder' (ra HO186) (Kd.R_base ho0) hb); replace HR183 := am (Kd.C_below (by repeat (first | (with_reducible exact HR183.out) | (with_reducible refine Kd.C_alloc ?_ _) | (with_reducible refine Kd.C_drewN ?_ _) | (with_reducible refine Kd.C_drew ?_) | exact HR183.out)) hb); replace HB := kH HB hb; (try clear hb); (try clear ho0)))
   go_roundg k1
   case measure => have := HK1.out; omega
   case rel => exact ⟨(t187), (wrap64 (x6_1 + 64)), xR, H', ⟨xL HK1⟩, ⟨rM HO189 (fun _ hk => ⟨hk.1.1.2, hk.1.2⟩)⟩, ⟨rM HO_4 (fun _ hk => ⟨hk.2, hk.1.1.2⟩)⟩, ⟨rM HO_5 (fun _ hk => ⟨hk.2, hk.1.1.2⟩)⟩, ⟨bl HB⟩⟩
def spec_l1Hex.l0 : Nat → Int → List Int → Int → Option (ByteArray)
 | 0, _, _, _ => none
 | k + 1, x0, x3, x4 => if x4 ≥ 0 then (if 0 ≤ (wrap64 (4 * x4)) then (if 0 ≤ (Int.tmod (shr .i64 x0 (wrap64 (4 * x4))) 16) then (if (Int.tmod (shr .i64 x0 (wrap64 (4 * x4))) 16) < 16 then (if x3.length < 140737488355328 then (spec_l1Hex.l0 k x0 (x3 ++ [bt (⟨#[48, 49, 50, 51, 52, 53, 54, 55, 56, 57, 97, 98, 99, 100, 101, 102]⟩ : ByteArray) (Int.tmod (shr .i64 x0 (wrap64 (4 * x4))) 16)]) (wrap64 (x4 - 1))) else (none)) else (none)) else (none)) else (none)) else (some (strOfNums x3))
def spec_l1Hex.f (k : Nat) (a0 : Int) : Option (ByteArray) := spec_l1Hex.l0 k a0 (([] : List Int)) 7
theorem spec_l1Hex.mono_l : ∀ k, (∀ y0 y1 y2, LeO (spec_l1Hex.l0 k y0 y1 y2) (spec_l1Hex.l0 (k + 1) y0 y1 y2))
 | 0 => fun _ _ _ r h => by simp [spec_l1Hex.l0] at h
 | k + 1 => by
  have ih0 := spec_l1Hex.mono_l k
  ·intro y0 y1 y2
   unfold spec_l1Hex.l0
   exact mo1 ih0
theorem spec_l1Hex.mono : ∀ a0 k, LeO (spec_l1Hex.f k a0) (spec_l1Hex.f (k + 1) a0) := by
 intro a0 k
 have ih0 := spec_l1Hex.mono_l k
 unfold spec_l1Hex.f
 exact mo1 ih0
theorem spec_l1Hex.calls (k : Nat) (a0 : Int) (r : ByteArray) (w : World) (h : spec_l1Hex.f k a0 = some r) :
  Calls Tryz.prog 77 #[.int .i64 a0] w fun e w' => e = .returned (.string r) ∧ Below w.heap.size w w' := by
 have HB := Aside0.mk (Below.refl w.heap.size w)
 have H : (spec_l1Hex.l0 k a0 (([] : List Int)) 7) = some r := h
 clear h
 obtain ⟨y190, Ny190⟩ := yA (([] : List Int) : List Int)
 rw [← Ny190.out] at H
 have H' := Aside0.mk H
 clear H
 go_enter Tryz.func77, Tryz.ntmps77
 go_wp2_with ((with_reducible refine gate_dst (N := 5) rfl ?_); refine Kd.R_lit (Kd.int .u8) _ 5 ?hg (N := 5) ?hd (xs := ([] : List Int)) (inner := []) (ok := fun _ => True) (okp := fun _ => True) ?hr ?hp (fun _ hk => hk) trivial (Below.refl _ _) (Nat.le_refl _) (by simp) ?_; (case hd => rfl); (case hg => rfl); (case hr => first | (go_simp; done) | (go_simp; rfl)); (case hp => exact xP); intro v191 w2 ho3 hb hg_ hnew_; clear hg_ hnew_; (first | rw [← Ny190.out] at ho3 | (simp only [Int.reduceToNat] at ho3; rw [← Ny190.out] at ho3)); have HO192 := am (Kd.R_lower ho3 (below_size (bl HB))); replace HB := kH HB hb; clear hb ho3)
 go_loopg [3, 4] k (fun kq v3 v4 w' => ∃ (x3_1 : List Int) (x4_1 : Int), v4 = .int .i64 x4_1 ∧ Aside0 (spec_l1Hex.l0 kq a0 x3_1 x4_1 = some r) ∧ Aside0 (kq ≤ k) ∧ Aside0 (Kd.R (Kd.int .u8) 5 w' w.heap.size (fun _ => True) v3 x3_1) ∧ Aside0 (Below w.heap.size w w'))
 case atStart => exact ⟨(y190), (7), xR, H', ⟨Nat.le_refl _⟩, ⟨ra HO192⟩, ⟨bl HB⟩⟩
 case round =>
  clear H'
  try clear p2
  obtain ⟨x3_1, x4_1, rfl, HA, HK1, HO_3, HB⟩ := hrel
  cases gk with
  | zero => exact absurd HA.out (by simp [spec_l1Hex.l0])
  | succ k1 =>
   have H := HA.out
   clear HA
   simp only [spec_l1Hex.l0] at H
   by_cases c4 : x4_1 ≥ 0
   rotate_left
   ·rw [if_neg c4] at H
    have c4b0 := decide_eq_false c4
    clear c4
    obtain rfl := Option.some.inj H
    have hcv14 := own_string (P := Tryz.prog) Tryz.underlying22 Tryz.underlying5 Tryz.underlying9 (Kd.own_of_R HO_3.out)
    go_wp2
    go_ret
    exact ⟨xE, bl HB⟩
   rw [if_pos c4] at H
   have c4b0 := decide_eq_true c4
   clear c4
   obtain ⟨ji5, hji5⟩ := je (wrap64 (4 * x4_1))
   first | rw [hji5] at H | simp only [hji5] at H
   have hji5w : (IntKind.i64.wrap (4 * x4_1)) = ji5 := (i64_w _).trans hji5
   replace H := ip H
   obtain ⟨c6, H⟩ := H
   have c6b0 := eq_true c6
   have c6b1 := decide_eq_true c6
   clear c6
   obtain ⟨ji7, hji7⟩ := je (shr .i64 a0 (ji5))
   first | rw [hji7] at H | simp only [hji7] at H
   have hji7_ : (a0 / 2 ^ min (ji5).toNat 64) = ji7 := hji7
   have hji7z : (ji5) ≤ 64 → (a0 / 2 ^ (ji5).toNat) = ji7 := shr_small hji7
   obtain ⟨ji8, hji8⟩ := je (Int.tmod (ji7) 16)
   first | rw [hji8] at H | simp only [hji8] at H
   replace H := ipd H
   obtain ⟨c9b0, H⟩ := H
   replace H := ipd H
   obtain ⟨c10b0, H⟩ := H
   replace H := ipa H
   obtain ⟨LMc12, H⟩ := H
   obtain ⟨y193, Ny193⟩ := yA (x3_1 ++ [bt (⟨#[48, 49, 50, 51, 52, 53, 54, 55, 56, 57, 97, 98, 99, 100, 101, 102]⟩ : ByteArray) (ji8)] : List Int)
   rw [← Ny193.out] at H
   have H' := Aside0.mk H
   clear H
   have p11 : 0 ≤ ((ji8) : Int) := of_decide_eq_true xA
   have q11 : (ji8) < (16 : Int) := of_decide_eq_true xA
   have hx11 := bt_at (⟨#[48, 49, 50, 51, 52, 53, 54, 55, 56, 57, 97, 98, 99, 100, 101, 102]⟩ : ByteArray) (ji8)
   replace p11 := eq_true p11
   replace q11 := eq_true q11
   go_wp2_with ((with_reducible refine gate_builtin (b := .append) (xs := #[.tmp 10, .tmp 17]) rfl ?_); at_builtin; refine Kd.R_append (Kd.int .u8) (w0 := w) w.heap.size rfl (.tmp 10) (.tmp 17) 22 5 (.int .u8 0) 1 rfl Tryz.underlying22 info5 rfl (by decide) (by omega) u3 x3_1 (bt (⟨#[48, 49, 50, 51, 52, 53, 54, 55, 56, 57, 97, 98, 99, 100, 101, 102]⟩ : ByteArray) (ji8)) [.int .u8 (bt (⟨#[48, 49, 50, 51, 52, 53, 54, 55, 56, 57, 97, 98, 99, 100, 101, 102]⟩ : ByteArray) (ji8))] (fun _ => True) (fun _ => False) rfl rfl ?aP (fun _ hk => hk.elim) ?aF ?aO ?aB ?aS ?aL ?_; (case aP => exact rfl); (case aB => exact (bl HB)); (case aF => exact (fun _ _ => trivial)); (case aO => exact (ra HO_3)); (case aS => exact (below_size (bl HB))); (case aL => have := LMc12.out; omega); intro v194 w13 ho hb hg hat; rw [← Ny193.out] at ho; have n0_ := Aside0.mk (hb); have n1_ := Aside0.mk (ho); clear HB; clear HO_3; have HB := n0_; have HO195 := n1_; clear n0_ n1_; clear ho hb hg hat)
   go_roundg k1
   case measure => have := HK1.out; omega
   case rel => exact ⟨(y193), (wrap64 (x4_1 - 1)), xR, H', ⟨xL HK1⟩, ⟨ra HO195⟩, ⟨bl HB⟩⟩
def spec_l1Sum.f (k : Nat) (a0 : ByteArray) : Option (ByteArray) := (spec_l1Sha.f k a0).bind fun t196 => (if 0 < (t196.length : Int) then ((spec_l1Hex.f k (rd t196 0)).bind fun t200 => (if 1 < (t196.length : Int) then ((spec_l1Hex.f k (rd t196 1)).bind fun t202 => (if t200.size + t202.size ≤ 9223372036854775807 then (some (t200 ++ t202)) else (none))) else (none))) else (none))
theorem spec_l1Sum.mono : ∀ a0 k, LeO (spec_l1Sum.f k a0) (spec_l1Sum.f (k + 1) a0) := by
 intro a0 k
 unfold spec_l1Sum.f
 exact mo2 spec_l1Hex.mono spec_l1Sha.mono
def spec_l1Sum.T2 : Bool × List (List Nat × List Nat) := (true, [([], []), ([0], [0]), ([1], [1]), ([2], [2]), ([], []), ([4], [4]), ([5], [5]), ([6, 3], [6]), ([3, 7], [3, 7]), ([8, 7, 0, 1, 2, 3, 4, 5, 6, 7, 8], [8])])
def spec_l1Sum.B2 : List Nat := [0, 1, 3, 7, 0, 16, 48, 127, 255, 511]
theorem spec_l1Sum.tab2 : rtab .any (opsOf Tryz.f47 2) = spec_l1Sum.T2 := by kernel_rfl
theorem spec_l1Sum.bits2 : waitsOk spec_l1Sum.T2.2 spec_l1Sum.B2 = true := by kernel_rfl
theorem spec_l1Sum.calls (k : Nat) (a0 : ByteArray) (r : ByteArray) (w : World) (h : spec_l1Sum.f k a0 = some r) :
  Calls Tryz.prog 47 #[.string a0] w fun e w' => e = .returned (.string r) ∧ Below w.heap.size w w' := by
 have HB := Aside0.mk (Below.refl w.heap.size w)
 have H : ((spec_l1Sha.f k a0).bind fun t196 => (if 0 < (t196.length : Int) then ((spec_l1Hex.f k (rd t196 0)).bind fun t200 => (if 1 < (t196.length : Int) then ((spec_l1Hex.f k (rd t196 1)).bind fun t202 => (if t200.size + t202.size ≤ 9223372036854775807 then (some (t200 ++ t202)) else (none))) else (none))) else (none))) = some r := h
 clear h
 replace H := oa H
 obtain ⟨t196, A2, H⟩ := H
 replace H := ip H
 obtain ⟨c3, H⟩ := H
 have c3b0 := decide_eq_true c3
 have c3b1 : decide (0 < t196.length) = true := decide_eq_true (by omega)
 clear c3
 replace H := oa H
 obtain ⟨t200, A4, H⟩ := H
 replace H := ip H
 obtain ⟨c5, H⟩ := H
 have c5b0 := decide_eq_true c5
 have c5b1 : decide (1 < t196.length) = true := decide_eq_true (by omega)
 clear c5
 replace H := oa H
 obtain ⟨t202, A6, H⟩ := H
 replace H := ip H
 obtain ⟨c7, H⟩ := H
 have c7b0 := eq_true c7
 have c7b1 := decide_eq_true c7
 have c7b2 := nf c7
 obtain rfl := Option.some.inj H
 go_enter Tryz.func47, Tryz.ntmps47
 try go_wp2_with ((with_reducible refine gg ?_); refine gL 5 Tryz.func76 #[.string a0] ?_; (with_reducible refine (spec_l1Sha.calls k a0 t196 _ A2.out).mono ?_); rintro e w8 ⟨v197, rfl, ho0, hb⟩; refine ⟨_, rfl, ?_⟩; have HO198 := am (Kd.R_lower ho0 (below_size (bl HB))); replace HB := kH HB hb; (try clear hb); (try clear ho0))
 replace HO198 := am (Kd.R_drew HO198.out)
 replace HB := am (below_drew1 HB.out)
 obtain ⟨Ao10, co10, eo10⟩ := Kd.R_slice HO198.out
 (first | subst eo10 | (injection eo10 with f1_ f2_ f3_; have f4_ := f1_.symm; have f5_ := f3_.symm; clear f1_ f2_ f3_; subst f4_; subst f5_))
 have p199 : 0 ≤ (0 : Int) := (by omega)
 have q199 : 0 < (t196.length : Int) := of_decide_eq_true xA
 obtain ⟨ad199, e199, hx199_0⟩ := Kd.at_int (Kd.R_reads' HO198.out).2.2 0 p199 q199
 cases e199
 have qi199 : (0 < t196.length) = True := eq_true (by omega)
 (try rw [show ((0 : Int)).toNat = 0 from rfl] at hx199_0)
 (try rw [Addr.add_zero'] at hx199_0)
 replace p199 := eq_true p199
 replace q199 := eq_true q199
 have p201 : 0 ≤ (1 : Int) := (by omega)
 have q201 : 1 < (t196.length : Int) := of_decide_eq_true xA
 obtain ⟨ad201, e201, hx201_0⟩ := Kd.at_int (Kd.R_reads' HO198.out).2.2 1 p201 q201
 obtain rfl : ad199 = ad201 := (by injection e201)
 (try simp only [show (1 : Int).toNat = 1 from rfl, Nat.reduceMul, Nat.reduceEqDiff, Go.Addr.add, ↓reduceIte] at hx201_0)
 have qi201 : (1 < t196.length) = True := eq_true (by omega)
 (try rw [show ((1 : Int)).toNat = 1 from rfl] at hx201_0)
 replace p201 := eq_true p201
 replace q201 := eq_true q201
 refine start_ (n := 10) (S := fun w' => w'.cell? ad199 = some (.int .i64 (rd t196 0)) ∧ w'.cell? ⟨ad199.block, ad199.off + 1, none⟩ = some (.int .i64 (rd t196 1))) (ds := []) (bm 10 0) (by kernel_rfl) rfl rfl ⟨hx199_0, hx201_0⟩ (fun hHeld => ?_); refine with_tabW spec_l1Sum.tab2 spec_l1Sum.bits2 (fun HT_ HW_ => ?_)
 generalize w8.drew = w9 at HO198 HB hx199_0 hx201_0 hHeld ⊢
 refine pA 0 6 (bm 10 1) HT_ ?_
 refine pA 1 7 (bm 10 3) HT_ ?_
 refine pA 4 10 (bm 10 19) HT_ ?_
 refine pA 5 11 (bm 10 51) HT_ ?_
 refine tA 2 8 (bm 10 55) HT_ HW_ hHeld ?_
 refine tA 6 12 (bm 10 119) HT_ HW_ hHeld ?_
 refine oA 3 (some 9) (bm 10 127) HT_ fun K hK => ?_
 refine gA Tryz.func77 #[.int .i64 (rd t196 0)] ?_
 with_reducible refine (spec_l1Hex.calls k (rd t196 0) t200 _ A4.out).mono ?_
 rintro e w11 ⟨rfl, hb⟩
 have HS0_ := cB hb hHeld.1
 have HS1_ := cB hb hHeld.2
 refine ⟨_, rfl, ?_⟩
 replace HO198 := rk HO198 hb
 replace HB := kH HB hb
 (try clear hb)
 (try clear hb2)
 (try clear hk)
 (try clear hi)
 refine hK.out _ _ ⟨HS0_, HS1_⟩ (fun hHeld => ?_)
 clear hK K
 refine nA (some 9) ?_
 refine oA 7 (some 13) (bm 10 255) HT_ fun K hK => ?_
 refine gA Tryz.func77 #[.int .i64 (rd t196 1)] ?_
 with_reducible refine (spec_l1Hex.calls k (rd t196 1) t202 _ A6.out).mono ?_
 rintro e w12 ⟨rfl, hb⟩
 have HS0_ := cB hb hHeld.1
 have HS1_ := cB hb hHeld.2
 refine ⟨_, rfl, ?_⟩
 replace HO198 := rk HO198 hb
 replace HB := kH HB hb
 (try clear hb)
 (try clear hb2)
 (try clear hk)
 (try clear hi)
 refine hK.out _ _ ⟨HS0_, HS1_⟩ (fun hHeld => ?_)
 clear hK K
 refine nA (some 13) ?_
 refine pA 8 14 (bm 10 511) HT_ ?_
 refine pA 9 2 (bm 10 1023) HT_ ?_
 refine done_ (done_of HT_.out (by kernel_rfl)) ?_
 try go_wp2
 go_ret
 exact ⟨xE, bl HB⟩
def spec_l3Row.l0 : Nat → List ByteArray → List ByteArray → Int → Option (List ByteArray)
 | 0, _, _, _ => none
 | k + 1, x0, x3, x4 => if x4 < (x0.length : Int) then (if 0 ≤ x4 then (if 5 + (rdOf ByteArray.empty x0 x4).size ≤ 9223372036854775807 then ((spec_l1Sum.f k ((⟨#[105, 116, 101, 109, 32]⟩ : ByteArray) ++ (rdOf ByteArray.empty x0 x4))).bind fun t207 => (if x3.length < 8796093022208 then (spec_l3Row.l0 k x0 (x3 ++ [t207]) (wrap64 (x4 + 1))) else (none))) else (none)) else (none)) else (some x3)
def spec_l3Row.f (k : Nat) (l0 : List ByteArray) : Option (List ByteArray) := spec_l3Row.l0 k l0 (([] : List ByteArray)) 0
theorem spec_l3Row.mono_l : ∀ k, (∀ y0 y1 y2, LeO (spec_l3Row.l0 k y0 y1 y2) (spec_l3Row.l0 (k + 1) y0 y1 y2))
 | 0 => fun _ _ _ r h => by simp [spec_l3Row.l0] at h
 | k + 1 => by
  have ih0 := spec_l3Row.mono_l k
  ·intro y0 y1 y2
   unfold spec_l3Row.l0
   exact mo2 ih0 spec_l1Sum.mono
theorem spec_l3Row.mono : ∀ a0 k, LeO (spec_l3Row.f k a0) (spec_l3Row.f (k + 1) a0) := by
 intro a0 k
 have ih0 := spec_l3Row.mono_l k
 unfold spec_l3Row.f
 exact mo2 ih0 spec_l1Sum.mono
theorem spec_l3Row.calls (k : Nat) (A0 : Option Addr) (c0 : Nat) (l0 : List ByteArray) (r : List ByteArray) (w : World) (hr0 : Kd.C Kd.string w A0 l0.length l0) (hc0 : l0.length ≤ c0) (h : spec_l3Row.f k l0 = some r) :
  Calls Tryz.prog 93 #[.slice A0 l0.length c0] w fun e w' => ∃ v0_ : Value, e = .returned (v0_) ∧ Kd.R Kd.string 9 w' w.heap.size (fun _ => True) v0_ r ∧ Below w.heap.size w w' := by
 have HR0 := Aside0.mk hr0
 have HC0 := Aside0.mk hc0
 clear hr0 hc0
 have HB := Aside0.mk (Below.refl w.heap.size w)
 have H : (spec_l3Row.l0 k l0 (([] : List ByteArray)) 0) = some r := h
 clear h
 obtain ⟨y203, Ny203⟩ := yA (([] : List ByteArray) : List ByteArray)
 rw [← Ny203.out] at H
 have H' := Aside0.mk H
 clear H
 go_enter Tryz.func93, Tryz.ntmps93
 go_wp2_with ((with_reducible refine gate_dst (N := 5) rfl ?_); refine Kd.R_lit Kd.string _ 9 ?hg (N := 5) ?hd (xs := ([] : List ByteArray)) (inner := []) (ok := fun _ => True) (okp := fun _ => True) ?hr ?hp (fun _ hk => hk) trivial (Below.refl _ _) (Nat.le_refl _) (by simp) ?_; (case hd => rfl); (case hg => rfl); (case hr => first | (go_simp; done) | (go_simp; rfl)); (case hp => exact xP); intro v204 w2 ho3 hb hg_ hnew_; clear hg_ hnew_; (first | rw [← Ny203.out] at ho3 | (simp only [Int.reduceToNat] at ho3; rw [← Ny203.out] at ho3)); have HO205 := am (Kd.R_lower ho3 (below_size (bl HB))); replace HB := kH HB hb; clear hb ho3)
 go_loopg [3, 4] k (fun kq v3 v4 w' => ∃ (x3_1 : List ByteArray) (x4_1 : Int), v4 = .int .i64 x4_1 ∧ Aside0 (spec_l3Row.l0 kq l0 x3_1 x4_1 = some r) ∧ Aside0 (kq ≤ k) ∧ Aside0 (Kd.R Kd.string 9 w' w.heap.size (fun _ => True) v3 x3_1) ∧ Aside0 (Below w.heap.size w w'))
 case atStart => exact ⟨(y203), (0), xR, H', ⟨Nat.le_refl _⟩, ⟨ra HO205⟩, ⟨bl HB⟩⟩
 case round =>
  clear H'
  try clear p2
  obtain ⟨x3_1, x4_1, rfl, HA, HK1, HO_3, HB⟩ := hrel
  cases gk with
  | zero => exact absurd HA.out (by simp [spec_l3Row.l0])
  | succ k1 =>
   have H := HA.out
   clear HA
   simp only [spec_l3Row.l0] at H
   by_cases c4 : x4_1 < (l0.length : Int)
   rotate_left
   ·rw [if_neg c4] at H
    have c4b0 := decide_eq_false c4
    clear c4
    obtain rfl := Option.some.inj H
    go_wp2
    go_ret
    exact ⟨_, xE, ra HO_3, bl HB⟩
   rw [if_pos c4] at H
   have c4b0 := decide_eq_true c4
   clear c4
   replace H := ipd H
   obtain ⟨c5b0, H⟩ := H
   replace H := ip H
   obtain ⟨c6, H⟩ := H
   have c6b0 := eq_true c6
   have c6b1 := decide_eq_true c6
   have c6b2 := nf c6
   replace H := oa H
   obtain ⟨t207, A7, H⟩ := H
   replace H := ipa H
   obtain ⟨LMc8, H⟩ := H
   obtain ⟨y208, Ny208⟩ := yA (x3_1 ++ [t207] : List ByteArray)
   rw [← Ny208.out] at H
   have H' := Aside0.mk H
   clear H
   have p206 : 0 ≤ (x4_1 : Int) := of_decide_eq_true xA
   have q206 : x4_1 < (l0.length : Int) := of_decide_eq_true xA
   obtain ⟨ad206, e206, hx206_0⟩ := Kd.at_string HR0.out x4_1 p206 q206
   cases e206
   replace hx206_0 := hc HB hx206_0
   replace p206 := eq_true p206
   replace q206 := eq_true q206
   go_wp2_with (first | ((with_reducible refine gg ?_); refine gL 18 Tryz.func47 #[.string ((⟨#[105, 116, 101, 109, 32]⟩ : ByteArray) ++ (rdOf ByteArray.empty l0 x4_1))] ?_; (with_reducible refine (spec_l1Sum.calls k1 ((⟨#[105, 116, 101, 109, 32]⟩ : ByteArray) ++ (rdOf ByteArray.empty l0 x4_1)) t207 _ A7.out).mono ?_); rintro e w9 ⟨rfl, hb⟩; refine ⟨_, rfl, ?_⟩; replace HO_3 := rk HO_3 hb; replace HB := kH HB hb; (try clear hb)) | ((with_reducible refine gate_builtin (b := .append) (xs := #[.tmp 12, .tmp 19]) rfl ?_); at_builtin; refine Kd.R_append Kd.string (w0 := w) w.heap.size rfl (.tmp 12) (.tmp 19) 53 9 (.string ⟨#[]⟩) 16 rfl Tryz.underlying53 info9 rfl (by decide) (by omega) u3 x3_1 t207 [.string t207] (fun _ => True) (fun _ => False) rfl rfl ?aP (fun _ hk => hk.elim) ?aF ?aO ?aB ?aS ?aL ?_; (case aP => exact rfl); (case aB => exact (bl HB)); (case aF => exact (fun _ _ => trivial)); (case aO => exact (ra HO_3)); (case aS => exact (below_size (bl HB))); (case aL => have := LMc8.out; omega); intro v209 w10 ho hb hg hat; rw [← Ny208.out] at ho; have n0_ := Aside0.mk (hb); have n1_ := Aside0.mk (ho); clear HB; clear HO_3; have HB := n0_; have HO210 := n1_; clear n0_ n1_; clear ho hb hg hat))
   go_roundg k1
   case measure => have := HK1.out; omega
   case rel => exact ⟨(y208), (wrap64 (x4_1 + 1)), xR, H', ⟨xL HK1⟩, ⟨ra HO210⟩, ⟨bl HB⟩⟩

end Go.Proofs.YtgjljbaadglpnaaGreatDoor.PFnPaidPut
